/- Parts of a proof, joined: LA W0. No statement of the seed is proved here. -/
import Derived.Test.YtmapgnepfgnphaaGreatDoorRows
import Derived.Test.YtmapgnepfgnphaaGreatDoorCards
import Derived.Test.YtmapgnepfgnphaaGreatDoorTie
import Derived.WalkKit
import Derived.ProofKit
import Derived.LaidMore
import Derived.Lay
import Derived.LaidOnce
import Derived.OpenShut
import Derived.SevenTiedAt
import Derived.Stop.Joined
import Derived.HandedShaped
import Derived.Shelf.Vars
import Derived.Test.YtmapgnepfgnphaaGreatDoorH4
set_option linter.unusedSimpArgs false
set_option linter.unusedVariables false
set_option linter.unusedSectionVars false
set_option maxRecDepth 100000
namespace Go.Proofs.YtmapgnepfgnphaaGreatDoor
open Go Go.DL Go.ChangeShapes Go.WideShapes Go.ChangeAt Go.RowKit

theorem own:ownKnob Tryz.prog.godebug=none:=by kernel_rfl
theorem laid:laidOutB Tryz.prog=true:=by kernel_rfl

abbrev aBk:List (String×DataW Unit):=[("math/bits.deBruijn32tab", Rows.laid_math_bits_deBruijn32tab), ("math/bits.deBruijn64tab", Rows.laid_math_bits_deBruijn64tab), ("internal/strconv.uint64pow10", Rows.laid_internal_strconv_uint64pow10), ("unicode/utf8.acceptRanges", Rows.laid_unicode_utf8_acceptRanges), ("strconv.ErrRange", Rows.laid_strconv_ErrRange), ("strconv.ErrSyntax", Rows.laid_strconv_ErrSyntax), ("unicode/utf8.first", Rows.laid_unicode_utf8_first)]
theorem g32:Tryz.prog.globalNamed "math/bits.deBruijn32tab" = some 6:=by kernel_rfl
theorem g64:Tryz.prog.globalNamed "math/bits.deBruijn64tab" = some 7:=by kernel_rfl
theorem gp10:Tryz.prog.globalNamed "internal/strconv.uint64pow10" = some 0:=by kernel_rfl
theorem aJe(os:Os)(args:Array Value):laidMetH Tryz.prog aBk ((World.laidAll Tryz.prog os aBk).forCall (fun _ _=>0) ⟨#[],args,[]⟩).memory:=by
 rw[MakeChecks.laidMetH_plain _ _ _ (by kernel_rfl)];exact laidMet_laidAll _ (by kernel_rfl) (by kernel_rfl)
theorem aGC{k:IntKind}{P:Program}{H:Type}{enc:TypeId×Value→H}{W:World}{sp:Nat→Bool}{nm:String}{g t e n fuel:Nat}{ls:List Int}(hg:P.globalNamed nm=some g)(hu:P.underlying t=some (.array n e))(he:P.underlying e=some (.int k))(hc:P.cellsOf e=1)
 {cs:Array Value} {p:List MemPlace} (hv:W.var? P nm=some cs) (hd:DataW.trod enc P W 0 sp false fuel t cs.toList=some (.agg (ls.map fun v=>.lit (.int k v)),p)):∀(j:Nat)(v:Int),ls[j]?=some v→cs[j]?=some (Value.int k v):=by
 intro j v hj;obtain⟨xs,m,rfl,hx,_,hn,hel⟩:=DataW.trod_array hu hd;simp only[B3,DataW.agg.injEq]at hx;have hjl:j<xs.length:=by
  have:=AAq List.length hx.1;simp only[B0]at this;have:=(A5.1 hj).1;omega
 have h0:=hel j (by omega);rw[A7 hjl,hc,aC5]at h0;obtain⟨k',e1,e2,_⟩:=DataW.trod_int he h0;have hk:k'=v:=by
  have h1:(xs.map (·.1))[j]?=some (DataW.lit (Lit.int k k')):=by rw[A9,A7 hjl,e2];rfl
  rw[←hx.1,A9,hj]at h1;simpa using h1.symm
 subst hk;rw[←D9];have:(cs.toList.drop j)[0]?=some (Value.int k k'):=by
  have h2:((cs.toList.drop j).take 1)[0]?=some (Value.int k k'):=by rw[e1];rfl
  rw[List.getElem?_take_of_lt (by omega)]at h2;exact h2
 rw[H6]at this;simpa using this
theorem qM{P:Program}{W:World}{nm:String}{g:Nat}{cs:Array Value}(hg:P.globalNamed nm=some g)(h:W.var? P nm=some cs):∃ e fr,W.heap[g]?=some (.cells cs e fr):=by
 simp only[World.var?,hg,D0]at h;split at h
 ·simp only[oSI]at h
  subst h;exact⟨_,_,by assumption⟩
 ·cases h
abbrev p10:List Int:=(List.range 20).map fun i=>((10^i:Nat):Int)
abbrev aTT:List Int:=(match wE 6 with|some l=>l.map (fun c=>(match c with | .int _ n=>n|_=>0))|none=>[])
abbrev aTS:List Int:=(match wE 7 with|some l=>l.map (fun c=>(match c with | .int _ n=>n|_=>0))|none=>[])
theorem aAd{H:Type}{enc:TypeId×Value→H}{P:Program}{W:World}{sp:Nat→Bool}{held:Bool}{fuel t:Nat}{cs:List Value}{x:DataW H×List MemPlace}(ht:∃ m,P.underlying t=some (.interface m))(h:DataW.trod enc P W 0 sp held fuel t cs=some x):∃ v,cs=[v]∧(v = .nilIface∨∃ te pe,v = .iface te pe):=by
 obtain⟨m,ht⟩:=ht;cases fuel with
 | zero=>simp[DataW.trod]at h
 | succ n =>
   unfold DataW.trod at h;rw[ht]at h;rcases cs with _|⟨v,_|⟨_,_⟩⟩;·simp at h
   ·cases v
    all_goals first|exact⟨_,rfl,.inl rfl⟩|exact⟨_,rfl,.inr ⟨_,_,rfl⟩⟩|(exfalso;simp at h)
   ·simp at h
theorem aFS{P:Program}{t:TypeId}(h:(match P.underlying t with|some (.interface _)=>true|_=>false)=true):∃ m,P.underlying t=some (.interface m):=by
 split at h;·exact⟨_,by assumption⟩
 ·cases h
theorem gEr:Tryz.prog.globalNamed "strconv.ErrRange" = some 2:=by kernel_rfl
theorem gEs:Tryz.prog.globalNamed "strconv.ErrSyntax" = some 1:=by kernel_rfl
theorem aWz{W:World}(h:laidMetH Tryz.prog aBk W)(hs:W.ShapedOpen Tryz.prog):GI (fun b=>b<W.heap.size) W:=by
 rw[MakeChecks.laidMetH_plain _ _ _ (by kernel_rfl)]at h;obtain⟨ps,⟨i0,t0,cs0,f0,p0,q0,hg0,ht0,hv0,hd0,⟨i1,t1,cs1,f1,p1,q1,hg1,ht1,hv1,hd1,⟨i2,t2,cs2,f2,p2,q2,hg2,ht2,hv2,hd2,⟨i3,t3,cs3,f3,p3,q3,hg3,ht3,hv3,hd3,⟨i4,t4,cs4,f4,p4,q4,hg4,ht4,hv4,hd4,⟨i5,t5,cs5,f5,p5,q5,hg5,ht5,hv5,hd5,_,_⟩,_⟩,_⟩,_⟩,_⟩,_⟩,_,_⟩:=h;obtain rfl:=Option.some.inj (gEr.symm.trans hg4);obtain rfl:=Option.some.inj (gEs.symm.trans hg5);obtain rfl:=Option.some.inj (g32.symm.trans hg0);obtain rfl:=Option.some.inj (g64.symm.trans hg1);obtain rfl:=Option.some.inj (gp10.symm.trans hg2);have e0:t0=(Tryz.prog.globals[6]?.map (·.type)).getD 0:=by rw[ht0];rfl
 have e1:t1=(Tryz.prog.globals[7]?.map (·.type)).getD 0:=by rw[ht1];rfl
 have e2:t2=(Tryz.prog.globals[0]?.map (·.type)).getD 0:=by rw[ht2];rfl
 have k0:=aGC (k:=.u8) (ls:=aTT) g32 (t:=t0) (n:=32) (e:=5) (by rw[e0];kernel_rfl) Tryz.underlying5 (by kernel_rfl) hv0 hd0;have k1:=aGC (k:=.u8) (ls:=aTS) g64 (t:=t1) (n:=64) (e:=5) (by rw[e1];kernel_rfl) Tryz.underlying5 (by kernel_rfl) hv1 hd1;have k2:=aGC (k:=.u64) (ls:=p10) gp10 (t:=t2) (n:=20) (e:=222) (by rw[e2];kernel_rfl) Tryz.underlying222 (by kernel_rfl) hv2 hd2;obtain⟨xs,m,_,_,hsz,_,_⟩:=DataW.trod_array (t:=t2) (n:=20) (e:=222) (by rw[e2];kernel_rfl) hd2;have hsz:cs2.size=20:=by rw[←D5,hsz,e2];kernel_rfl
 have c2:cs2=((List.range 20).map fun i=>Value.int .u64 ((10^i:Nat):Int)).toArray:=by
  apply J5;intro j;have el:∀ l:List Value,l.toArray[j]?=l[j]?:=fun l=>by simp
  refine Eq.trans ?_ (el _).symm;rw[A9];by_cases hj:j<20
  ·rw[O0 hj,B9]
   exact k2 j _ (by rw[A9,O0 hj];rfl)
  ·rw[H9 (by omega),G5 (by simpa using hj)];rfl
 obtain⟨x0,fr0,hh0⟩:=qM g32 hv0;obtain⟨x1,fr1,hh1⟩:=qM g64 hv1;obtain⟨x2,fr2,hh2⟩:=qM gp10 hv2;have lt:∀{g:Nat}{o:Obj},W.heap[g]?=some o→g<W.heap.size:=fun h=>by
  rcases Nat.lt_or_ge _ W.heap.size with h1|h1;·exact h1
  ·rw[H9 h1]at h;cases h
 have fin:∀(g:Nat)(k:IntKind)(ls:List Int)(cs:Array Value)(e:TypeId)(fr:Nat×Nat),W.heap[g]?=some (.cells cs e fr)→(∀(j:Nat)(v:Int),ls[j]?=some v→cs[j]?=some (Value.int k v)) →
  g<W.heap.size∧∃ gv:Nat→Value,(∀ j,(gv j).oneCell'=true)∧∀ j c,(ls.map fun v=>AV.int k v)[j]?=some c→W.cell? ⟨g,j,none⟩=some (gv j)∧Rv (fun b=>b<W.heap.size) W c (gv j):=by
  intro g k ls cs e fr hg h;refine⟨lt hg,fun j=>.int k (ls.getD j 0),fun _=>rfl,fun j c hj=>?_⟩;rw[A9,A0]at hj;obtain⟨v,hv,rfl⟩:=hj;have:ls.getD j 0=v:=by rw[A6,hv];rfl
  dsimp only;rw[this];refine⟨?_,.int _ _⟩;simp only[World.cell?,hg];exact h j v hv
 have e4:t4=(Tryz.prog.globals[2]?.map (·.type)).getD 0:=by rw[ht4];rfl
 have e5:t5=(Tryz.prog.globals[1]?.map (·.type)).getD 0:=by rw[ht5];rfl
 have ifc:∀(g:Nat)(cs:Array Value)(v:Value),(∃ e fr,W.heap[g]?=some (.cells cs e fr))→cs.toList=[v]→g<W.heap.size∧W.cell? ⟨g,0,none⟩=some v:=by
  rintro g cs v ⟨e,fr,hh⟩ hc;refine⟨lt hh,?_⟩;simp only[World.cell?,hh];rw[←D9,hc];rfl
 refine⟨fun g row hr=>?_,fun g hg=>?_,fun p hp=>?_,fun g hg=>?_⟩
 ·unfold wE at hr
  by_cases h0:g=0
  ·rw[if_pos h0]at hr
   simp only[oSI]at hr;rw[←hr,h0];exact fin 0 .u64 p10 _ _ _ hh2 k2
  ·rw[if_neg h0]at hr
   by_cases h1:g=6
   ·rw[if_pos h1]at hr
    simp only[oSI]at hr;rw[←hr,h1];exact fin 6 .u8 aTT _ _ _ hh0 k0
   ·rw[if_neg h1]at hr
    by_cases h2:g=7
    ·rw[if_pos h2]at hr
     simp only[oSI]at hr;rw[←hr,h2];exact fin 7 .u8 aTS _ _ _ hh1 k1
    ·rw[if_neg h2]at hr
     cases hr
 ·have hg3:g=3:=by simpa [aBu]using hg
  subst hg3;obtain⟨n,hn⟩:=cell_of_shapedOpen_int (P:=Tryz.prog) (g:=3) (t:=3) (zero := #[.int .i64 0]) (k:=.i64) hs (of_decide_eq_true (by kernel_rfl)) (by kernel_rfl) rfl (by kernel_rfl) (by kernel_rfl) Tryz.underlying3;exact⟨(aBO hn).2,n,hn⟩
 ·have hp0:p=(0,(List.range 20).map fun i=>Value.int .u64 ((10^i:Nat):Int)):=by simpa [aBv]using hp
  rw[hp0];refine⟨lt hh2,x2,fr2,?_⟩;rw[hh2,c2]
 ·have hg2:g=1∨g=2:=by simpa [zU]using hg
  rcases hg2 with rfl|rfl
  ·obtain⟨v,h1,h2⟩:=aAd (t:=t5) (by rw[e5];exact aFS (by kernel_rfl)) hd5
   obtain⟨k1,k2⟩:=ifc 1 cs5 v (qM gEs hv5) h1;exact⟨k1,v,k2,h2⟩
  ·obtain⟨v,h1,h2⟩:=aAd (t:=t4) (by rw[e4];exact aFS (by kernel_rfl)) hd4
   obtain⟨k1,k2⟩:=ifc 2 cs4 v (qM gEr hv4) h1;exact⟨k1,v,k2,h2⟩
end Go.Proofs.YtmapgnepfgnphaaGreatDoor
namespace Go.Proofs.YtmapgnepfgnphaaGreatDoor
open Go Go.DL
abbrev sB(l:List UInt8):AV:=.str ⟨⟨l⟩⟩
abbrev cB(l:List AV):Option XB:=some (.blk false (.cells true l))
abbrev gB(l:List AV):Option XB:=some (.blk true (.cells true l))
abbrev mB(l:List (AV×AV)):Option XB:=some (.blk false (.map true l))
abbrev nB(l:List (AV×AV)):Option XB:=some (.blk true (.map true l))
abbrev jH(l:List Int):List AV:=l.map (.int .u8 ·)
abbrev cH(n:Nat):List UInt8:=List.replicate n 32
abbrev bX(n:Nat):List Int:=List.replicate n 32
abbrev sx0:AV:=sB [98,111]
abbrev sx1:AV:=sB [119,49]
abbrev sx2:AV:=sB [97,110,97]
abbrev sx3:AV:=sB [119,50]
abbrev sx4:AV:=sB [102,97,114,109,101,114,32,97,110,97]
abbrev sx5:AV:=sB [102,97,114,109,101,114,32,98,111]
abbrev sx6:AV:=sB [119,97,103,111,110,32,119,49,32,49,53,48,48,48,32,53,48,48,48,32,97,110,97]
abbrev sx7:AV:=sB [119,97,103,111,110,32,119,49,32,49,52,48,48,48,32,53,53,48,48,32,98,111]
abbrev sx8:AV:=sB [99,108,111,115,101]
abbrev sx9:AV:=sB [111,107]
abbrev aCd:AV:=sB [118,111,105,100,32,48]
abbrev aDI:AV:=sB [119,97,103,111,110,32,119,50,32,57,48,48,48,32,51,48,48,48,32,98,111]
abbrev aJb:AV:=sB [109,101,116,101,114,32,109,32,57,57,57,57,48]
abbrev aKI:AV:=sB [109,101,116,101,114,32,109,32,49,53]
abbrev aOA:AV:=sB [112,97,110,32,112,32,57,48,48,32,56,55,48]
abbrev aOz:AV:=sB [116,111,116,97,108]
abbrev aOy:AV:=sB [116,105,99,107,101,116,32,48]
abbrev aOx:AV:=sB [117,115,101,100,32,109]
abbrev aKH:AV:=sB [49,52,53,48,48]
abbrev aRs:AV:=sB [110,101,116,32,98,111]
abbrev aOw:AV:=sB [110,111,32,54]
abbrev aOv:AV:=sB [110,111,32,49,48]
abbrev aOu:AV:=sB [110,111,32,53]
abbrev aOt:AV:=sB [110,111,32,49,51]
abbrev aUL:AV:=sB [119,97,103,111,110,32,119,49,32,49,52,48,48,48,32,53,53,48,49,32,98,111]
abbrev aUK:AV:=sB [119,97,103,111,110,32,119,50,32,51,48,48,48,32,52,48,48,48,32,97,110,97]
abbrev aUJ:AV:=sB [119,97,103,111,110,32,119,50,32,52,48,48,48,32,51,48,48,48,32,101,118,101]
abbrev aUI:AV:=sB [112,111,119,101,114,32,97,110,97]
abbrev aUH:AV:=sB [112,111,119,101,114,32,98,111]
abbrev aUG:AV:=sB [118,111,105,100,32,49]
abbrev aUF:AV:=sB [118,111,105,100,32,51]
abbrev aUE:AV:=sB [112,97,110,32,112,32,49,48,48,32,49,48,49]
abbrev aUD:AV:=sB [108,111,115,115,32,112]
abbrev aUC:AV:=sB [110,101,116,32,32,98,111]
abbrev aUB:AV:=sB [110,101,116,32,66,111]
abbrev aUA:AV:=sB [119,97,103,111,110,32,119,51,32,49,32,48,50,32,98,111]
abbrev aUz:AV:=sB [115,117,103,97,114]
abbrev aRr:AV:=sB [102,97,114,109,101,114,32,97]
abbrev aRq:AV:=sB ([122,97,102,114,97,32,49,52,10,51,52,54,51,102,97,114,109,101,114,32,97,110,97]++cH 30++[10,50,56,51,49,102,97,114,109,101,114,32,98,111]++cH 31++[10,56,54,56,52,119,97,103,111,110,32,119,49,32,49,53,48,48,48,32,53,48,48,48,32,97,110,97]++cH 17++[10,55,51,48,55,119,97,103,111,110,32,119,49,32,49,52,48,48,48,32,53,53,48,48,32,98,111]++cH 18++[10,54,55,57,57,119,97,103,111,110,32,119,50,32,57,48,48,48,32,51,48,48,48,32,98,111]++cH 19++[10,51,56,49,49,53,72,124,43,119,101,103,120,94,61,89,80,80,64,51,90,85,80,64,98,52,94,97]++cH 17++[10,48,56,51,55,118,111,105,100,32,48]++cH 34++[10,49,49,52,48,99,108,111,115,101]++cH 35++[10,50,57,53,56,109,101,116,101,114,32,109,32,57,57,57,57,48]++cH 27++[10,50,48,54,52,109,101,116,101,114,32,109,32,49,53]++cH 30++[10,50,48,52,57,112,97,110,32,112,32,57,48,48,32,56,55,48]++cH 27++[10,51,54,57,57,39,105,50,36,60,48,116,48,90,78,81,80,64]++cH 27++[10])
abbrev aUy:AV:=sB ([50,49,49,49,102,97,114,109,101,114,32,97]++cH 32++[10])
abbrev aUx:AV:=sB ([49,56,50,49,74,78,98,97,75,114,32,97]++cH 32++[10])
abbrev aUw:AV:=sB ([50,49,49,49,102,97,114,109,101,114,32,97]++cH 32++[10,49,49,51,52,99,108,111,115,101]++cH 35++[10,49,56,50,49,74,78,98,97,75,114,32,97]++cH 32++[10])
abbrev aUv:AV:=sB ([49,49,51,52,99,108,111,122,101]++cH 35++[10])
abbrev aUu:AV:=sB [110,111,32,50,50]
abbrev aUt:AV:=sB [50,52,53,48,48]
abbrev aUs:AV:=sB [119,49,32,97,110,97,32,49,48,48,48,48]
abbrev aUr:AV:=sB [119,49,32,97,110,97,32,49,48,48,48,48,32,118,111,105,100]
abbrev aUq:AV:=sB [110,111,32,50,51]
abbrev aUp:AV:=sB [110,111,32,52]
abbrev aUo:AV:=sB [50,53]
abbrev aUn:AV:=sB [51,48]
abbrev aUm:AV:=sB [110,111,32,56]
abbrev aUl:AV:=sB [110,111,32,50]
abbrev aUk:AV:=sB ([51,52,54,51,102,97,114,109,101,114,32,97,110,97]++cH 30++[10])
abbrev aUj:AV:=sB ([50,56,51,49,102,97,114,109,101,114,32,98,111]++cH 31++[10])
abbrev aUi:AV:=sB ([56,54,56,52,119,97,103,111,110,32,119,49,32,49,53,48,48,48,32,53,48,48,48,32,97,110,97]++cH 17++[10])
abbrev aUh:AV:=sB ([55,51,48,55,119,97,103,111,110,32,119,49,32,49,52,48,48,48,32,53,53,48,48,32,98,111]++cH 18++[10])
abbrev aUg:AV:=sB ([54,55,57,57,119,97,103,111,110,32,119,50,32,57,48,48,48,32,51,48,48,48,32,98,111]++cH 19++[10])
abbrev aUf:AV:=sB ([51,56,49,49,53,72,124,43,119,101,103,120,94,61,89,80,80,64,51,90,85,80,64,98,52,94,97]++cH 17++[10])
abbrev aUe:AV:=sB ([51,52,54,51,102,97,114,109,101,114,32,97,110,97]++cH 30++[10,50,56,51,49,102,97,114,109,101,114,32,98,111]++cH 31++[10,56,54,56,52,119,97,103,111,110,32,119,49,32,49,53,48,48,48,32,53,48,48,48,32,97,110,97]++cH 17++[10,55,51,48,55,119,97,103,111,110,32,119,49,32,49,52,48,48,48,32,53,53,48,48,32,98,111]++cH 18++[10,54,55,57,57,119,97,103,111,110,32,119,50,32,57,48,48,48,32,51,48,48,48,32,98,111]++cH 19++[10,51,56,49,49,53,72,124,43,119,101,103,120,94,61,89,80,80,64,51,90,85,80,64,98,52,94,97]++cH 17++[10])
abbrev aUd:AV:=sB ([48,56,51,55,118,111,105,100,32,48]++cH 34++[10])
abbrev aUc:AV:=sB ([49,49,52,48,99,108,111,115,101]++cH 35++[10])
abbrev aUb:AV:=sB ([50,57,53,56,109,101,116,101,114,32,109,32,57,57,57,57,48]++cH 27++[10])
abbrev aUa:AV:=sB ([50,48,54,52,109,101,116,101,114,32,109,32,49,53]++cH 30++[10])
abbrev aTZ:AV:=sB ([50,48,52,57,112,97,110,32,112,32,57,48,48,32,56,55,48]++cH 27++[10])
abbrev aTY:AV:=sB ([51,54,57,57,39,105,50,36,60,48,116,48,90,78,81,80,64]++cH 27++[10])
abbrev aTX:AV:=sB ([48,56,51,55,118,111,105,100,32,48]++cH 34++[10,49,49,52,48,99,108,111,115,101]++cH 35++[10,50,57,53,56,109,101,116,101,114,32,109,32,57,57,57,57,48]++cH 27++[10,50,48,54,52,109,101,116,101,114,32,109,32,49,53]++cH 30++[10,50,48,52,57,112,97,110,32,112,32,57,48,48,32,56,55,48]++cH 27++[10,51,54,57,57,39,105,50,36,60,48,116,48,90,78,81,80,64]++cH 27++[10])
abbrev aTW:AV:=sB [122,97,102,114,97,32,49,52,10]
abbrev aUZ:Option XB:=gB ([sx4,sx5,sx4,sx6,aUL,sx7,aUK,aUJ,aDI,aRs,aOz,aUI,aUH,aOy,aCd,aOy,aOz,sx8,aUG,aCd,aUF,sx8,aJb,aOx,aKI,aOx,aOA,aUE,aUD,aUC,aUB,aUA,aUz])
abbrev aUY:Option XB:=cB ([.pt 1 0,.pt 3 0,.pt 5 0,.pt 7 0,.nilsl,I (0),.nilsl])
abbrev aPk:Option XB:=gB ([sx4,sx5,sx6,sx7,aDI,aCd,sx8,aJb,aKI,aOA])
abbrev aJs:Option XB:=gB ([sx1,sx2,I (10000),.bool false,.bool false])
abbrev tW:Option XB:=gB ([sx1,sx0,I (8500),.bool false,.bool false])
abbrev xI:Option XB:=gB ([sx3,sx0,I (6000),.bool false,.bool false])
abbrev aAV:Option XB:=gB ([sx1,sx2,I (10000),.bool true,.bool false])
abbrev aUX:Option XB:=gB ([sx4,sx5,sx6,sx7,aDI,aCd,sx8,aJb,aKI])
abbrev aUW:Option XB:=gB ([sx4,sx5,sx6,sx7,aDI,aCd,sx8,aJb])
abbrev aJr:Option XB:=mB ([(sx1,.pt 13 0),(sx3,.pt 14 0)])
abbrev aQP:Option XB:=gB ([sx4,sx5,sx6,sx7,aDI,aCd,sx8])
abbrev aIh:Option XB:=mB ([(sx1,.pt 15 0),(sx3,.pt 16 0)])
abbrev kB:Option XB:=mB ([(sx2,.pt 4 0),(sx0,.pt 5 0)])
abbrev aLM:Option XB:=cB ([.sl 11 0 1 1,.mp 12,I (300)])
abbrev aCX:Option XB:=cB ([.sl 11 0 1 2,.mp 12,I (300)])
abbrev aIg:Option XB:=cB ([.sl 13 0 1 2,.mp 14,I (300)])
abbrev aCW:Option XB:=cB ([.pt 16 0,.pt 17 0,.pt 18 0])
abbrev aIf:Option XB:=cB ([.pt 18 0,.pt 19 0,.pt 20 0])
abbrev aQO:Option XB:=gB ([sx4,sx5,sx6,sx7,aDI,aCd])
abbrev kA:Option XB:=cB ([.sl 2 0 1 2,.mp 3,I (9)])
abbrev aFw:Option XB:=cB ([.sl 7 0 1 1,.mp 8,I (5)])
abbrev aQN:Option XB:=cB ([.nilsl,.mp 10,I (300)])
abbrev aLL:Option XB:=cB ([.nilsl,.mp 8,I (300)])
abbrev aQM:Option XB:=gB ([sx4,sx5,sx6,sx7,aDI])
abbrev aLK:Option XB:=cB ([.nilsl,.mp 11,I (5)])
abbrev aQL:Option XB:=cB ([.nilsl,.mp 2,I (9)])
abbrev aLJ:Option XB:=cB ([.nilsl,.mp 4,I (5)])
abbrev aFv:Option XB:=cB ([.nilsl,.mp 6,I (5)])
abbrev aQK:Option XB:=cB ([.nilsl,.mp 8,I (5)])
abbrev rF:Option XB:=cB ([.nilsl,.mp 7,I (5)])
abbrev pT:Option XB:=cB ([.nilsl,.mp 9,I (5)])
abbrev aFu:Option XB:=mB ([(sB [109],.pt 9 0)])
abbrev aQJ:Option XB:=gB ([sx4,sx5,sx6,sx7])
abbrev aQI:Option XB:=gB ([I (99990),I (0)])
abbrev aLI:Option XB:=mB ([(sx1,.pt 13 0)])
abbrev aFt:Option XB:=gB ([I (15),I (25)])
abbrev aQH:Option XB:=gB ([sx4,sx5,sx6])
abbrev aCV:Option XB:=gB ([I (10000)])
abbrev nY:Option XB:=gB ([I (14500)])
abbrev jZ:Option XB:=gB ([I (5000)])
abbrev aQG:Option XB:=gB ([I (8500)])
abbrev nX:Option XB:=gB ([I (3000)])
abbrev aAW:Option XB:=gB ([sB [109]])
abbrev aLH:Option XB:=gB ([sB [112]])
abbrev aQF:Option XB:=gB ([sx4,sx5])
abbrev iJ:Option XB:=gB ([sx2,sx0])
abbrev nW:Option XB:=gB ([sx1,sx3])
abbrev aLG:Option XB:=gB ([I (30)])
abbrev iI:Option XB:=gB ([I (0)])
abbrev aQE:Option XB:=gB ([sx4])
abbrev aQD:Option XB:=gB ([sx2])
abbrev aIe:Option XB:=gB ([sx1])
abbrev bU:Option XB:=nB ([])
def hp0:XH:=[(gB ((jH ([102,97,114,109,101,114,32,97]++bX 72++[74,78,98,97,75,114,32,97]++bX 32))))]
def hp1:XH:=[aUY,aQL,bU,aLJ,bU,aFv,bU,aLL,bU]
def hp2:XH:=[(cB ([.pt 1 0,.pt 3 0,.pt 5 0,.pt 7 0,.nilsl,I (0),.sl 9 0 1 1])),(cB ([.sl 10 0 1 1,.mp 2,I (9)])),(mB ([(sx2,.pt 11 0)])),aLJ,bU,aFv,bU,aLL,bU,aQE,aQD,iI]
def hp3:XH:=[(cB ([.pt 1 0,.pt 5 0,.pt 7 0,.pt 9 0,.nilsl,I (0),.sl 11 0 1 1])),(cB ([.sl 2 0 1 1,.mp 3,I (9)])),aQD,(mB ([(sx2,.pt 4 0)])),iI,aFv,bU,aQK,bU,aQN,bU,aQE]
def hp4:XH:=[(cB ([.pt 1 0,.pt 5 0,.pt 7 0,.pt 9 0,.nilsl,I (0),.sl 12 0 1 2])),(cB ([.sl 13 0 1 2,.mp 3,I (9)])),none,(mB ([(sx2,.pt 4 0),(sx0,.pt 14 0)])),iI,aFv,bU,aQK,bU,aQN,bU,none,aQF,iJ,iI]
def hp5:XH:=[(cB ([.pt 1 0,.pt 6 0,.pt 8 0,.pt 10 0,.nilsl,I (0),.sl 12 0 1 2])),kA,iJ,kB,iI,iI,rF,bU,pT,bU,(cB ([.nilsl,.mp 11,I (300)])),bU,aQF]
def hp6:XH:=[(cB ([.pt 1 0,.pt 6 0,.pt 8 0,.pt 10 0,.sl 13 0 1 1,I (0),.sl 15 0 1 3])),kA,iJ,kB,aCV,iI,rF,bU,pT,bU,(cB ([.sl 16 0 1 1,.mp 11,I (300)])),(mB ([(sx1,.pt 17 0)])),none,(cB ([.pt 14 0])),aJs,aQH,aIe,jZ]
def hp7:XH:=[(cB ([.pt 1 0,.pt 6 0,.pt 8 0,.pt 10 0,.sl 14 0 1 1,I (0),.sl 16 0 1 3])),kA,iJ,kB,aCV,iI,rF,bU,pT,bU,aLM,aIe,aLI,jZ,(cB ([.pt 15 0])),aJs,aQH]
def hp8:XH:=[(cB ([.pt 1 0,.pt 6 0,.pt 8 0,.pt 10 0,.sl 17 0 1 2,I (0),.sl 19 0 1 4])),kA,iJ,kB,aCV,aQG,rF,bU,pT,bU,aLM,aIe,aLI,jZ,none,aJs,none,(cB ([.pt 15 0,.pt 18 0])),tW,aQJ]
def hp9:XH:=[(cB ([.pt 1 0,.pt 6 0,.pt 8 0,.pt 10 0,.sl 14 0 1 2,I (0),.sl 17 0 1 4])),kA,iJ,kB,aCV,aQG,rF,bU,pT,bU,aLM,aIe,aLI,jZ,(cB ([.pt 15 0,.pt 16 0])),aJs,tW,aQJ]
def bAU:XH:=[(cB ([.pt 1 0,.pt 6 0,.pt 8 0,.pt 10 0,.sl 18 0 1 3,I (0),.sl 20 0 1 5])),kA,iJ,kB,aCV,nY,rF,bU,pT,bU,(cB ([.sl 21 0 1 2,.mp 12,I (300)])),none,(mB ([(sx1,.pt 13 0),(sx3,.pt 22 0)])),jZ,none,aJs,tW,none,(cB ([.pt 15 0,.pt 16 0,.pt 19 0])),xI,aQM,nW,nX]
def aBo:XH:=[(cB ([.pt 1 0,.pt 6 0,.pt 8 0,.pt 10 0,.sl 15 0 1 3,I (0),.sl 19 0 1 5])),kA,iJ,kB,aCV,nY,rF,bU,pT,bU,aCX,nW,aJr,jZ,nX,aCW,aJs,tW,xI,aQM]
def bAT:XH:=[(cB ([.pt 1 0,.pt 6 0,.pt 8 0,.pt 10 0,.sl 15 0 1 3,I (0),.sl 20 0 1 6])),kA,iJ,kB,iI,nY,rF,bU,pT,bU,aCX,nW,aJr,jZ,nX,aCW,aAV,tW,xI,none,aQO]
def aMF:XH:=[(cB ([.pt 1 0,.pt 6 0,.pt 8 0,.pt 10 0,.sl 15 0 1 3,I (0),.sl 19 0 1 6])),kA,iJ,kB,iI,nY,rF,bU,pT,bU,aCX,nW,aJr,jZ,nX,aCW,aAV,tW,xI,aQO]
def bAS:XH:=[(cB ([.pt 1 0,.pt 6 0,.pt 8 0,.pt 10 0,.sl 15 0 1 3,I (3),.sl 20 0 1 7])),kA,iJ,kB,iI,nY,rF,bU,pT,bU,aCX,nW,aJr,jZ,nX,aCW,aAV,tW,xI,none,aQP]
def aEv:XH:=[(cB ([.pt 1 0,.pt 6 0,.pt 8 0,.pt 10 0,.sl 15 0 1 3,I (3),.sl 19 0 1 7])),kA,iJ,kB,iI,nY,rF,bU,pT,bU,aCX,nW,aJr,jZ,nX,aCW,aAV,tW,xI,aQP]
def bAR:XH:=[(cB ([.pt 1 0,.pt 6 0,.pt 8 0,.pt 10 0,.sl 15 0 1 3,I (3),.sl 20 0 1 8])),kA,iJ,kB,iI,nY,(cB ([.sl 21 0 1 1,.mp 7,I (5)])),(mB ([(sB [109],.pt 22 0)])),pT,bU,aCX,nW,aJr,jZ,nX,aCW,aAV,tW,xI,none,aUW,aAW,aQI]
def aSg:XH:=[(cB ([.pt 1 0,.pt 6 0,.pt 10 0,.pt 12 0,.sl 17 0 1 3,I (3),.sl 21 0 1 8])),kA,iJ,kB,iI,nY,aFw,aAW,aFu,aQI,aLK,bU,aIg,nW,aIh,jZ,nX,aIf,aAV,tW,xI,aUW]
def bAQ:XH:=[(cB ([.pt 1 0,.pt 6 0,.pt 10 0,.pt 12 0,.sl 17 0 1 3,I (3),.sl 22 0 1 9])),kA,iJ,kB,iI,nY,aFw,aAW,aFu,aFt,aLK,bU,aIg,nW,aIh,jZ,nX,aIf,aAV,tW,xI,none,aUX]
def aSf:XH:=[(cB ([.pt 1 0,.pt 6 0,.pt 10 0,.pt 12 0,.sl 17 0 1 3,I (3),.sl 21 0 1 9])),kA,iJ,kB,iI,nY,aFw,aAW,aFu,aFt,aLK,bU,aIg,nW,aIh,jZ,nX,aIf,aAV,tW,xI,aUX]
def bAP:XH:=[(cB ([.pt 1 0,.pt 6 0,.pt 10 0,.pt 12 0,.sl 17 0 1 3,I (3),.sl 22 0 1 10])),kA,iJ,kB,iI,nY,aFw,aAW,aFu,aFt,(cB ([.sl 23 0 1 1,.mp 11,I (5)])),(mB ([(sB [112],.pt 24 0)])),aIg,nW,aIh,jZ,nX,aIf,aAV,tW,xI,none,aPk,aLH,aLG]
def rO:XH:=[(cB ([.pt 1 0,.pt 6 0,.pt 10 0,.pt 14 0,.sl 19 0 1 3,I (3),.sl 23 0 1 10])),kA,iJ,kB,iI,nY,aFw,aAW,aFu,aFt,(cB ([.sl 11 0 1 1,.mp 12,I (5)])),aLH,(mB ([(sB [112],.pt 13 0)])),aLG,(cB ([.sl 15 0 1 2,.mp 16,I (300)])),nW,(mB ([(sx1,.pt 17 0),(sx3,.pt 18 0)])),jZ,nX,(cB ([.pt 20 0,.pt 21 0,.pt 22 0])),aAV,tW,xI,aPk]
def bAO:XH:=[aUY,aQL,bU,aLJ,bU,aFv,bU,aLL,bU,aUZ]
def bAN:XH:=[(cB ([.pt 1 0,.pt 3 0,.pt 5 0,.pt 7 0,.sl 10 0 1 3,I (3),.sl 14 0 1 10])),(cB ([.sl 15 0 1 2,.mp 2,I (9)])),(mB ([(sx2,.pt 16 0),(sx0,.pt 17 0)])),(cB ([.sl 18 0 1 1,.mp 4,I (5)])),(mB ([(sB [109],.pt 19 0)])),(cB ([.sl 20 0 1 1,.mp 6,I (5)])),(mB ([(sB [112],.pt 21 0)])),(cB ([.sl 22 0 1 2,.mp 8,I (300)])),(mB ([(sx1,.pt 23 0),(sx3,.pt 24 0)])),aUZ,(cB ([.pt 11 0,.pt 12 0,.pt 13 0])),aAV,tW,xI,aPk,iJ,iI,nY,aAW,aFt,aLH,aLG,nW,jZ,nX]
def aPz:XH:=[aPk]
def aWx:XH:=[(gB ((jH ([102,97,114,109,101,114,32,97,110,97]++bX 30++[102,97,114,109,101,114,32,98,111]++bX 31++[119,97,103,111,110,32,119,49,32,49,53,48,48,48,32,53,48,48,48,32,97,110,97]++bX 17++[119,97,103,111,110,32,119,49,32,49,52,48,48,48,32,53,53,48,48,32,98,111]++bX 18++[119,97,103,111,110,32,119,50,32,57,48,48,48,32,51,48,48,48,32,98,111]++bX 19++[53,72,124,43,119,101,103,120,94,61,89,80,80,64,51,90,85,80,64,98,52,94,97]++bX 17))))]
def aWw:XH:=[(gB ((jH ([118,111,105,100,32,48]++bX 34++[99,108,111,115,101]++bX 35++[109,101,116,101,114,32,109,32,57,57,57,57,48]++bX 27++[109,101,116,101,114,32,109,32,49,53]++bX 30++[112,97,110,32,112,32,57,48,48,32,56,55,48]++bX 27++[39,105,50,36,60,48,116,48,90,78,81,80,64]++bX 27))))]
def rw0:dT:=⟨77,[.agg (jH ([102,97,114,109,101,114,32,97]++bX 32)),I (0)],[],aUy,[]⟩
def rw1:dT:=⟨77,[.agg (jH ([99,108,111,115,101]++bX 35)),I (1)],[],sB ([49,49,51,52,99,108,111,115,101]++cH 35++[10]),[]⟩
def rw2:dT:=⟨43,[.fs [(jH ([102,97,114,109,101,114,32,97]++bX 32)),(jH ([99,108,111,115,101]++bX 35))]],[],.agg (jH ([74,78,98,97,75,114,32,97]++bX 32)),[]⟩
def rw3:dT:=⟨77,[.agg (jH ([74,78,98,97,75,114,32,97]++bX 32)),I (2)],[],aUx,[]⟩
def rw4:dT:=⟨38,[.fs [[aRr],[sx8]],I (0)],[],aUw,[]⟩
def rw5:dT:=⟨14,[.fs [[aRr],[sx8]],I (0)],[],.tup [aUw,I (0)],[]⟩
def rw6:dT:=⟨42,[aUy,I (0)],[],.tup [.agg (jH ([102,97,114,109,101,114,32,97]++bX 32)),.bool true],[]⟩
def rw7:dT:=⟨77,[.agg (jH ([99,108,111,122,101]++bX 35)),I (1)],[],sB ([49,49,54,50,99,108,111,122,101]++cH 35++[10]),[]⟩
def rw8:dT:=⟨42,[aUv,I (1)],[],.tup [.agg (jH ([99,108,111,122,101]++bX 35)),.bool false],[]⟩
def rw9:dT:=⟨42,[aUx,I (2)],[],.tup [.agg (jH ([74,78,98,97,75,114,32,97]++bX 32)),.bool true],[]⟩
def rw10:dT:=⟨43,[.sl 0 0 40 2],hp0,.agg (jH ([102,97,114,109,101,114,32,97]++bX 32)),hp0⟩
def rw11:dT:=⟨16,[sB ([50,49,49,49,102,97,114,109,101,114,32,97]++cH 32++[10,49,49,51,52,99,108,111,122,101]++cH 35++[10,49,56,50,49,74,78,98,97,75,114,32,97]++cH 32++[10]),I (0)],[],.tup [.fs [[aRr],[sx8]],I (1),I (0)],[]⟩
def rw12:dT:=⟨77,[.agg (jH ([99,108,111,122,101]++bX 35)),I (0)],[],sB ([49,49,54,49,99,108,111,122,101]++cH 35++[10]),[]⟩
def rw13:dT:=⟨42,[aUv,I (0)],[],.tup [.agg (jH ([99,108,111,122,101]++bX 35)),.bool false],[]⟩
def rw14:dT:=⟨16,[sB ([49,49,51,52,99,108,111,122,101]++cH 35++[10,49,49,51,52,99,108,111,122,101]++cH 35++[10,49,56,50,49,74,78,98,97,75,114,32,97]++cH 32++[10]),I (0)],[],.tup [.fs [],I (0),I (19)],[]⟩
def rw15:dT:=⟨21,[.pt 0 0,sx4],hp1,sx9,hp2⟩
def rw16:dT:=⟨21,[.pt 0 0,sx5],hp3,sx9,hp4⟩
def rw17:dT:=⟨21,[.pt 0 0,sx4],hp5,aOw,hp5⟩
def rw18:dT:=⟨21,[.pt 0 0,sx6],hp5,sx9,hp6⟩
def rw19:dT:=⟨21,[.pt 0 0,aUL],hp7,aUu,hp7⟩
def rw20:dT:=⟨21,[.pt 0 0,sx7],hp7,sx9,hp8⟩
def rw21:dT:=⟨21,[.pt 0 0,aUK],hp9,aOv,hp9⟩
def rw22:dT:=⟨21,[.pt 0 0,aUJ],hp9,aOu,hp9⟩
def rw23:dT:=⟨21,[.pt 0 0,aDI],hp9,sx9,bAU⟩
def rw24:dT:=⟨21,[.pt 0 0,aRs],aBo,aKH,aBo⟩
def rw25:dT:=⟨21,[.pt 0 0,aOz],aBo,aUt,aBo⟩
def rw26:dT:=⟨21,[.pt 0 0,aUI],aBo,sB [48],aBo⟩
def rw27:dT:=⟨21,[.pt 0 0,aUH],aBo,sB [50],aBo⟩
def rw28:dT:=⟨21,[.pt 0 0,aOy],aBo,aUs,aBo⟩
def rw29:dT:=⟨21,[.pt 0 0,aCd],aBo,sx9,bAT⟩
def rw30:dT:=⟨21,[.pt 0 0,aOy],aMF,aUr,aMF⟩
def rw31:dT:=⟨21,[.pt 0 0,aOz],aMF,aKH,aMF⟩
def rw32:dT:=⟨21,[.pt 0 0,sx8],aMF,sx9,bAS⟩
def rw33:dT:=⟨21,[.pt 0 0,aUG],aEv,aUq,aEv⟩
def rw34:dT:=⟨21,[.pt 0 0,aCd],aEv,aOw,aEv⟩
def rw35:dT:=⟨21,[.pt 0 0,aUF],aEv,aOu,aEv⟩
def rw36:dT:=⟨21,[.pt 0 0,sx8],aEv,aUp,aEv⟩
def rw37:dT:=⟨21,[.pt 0 0,aJb],aEv,sx9,bAR⟩
def rw38:dT:=⟨21,[.pt 0 0,aOx],aSg,sB [48],aSg⟩
def rw39:dT:=⟨21,[.pt 0 0,aKI],aSg,sx9,bAQ⟩
def rw40:dT:=⟨21,[.pt 0 0,aOx],aSf,aUo,aSf⟩
def rw41:dT:=⟨21,[.pt 0 0,aOA],aSf,sx9,bAP⟩
def rw42:dT:=⟨21,[.pt 0 0,aUE],rO,aOv,rO⟩
def rw43:dT:=⟨21,[.pt 0 0,aUD],rO,aUn,rO⟩
def rw44:dT:=⟨21,[.pt 0 0,aUC],rO,aOt,rO⟩
def rw45:dT:=⟨21,[.pt 0 0,aUB],rO,aUm,rO⟩
def rw46:dT:=⟨21,[.pt 0 0,aUA],rO,aUl,rO⟩
def rw47:dT:=⟨21,[.pt 0 0,aUz],rO,aOt,rO⟩
def rw48:dT:=⟨31,[.pt 0 0,.sl 9 0 1 33],bAO,.fs [[sx9],[sx9],[aOw],[sx9],[aUu],[sx9],[aOv],[aOu],[sx9],[aKH],[aUt],[sB [48]],[sB [50]],[aUs],[sx9],[aUr],[aKH],[sx9],[aUq],[aOw],[aOu],[aUp],[sx9],[sB [48]],[sx9],[aUo],[sx9],[aOv],[aUn],[aOt],[aUm],[aUl],[aOt]],bAN⟩
def rw49:dT:=⟨77,[.agg (jH ([102,97,114,109,101,114,32,97,110,97]++bX 30)),I (0)],[],aUk,[]⟩
def rw50:dT:=⟨77,[.agg (jH ([102,97,114,109,101,114,32,98,111]++bX 31)),I (1)],[],aUj,[]⟩
def rw51:dT:=⟨77,[.agg (jH ([119,97,103,111,110,32,119,49,32,49,53,48,48,48,32,53,48,48,48,32,97,110,97]++bX 17)),I (2)],[],aUi,[]⟩
def rw52:dT:=⟨77,[.agg (jH ([119,97,103,111,110,32,119,49,32,49,52,48,48,48,32,53,53,48,48,32,98,111]++bX 18)),I (3)],[],aUh,[]⟩
def rw53:dT:=⟨77,[.agg (jH ([119,97,103,111,110,32,119,50,32,57,48,48,48,32,51,48,48,48,32,98,111]++bX 19)),I (4)],[],aUg,[]⟩
def rw54:dT:=⟨43,[.fs [(jH ([102,97,114,109,101,114,32,97,110,97]++bX 30)),(jH ([102,97,114,109,101,114,32,98,111]++bX 31)),(jH ([119,97,103,111,110,32,119,49,32,49,53,48,48,48,32,53,48,48,48,32,97,110,97]++bX 17)),(jH ([119,97,103,111,110,32,119,49,32,49,52,48,48,48,32,53,53,48,48,32,98,111]++bX 18)),(jH ([119,97,103,111,110,32,119,50,32,57,48,48,48,32,51,48,48,48,32,98,111]++bX 19))]],[],.agg (jH ([53,72,124,43,119,101,103,120,94,61,89,80,80,64,51,90,85,80,64,98,52,94,97]++bX 17)),[]⟩
def rw55:dT:=⟨77,[.agg (jH ([53,72,124,43,119,101,103,120,94,61,89,80,80,64,51,90,85,80,64,98,52,94,97]++bX 17)),I (5)],[],aUf,[]⟩
def rw56:dT:=⟨38,[.sl 0 0 1 5,I (0)],aPz,aUe,aPz⟩
def rw57:dT:=⟨77,[.agg (jH ([118,111,105,100,32,48]++bX 34)),I (6)],[],aUd,[]⟩
def rw58:dT:=⟨77,[.agg (jH ([99,108,111,115,101]++bX 35)),I (7)],[],aUc,[]⟩
def rw59:dT:=⟨77,[.agg (jH ([109,101,116,101,114,32,109,32,57,57,57,57,48]++bX 27)),I (8)],[],aUb,[]⟩
def rw60:dT:=⟨77,[.agg (jH ([109,101,116,101,114,32,109,32,49,53]++bX 30)),I (9)],[],aUa,[]⟩
def rw61:dT:=⟨77,[.agg (jH ([112,97,110,32,112,32,57,48,48,32,56,55,48]++bX 27)),I (10)],[],aTZ,[]⟩
def rw62:dT:=⟨43,[.fs [(jH ([118,111,105,100,32,48]++bX 34)),(jH ([99,108,111,115,101]++bX 35)),(jH ([109,101,116,101,114,32,109,32,57,57,57,57,48]++bX 27)),(jH ([109,101,116,101,114,32,109,32,49,53]++bX 30)),(jH ([112,97,110,32,112,32,57,48,48,32,56,55,48]++bX 27))]],[],.agg (jH ([39,105,50,36,60,48,116,48,90,78,81,80,64]++bX 27)),[]⟩
def rw63:dT:=⟨77,[.agg (jH ([39,105,50,36,60,48,116,48,90,78,81,80,64]++bX 27)),I (11)],[],aTY,[]⟩
def rw64:dT:=⟨38,[.sl 0 5 1 5,I (6)],aPz,aTX,aPz⟩
def rw65:dT:=⟨23,[.pt 0 0],rO,aRq,rO⟩
def rw66:dT:=⟨72,[aRq,aTW],[],.tup [sB ([51,52,54,51,102,97,114,109,101,114,32,97,110,97]++cH 30++[10,50,56,51,49,102,97,114,109,101,114,32,98,111]++cH 31++[10,56,54,56,52,119,97,103,111,110,32,119,49,32,49,53,48,48,48,32,53,48,48,48,32,97,110,97]++cH 17++[10,55,51,48,55,119,97,103,111,110,32,119,49,32,49,52,48,48,48,32,53,53,48,48,32,98,111]++cH 18++[10,54,55,57,57,119,97,103,111,110,32,119,50,32,57,48,48,48,32,51,48,48,48,32,98,111]++cH 19++[10,51,56,49,49,53,72,124,43,119,101,103,120,94,61,89,80,80,64,51,90,85,80,64,98,52,94,97]++cH 17++[10,48,56,51,55,118,111,105,100,32,48]++cH 34++[10,49,49,52,48,99,108,111,115,101]++cH 35++[10,50,57,53,56,109,101,116,101,114,32,109,32,57,57,57,57,48]++cH 27++[10,50,48,54,52,109,101,116,101,114,32,109,32,49,53]++cH 30++[10,50,48,52,57,112,97,110,32,112,32,57,48,48,32,56,55,48]++cH 27++[10,51,54,57,57,39,105,50,36,60,48,116,48,90,78,81,80,64]++cH 27++[10]),.bool true],[]⟩
def rw68:dT:=⟨42,[aUk,I (0)],[],.tup [.agg (jH ([102,97,114,109,101,114,32,97,110,97]++bX 30)),.bool true],[]⟩
def rw69:dT:=⟨42,[aUj,I (1)],[],.tup [.agg (jH ([102,97,114,109,101,114,32,98,111]++bX 31)),.bool true],[]⟩
def rw70:dT:=⟨42,[aUi,I (2)],[],.tup [.agg (jH ([119,97,103,111,110,32,119,49,32,49,53,48,48,48,32,53,48,48,48,32,97,110,97]++bX 17)),.bool true],[]⟩
def rw71:dT:=⟨42,[aUh,I (3)],[],.tup [.agg (jH ([119,97,103,111,110,32,119,49,32,49,52,48,48,48,32,53,53,48,48,32,98,111]++bX 18)),.bool true],[]⟩
def rw72:dT:=⟨42,[aUg,I (4)],[],.tup [.agg (jH ([119,97,103,111,110,32,119,50,32,57,48,48,48,32,51,48,48,48,32,98,111]++bX 19)),.bool true],[]⟩
def rw73:dT:=⟨42,[aUf,I (5)],[],.tup [.agg (jH ([53,72,124,43,119,101,103,120,94,61,89,80,80,64,51,90,85,80,64,98,52,94,97]++bX 17)),.bool true],[]⟩
def rw74:dT:=⟨43,[.sl 0 0 40 5],aWx,.agg (jH ([53,72,124,43,119,101,103,120,94,61,89,80,80,64,51,90,85,80,64,98,52,94,97]++bX 17)),aWx⟩
def rw75:dT:=⟨16,[aUe,I (0)],[],.tup [.fs [[sx4],[sx5],[sx6],[sx7],[aDI]],I (0),I (0)],[]⟩
def rw76:dT:=⟨42,[aUd,I (6)],[],.tup [.agg (jH ([118,111,105,100,32,48]++bX 34)),.bool true],[]⟩
def rw77:dT:=⟨42,[aUc,I (7)],[],.tup [.agg (jH ([99,108,111,115,101]++bX 35)),.bool true],[]⟩
def rw78:dT:=⟨42,[aUb,I (8)],[],.tup [.agg (jH ([109,101,116,101,114,32,109,32,57,57,57,57,48]++bX 27)),.bool true],[]⟩
def rw79:dT:=⟨42,[aUa,I (9)],[],.tup [.agg (jH ([109,101,116,101,114,32,109,32,49,53]++bX 30)),.bool true],[]⟩
def rw80:dT:=⟨42,[aTZ,I (10)],[],.tup [.agg (jH ([112,97,110,32,112,32,57,48,48,32,56,55,48]++bX 27)),.bool true],[]⟩
def rw81:dT:=⟨42,[aTY,I (11)],[],.tup [.agg (jH ([39,105,50,36,60,48,116,48,90,78,81,80,64]++bX 27)),.bool true],[]⟩
def rw82:dT:=⟨43,[.sl 0 0 40 5],aWw,.agg (jH ([39,105,50,36,60,48,116,48,90,78,81,80,64]++bX 27)),aWw⟩
def rw83:dT:=⟨16,[aTX,I (6)],[],.tup [.fs [[aCd],[sx8],[aJb],[aKI],[aOA]],I (0),I (0)],[]⟩
def rw84:dT:=⟨25,[aRq],[],.tup [.pt 0 0,I (0),I (0)],rO⟩
def rw85:dT:=⟨21,[.pt 0 0,aRs],rO,aKH,rO⟩
def rw86:dT:=⟨23,[.pt 0 0],hp1,aTW,hp1⟩
end Go.Proofs.YtmapgnepfgnphaaGreatDoor
