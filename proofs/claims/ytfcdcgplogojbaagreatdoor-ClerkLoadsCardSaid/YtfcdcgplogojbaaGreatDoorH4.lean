/- Parts of a proof, joined. No statement of the seed is proved here. -/
import Derived.Test.YtfcdcgplogojbaaGreatDoorCards
import Derived.Test.YtfcdcgplogojbaaGreatDoorTie
import Derived.ProofKit
import Derived.LaidMore
import Derived.Lay
import Derived.HandedShaped
import Derived.Shelf.Vars
import Derived.Test.YtfcdcgplogojbaaGreatDoorH3
set_option linter.unusedSimpArgs false
set_option linter.unusedVariables false
set_option linter.unusedSectionVars false
set_option maxRecDepth 100000
abbrev Go.DL.aa(l:List Go.DL.AV):Option Go.DL.XB:=some (.blk true (.cells true l))
abbrev Go.DL.ab(l:List Go.DL.AV):Option Go.DL.XB:=some (.blk false (.cells true l))
namespace Go.Proofs.YtfcdcgplogojbaaGreatDoor
open Go Go.DL Go.ChangeShapes Go.WideShapes Go.ChangeAt Go.RowKit
theorem own:ownKnob Tryz.prog.godebug=none:=by kernel_rfl
theorem laid:laidOutB Tryz.prog=true:=by kernel_rfl
abbrev aEi:List (String×DataW Unit):=[("math/bits.deBruijn32tab", Rows.laid_math_bits_deBruijn32tab), ("math/bits.deBruijn64tab", Rows.laid_math_bits_deBruijn64tab), ("internal/strconv.uint64pow10", Rows.laid_internal_strconv_uint64pow10), ("unicode/utf8.acceptRanges", Rows.laid_unicode_utf8_acceptRanges), ("strconv.ErrRange", Rows.laid_strconv_ErrRange), ("strconv.ErrSyntax", Rows.laid_strconv_ErrSyntax), ("unicode/utf8.first", Rows.laid_unicode_utf8_first)]
theorem g32:Tryz.prog.globalNamed "math/bits.deBruijn32tab" = some 4:=by kernel_rfl
theorem g64:Tryz.prog.globalNamed "math/bits.deBruijn64tab" = some 5:=by kernel_rfl
theorem gp10:Tryz.prog.globalNamed "internal/strconv.uint64pow10" = some 0:=by kernel_rfl
theorem aMF(os:Os)(args:Array Value):laidMetH Tryz.prog aEi ((World.laidAll Tryz.prog os aEi).forCall (λ_ _=>0) ⟨#[],args,[]⟩).memory:=by
 rw[MakeChecks.laidMetH_plain _ _ _ (by kernel_rfl)];exact laidMet_laidAll _ (by kernel_rfl) (by kernel_rfl)
theorem aJK{k:IntKind}{P:Program}{H:Type}{enc:TypeId×Value->H}{W:World}{sp:Nat->Bool}{nm:String}{g t e n fuel:Nat}{ls:List Int}(hg:P.globalNamed nm=some g)(hu:P.underlying t=some (.array n e))(he:P.underlying e=some (.int k))(hc:P.cellsOf e=1)
 {cs:Array Value} {p:List MemPlace} (hv:W.var? P nm=some cs) (hd:DataW.trod enc P W 0 sp false fuel t cs.toList=some (.agg (ls.map λv=>.lit (.int k v)),p)):∀(j:Nat)(v:Int),ls[j]?=some v->cs[j]?=some (Value.int k v):=by
 intro j v hj;obtain⟨xs,m,rfl,hx,_,hn,hel⟩:=DataW.trod_array hu hd;simp only[B9,DataW.agg.injEq]at hx;have hjl:j<xs.length:=by
  have:=AAs List.length hx.1
  grind
 have h0:=hel j AS;rw[B7 hjl,hc,aE3]at h0;obtain⟨k',e1,e2,_⟩:=DataW.trod_int he h0;have hk:k'=v:=by
  have h1:(xs.map (·.1))[j]?=some (DataW.lit (Lit.int k k')):=by grind
  grind
 subst hk;rw[<-I0];have:(cs.toList.drop j)[0]?=some (Value.int k k'):=by
  have h2:((cs.toList.drop j).take 1)[0]?=some (Value.int k k'):=by rw[e1];rfl
  grind
 grind
theorem wF{P:Program}{W:World}{nm:String}{g:Nat}{cs:Array Value}(hg:P.globalNamed nm=some g)(h:W.var? P nm=some cs):∃ e fr,W.heap[g]?=some (.cells cs e fr):=by
 simp only[World.var?,hg,D9]at h
 grind
abbrev p10:List Int:=(List.range 20).map λi=>((10^i:Nat):Int)
abbrev aYS:List Int:=(match aBn 4 with|some l=>l.map (λc=>(match c with | .int _ n=>n|_=>0))|none=>[])
abbrev aYR:List Int:=(match aBn 5 with|some l=>l.map (λc=>(match c with | .int _ n=>n|_=>0))|none=>[])
theorem aDh{H:Type}{enc:TypeId×Value->H}{P:Program}{W:World}{sp:Nat->Bool}{held:Bool}{fuel t:Nat}{cs:List Value}{x:DataW H×List MemPlace}(ht:∃ m,P.underlying t=some (.interface m))(h:DataW.trod enc P W 0 sp held fuel t cs=some x):∃ v,cs=[v]/\(v = .nilIface\/∃ te pe,v = .iface te pe):=by
 obtain⟨m,ht⟩:=ht;cases fuel with
 | zero=>simp[DataW.trod]at h
 | succ n =>
   unfold DataW.trod at h
   grind
theorem aIY{P:Program}{t:TypeId}(h:(match P.underlying t with|some (.interface _)=>true|_=>false)=true):∃ m,P.underlying t=some (.interface m):=by
 grind
theorem gEr:Tryz.prog.globalNamed "strconv.ErrRange" = some 2:=by kernel_rfl
theorem gEs:Tryz.prog.globalNamed "strconv.ErrSyntax" = some 1:=by kernel_rfl
theorem bBg{W:World}(h:laidMetH Tryz.prog aEi W)(hs:W.ShapedOpen Tryz.prog):GI (λb=>b<W.heap.size) W:=by
 rw[MakeChecks.laidMetH_plain _ _ _ (by kernel_rfl)]at h;obtain⟨ps,⟨i0,t0,cs0,f0,p0,q0,hg0,ht0,hv0,hd0,⟨i1,t1,cs1,f1,p1,q1,hg1,ht1,hv1,hd1,⟨i2,t2,cs2,f2,p2,q2,hg2,ht2,hv2,hd2,⟨i3,t3,cs3,f3,p3,q3,hg3,ht3,hv3,hd3,⟨i4,t4,cs4,f4,p4,q4,hg4,ht4,hv4,hd4,⟨i5,t5,cs5,f5,p5,q5,hg5,ht5,hv5,hd5,_,_⟩,_⟩,_⟩,_⟩,_⟩,_⟩,_,_⟩:=h;obtain rfl:=Option.some.inj (gEr.symm.trans hg4);obtain rfl:=Option.some.inj (gEs.symm.trans hg5);obtain rfl:=Option.some.inj (g32.symm.trans hg0);obtain rfl:=Option.some.inj (g64.symm.trans hg1);obtain rfl:=Option.some.inj (gp10.symm.trans hg2);have e0:t0=(Tryz.prog.globals[4]?.map (·.type)).getD 0:=by grind
 have e1:t1=(Tryz.prog.globals[5]?.map (·.type)).getD 0:=by grind
 have e2:t2=(Tryz.prog.globals[0]?.map (·.type)).getD 0:=by grind
 have k0:=aJK (k:=.u8) (ls:=aYS) g32 (t:=t0) (n:=32) (e:=5) (by rw[e0];kernel_rfl) Tryz.underlying5 (by kernel_rfl) hv0 hd0;have k1:=aJK (k:=.u8) (ls:=aYR) g64 (t:=t1) (n:=64) (e:=5) (by rw[e1];kernel_rfl) Tryz.underlying5 (by kernel_rfl) hv1 hd1;have k2:=aJK (k:=.u64) (ls:=p10) gp10 (t:=t2) (n:=20) (e:=194) (by rw[e2];kernel_rfl) Tryz.underlying194 (by kernel_rfl) hv2 hd2;obtain⟨xs,m,_,_,hsz,_,_⟩:=DataW.trod_array (t:=t2) (n:=20) (e:=194) (by rw[e2];kernel_rfl) hd2;have hsz:cs2.size=20:=by rw[<-G7,hsz,e2];kernel_rfl
 have c2:cs2=((List.range 20).map λi=>Value.int .u64 ((10^i:Nat):Int)).toArray:=by
  apply aD1;intro j;have el:∀ l:List Value,l.toArray[j]?=l[j]?:=λl=>by simp
  refine Eq.trans ?_ (el _).symm;rw[C3];by_cases hj:j<20
  .rw[List.getElem?_range hj,D1]
   exact k2 j _ (by simp_all)
  simp_all
 obtain⟨x0,fr0,hh0⟩:=wF g32 hv0;obtain⟨x1,fr1,hh1⟩:=wF g64 hv1;obtain⟨x2,fr2,hh2⟩:=wF gp10 hv2;have lt:∀{g:Nat}{o:Obj},W.heap[g]?=some o->g<W.heap.size:=λh=>by
  grind
 have fin:∀(g:Nat)(k:IntKind)(ls:List Int)(cs:Array Value)(e:TypeId)(fr:Nat×Nat),W.heap[g]?=some (.cells cs e fr)->(∀(j:Nat)(v:Int),ls[j]?=some v->cs[j]?=some (Value.int k v)) ->
  g<W.heap.size/\∃ gv:Nat->Value,(∀ j,(gv j).oneCell'=true)/\∀ j c,(ls.map λv=>AV.int k v)[j]?=some c->W.cell? ⟨g,j,none⟩=some (gv j)/\Rv (λb=>b<W.heap.size) W c (gv j):=by
  intro g k ls cs e fr hg h;refine⟨lt hg,λj=>.int k (ls.getD j 0),λ_=>rfl,λj c hj=>?_⟩;rw[C3,B2]at hj;obtain⟨v,hv,rfl⟩:=hj;have:ls.getD j 0=v:=by grind
  dsimp only;rw[this];refine⟨?_,.int _ _⟩;simp only[World.cell?,hg];exact h j v hv
 have e4:t4=(Tryz.prog.globals[2]?.map (·.type)).getD 0:=by grind
 have e5:t5=(Tryz.prog.globals[1]?.map (·.type)).getD 0:=by grind
 have ifc:∀(g:Nat)(cs:Array Value)(v:Value),(∃ e fr,W.heap[g]?=some (.cells cs e fr))->cs.toList=[v]->g<W.heap.size/\W.cell? ⟨g,0,none⟩=some v:=by
  rintro g cs v ⟨e,fr,hh⟩ hc;refine⟨lt hh,?_⟩;simp only[World.cell?,hh];rw[<-I0,hc];rfl
 refine⟨λg row hr=>?_,λg hg=>?_,λp hp=>?_,λg hg=>?_⟩
 .unfold aBn at hr
  by_cases h0:g=0
  .rw[if_pos h0]at hr
   simp only[oSI]at hr;rw[<-hr,h0];exact fin 0 .u64 p10 _ _ _ hh2 k2
  .rw[if_neg h0]at hr
   by_cases h1:g=4
   .rw[if_pos h1]at hr
    simp only[oSI]at hr;rw[<-hr,h1];exact fin 4 .u8 aYS _ _ _ hh0 k0
   .rw[if_neg h1]at hr
    by_cases h2:g=5
    .rw[if_pos h2]at hr
     simp only[oSI]at hr;rw[<-hr,h2];exact fin 5 .u8 aYR _ _ _ hh1 k1
    grind
 .have hg3:g=3:=by simpa [aEt]using hg
  subst hg3;obtain⟨n,hn⟩:=cell_of_shapedOpen_int (P:=Tryz.prog) (g:=3) (t:=3) (zero := #[.int .i64 0]) (k:=.i64) hs (of_decide_eq_true (by kernel_rfl)) (by kernel_rfl) rfl (by kernel_rfl) (by kernel_rfl) Tryz.underlying3
  grind
 .have hp0:p=(0,(List.range 20).map λi=>Value.int .u64 ((10^i:Nat):Int)):=by simpa [aEu]using hp
  grind
 .have hg2:g=1\/g=2:=by simpa [aCX]using hg
  rcases hg2 with rfl|rfl
  .obtain⟨v,h1,h2⟩:=aDh (t:=t5) (by rw[e5];exact aIY (by kernel_rfl)) hd5
   obtain⟨k1,k2⟩:=ifc 1 cs5 v (wF gEs hv5) h1;exact⟨k1,v,k2,h2⟩
  .obtain⟨v,h1,h2⟩:=aDh (t:=t4) (by rw[e4];exact aIY (by kernel_rfl)) hd4
   obtain⟨k1,k2⟩:=ifc 2 cs4 v (wF gEr hv4) h1;exact⟨k1,v,k2,h2⟩
end Go.Proofs.YtfcdcgplogojbaaGreatDoor
