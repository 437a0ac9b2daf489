/- Parts of a proof, joined: Q12 Q13 Q14 Q15 Q16 Q17 Q18 Q19 Q20 Q21 Q22 Y2 Q23 Q24 Q25 Q26 Q27 Q28 Q29 Q30 Q31 Q32 Q33 Q34 Q35 Q36 Q37 Q38 Q39 Q40 Q41 Q42 R1. No statement of the seed is proved here. -/
import Derived.Lib.AtoiAllCases
import Derived.KernelRfl
import Derived.Test.YtmapgnepfgnphaaGreatDoorH7
set_option linter.unusedSimpArgs false
set_option linter.unusedVariables false
set_option linter.unusedSectionVars false
set_option maxRecDepth 100000
set_option maxHeartbeats 4000000
namespace Go.Proofs.YtmapgnepfgnphaaGreatDoor
open Go Go.DL
variable{h h' h1:XH}{L:CL}{s:dD}{x:ByteArray}
theorem w88(ly:Lays h L s){b0 b1:Nat}{f z:AV}(o:Out L s [b0,b1])(k0:aG h b0=some (.cells true [.pt L.c 0]))(k1:aG h b1=some (.cells true [f,.fs [[.str x]],z]))(hx:dE (s.farmers.map (·.1)) x=none)(hl:s.farmers.length≤1000) :
 ∃ h' L',runW aD 88 [.pt b0 0,.pt b1 0] h=some (.tup [],h')∧Lays h' L' { s with farmers:=s.farmers++[(x,0)] }∧L'.c=L.c∧Fr (sI L s) h h'∧Sb h.length L s L' { s with farmers:=s.farmers++[(x,0)] }:=by
 obtain⟨g0,j0⟩:=aB k0;obtain⟨g1,j1⟩:=aB k1;obtain⟨g4,hc⟩:=aB ly.hc;unfold cG at hc;obtain⟨h1,call,hl1,od1,fr1⟩:=ly.f.newf hx (by rw[B0];exact hl);rw[B0]at fr1;obtain⟨g6,i0⟩:=aB (fr1.keepS k0 (ly.px_out (j:=3) o (by simp)));obtain⟨g7,i1⟩:=aB (fr1.keepS k1 (ly.px_out (j:=3) o (by simp)));obtain⟨g8,ic⟩:=aB (fr1.keepS ly.hc (ly.off (i:=0) (j:=3) (by decide) (by simp[px])));refine⟨_,_,?_,ly.addF od1 fr1,rfl,Fr.px (j:=3) fr1,.of rfl (aAs rfl) (qP rfl) (fun b hb=>mW hb) (cM rfl) (cM rfl) (cM rfl)⟩;rw[qY 88 x88 rfl];unfold x88;dsimp only;(exact RS7 j0 j1 hc call i0 i1 ic)
theorem eJ{b n:Nat}(h:0<n):iC b n = .sl b 0 1 n:=by
 unfold iC;rw[if_neg (by omega)]
theorem w92(ly:Lays h L s){b0:Nat}(k0:aG h b0=some (.cells true [.pt L.c 0]))(hk:0<s.tickets.length) :
 ∃ h',runW aD 92 [.pt b0 0] h=some (.tup [],h')∧Lays h' L { s with closed:=s.tickets.length }∧Fr (sI L s) h h':=by
 obtain⟨g0,j0⟩:=aB k0;obtain⟨g4,hc⟩:=aB ly.hc;unfold cG at hc;rw[eJ hk]at hc;have cl:=aF ly.hc;have fr:Fr [L.c] h (h.set L.c (some (.blk g4 (.cells true (cG L { s with closed:=s.tickets.length }))))):=(Fr.refl _ h).set (by simp) _;refine⟨_,?_,ly.close (cl:=s.tickets.length) (by rw[cJ,if_pos rfl,if_pos cl]) fr,Fr.px (j:=0) fr⟩;rw[qY 92 x92 rfl];unfold x92 cG;dsimp only;have hv:=eJ (b:=L.tb) hk;(exact RS3 j0 hc hv)
def aHG(c e:Nat):XH:=[some (.blk false (.cells true [.pt c 0])),some (.blk false (.cells true [.pt e 0]))]
theorem Tk.at{tb:Nat}{te:List Nat}{ks:List CTk}(t:Tk h tb te ks){i:Nat}{k:CTk}(hk:ks[i]?=some k):∃ e,te[i]?=some e∧aG h e=some (.cells true (tkC k))∧aG h tb=some (.cells true (te.map fun e=>.pt e 0))∧i<te.length:=by
 have hl:i<ks.length:=(A5.1 hk).1;have h2:i<te.length:=by rw[t.el];exact hl
 have he:=A7 h2;exact⟨_,he,t.he i _ k he hk,t.hb (by omega),h2⟩
theorem w91(ly:Lays h L s){i:Nat}{k:CTk}(hk:s.tickets[i]?=some k)(hv:k.void=false)(hcl:s.closed≤i) :
 ∃ e,L.te[i]?=some e∧runW aD 91 [.pt L.c 0,I i] h=some (.fn (.func 130) [] [.pt (h.length+1) 0,.pt h.length 0],h++aHG L.c e):=by
 obtain⟨n,hn⟩:∃ n,h.length=n:=⟨_,rfl⟩;obtain⟨e,he,hke,hb,hi⟩:=ly.tk.at hk;have hl:i<s.tickets.length:=by rw[←ly.tk.el];exact hi
 obtain⟨g,hc⟩:=aB ly.hc;unfold cG at hc;rw[eJ (by omega)]at hc;obtain⟨g1,hb1⟩:=aB hb;obtain⟨g2,hk2⟩:=aB hke;unfold tkC at hk2;rw[hv]at hk2;have cn:(L.c<n)=True:=AAm (by rw[←hn];exact aF ly.hc);have bn:(L.tb<n)=True:=AAm (by rw[←hn];exact aF hb);have en:(e<n)=True:=AAm (by rw[←hn];exact aF hke);have t1:((i:Int)<(s.tickets.length:Int))=True:=AAa;have t2:((s.closed:Int)≤(i:Int))=True:=AAa;have m1:=uQ 5;have m2:=uQ 6;have m3:=uQ 23;have mp:(some e).map (fun e=>AV.pt e 0)=some (.pt e 0):=rfl;refine⟨e,he,?_⟩;rw[qY 91 x91 rfl,hn];unfold x91 aHG;dsimp only;(exact xX hc hn cn bn en hb1 hk2 t1 t2 m1 m2 m3 he mp aE aE aE aE aE aE)
theorem bBc(ly:Lays h L s){i:Nat}(hi:s.tickets.length≤i):CalP Tryz.prog aD 91 [.pt L.c 0,I i] h (.ifc 110 (.agg [I 5])) (h++[some (.blk false (.cells true [.pt L.c 0]))]):=by
 refine CalP.of (d:=x91) (e':=bW [] []) aA rfl (by simp[x91]) rfl ?_;unfold x91;dsimp only;obtain⟨n,hn⟩:∃ n,h.length=n:=⟨_,rfl⟩;obtain⟨g,hc⟩:=aB ly.hc;unfold cG at hc;have cn:(L.c<n)=True:=AAm (by rw[←hn];exact aF ly.hc);refine PanX.seqR (K:=91) aA rfl [1,2] (vs:=[I i,.pt n 0]) (h1:=h++[some (.blk false (.cells true [.pt L.c 0]))]) (by rw[hn]; (exact eD hn)) ?_;refine PanX.seqL ?_;refine PanX.reg (p:=[⟨0,some 6,.mv (.t 1),none⟩,⟨0,some 7,.load false 1 (.t 2),none⟩,⟨0,some 8,.nilck (.t 7),none⟩,⟨0,some 9,.fld 4 (.t 8),none⟩,⟨0,some 10,.load false 1 (.t 9),none⟩,⟨0,some 11,.len false (.t 10),none⟩,⟨0,some 12,.bin .lss (.t 6) (.t 11),none⟩]) (post:=[]) aA [] (g:=58) (first:=[]) (cap:=[]) (args:=[.bool false,I 5]) (vs:=[]) rfl rfl ?_ (c58 5 _);by_cases hk:0<s.tickets.length
 ·rw[eJ hk]at hc
  have t1:((i:Int)<(s.tickets.length:Int))=False:=AAb;(exact zY hc hn cn t1)
 ·have h0:s.tickets.length=0:=by omega
  have hv:iC L.tb s.tickets.length = .nilsl:=by rw[h0];rfl
  rw[hv]at hc;have t1:((i:Int)<0)=False:=AAb;(exact zY hc hn cn t1)
theorem bBb(ly:Lays h L s){i:Nat}{k:CTk}(hk:s.tickets[i]?=some k)(hv:k.void=true):∃ e,CalP Tryz.prog aD 91 [.pt L.c 0,I i] h (.ifc 110 (.agg [I 6])) (h++aHG L.c e):=by
 obtain⟨n,hn⟩:∃ n,h.length=n:=⟨_,rfl⟩;obtain⟨e,he,hke,hb,hi⟩:=ly.tk.at hk;have hl:i<s.tickets.length:=by rw[←ly.tk.el];exact hi
 obtain⟨g,hc⟩:=aB ly.hc;unfold cG at hc;rw[eJ (by omega)]at hc;obtain⟨g1,hb1⟩:=aB hb;obtain⟨g2,hk2⟩:=aB hke;unfold tkC at hk2;rw[hv]at hk2;have cn:(L.c<n)=True:=AAm (by rw[←hn];exact aF ly.hc);have bn:(L.tb<n)=True:=AAm (by rw[←hn];exact aF hb);have en:(e<n)=True:=AAm (by rw[←hn];exact aF hke);have t1:((i:Int)<(s.tickets.length:Int))=True:=AAa;have m1:=uQ 5;have mp:(some e).map (fun e=>AV.pt e 0)=some (.pt e 0):=rfl;refine⟨e,CalP.of (d:=x91) (e':=bW [] []) aA rfl (by simp[x91]) rfl ?_⟩;unfold x91 aHG;dsimp only;refine PanX.seqR (K:=91) aA rfl [1,2] (vs:=[I i,.pt n 0]) (h1:=h++[some (.blk false (.cells true [.pt L.c 0]))]) (by rw[hn]; (exact eD hn)) ?_;refine PanX.seqR (K:=91) aA rfl [1,2] (vs:=[I i,.pt n 0]) (h1:=h++[some (.blk false (.cells true [.pt L.c 0]))]) (by (exact RS5 hc hn cn t1 m1)) ?_;refine PanX.seqR (K:=91) aA rfl [1,2,5] (vs:=[I i,.pt n 0,.pt (n+1) 0]) (h1:=h++[some (.blk false (.cells true [.pt L.c 0])),some (.blk false (.cells true [.pt e 0]))]) (by (exact xY hc hn cn bn en hb1 hk2 t1 he mp)) ?_;refine PanX.seqL ?_;exact PanX.reg (p:=[⟨0,some 21,.load false 1 (.t 5),none⟩,⟨0,some 22,.nilck (.t 21),none⟩,⟨0,some 23,.fld 3 (.t 22),none⟩,⟨0,some 24,.load false 1 (.t 23),none⟩,⟨0,some 25,.not (.t 24),none⟩]) (post:=[]) aA [] (g:=58) (first:=[]) (cap:=[]) (args:=[.bool false,I 6]) (vs:=[]) rfl rfl (by (exact RS3 hn en hk2)) (c58 6 _)
theorem bBa(ly:Lays h L s){i:Nat}{k:CTk}(hk:s.tickets[i]?=some k)(hv:k.void=false)(hcl:i<s.closed):∃ e,CalP Tryz.prog aD 91 [.pt L.c 0,I i] h (.ifc 110 (.agg [I 23])) (h++aHG L.c e):=by
 obtain⟨n,hn⟩:∃ n,h.length=n:=⟨_,rfl⟩;obtain⟨e,he,hke,hb,hi⟩:=ly.tk.at hk;have hl:i<s.tickets.length:=by rw[←ly.tk.el];exact hi
 obtain⟨g,hc⟩:=aB ly.hc;unfold cG at hc;rw[eJ (by omega)]at hc;obtain⟨g1,hb1⟩:=aB hb;obtain⟨g2,hk2⟩:=aB hke;unfold tkC at hk2;rw[hv]at hk2;have cn:(L.c<n)=True:=AAm (by rw[←hn];exact aF ly.hc);have bn:(L.tb<n)=True:=AAm (by rw[←hn];exact aF hb);have en:(e<n)=True:=AAm (by rw[←hn];exact aF hke);have t1:((i:Int)<(s.tickets.length:Int))=True:=AAa;have t2:((s.closed:Int)≤(i:Int))=False:=AAb;have m1:=uQ 5;have m2:=uQ 6;have mp:(some e).map (fun e=>AV.pt e 0)=some (.pt e 0):=rfl;refine⟨e,CalP.of (d:=x91) (e':=bW [] []) aA rfl (by simp[x91]) rfl ?_⟩;unfold x91 aHG;dsimp only;refine PanX.seqR (K:=91) aA rfl [1,2] (vs:=[I i,.pt n 0]) (h1:=h++[some (.blk false (.cells true [.pt L.c 0]))]) (by rw[hn]; (exact eD hn)) ?_;refine PanX.seqR (K:=91) aA rfl [1,2] (vs:=[I i,.pt n 0]) (h1:=h++[some (.blk false (.cells true [.pt L.c 0]))]) (by (exact RS5 hc hn cn t1 m1)) ?_;refine PanX.seqR (K:=91) aA rfl [1,2,5] (vs:=[I i,.pt n 0,.pt (n+1) 0]) (h1:=h++[some (.blk false (.cells true [.pt L.c 0])),some (.blk false (.cells true [.pt e 0]))]) (by (exact xY hc hn cn bn en hb1 hk2 t1 he mp)) ?_;refine PanX.seqR (K:=91) aA rfl [1,2,5] (vs:=[I i,.pt n 0,.pt (n+1) 0]) (h1:=h++[some (.blk false (.cells true [.pt L.c 0])),some (.blk false (.cells true [.pt e 0]))]) (by (exact zY hn en hk2 m2)) ?_;refine PanX.seqL ?_;exact PanX.reg (p:=[⟨0,some 27,.mv (.t 1),none⟩,⟨0,some 28,.load false 1 (.t 2),none⟩,⟨0,some 29,.nilck (.t 28),none⟩,⟨0,some 30,.fld 5 (.t 29),none⟩,⟨0,some 31,.load false 1 (.t 30),none⟩,⟨0,some 32,.bin .geq (.t 27) (.t 31),none⟩]) (post:=[]) aA [] (g:=58) (first:=[]) (cap:=[]) (args:=[.bool false,I 23]) (vs:=[]) rfl rfl (by (exact zY hn cn hc t2)) (c58 23 _)
theorem aXv(ly:Lays h L s){b0 b1 i e j:Nat}{k:CTk}{v:Int}(o:Out L s [b0,b1])(k0:aG h b0=some (.cells true [.pt e 0]))(k1:aG h b1=some (.cells true [.pt L.c 0]))(hk:s.tickets[i]?=some k)(he:L.te[i]?=some e)(hx:dE (s.farmers.map (·.1)) k.farmer=some j)(hy:s.farmers[j]?=some (k.farmer,v))(hb : -1000000000≤v∧v≤1000000000∧0≤k.net∧k.net≤99999) :
 ∃ h',runW aD 130 [.pt b0 0,.pt b1 0] h=some (.tup [],h')∧Lays h' L { s with tickets:=s.tickets.set i { k with void:=true },farmers:=eV s.farmers k.farmer (-k.net) }∧Fr (sI L s) h h':=by
 obtain⟨e',he',hke,hb1,hi⟩:=ly.tk.at hk;rw[he]at he';cases he';have em:=A8 he;obtain⟨g0,j0⟩:=aB k0;obtain⟨g1,j1⟩:=aB k1;obtain⟨g4,hc⟩:=aB ly.hc;obtain⟨g2,hk2⟩:=aB hke;have ly2:=ly.tickSet (k:={ k with void:=true }) (g:=g2) he;obtain⟨fe,v',hfe,hv',hfv,call⟩:=ly2.f.getf hx;rw[A9,hy]at hv';cases hv';have hfv:aG (h.set e (some (.blk g2 (.cells true (tkC { k with void:=true }))))) fe=some (.cells true [I v]):=hfv;obtain⟨g5,hf5⟩:=aB hfv;have el:(e<h.length)=True:=AAm (aF hke);have ep:e∈px L s 1:=E5 _ em;have fp:fe∈px L s 3:=wC hfe;have n1:(b0=e)=False:=AAn fun q=>ly.px_out (j:=1) o (b:=b0) (by simp) (q▸ep);have n2:(b1=e)=False:=AAn fun q=>ly.px_out (j:=1) o (b:=b1) (by simp) (q▸ep);have n3:(L.c=e)=False:=AAn fun q=>ly.off (i:=1) (j:=0) (by decide) ep (by simp[px,q]);have n4:(fe=e)=False:=AAn fun q=>ly.off (i:=1) (j:=3) (by decide) ep (q▸fp);have a1:IntKind.i64.wrap (v-k.net)=v + -k.net:=by rw[aJ (by omega) (by omega)];omega
 have z:=ly2.oldF (g:=g5) (y:=v + -k.net) hx hfe;have ha:=gG (d := -k.net) hx (by rw[A9,hy];rfl);refine⟨_,?_,by rw[ha];exact z,((Fr.refl _ h).set (bJ.2 ⟨1,ep⟩) _).set (bJ.2 ⟨3,fp⟩) _⟩;rw[qY 130 aOg rfl];unfold aOg;dsimp only;unfold cG at hc;unfold tkC at hk2 call hf5 ⊢;dsimp only at call hf5 ⊢;have so:∀ a:ByteArray,cN (.str a) (.str a)=true:=by intro a;simp[cN]
 have hf6:hat h fe=some (.blk g5 (.cells true [I v])):=by
  rw[Pq,if_neg (by rw[n4];exact id)]at hf5;exact hf5
 (exact aBY j0 j1 hc hk2 call hf6 el n1 n2 n3 n4 a1 so)
variable{h h' h1:XH}{L:CL}{s:dD}{x:ByteArray}
def oE(h:XH)(b n:Nat):XH:=if n=0 then h else h.set b none
theorem kD{b n:Nat}:(oE h b n).length=h.length:=by
 unfold oE;split<;>simp
theorem aPp{b n j:Nat}(hj:j∉mO b n):aG (oE h b n) j=aG h j:=by
 unfold oE;split;·rfl
 ·rename_i hn
  exact aDi fun q=>hj (bQ.2 ⟨by omega,q⟩)
theorem Fr.off{J:List Nat}(f:Fr J h h1){b n:Nat}(hb:∀ j,j∈mO b n→j∈J):Fr J h (oE h1 b n):=by
 unfold oE;split;·exact f
 ·rename_i hn
  exact f.set (hb b (bQ.2 ⟨by omega,rfl⟩)) _
theorem aSh{h k:XH}(i:Nat):hat (h++k) (h.length+i)=hat k i:=by
 rw[Pr,if_neg (by omega)];congr 1;omega
theorem Lays.tickNew(ly:Lays h L s){k:CTk}{g g1 g2 g3:Bool}{cs:List AV}(hcs:cs=cG { L with tb:=h.length+2 } { s with tickets:=s.tickets++[k] }) :
 Lays ((oE h L.tb s.tickets.length).set L.c (some (.blk g (.cells true cs)))++[some (.blk g1 (.cells true (tkC k))),some (.blk g2 (.cells true [.pt h.length 0])),some (.blk g3 (.cells true (L.te.map (fun e=>.pt e 0)++[.pt h.length 0])))]) { L with tb:=h.length+2,te:=L.te++[h.length] } { s with tickets:=s.tickets++[k] } ∧
  Fr (L.c::mO L.tb s.tickets.length) h ((oE h L.tb s.tickets.length).set L.c (some (.blk g (.cells true cs)))++[some (.blk g1 (.cells true (tkC k))),some (.blk g2 (.cells true [.pt h.length 0])),some (.blk g3 (.cells true (L.te.map (fun e=>.pt e 0)++[.pt h.length 0])))]):=by
 subst hcs;have cl:=aF ly.hc
 have fr:Fr (L.c::mO L.tb s.tickets.length) h ((oE h L.tb s.tickets.length).set L.c (some (.blk g (.cells true (cG { L with tb:=h.length+2 } { s with tickets:=s.tickets++[k] }))))++[some (.blk g1 (.cells true (tkC k))),some (.blk g2 (.cells true [.pt h.length 0])),some (.blk g3 (.cells true (L.te.map (fun e=>.pt e 0)++[.pt h.length 0])))]) :=
  (((Fr.refl _ h).off fun j hj=>C8 _ hj).set aB5 _).add _
 refine⟨ly.tickApp (k:=k) (B7 _) (by omega) (by omega) ?_ ?_ ?_ fr,fr⟩;·rw[fA,if_pos (by rw[C0,kD];exact cl),cJ,if_pos rfl,if_pos (by rw[kD];exact cl)]
 ·have hl:((oE h L.tb s.tickets.length).set L.c (some (.blk g (.cells true (cG { L with tb:=h.length+2 } { s with tickets:=s.tickets++[k] }))))).length=h.length:=by rw[C0,kD]
  rw[fA,hl,if_neg (by omega),show h.length+2-h.length=2 by omega];rfl
 ·have hl:((oE h L.tb s.tickets.length).set L.c (some (.blk g (.cells true (cG { L with tb:=h.length+2 } { s with tickets:=s.tickets++[k] }))))).length=h.length:=by rw[C0,kD]
  rw[fA,hl,if_neg (by omega),show h.length-h.length=0 by omega];rfl
theorem Lays.tickNew2(ly:Lays h L s){k:CTk}{n:Nat}{g g1 g2 g3:Bool}{cs:List AV}(hn:h.length=n)(hcs:cs=cG { L with tb:=n+2 } { s with tickets:=s.tickets++[k] })(hh:h'=(oE h L.tb s.tickets.length).set L.c (some (.blk g (.cells true cs)))++[some (.blk g1 (.cells true (tkC k))),some (.blk g2 (.cells true [.pt n 0])),some (.blk g3 (.cells true (L.te.map (fun e=>.pt e 0)++[.pt n 0])))]) :
 Lays h' { L with tb:=n+2,te:=L.te++[n] } { s with tickets:=s.tickets++[k] }∧Fr (L.c::mO L.tb s.tickets.length) h h':=by
 subst hn hh;exact ly.tickNew hcs
def eK(s:dD)(name owner:ByteArray)(full empty:Int):dD :=
 { s with wagons:=gM id empty name s.wagons,farmers:=eV s.farmers owner (full-empty),tickets:=s.tickets++[⟨name,owner,full-empty,false⟩] }

theorem aKy(ly:Lays h L s){b0 b1 b2 b3 b4 b5 fe j i:Nat}{name owner:ByteArray}{full empty v:Int}(o:Out L s [b0,b1,b2,b3,b4,b5])(k0:aG h b0=some (.cells true [.pt L.c 0]))(k1:aG h b1=some (.cells true [.str name]))(k2:aG h b2=some (.cells true [I empty]))(k3:aG h b3=some (.cells true [.pt fe 0]))(k4:aG h b4=some (.cells true [I full]))(k5:aG h b5=some (.cells true [.str owner]))
 (hfe:L.f.es[j]?=some fe) (hj:dE (s.farmers.map (·.1)) owner=some j) (hy:s.farmers[j]?=some (owner,v)) (hb : -1000000000≤v∧v≤1000000000∧0≤empty∧empty≤full∧full≤99999) (hl:s.wagons.length≤1000) (hl2:s.tickets.length≤1000) (hx:dE (s.wagons.map (·.1)) name=some i) (ht:s.tickets.length=0) :
 ∃ h' L',runW aD 128 [.pt b0 0,.pt b1 0,.pt b2 0,.pt b3 0,.pt b4 0,.pt b5 0] h=some (.tup [],h')∧Lays h' L' (eK s name owner full empty)∧L'.c=L.c∧Fr (sI L s) h h'∧Sb h.length L s L' (eK s name owner full empty):=by
 obtain⟨g0,j0⟩:=aB k0;obtain⟨g1,j1⟩:=aB k1;have a1:IntKind.i64.wrap (full-empty)=full-empty:=aJ (by omega) (by omega);have a2:IntKind.i64.wrap (v+(full-empty))=v+(full-empty):=aJ (by omega) (by omega);have fp:fe∈px L s 3:=wC hfe;have hfv:aG h fe=some (.cells true [I v]):=ly.f.he hfe (by rw[A9,hy];rfl);obtain⟨e,v',he,hv,hev,call⟩:=ly.w.oldw hx;obtain⟨em,hy2⟩:=rI hx;have hm:gM id empty name s.wagons=s.wagons:=by
  rw[oG hx hy2];exact N5 fun q=>by
   by_cases hq:q=i;·subst hq;rw[M5 (A5.1 hy2).1,hy2];rfl
   ·rw[aA3 (Ne.symm hq)]
 obtain⟨g6,hc⟩:=aB ly.hc;unfold cG at hc;obtain⟨g2,j2⟩:=aB k2;obtain⟨g3,j3⟩:=aB k3;obtain⟨g4,j4⟩:=aB k4;obtain⟨g5,j5⟩:=aB k5;obtain⟨g7,hf5⟩:=aB hfv;obtain⟨n,hn⟩:∃ n,h.length=n:=⟨_,rfl⟩;have lyF:=ly.oldF (g:=g7) (y:=v+(full-empty)) hj hfe;have frF:Fr (sI L s) h (h.set fe (some (.blk g7 (.cells true [I (v+(full-empty))])))):=(Fr.refl _ h).set (bJ.2 ⟨3,fp⟩) _;have ha:=gG (d:=full-empty) hj (by rw[A9,hy];rfl);have b0f:(b0=fe)=False:=AAn fun q=>ly.px_out (j:=3) o (b:=b0) (by simp) (q▸fp);have b1f:(b1=fe)=False:=AAn fun q=>ly.px_out (j:=3) o (b:=b1) (by simp) (q▸fp);have b2f:(b2=fe)=False:=AAn fun q=>ly.px_out (j:=3) o (b:=b2) (by simp) (q▸fp);have b4f:(b4=fe)=False:=AAn fun q=>ly.px_out (j:=3) o (b:=b4) (by simp) (q▸fp);have b5f:(b5=fe)=False:=AAn fun q=>ly.px_out (j:=3) o (b:=b5) (by simp) (q▸fp);have cf:(L.c=fe)=False:=AAn fun q=>ly.off (i:=3) (j:=0) (by decide) fp (by simp[px,q]);have bl:∀ b c,aG h b=some c→(b<n)=True:=fun b c hb=>AAm (by have:=aF hb;omega);have l0:=bl _ _ k0;have l1:=bl _ _ k1;have l2:=bl _ _ k2;have l4:=bl _ _ k4;have l5:=bl _ _ k5;have lf:=bl _ _ hfv;have lc:=bl _ _ ly.hc;have te0:L.te=[]:=C5 (by rw[ly.tk.el];exact ht);have hv:iC L.tb s.tickets.length = .nilsl:=by rw[ht];rfl
 rw[hv]at hc;have hbl:(h.set fe (some (.blk g7 (.cells true [I (v+(full-empty))])))).length=n:=(by simpa using hn);have walk:runW aD 128 [.pt b0 0,.pt b1 0,.pt b2 0,.pt b3 0,.pt b4 0,.pt b5 0] h=some (.tup [],(h.set fe (some (.blk g7 (.cells true [I (v+(full-empty))])))).set L.c (some (.blk false (.cells true [.pt L.f.o 0,.pt L.m.o 0,.pt L.p.o 0,.pt L.w.o 0,.sl (n+2) 0 1 1,I s.closed,iC L.kb s.book.length])))++[some (.blk true (.cells true [.str name,.str owner,I (full-empty),.bool false,.bool false])),some (.blk false (.cells true [.pt (n) 0])),some (.blk false (.cells true [.pt (n) 0]))]):=by
  rw[qY 128 aCa rfl,hn];unfold aCa;dsimp only;(exact wU j0 j1 j2 j3 j4 j5 hc call hf5 a1 a2 hn l0 l1 l2 l4 l5 lf lc b0f b1f b2f b4f b5f cf aE)
 obtain⟨y1,y2⟩:=lyF.tickNew2 (h':=(h.set fe (some (.blk g7 (.cells true [I (v+(full-empty))])))).set L.c (some (.blk false (.cells true [.pt L.f.o 0,.pt L.m.o 0,.pt L.p.o 0,.pt L.w.o 0,.sl (n+2) 0 1 1,I s.closed,iC L.kb s.book.length])))++[some (.blk true (.cells true [.str name,.str owner,I (full-empty),.bool false,.bool false])),some (.blk false (.cells true [.pt (n) 0])),some (.blk false (.cells true [.pt (n) 0]))]) (k:=⟨name,owner,full-empty,false⟩) (n:=n) (g:=false) (g1:=true) (g2:=false) (g3:=false) (cs:=[.pt L.f.o 0,.pt L.m.o 0,.pt L.p.o 0,.pt L.w.o 0,.sl (n+2) 0 1 1,I s.closed,iC L.kb s.book.length]) hbl (by simp[cG,iC,ht]) (by simp[oE,tkC,ht,te0]);refine⟨_,{ L with tb:=n+2,te:=L.te++[n] },walk,by unfold eK;rw[hm,ha];exact y1,rfl,frF.trans (y2.mono fun b hb=>?_),by
  unfold eK;rw[hm,ha];exact .of rfl (fun b hb=>by
   rw[B2,B2,bQ,B5]at hb;rcases hb with ⟨_,hb⟩|hb|hb;·exact .inr (by dsimp only at hb;omega)
   ·exact .inl (E5 _ hb)
   ·exact .inr (by omega)) (qP rfl) (cM (by rw[C0])) (cM rfl) (cM rfl) (cM rfl)⟩
 rw[B4]at hb;rcases hb with rfl|hb;·exact bJ.2 ⟨0,by simp[px]⟩
 ·exact bJ.2 ⟨1,E8 _ hb⟩
theorem aKz(ly:Lays h L s){b0 b1 b2 b3 b4 b5 fe j i:Nat}{name owner:ByteArray}{full empty v:Int}(o:Out L s [b0,b1,b2,b3,b4,b5])(k0:aG h b0=some (.cells true [.pt L.c 0]))(k1:aG h b1=some (.cells true [.str name]))(k2:aG h b2=some (.cells true [I empty]))(k3:aG h b3=some (.cells true [.pt fe 0]))(k4:aG h b4=some (.cells true [I full]))(k5:aG h b5=some (.cells true [.str owner]))
 (hfe:L.f.es[j]?=some fe) (hj:dE (s.farmers.map (·.1)) owner=some j) (hy:s.farmers[j]?=some (owner,v)) (hb : -1000000000≤v∧v≤1000000000∧0≤empty∧empty≤full∧full≤99999) (hl:s.wagons.length≤1000) (hl2:s.tickets.length≤1000) (hx:dE (s.wagons.map (·.1)) name=some i) (ht:0<s.tickets.length) :
 ∃ h' L',runW aD 128 [.pt b0 0,.pt b1 0,.pt b2 0,.pt b3 0,.pt b4 0,.pt b5 0] h=some (.tup [],h')∧Lays h' L' (eK s name owner full empty)∧L'.c=L.c∧Fr (sI L s) h h'∧Sb h.length L s L' (eK s name owner full empty):=by
 obtain⟨g0,j0⟩:=aB k0;obtain⟨g1,j1⟩:=aB k1;have a1:IntKind.i64.wrap (full-empty)=full-empty:=aJ (by omega) (by omega);have a2:IntKind.i64.wrap (v+(full-empty))=v+(full-empty):=aJ (by omega) (by omega);have fp:fe∈px L s 3:=wC hfe;have hfv:aG h fe=some (.cells true [I v]):=ly.f.he hfe (by rw[A9,hy];rfl);obtain⟨e,v',he,hv,hev,call⟩:=ly.w.oldw hx;obtain⟨em,hy2⟩:=rI hx;have hm:gM id empty name s.wagons=s.wagons:=by
  rw[oG hx hy2];exact N5 fun q=>by
   by_cases hq:q=i;·subst hq;rw[M5 (A5.1 hy2).1,hy2];rfl
   ·rw[aA3 (Ne.symm hq)]
 obtain⟨g6,hc⟩:=aB ly.hc;unfold cG at hc;obtain⟨g2,j2⟩:=aB k2;obtain⟨g3,j3⟩:=aB k3;obtain⟨g4,j4⟩:=aB k4;obtain⟨g5,j5⟩:=aB k5;obtain⟨g7,hf5⟩:=aB hfv;obtain⟨n,hn⟩:∃ n,h.length=n:=⟨_,rfl⟩;have lyF:=ly.oldF (g:=g7) (y:=v+(full-empty)) hj hfe;have frF:Fr (sI L s) h (h.set fe (some (.blk g7 (.cells true [I (v+(full-empty))])))):=(Fr.refl _ h).set (bJ.2 ⟨3,fp⟩) _;have ha:=gG (d:=full-empty) hj (by rw[A9,hy];rfl);have b0f:(b0=fe)=False:=AAn fun q=>ly.px_out (j:=3) o (b:=b0) (by simp) (q▸fp);have b1f:(b1=fe)=False:=AAn fun q=>ly.px_out (j:=3) o (b:=b1) (by simp) (q▸fp);have b2f:(b2=fe)=False:=AAn fun q=>ly.px_out (j:=3) o (b:=b2) (by simp) (q▸fp);have b4f:(b4=fe)=False:=AAn fun q=>ly.px_out (j:=3) o (b:=b4) (by simp) (q▸fp);have b5f:(b5=fe)=False:=AAn fun q=>ly.px_out (j:=3) o (b:=b5) (by simp) (q▸fp);have cf:(L.c=fe)=False:=AAn fun q=>ly.off (i:=3) (j:=0) (by decide) fp (by simp[px,q]);have bl:∀ b c,aG h b=some c→(b<n)=True:=fun b c hb=>AAm (by have:=aF hb;omega);have l0:=bl _ _ k0;have l1:=bl _ _ k1;have l2:=bl _ _ k2;have l4:=bl _ _ k4;have l5:=bl _ _ k5;have lf:=bl _ _ hfv;have lc:=bl _ _ ly.hc;obtain⟨tk0,tk1⟩:∃ k,s.tickets[0]?=some k:=⟨_,A7 ht⟩;obtain⟨te0,te1,te2,htb,te4⟩:=ly.tk.at tk1;have tp:L.tb∈px L s 1:=E8 _ (bQ.2 ⟨ht,rfl⟩);have hv:=eJ (b:=L.tb) ht;rw[hv]at hc;have lt:=bl _ _ htb;have tf:(L.tb=fe)=False:=AAn fun q=>ly.off (i:=3) (j:=1) (by decide) fp (q▸tp);have tc:(L.tb=L.c)=False:=AAn fun q=>ly.off (i:=0) (j:=1) (by decide) (by simp[px]) (q▸tp);have tb0:(b0=L.tb)=False:=AAn fun q=>ly.px_out (j:=1) o (b:=b0) (by simp) (q▸tp);have bt0:(L.tb=b0)=False:=AAn fun q=>ly.px_out (j:=1) o (b:=b0) (by simp) (q▸tp);have tb1:(b1=L.tb)=False:=AAn fun q=>ly.px_out (j:=1) o (b:=b1) (by simp) (q▸tp);have bt1:(L.tb=b1)=False:=AAn fun q=>ly.px_out (j:=1) o (b:=b1) (by simp) (q▸tp);have tb2:(b2=L.tb)=False:=AAn fun q=>ly.px_out (j:=1) o (b:=b2) (by simp) (q▸tp);have bt2:(L.tb=b2)=False:=AAn fun q=>ly.px_out (j:=1) o (b:=b2) (by simp) (q▸tp);have tb4:(b4=L.tb)=False:=AAn fun q=>ly.px_out (j:=1) o (b:=b4) (by simp) (q▸tp);have bt4:(L.tb=b4)=False:=AAn fun q=>ly.px_out (j:=1) o (b:=b4) (by simp) (q▸tp);have tb5:(b5=L.tb)=False:=AAn fun q=>ly.px_out (j:=1) o (b:=b5) (by simp) (q▸tp);have bt5:(L.tb=b5)=False:=AAn fun q=>ly.px_out (j:=1) o (b:=b5) (by simp) (q▸tp);have ct:(L.c=L.tb)=False:=AAn fun q=>ly.off (i:=0) (j:=1) (by decide) (by simp[px]) (q▸tp);have tl:(L.te.map fun e=>AV.pt e 0).length=s.tickets.length:=by rw[B0];exact ly.tk.el
 have z1:((s.tickets.length+1)*8≤1099511627776)=True:=AAa;have z2:(s.tickets.length+1≤1099511627776)=True:=AAa;have tel:L.te.length=s.tickets.length:=ly.tk.el;obtain⟨gt,hgt⟩:=aB htb;have hbl:(h.set fe (some (.blk g7 (.cells true [I (v+(full-empty))])))).length=n:=(by simpa using hn);have walk:runW aD 128 [.pt b0 0,.pt b1 0,.pt b2 0,.pt b3 0,.pt b4 0,.pt b5 0] h=some (.tup [],((h.set fe (some (.blk g7 (.cells true [I (v+(full-empty))])))).set L.tb none).set L.c (some (.blk false (.cells true [.pt L.f.o 0,.pt L.m.o 0,.pt L.p.o 0,.pt L.w.o 0,.sl (n+2) 0 1 (s.tickets.length+1),I s.closed,iC L.kb s.book.length])))++[some (.blk true (.cells true [.str name,.str owner,I (full-empty),.bool false,.bool false])),some (.blk false (.cells true [.pt (n) 0])),some (.blk false (.cells true (L.te.map (fun e=>.pt e 0)++[.pt (n) 0])))]):=by
  rw[qY 128 aCa rfl,hn];unfold aCa;dsimp only;(sym=>(simp[Za,Zb,Zc,Zd,Ze,Zf,Zh,Zi,Zl,Zm,Zo,Zv,Zz,Z0,Z8,Z9,ZA,ZG,ZR,ZX,ZZ,Ya,Yc,Ye,Yj,Yk,Yn,Yv,Y8,Y9,YA,Xu,Xx,We,Wf,Wg,Wh,Wj,Wk,Wn,Vm,Vt,Vv,Vw,Vy,Vz,V7,V8,VA,VB,VC,VE,VF,VG,VH,VI,VJ,Ut,Uv,Uw,UM,UO,UQ,UV,UZ,Tb,Te,Tf,Tg,Th,Ti,Tj,Tn,Tp,Tq,Tu,Tw,Ty,Tz,TB,TG,TH,TI,TO,TP,TU,TV,TW,TX,TY,TZ,Sg,Si,Sj,Sk,Sl,Sm,Sr,Ss,Su,Sw,Sx,Sz,S2,S6,S7,S8,SB,SC,SD,SE,SG,SJ,SL,SO,SX,SY,Rz,R0,RK,Qm,Qo,Ph,Pk,Pm,Pq,Pr,Ps,Pt,Pu,Pw,Py,Pz,P8,j0,j1,j2,j3,j4,j5,hc,call,hf5,a1,a2,hn,l0,l1,l2,l4,l5,lf,lc,b0f,b1f,b2f,b4f,b5f,cf,hgt,lt,tf,tc,ct,tel,z1,z2,tb0,tb1,tb2,tb4,tb5,bt0,bt1,bt2,bt4,bt5];all_goals tactic=>exact rfl))
 obtain⟨y1,y2⟩:=lyF.tickNew2 (h':=((h.set fe (some (.blk g7 (.cells true [I (v+(full-empty))])))).set L.tb none).set L.c (some (.blk false (.cells true [.pt L.f.o 0,.pt L.m.o 0,.pt L.p.o 0,.pt L.w.o 0,.sl (n+2) 0 1 (s.tickets.length+1),I s.closed,iC L.kb s.book.length])))++[some (.blk true (.cells true [.str name,.str owner,I (full-empty),.bool false,.bool false])),some (.blk false (.cells true [.pt (n) 0])),some (.blk false (.cells true (L.te.map (fun e=>.pt e 0)++[.pt (n) 0])))]) (k:=⟨name,owner,full-empty,false⟩) (n:=n) (g:=false) (g1:=true) (g2:=false) (g3:=false) (cs:=[.pt L.f.o 0,.pt L.m.o 0,.pt L.p.o 0,.pt L.w.o 0,.sl (n+2) 0 1 (s.tickets.length+1),I s.closed,iC L.kb s.book.length]) hbl (by simp[cG,iC]) (by simp[oE,tkC,Nat.ne_of_gt ht]);refine⟨_,{ L with tb:=n+2,te:=L.te++[n] },walk,by unfold eK;rw[hm,ha];exact y1,rfl,frF.trans (y2.mono fun b hb=>?_),by
  unfold eK;rw[hm,ha];exact .of rfl (fun b hb=>by
   rw[B2,B2,bQ,B5]at hb;rcases hb with ⟨_,hb⟩|hb|hb;·exact .inr (by dsimp only at hb;omega)
   ·exact .inl (E5 _ hb)
   ·exact .inr (by omega)) (qP rfl) (cM (by rw[C0])) (cM rfl) (cM rfl) (cM rfl)⟩
 rw[B4]at hb;rcases hb with rfl|hb;·exact bJ.2 ⟨0,by simp[px]⟩
 ·exact bJ.2 ⟨1,E8 _ hb⟩
theorem aKA(ly:Lays h L s){b0 b1 b2 b3 b4 b5 fe j:Nat}{name owner:ByteArray}{full empty v:Int}(o:Out L s [b0,b1,b2,b3,b4,b5])(k0:aG h b0=some (.cells true [.pt L.c 0]))(k1:aG h b1=some (.cells true [.str name]))(k2:aG h b2=some (.cells true [I empty]))(k3:aG h b3=some (.cells true [.pt fe 0]))(k4:aG h b4=some (.cells true [I full]))(k5:aG h b5=some (.cells true [.str owner]))
 (hfe:L.f.es[j]?=some fe) (hj:dE (s.farmers.map (·.1)) owner=some j) (hy:s.farmers[j]?=some (owner,v)) (hb : -1000000000≤v∧v≤1000000000∧0≤empty∧empty≤full∧full≤99999) (hl:s.wagons.length≤1000) (hl2:s.tickets.length≤1000) (hx:dE (s.wagons.map (·.1)) name=none) (ht:s.tickets.length=0) :
 ∃ h' L',runW aD 128 [.pt b0 0,.pt b1 0,.pt b2 0,.pt b3 0,.pt b4 0,.pt b5 0] h=some (.tup [],h')∧Lays h' L' (eK s name owner full empty)∧L'.c=L.c∧Fr (sI L s) h h'∧Sb h.length L s L' (eK s name owner full empty):=by
 obtain⟨g0,j0⟩:=aB k0;obtain⟨g1,j1⟩:=aB k1;have a1:IntKind.i64.wrap (full-empty)=full-empty:=aJ (by omega) (by omega);have a2:IntKind.i64.wrap (v+(full-empty))=v+(full-empty):=aJ (by omega) (by omega);have fp:fe∈px L s 3:=wC hfe;have hfv:aG h fe=some (.cells true [I v]):=ly.f.he hfe (by rw[A9,hy];rfl);obtain⟨h1,call,hl1,od1,fr1⟩:=ly.w.neww hx (by rw[B0];exact hl);rw[B0]at fr1;have hm:gM id empty name s.wagons=s.wagons++[(name,empty)]:=oH hx;obtain⟨g6,hc⟩:=aB ly.hc;unfold cG at hc;obtain⟨g9,he9⟩:=aB (od1.he (i:=s.wagons.length) (v:=[I 0]) (e:=h.length+2) (by have:=ly.w.ek;rw[B0]at this;rw[←this,D1 (B7 _)];simp) (by rw[D1 (by simp)];simp));obtain⟨lyW,frW⟩:=ly.newW (y:=empty) (g:=g9) od1 fr1;obtain⟨g2,j2⟩:=aB (fr1.keepS k2 (ly.px_out (j:=6) o (by simp)));obtain⟨gc1,hc1⟩:=aB (fr1.keepS ly.hc (ly.off (i:=0) (j:=6) (by decide) (by simp[px])));unfold cG at hc1;obtain⟨gi0,i0⟩:=aB (fr1.keepS k0 (ly.px_out (j:=6) o (by simp)));obtain⟨gi1,i1⟩:=aB (fr1.keepS k1 (ly.px_out (j:=6) o (by simp)));obtain⟨g3,j3⟩:=aB (fr1.keepS k3 (ly.px_out (j:=6) o (by simp)));obtain⟨g4,j4⟩:=aB (fr1.keepS k4 (ly.px_out (j:=6) o (by simp)));obtain⟨g5,j5⟩:=aB (fr1.keepS k5 (ly.px_out (j:=6) o (by simp)));obtain⟨g7,hf5⟩:=aB (fr1.keepS hfv (ly.off (i:=3) (j:=6) (by decide) fp));obtain⟨n,hn⟩:∃ n,h.length=n:=⟨_,rfl⟩;rw[hn]at call hl1 he9 lyW frW;have lyF:=lyW.oldF (g:=g7) (y:=v+(full-empty)) hj hfe;have frF:Fr (sI L s) h ((h1.set (n+2) (some (.blk g9 (.cells true [I empty])))).set fe (some (.blk g7 (.cells true [I (v+(full-empty))])))):=(Fr.px (j:=6) frW).set (bJ.2 ⟨3,fp⟩) _;have b0n:(b0=n+2)=False:=AAn (by have:=aF k0;omega);have b1n:(b1=n+2)=False:=AAn (by have:=aF k1;omega);have b2n:(b2=n+2)=False:=AAn (by have:=aF k2;omega);have b3n:(b3=n+2)=False:=AAn (by have:=aF k3;omega);have b4n:(b4=n+2)=False:=AAn (by have:=aF k4;omega);have b5n:(b5=n+2)=False:=AAn (by have:=aF k5;omega);have fn:(fe=n+2)=False:=AAn (by have:=aF hfv;omega);have cn2:(L.c=n+2)=False:=AAn (by have:=aF ly.hc;omega);have nl:(n+2<n+3)=True:=AAa

 have ha:=gG (d:=full-empty) hj (by rw[A9,hy];rfl);have b0f:(b0=fe)=False:=AAn fun q=>ly.px_out (j:=3) o (b:=b0) (by simp) (q▸fp);have b1f:(b1=fe)=False:=AAn fun q=>ly.px_out (j:=3) o (b:=b1) (by simp) (q▸fp);have b2f:(b2=fe)=False:=AAn fun q=>ly.px_out (j:=3) o (b:=b2) (by simp) (q▸fp);have b4f:(b4=fe)=False:=AAn fun q=>ly.px_out (j:=3) o (b:=b4) (by simp) (q▸fp);have b5f:(b5=fe)=False:=AAn fun q=>ly.px_out (j:=3) o (b:=b5) (by simp) (q▸fp);have cf:(L.c=fe)=False:=AAn fun q=>ly.off (i:=3) (j:=0) (by decide) fp (by simp[px,q]);have bl:∀ b c,aG h b=some c→(b<n)=True:=fun b c hb=>AAm (by have:=aF hb;omega);have l0:=bl _ _ k0;have l1:=bl _ _ k1;have l2:=bl _ _ k2;have l4:=bl _ _ k4;have l5:=bl _ _ k5;have lf:=bl _ _ hfv;have lc:=bl _ _ ly.hc;have up:∀ b,(b<n)=True→(b<n+3)=True:=fun b hb=>AAm (by have:=of_eq_true hb;omega);have u0:=up _ l0;have u1:=up _ l1;have u2:=up _ l2;have u4:=up _ l4;have u5:=up _ l5;have uf:=up _ lf;have uc:=up _ lc;have te0:L.te=[]:=C5 (by rw[ly.tk.el];exact ht);have hv:iC L.tb s.tickets.length = .nilsl:=by rw[ht];rfl
 rw[hv]at hc;rw[hv]at hc1;have hbl:((h1.set (n+2) (some (.blk g9 (.cells true [I empty])))).set fe (some (.blk g7 (.cells true [I (v+(full-empty))])))).length=n+3:=(by simpa using hl1);have walk:runW aD 128 [.pt b0 0,.pt b1 0,.pt b2 0,.pt b3 0,.pt b4 0,.pt b5 0] h=some (.tup [],((h1.set (n+2) (some (.blk g9 (.cells true [I empty])))).set fe (some (.blk g7 (.cells true [I (v+(full-empty))])))).set L.c (some (.blk false (.cells true [.pt L.f.o 0,.pt L.m.o 0,.pt L.p.o 0,.pt L.w.o 0,.sl (n+5) 0 1 1,I s.closed,iC L.kb s.book.length])))++[some (.blk true (.cells true [.str name,.str owner,I (full-empty),.bool false,.bool false])),some (.blk false (.cells true [.pt (n+3) 0])),some (.blk false (.cells true [.pt (n+3) 0]))]):=by
  rw[qY 128 aCa rfl,hn];unfold aCa;dsimp only;(sym=>(simp[Za,Zb,Zc,Zd,Ze,Zf,Zh,Zi,Zl,Zm,Zo,Zv,Zz,Z0,Z8,Z9,ZA,ZG,ZR,ZW,ZX,ZZ,Ya,Yb,Yc,Ye,Yj,Yk,Yn,Yv,Y8,Y9,YA,Xu,Xx,We,Wf,Wg,Wh,Wj,Wk,Wn,Vm,Vt,Vv,Vw,Vy,Vz,V8,V9,VA,VB,VC,VE,VF,VG,VH,VI,VJ,Ut,Uv,Uw,UM,UO,UQ,UV,UZ,Ta,Te,Tf,Tg,Th,Ti,Tj,Tn,Tp,Tu,Tw,Ty,Tz,TB,TH,TI,TO,TP,TU,TV,TW,TX,TY,TZ,Sg,Si,Sj,Sk,Sl,Sm,Sr,Ss,Su,Sv,Sz,S2,S6,S7,S8,SB,SD,SE,SF,SG,SJ,SO,SX,SY,Rz,RK,Qm,Qn,Qo,Ph,Pk,Pm,Pq,Pr,Ps,Pt,Pu,Pw,Py,Pz,P8,j0,j1,j2,j3,j4,j5,hc,call,hf5,a1,a2,hn,l0,l1,l2,l4,l5,lf,lc,b0f,b1f,b2f,b4f,b5f,cf,hl1,b0n,b1n,b2n,b3n,b4n,b5n,fn,cn2,nl,he9,i0,i1,hc1,u0,u1,u2,u4,u5,uf,uc];all_goals tactic=>exact rfl))
 obtain⟨y1,y2⟩:=lyF.tickNew2 (h':=((h1.set (n+2) (some (.blk g9 (.cells true [I empty])))).set fe (some (.blk g7 (.cells true [I (v+(full-empty))])))).set L.c (some (.blk false (.cells true [.pt L.f.o 0,.pt L.m.o 0,.pt L.p.o 0,.pt L.w.o 0,.sl (n+5) 0 1 1,I s.closed,iC L.kb s.book.length])))++[some (.blk true (.cells true [.str name,.str owner,I (full-empty),.bool false,.bool false])),some (.blk false (.cells true [.pt (n+3) 0])),some (.blk false (.cells true [.pt (n+3) 0]))]) (k:=⟨name,owner,full-empty,false⟩) (n:=n+3) (g:=false) (g1:=true) (g2:=false) (g3:=false) (cs:=[.pt L.f.o 0,.pt L.m.o 0,.pt L.p.o 0,.pt L.w.o 0,.sl (n+5) 0 1 1,I s.closed,iC L.kb s.book.length]) hbl (by simp[cG,iC,ht]) (by simp[oE,tkC,ht,te0]);refine⟨_,{ ({ L with w:=⟨L.w.o,L.w.m,n+1,L.w.es++[n+2]⟩ }:CL)with tb:=n+5,te:=L.te++[n+3] },walk,by unfold eK;rw[hm,ha];exact y1,rfl,frF.trans (y2.mono fun b hb=>?_),by
  unfold eK;rw[hm,ha];exact .of rfl (fun b hb=>by
   rw[B2,B2,bQ,B5]at hb;rcases hb with ⟨_,hb⟩|hb|hb;·exact .inr (by dsimp only at hb;omega)
   ·exact .inl (E5 _ hb)
   ·exact .inr (by omega)) (qP rfl) (cM (by rw[C0])) (cM rfl) (cM rfl) (fun b hb=>by rw[←hn]at hb;exact mW hb)⟩
 rw[B4]at hb;rcases hb with rfl|hb;·exact bJ.2 ⟨0,by simp[px]⟩
 ·exact bJ.2 ⟨1,E8 _ hb⟩
theorem aKB(ly:Lays h L s){b0 b1 b2 b3 b4 b5 fe j:Nat}{name owner:ByteArray}{full empty v:Int}(o:Out L s [b0,b1,b2,b3,b4,b5])(k0:aG h b0=some (.cells true [.pt L.c 0]))(k1:aG h b1=some (.cells true [.str name]))(k2:aG h b2=some (.cells true [I empty]))(k3:aG h b3=some (.cells true [.pt fe 0]))(k4:aG h b4=some (.cells true [I full]))(k5:aG h b5=some (.cells true [.str owner]))
 (hfe:L.f.es[j]?=some fe) (hj:dE (s.farmers.map (·.1)) owner=some j) (hy:s.farmers[j]?=some (owner,v)) (hb : -1000000000≤v∧v≤1000000000∧0≤empty∧empty≤full∧full≤99999) (hl:s.wagons.length≤1000) (hl2:s.tickets.length≤1000) (hx:dE (s.wagons.map (·.1)) name=none) (ht:0<s.tickets.length) :
 ∃ h' L',runW aD 128 [.pt b0 0,.pt b1 0,.pt b2 0,.pt b3 0,.pt b4 0,.pt b5 0] h=some (.tup [],h')∧Lays h' L' (eK s name owner full empty)∧L'.c=L.c∧Fr (sI L s) h h'∧Sb h.length L s L' (eK s name owner full empty):=by
 obtain⟨g0,j0⟩:=aB k0;obtain⟨g1,j1⟩:=aB k1;have a1:IntKind.i64.wrap (full-empty)=full-empty:=aJ (by omega) (by omega);have a2:IntKind.i64.wrap (v+(full-empty))=v+(full-empty):=aJ (by omega) (by omega);have fp:fe∈px L s 3:=wC hfe;have hfv:aG h fe=some (.cells true [I v]):=ly.f.he hfe (by rw[A9,hy];rfl);obtain⟨h1,call,hl1,od1,fr1⟩:=ly.w.neww hx (by rw[B0];exact hl);rw[B0]at fr1;have hm:gM id empty name s.wagons=s.wagons++[(name,empty)]:=oH hx;obtain⟨g6,hc⟩:=aB ly.hc;unfold cG at hc;obtain⟨g9,he9⟩:=aB (od1.he (i:=s.wagons.length) (v:=[I 0]) (e:=h.length+2) (by have:=ly.w.ek;rw[B0]at this;rw[←this,D1 (B7 _)];simp) (by rw[D1 (by simp)];simp));obtain⟨lyW,frW⟩:=ly.newW (y:=empty) (g:=g9) od1 fr1;obtain⟨g2,j2⟩:=aB (fr1.keepS k2 (ly.px_out (j:=6) o (by simp)));obtain⟨gc1,hc1⟩:=aB (fr1.keepS ly.hc (ly.off (i:=0) (j:=6) (by decide) (by simp[px])));unfold cG at hc1;obtain⟨gi0,i0⟩:=aB (fr1.keepS k0 (ly.px_out (j:=6) o (by simp)));obtain⟨gi1,i1⟩:=aB (fr1.keepS k1 (ly.px_out (j:=6) o (by simp)));obtain⟨g3,j3⟩:=aB (fr1.keepS k3 (ly.px_out (j:=6) o (by simp)));obtain⟨g4,j4⟩:=aB (fr1.keepS k4 (ly.px_out (j:=6) o (by simp)));obtain⟨g5,j5⟩:=aB (fr1.keepS k5 (ly.px_out (j:=6) o (by simp)));obtain⟨g7,hf5⟩:=aB (fr1.keepS hfv (ly.off (i:=3) (j:=6) (by decide) fp));obtain⟨n,hn⟩:∃ n,h.length=n:=⟨_,rfl⟩;rw[hn]at call hl1 he9 lyW frW;have lyF:=lyW.oldF (g:=g7) (y:=v+(full-empty)) hj hfe;have frF:Fr (sI L s) h ((h1.set (n+2) (some (.blk g9 (.cells true [I empty])))).set fe (some (.blk g7 (.cells true [I (v+(full-empty))])))):=(Fr.px (j:=6) frW).set (bJ.2 ⟨3,fp⟩) _;have b0n:(b0=n+2)=False:=AAn (by have:=aF k0;omega);have b1n:(b1=n+2)=False:=AAn (by have:=aF k1;omega);have b2n:(b2=n+2)=False:=AAn (by have:=aF k2;omega);have b3n:(b3=n+2)=False:=AAn (by have:=aF k3;omega);have b4n:(b4=n+2)=False:=AAn (by have:=aF k4;omega);have b5n:(b5=n+2)=False:=AAn (by have:=aF k5;omega);have fn:(fe=n+2)=False:=AAn (by have:=aF hfv;omega);have cn2:(L.c=n+2)=False:=AAn (by have:=aF ly.hc;omega);have nl:(n+2<n+3)=True:=AAa

 have ha:=gG (d:=full-empty) hj (by rw[A9,hy];rfl);have b0f:(b0=fe)=False:=AAn fun q=>ly.px_out (j:=3) o (b:=b0) (by simp) (q▸fp);have b1f:(b1=fe)=False:=AAn fun q=>ly.px_out (j:=3) o (b:=b1) (by simp) (q▸fp);have b2f:(b2=fe)=False:=AAn fun q=>ly.px_out (j:=3) o (b:=b2) (by simp) (q▸fp);have b4f:(b4=fe)=False:=AAn fun q=>ly.px_out (j:=3) o (b:=b4) (by simp) (q▸fp);have b5f:(b5=fe)=False:=AAn fun q=>ly.px_out (j:=3) o (b:=b5) (by simp) (q▸fp);have cf:(L.c=fe)=False:=AAn fun q=>ly.off (i:=3) (j:=0) (by decide) fp (by simp[px,q]);have bl:∀ b c,aG h b=some c→(b<n)=True:=fun b c hb=>AAm (by have:=aF hb;omega);have l0:=bl _ _ k0;have l1:=bl _ _ k1;have l2:=bl _ _ k2;have l4:=bl _ _ k4;have l5:=bl _ _ k5;have lf:=bl _ _ hfv;have lc:=bl _ _ ly.hc;have up:∀ b,(b<n)=True→(b<n+3)=True:=fun b hb=>AAm (by have:=of_eq_true hb;omega);have u0:=up _ l0;have u1:=up _ l1;have u2:=up _ l2;have u4:=up _ l4;have u5:=up _ l5;have uf:=up _ lf;have uc:=up _ lc;obtain⟨tk0,tk1⟩:∃ k,s.tickets[0]?=some k:=⟨_,A7 ht⟩;obtain⟨te0,te1,te2,htb,te4⟩:=ly.tk.at tk1;have tp:L.tb∈px L s 1:=E8 _ (bQ.2 ⟨ht,rfl⟩);have hv:=eJ (b:=L.tb) ht;rw[hv]at hc;have lt:=bl _ _ htb;have tf:(L.tb=fe)=False:=AAn fun q=>ly.off (i:=3) (j:=1) (by decide) fp (q▸tp);have tc:(L.tb=L.c)=False:=AAn fun q=>ly.off (i:=0) (j:=1) (by decide) (by simp[px]) (q▸tp);have tb0:(b0=L.tb)=False:=AAn fun q=>ly.px_out (j:=1) o (b:=b0) (by simp) (q▸tp);have bt0:(L.tb=b0)=False:=AAn fun q=>ly.px_out (j:=1) o (b:=b0) (by simp) (q▸tp);have tb1:(b1=L.tb)=False:=AAn fun q=>ly.px_out (j:=1) o (b:=b1) (by simp) (q▸tp);have bt1:(L.tb=b1)=False:=AAn fun q=>ly.px_out (j:=1) o (b:=b1) (by simp) (q▸tp);have tb2:(b2=L.tb)=False:=AAn fun q=>ly.px_out (j:=1) o (b:=b2) (by simp) (q▸tp);have bt2:(L.tb=b2)=False:=AAn fun q=>ly.px_out (j:=1) o (b:=b2) (by simp) (q▸tp);have tb4:(b4=L.tb)=False:=AAn fun q=>ly.px_out (j:=1) o (b:=b4) (by simp) (q▸tp);have bt4:(L.tb=b4)=False:=AAn fun q=>ly.px_out (j:=1) o (b:=b4) (by simp) (q▸tp);have tb5:(b5=L.tb)=False:=AAn fun q=>ly.px_out (j:=1) o (b:=b5) (by simp) (q▸tp);have bt5:(L.tb=b5)=False:=AAn fun q=>ly.px_out (j:=1) o (b:=b5) (by simp) (q▸tp);have ct:(L.c=L.tb)=False:=AAn fun q=>ly.off (i:=0) (j:=1) (by decide) (by simp[px]) (q▸tp);have tl:(L.te.map fun e=>AV.pt e 0).length=s.tickets.length:=by rw[B0];exact ly.tk.el
 have z1:((s.tickets.length+1)*8≤1099511627776)=True:=AAa;have z2:(s.tickets.length+1≤1099511627776)=True:=AAa;have tel:L.te.length=s.tickets.length:=ly.tk.el;obtain⟨gt,hgt⟩:=aB (fr1.keepS htb (ly.off (i:=1) (j:=6) (by decide) tp));have tn:(L.tb=n+2)=False:=AAn (by have:=aF htb;omega);have ut:=up _ lt;rw[hv]at hc1;have hbl:((h1.set (n+2) (some (.blk g9 (.cells true [I empty])))).set fe (some (.blk g7 (.cells true [I (v+(full-empty))])))).length=n+3:=(by simpa using hl1);have walk:runW aD 128 [.pt b0 0,.pt b1 0,.pt b2 0,.pt b3 0,.pt b4 0,.pt b5 0] h=some (.tup [],(((h1.set (n+2) (some (.blk g9 (.cells true [I empty])))).set fe (some (.blk g7 (.cells true [I (v+(full-empty))])))).set L.tb none).set L.c (some (.blk false (.cells true [.pt L.f.o 0,.pt L.m.o 0,.pt L.p.o 0,.pt L.w.o 0,.sl (n+5) 0 1 (s.tickets.length+1),I s.closed,iC L.kb s.book.length])))++[some (.blk true (.cells true [.str name,.str owner,I (full-empty),.bool false,.bool false])),some (.blk false (.cells true [.pt (n+3) 0])),some (.blk false (.cells true (L.te.map (fun e=>.pt e 0)++[.pt (n+3) 0])))]):=by
  rw[qY 128 aCa rfl,hn];unfold aCa;dsimp only;(sym=>(simp[Za,Zb,Zc,Zd,Ze,Zf,Zh,Zi,Zl,Zm,Zo,Zv,Zz,Z0,Z8,Z9,ZA,ZG,ZR,ZW,ZX,ZZ,Ya,Yb,Yc,Ye,Yj,Yk,Yn,Yv,Y8,Y9,YA,Xu,Xx,We,Wf,Wg,Wh,Wj,Wk,Wn,Vm,Vt,Vv,Vw,Vy,Vz,V7,V8,VA,VB,VC,VE,VF,VG,VH,VI,VJ,Ut,Uv,Uw,UM,UO,UQ,UV,UZ,Ta,Te,Tf,Tg,Th,Ti,Tj,Tn,Tp,Tq,Tu,Tw,Ty,Tz,TB,TG,TH,TI,TO,TP,TU,TV,TW,TX,TY,TZ,Sg,Si,Sj,Sk,Sl,Sm,Sr,Ss,Su,Sw,Sx,Sz,S2,S6,S7,S8,SB,SC,SD,SE,SG,SJ,SO,SX,SY,Rz,R0,RK,Qm,Qo,Ph,Pk,Pm,Pq,Pr,Ps,Pt,Pu,Pw,Py,Pz,P8,j0,j1,j2,j3,j4,j5,hc,call,hf5,a1,a2,hn,l0,l1,l2,l4,l5,lf,lc,b0f,b1f,b2f,b4f,b5f,cf,hl1,b0n,b1n,b2n,b3n,b4n,b5n,fn,cn2,nl,he9,i0,i1,hc1,u0,u1,u2,u4,u5,uf,uc,hgt,lt,tf,tc,ct,tel,z1,z2,tb0,tb1,tb2,tb4,tb5,bt0,bt1,bt2,bt4,bt5,tn,ut];all_goals tactic=>exact rfl))
 obtain⟨y1,y2⟩:=lyF.tickNew2 (h':=(((h1.set (n+2) (some (.blk g9 (.cells true [I empty])))).set fe (some (.blk g7 (.cells true [I (v+(full-empty))])))).set L.tb none).set L.c (some (.blk false (.cells true [.pt L.f.o 0,.pt L.m.o 0,.pt L.p.o 0,.pt L.w.o 0,.sl (n+5) 0 1 (s.tickets.length+1),I s.closed,iC L.kb s.book.length])))++[some (.blk true (.cells true [.str name,.str owner,I (full-empty),.bool false,.bool false])),some (.blk false (.cells true [.pt (n+3) 0])),some (.blk false (.cells true (L.te.map (fun e=>.pt e 0)++[.pt (n+3) 0])))]) (k:=⟨name,owner,full-empty,false⟩) (n:=n+3) (g:=false) (g1:=true) (g2:=false) (g3:=false) (cs:=[.pt L.f.o 0,.pt L.m.o 0,.pt L.p.o 0,.pt L.w.o 0,.sl (n+5) 0 1 (s.tickets.length+1),I s.closed,iC L.kb s.book.length]) hbl (by simp[cG,iC]) (by simp[oE,tkC,Nat.ne_of_gt ht]);refine⟨_,{ ({ L with w:=⟨L.w.o,L.w.m,n+1,L.w.es++[n+2]⟩ }:CL)with tb:=n+5,te:=L.te++[n+3] },walk,by unfold eK;rw[hm,ha];exact y1,rfl,frF.trans (y2.mono fun b hb=>?_),by
  unfold eK;rw[hm,ha];exact .of rfl (fun b hb=>by
   rw[B2,B2,bQ,B5]at hb;rcases hb with ⟨_,hb⟩|hb|hb;·exact .inr (by dsimp only at hb;omega)
   ·exact .inl (E5 _ hb)
   ·exact .inr (by omega)) (qP rfl) (cM (by rw[C0])) (cM rfl) (cM rfl) (fun b hb=>by rw[←hn]at hb;exact mW hb)⟩
 rw[B4]at hb;rcases hb with rfl|hb;·exact bJ.2 ⟨0,by simp[px]⟩
 ·exact bJ.2 ⟨1,E8 _ hb⟩
variable{h h' h1:XH}{L:CL}{s:dD}{x:ByteArray}
theorem aXw(ly:Lays h L s){b0 b1 b2 b3 b4 b5 fe j:Nat}{name owner:ByteArray}{full empty v:Int}(o:Out L s [b0,b1,b2,b3,b4,b5])(k0:aG h b0=some (.cells true [.pt L.c 0]))(k1:aG h b1=some (.cells true [.str name]))(k2:aG h b2=some (.cells true [I empty]))(k3:aG h b3=some (.cells true [.pt fe 0]))(k4:aG h b4=some (.cells true [I full]))(k5:aG h b5=some (.cells true [.str owner]))
 (hfe:L.f.es[j]?=some fe) (hj:dE (s.farmers.map (·.1)) owner=some j) (hy:s.farmers[j]?=some (owner,v)) (hb : -1000000000≤v∧v≤1000000000∧0≤empty∧empty≤full∧full≤99999) (hl:s.wagons.length≤1000) (hl2:s.tickets.length≤1000) :
 ∃ h' L',runW aD 128 [.pt b0 0,.pt b1 0,.pt b2 0,.pt b3 0,.pt b4 0,.pt b5 0] h=some (.tup [],h')∧Lays h' L' (eK s name owner full empty)∧L'.c=L.c∧Fr (sI L s) h h'∧Sb h.length L s L' (eK s name owner full empty):=by
 cases hx:dE (s.wagons.map (·.1)) name with
 | some i =>
   by_cases ht:s.tickets.length=0;·exact aKy ly o k0 k1 k2 k3 k4 k5 hfe hj hy hb hl hl2 hx ht
   ·exact aKz ly o k0 k1 k2 k3 k4 k5 hfe hj hy hb hl hl2 hx (by omega)
 | none =>
   by_cases ht:s.tickets.length=0;·exact aKA ly o k0 k1 k2 k3 k4 k5 hfe hj hy hb hl hl2 hx ht
   ·exact aKB ly o k0 k1 k2 k3 k4 k5 hfe hj hy hb hl hl2 hx (by omega)
def wWg(f:ByteArray)(name t1 t2 owner:ByteArray)(z full empty z2:Int):AV:=.agg [.str f,.fs [[.str name],[.str t1],[.str t2],[.str owner]],.fs [[I z],[I full],[I empty],[I z2]]]
def nI(c:Nat)(f name t1 t2 owner:ByteArray)(z full empty z2:Int)(r:XH):XH:=some (.blk false (.cells true [.pt c 0]))::some (.blk true (.cells true [.str f,.fs [[.str name],[.str t1],[.str t2],[.str owner]],.fs [[I z],[I full],[I empty],[I z2]]]))::some (.blk true (.cells true [.str name]))::some (.blk true (.cells true [I full]))::some (.blk true (.cells true [I empty]))::some (.blk true (.cells true [.str owner]))::r
variable{f name t1 t2 owner:ByteArray}{z full empty z2:Int}
theorem bBe(ly:Lays h L s)(hx:dE (s.farmers.map (·.1)) owner=none):CalP Tryz.prog aD 90 [.pt L.c 0,wWg f name t1 t2 owner z full empty z2] h (.ifc 110 (.agg [I 5])) (h++nI L.c f name t1 t2 owner z full empty z2 []):=by
 refine CalP.of (d:=x90) (e':=bW [] []) aA rfl (by simp[x90]) rfl ?_;unfold x90;dsimp only;obtain⟨n,hn⟩:∃ n,h.length=n:=⟨_,rfl⟩;obtain⟨g,hc⟩:=aB ly.hc;unfold cG at hc;have cn:(L.c<n)=True:=AAm (by rw[←hn];exact aF ly.hc);have na:∀ a b:Nat,(n+a=n+b)=(a=b):=fun a b=>by simp
 have ly2:=ly.ext (nI L.c f name t1 t2 owner z full empty z2 []);refine PanX.seqR (K:=90) aA rfl [2,3] (vs:=[.pt n 0,.pt (n+1) 0]) (h1:=h++[some (.blk false (.cells true [.pt L.c 0])),some (.blk true (.cells true [.str f,.fs [[.str name],[.str t1],[.str t2],[.str owner]],.fs [[I z],[I full],[I empty],[I z2]]]))]) (by rw[hn];unfold wWg; (exact eD hn)) ?_;refine PanX.seqR (K:=90) aA rfl [2,3,5,6,7,8] (vs:=[.pt n 0,.pt (n+1) 0,.pt (n+2) 0,.pt (n+3) 0,.pt (n+4) 0,.pt (n+5) 0]) (h1:=h++nI L.c f name t1 t2 owner z full empty z2 []) (by unfold nI; (exact RS2 hn na)) ?_;refine PanX.seqL ?_;exact PanX.regU (fr:=[9]) (p:=[⟨0,some 27,.load false 1 (.t 2),none⟩,⟨1,some 28,.nilck (.t 27),none⟩,⟨2,some 29,.fld 0 (.t 28),none⟩,⟨3,some 30,.load false 1 (.t 29),none⟩,⟨4,some 31,.load false 1 (.t 8),none⟩]) (post:=[⟨6,some 9,.alloc [.nilpt],none⟩,⟨7,none,.store 1 (.t 9) (.t 32) [],none⟩]) aA [] (g:=95) (first:=[]) (cap:=[]) (args:=[.pt L.f.o 0,.str owner]) (vs:=[]) rfl rfl rfl (by unfold nI; (exact RS3 hc hn cn)) (ly2.f.nonef hx)
theorem aQT(ly:Lays h L s){j:Nat}(hj:dE (s.farmers.map (·.1)) owner=some j)(r:XH):∃ fe,L.f.es[j]?=some fe∧runW aD 95 [.pt L.f.o 0,.str owner] (h++r)=some (.pt fe 0,h++r):=by
 obtain⟨fe,v,h1,h2,h3,h4⟩:=(ly.ext r).f.getf hj;exact⟨fe,h1,h4⟩
theorem w90(ly:Lays h L s){j:Nat}(hj:dE (s.farmers.map (·.1)) owner=some j)(hle:empty≤full)(hw:∀ i v,dE (s.wagons.map (·.1)) name=some i→(s.wagons.map (·.2))[i]?=some v→v-500≤empty∧empty≤v+500)(hb:∀ p∈s.wagons,0≤p.2∧p.2≤99999) :
 ∃ fe,L.f.es[j]?=some fe∧runW aD 90 [.pt L.c 0,wWg f name t1 t2 owner z full empty z2] h=some (.fn (.func 128) [] [.pt h.length 0,.pt (h.length+2) 0,.pt (h.length+4) 0,.pt (h.length+6) 0,.pt (h.length+3) 0,.pt (h.length+5) 0],h++nI L.c f name t1 t2 owner z full empty z2 [some (.blk false (.cells true [.pt fe 0]))]):=by
 obtain⟨fe,hfe,call⟩:=aQT ly hj (nI L.c f name t1 t2 owner z full empty z2 []);refine⟨fe,hfe,?_⟩;obtain⟨n,hn⟩:∃ n,h.length=n:=⟨_,rfl⟩;obtain⟨g,hc⟩:=aB ly.hc;unfold cG at hc;have cn:(L.c<n)=True:=AAm (by rw[←hn];exact aF ly.hc);have na:∀ a b:Nat,(n+a=n+b)=(a=b):=fun a b=>by simp
 have tle:(empty≤full)=True:=AAm hle;obtain⟨gw,hwo⟩:=ly.w.ho;obtain⟨gm,hwm⟩:=ly.w.hm;have won:(L.w.o<n)=True:=AAm (by rw[←hn];exact ly.w.lts.1);have wmn:(L.w.m<n)=True:=AAm (by rw[←hn];exact ly.w.lts.2.1);have m1:=uQ 10;have m2:=uQ 22;rw[qY 90 x90 rfl,hn];unfold x90;dsimp only;unfold nI wWg at *;rcases hx:dE (s.wagons.map (·.1)) name with _|i
 ·have hf:=ly.w.miss hx
  (exact aBY hn hc cn na tle call hwo hwm won wmn m1 hf aE)
 ·obtain⟨e,v,he,hv,hf,hev⟩:=ly.w.found hx
  obtain⟨y,hy⟩:=rI hx;rw[A9,hy]at hv;cases hv;have hev:aG h e=some (.cells true [I y]):=hev;obtain⟨ge,hee⟩:=aB hev;have hww:=hw i y hx (by rw[A9,hy];rfl);have hbb:=hb _ (A8 hy);simp only at hbb;have een:(e<n)=True:=AAm (by rw[←hn];exact aF hev);have v1:IntKind.i64.wrap (y-500)=y-500:=aJ (by omega) (by omega);have v2:IntKind.i64.wrap (y+500)=y+500:=aJ (by omega) (by omega);have c35:=w35 (y-500) empty (y+500);rw[AAk hww.1,AAk hww.2]at c35;(exact xX hn hc cn na tle call hwo hwm won wmn m1 hf hee een v1 v2 c35 m2 aE aE)
theorem bBd(ly:Lays h L s){i j:Nat}{y:Int}(hj:dE (s.farmers.map (·.1)) owner=some j)(hle:empty≤full)(hx:dE (s.wagons.map (·.1)) name=some i)(hy:(s.wagons.map (·.2))[i]?=some y)(hw:¬(y-500≤empty∧empty≤y+500))(hb:∀ p∈s.wagons,0≤p.2∧p.2≤99999):∃ fe,CalP Tryz.prog aD 90 [.pt L.c 0,wWg f name t1 t2 owner z full empty z2] h (.ifc 110 (.agg [I 22])) (h++nI L.c f name t1 t2 owner z full empty z2 [some (.blk false (.cells true [.pt fe 0]))]):=by
 obtain⟨fe,hfe,call⟩:=aQT ly hj (nI L.c f name t1 t2 owner z full empty z2 []);refine⟨fe,CalP.of (d:=x90) (e':=bW [] []) aA rfl (by simp[x90]) rfl ?_⟩;unfold x90;dsimp only;obtain⟨n,hn⟩:∃ n,h.length=n:=⟨_,rfl⟩;obtain⟨g,hc⟩:=aB ly.hc;unfold cG at hc;have cn:(L.c<n)=True:=AAm (by rw[←hn];exact aF ly.hc);have na:∀ a b:Nat,(n+a=n+b)=(a=b):=fun a b=>by simp
 have tle:(empty≤full)=True:=AAm hle;obtain⟨gw,hwo⟩:=ly.w.ho;obtain⟨gm,hwm⟩:=ly.w.hm;have won:(L.w.o<n)=True:=AAm (by rw[←hn];exact ly.w.lts.1);have wmn:(L.w.m<n)=True:=AAm (by rw[←hn];exact ly.w.lts.2.1);have m1:=uQ 10;obtain⟨e,v,he,hv,hf,hev⟩:=ly.w.found hx;rw[A9]at hv hy;obtain⟨⟨q1,q2⟩,hq,hy⟩:=A0.1 hy;have hy:q2=y:=hy;subst hy;rw[hq]at hv;cases hv;have hev:aG h e=some (.cells true [I q2]):=hev;obtain⟨ge,hee⟩:=aB hev;have hbb:=hb _ (A8 hq);simp only at hbb;have een:(e<n)=True:=AAm (by rw[←hn];exact aF hev);have v1:IntKind.i64.wrap (q2-500)=q2-500:=aJ (by omega) (by omega);have v2:IntKind.i64.wrap (q2+500)=q2+500:=aJ (by omega) (by omega);have c35:=w35 (q2-500) empty (q2+500);have hdd:(decide (q2-500≤empty)&&decide (empty≤q2+500))=false:=by
  rw[Bool.and_eq_false_iff,AAf,AAf];by_cases h1:q2-500≤empty;·exact .inr fun h2=>hw ⟨h1,h2⟩
  ·exact .inl h1
 rw[hdd]at c35;refine PanX.seqR (K:=90) aA rfl [2,3] (vs:=[.pt n 0,.pt (n+1) 0]) (h1:=h++[some (.blk false (.cells true [.pt L.c 0])),some (.blk true (.cells true [.str f,.fs [[.str name],[.str t1],[.str t2],[.str owner]],.fs [[I z],[I full],[I empty],[I z2]]]))]) (by rw[hn];unfold wWg; (exact eD hn)) ?_;refine PanX.seqR (K:=90) aA rfl [2,3,5,6,7,8] (vs:=[.pt n 0,.pt (n+1) 0,.pt (n+2) 0,.pt (n+3) 0,.pt (n+4) 0,.pt (n+5) 0]) (h1:=h++nI L.c f name t1 t2 owner z full empty z2 []) (by unfold nI; (exact RS2 hn na)) ?_;refine PanX.seqR (K:=90) aA rfl [2,3,5,6,7,8,9] (vs:=[.pt n 0,.pt (n+1) 0,.pt (n+2) 0,.pt (n+3) 0,.pt (n+4) 0,.pt (n+5) 0,.pt (n+6) 0]) (h1:=h++nI L.c f name t1 t2 owner z full empty z2 [some (.blk false (.cells true [.pt fe 0]))]) (by unfold nI at call ⊢; (exact RS5 hn na hc cn call)) ?_;refine PanX.seqR (K:=90) aA rfl [2,3,5,6,7,8,9] (vs:=[.pt n 0,.pt (n+1) 0,.pt (n+2) 0,.pt (n+3) 0,.pt (n+4) 0,.pt (n+5) 0,.pt (n+6) 0]) (h1:=h++nI L.c f name t1 t2 owner z full empty z2 [some (.blk false (.cells true [.pt fe 0]))]) (by unfold nI; (exact RS3 hn tle m1)) ?_;refine PanX.seqL ?_;refine PanX.seqR (K:=90) aA rfl [7,10] (vs:=[.pt (n+4) 0,.pt e 0]) (h1:=h++nI L.c f name t1 t2 owner z full empty z2 [some (.blk false (.cells true [.pt fe 0]))]) (by unfold nI; (exact RS9 hn hc cn hwo hwm won wmn hf aE)) ?_;refine PanX.seqR (K:=90) aA rfl [7,10,47] (vs:=[.pt (n+4) 0,.pt e 0,.bool true]) (h1:=h++nI L.c f name t1 t2 owner z full empty z2 [some (.blk false (.cells true [.pt fe 0]))]) (by (exact zF)) ?_;refine PanX.condT rfl ?_;exact PanX.regU (fr:=[]) (p:=[⟨0,some 48,.mv (.t 10),none⟩,⟨1,some 49,.nilck (.t 48),none⟩,⟨2,some 50,.fld 0 (.t 49),none⟩,⟨3,some 51,.load false 1 (.t 50),none⟩,⟨4,some 52,.bin .sub (.t 51) (.c (.int .i64 500)),none⟩,⟨5,some 53,.load false 1 (.t 7),none⟩,⟨6,some 54,.mv (.t 10),none⟩,⟨7,some 55,.nilck (.t 54),none⟩,⟨8,some 56,.fld 0 (.t 55),none⟩,⟨9,some 57,.load false 1 (.t 56),none⟩,⟨10,some 58,.bin .add (.t 57) (.c (.int .i64 500)),none⟩,⟨11,some 59,.callf false (.c (.fn (.func 35) [] [])) [(.t 52),(.t 53),(.t 58)] [],none⟩]) (post:=[]) aA [] (g:=58) (first:=[]) (cap:=[]) (args:=[.bool false,I 22]) (vs:=[]) rfl rfl rfl (by unfold nI; (exact RS7 hn hee een v1 v2 c35 aE)) (c58 22 _)
variable{h h' h1:XH}{L:CL}{s:dD}{x:ByteArray}
theorem nS:aP .eql AAr AAr=some (.bool true):=by kernel_rfl
theorem pR:aP .eql AAs AAr=some (.bool false):=by kernel_rfl
theorem qT:aP .eql AAs AAs=some (.bool true):=by kernel_rfl
theorem qU:aP .eql AAt AAr=some (.bool false):=by kernel_rfl
theorem tN:aP .eql AAt AAs=some (.bool false):=by kernel_rfl
theorem vG:aP .eql AAt AAt=some (.bool true):=by kernel_rfl
theorem pS:aP .eql AAu AAr=some (.bool false):=by kernel_rfl
theorem qV:aP .eql AAu AAs=some (.bool false):=by kernel_rfl
theorem tP:aP .eql AAu AAt=some (.bool false):=by kernel_rfl
theorem qW:aP .eql AAu AAu=some (.bool true):=by kernel_rfl
theorem zC:aP .eql AAv AAr=some (.bool false):=by kernel_rfl
theorem aAE:aP .eql AAv AAs=some (.bool false):=by kernel_rfl
theorem aCn:aP .eql AAv AAt=some (.bool false):=by kernel_rfl
theorem aAG:aP .eql AAv AAu=some (.bool false):=by kernel_rfl
theorem aAF:aP .eql AAv AAv=some (.bool true):=by kernel_rfl
theorem tO:aP .eql AAw AAr=some (.bool false):=by kernel_rfl
theorem vH:aP .eql AAw AAs=some (.bool false):=by kernel_rfl
theorem yG:aP .eql AAw AAt=some (.bool false):=by kernel_rfl
theorem vJ:aP .eql AAw AAu=some (.bool false):=by kernel_rfl
theorem vI:aP .eql AAw AAv=some (.bool false):=by kernel_rfl
theorem aAD:aP .eql AAw AAw=some (.bool true):=by kernel_rfl
theorem aCm:aP .eql AAx AAr=some (.bool false):=by kernel_rfl
theorem aDU:aP .eql AAx AAs=some (.bool false):=by kernel_rfl
theorem aFd:aP .eql AAx AAt=some (.bool false):=by kernel_rfl
theorem aDW:aP .eql AAx AAu=some (.bool false):=by kernel_rfl
theorem aDV:aP .eql AAx AAv=some (.bool false):=by kernel_rfl
theorem aGJ:aP .eql AAx AAw=some (.bool false):=by kernel_rfl
theorem yX:aP .eql AAy AAr=some (.bool false):=by kernel_rfl
theorem aAw:aP .eql AAy AAs=some (.bool false):=by kernel_rfl
theorem aCj:aP .eql AAy AAt=some (.bool false):=by kernel_rfl
theorem aAy:aP .eql AAy AAu=some (.bool false):=by kernel_rfl
theorem aAx:aP .eql AAy AAv=some (.bool false):=by kernel_rfl
theorem aDS:aP .eql AAy AAw=some (.bool false):=by kernel_rfl
theorem xE:aP .eql AAz AAr=some (.bool false):=by kernel_rfl
theorem yY:aP .eql AAz AAs=some (.bool false):=by kernel_rfl
theorem aAz:aP .eql AAz AAt=some (.bool false):=by kernel_rfl
theorem zA:aP .eql AAz AAu=some (.bool false):=by kernel_rfl
theorem yZ:aP .eql AAz AAv=some (.bool false):=by kernel_rfl
theorem aCk:aP .eql AAz AAw=some (.bool false):=by kernel_rfl
theorem aAv:aP .eql AAA AAr=some (.bool false):=by kernel_rfl
theorem aCg:aP .eql AAA AAs=some (.bool false):=by kernel_rfl
theorem aDR:aP .eql AAA AAt=some (.bool false):=by kernel_rfl
theorem aCi:aP .eql AAA AAu=some (.bool false):=by kernel_rfl
theorem aCh:aP .eql AAA AAv=some (.bool false):=by kernel_rfl
theorem aFc:aP .eql AAA AAw=some (.bool false):=by kernel_rfl
theorem aAH:aP .eql AAB AAr=some (.bool false):=by kernel_rfl
theorem aCo:aP .eql AAB AAs=some (.bool false):=by kernel_rfl
theorem aDX:aP .eql AAB AAt=some (.bool false):=by kernel_rfl
theorem aCq:aP .eql AAB AAu=some (.bool false):=by kernel_rfl
theorem aCp:aP .eql AAB AAv=some (.bool false):=by kernel_rfl
theorem aFe:aP .eql AAB AAw=some (.bool false):=by kernel_rfl
theorem zB:aP .eql AAC AAr=some (.bool false):=by kernel_rfl
theorem aAA:aP .eql AAC AAs=some (.bool false):=by kernel_rfl
theorem aCl:aP .eql AAC AAt=some (.bool false):=by kernel_rfl
theorem aAC:aP .eql AAC AAu=some (.bool false):=by kernel_rfl
theorem aAB:aP .eql AAC AAv=some (.bool false):=by kernel_rfl
theorem aDT:aP .eql AAC AAw=some (.bool false):=by kernel_rfl
theorem aKx(ly:Lays h L s)(hcl:s.closed<s.tickets.length) :
 runW aD 61 [.pt L.c 0,.agg [.str AAu,.fs [],.fs []]] h=some (.fn (.func 92) [] [.pt h.length 0],h++[some (.blk false (.cells true [.pt L.c 0])),some (.blk true (.cells true [.str AAu,.fs [],.fs []]))]):=by
 obtain⟨n,hn⟩:∃ n,h.length=n:=⟨_,rfl⟩;obtain⟨g,hc⟩:=aB ly.hc;unfold cG at hc;have cn:(L.c<n)=True:=AAm (by rw[←hn];exact aF ly.hc);rw[eJ (by omega)]at hc;have t1:((s.closed:Int)<(s.tickets.length:Int))=True:=AAa;have m1:=uQ 4;rw[qY 61 nM rfl,hn];unfold nM;dsimp only;(exact RS9 hn hc cn t1 m1 pS qV tP qW)
theorem aRl{c:Nat}{z0:Int}:runW aD 61 [.pt c 0,.agg [.str AAx,.fs [[.str x]],.fs [[I z0]]]] h=some (.nilfn,h++[some (.blk false (.cells true [.pt c 0])),some (.blk true (.cells true [.str AAx,.fs [[.str x]],.fs [[I z0]]]))]):=by
 obtain⟨n,hn⟩:∃ n,h.length=n:=⟨_,rfl⟩;rw[qY 61 nM rfl,hn];unfold nM;dsimp only;(exact RS7 hn aCm aDU aFd aDW aDV aGJ)
theorem aKu{c:Nat}  : runW aD 61 [.pt c 0,.agg [.str AAy,.fs [],.fs []]] h=some (.nilfn,h++[some (.blk false (.cells true [.pt c 0])),some (.blk true (.cells true [.str AAy,.fs [],.fs []]))]):=by
 obtain⟨n,hn⟩:∃ n,h.length=n:=⟨_,rfl⟩;rw[qY 61 nM rfl,hn];unfold nM;dsimp only;(exact RS7 hn yX aAw aCj aAy aAx aDS)
theorem aIX{c:Nat}{u1:ByteArray}{i:Int}:runW aD 61 [.pt c 0,.agg [.str AAz,.fs [[.str u1]],.fs [[I i]]]] h=some (.nilfn,h++[some (.blk false (.cells true [.pt c 0])),some (.blk true (.cells true [.str AAz,.fs [[.str u1]],.fs [[I i]]]))]):=by
 obtain⟨n,hn⟩:∃ n,h.length=n:=⟨_,rfl⟩;rw[qY 61 nM rfl,hn];unfold nM;dsimp only;(exact RS7 hn xE yY aAz zA yZ aCk)
theorem aOk{c:Nat}{z0:Int}:runW aD 61 [.pt c 0,.agg [.str AAA,.fs [[.str x]],.fs [[I z0]]]] h=some (.nilfn,h++[some (.blk false (.cells true [.pt c 0])),some (.blk true (.cells true [.str AAA,.fs [[.str x]],.fs [[I z0]]]))]):=by
 obtain⟨n,hn⟩:∃ n,h.length=n:=⟨_,rfl⟩;rw[qY 61 nM rfl,hn];unfold nM;dsimp only;(exact RS7 hn aAv aCg aDR aCi aCh aFc)
theorem aOl{c:Nat}{z0:Int}:runW aD 61 [.pt c 0,.agg [.str AAB,.fs [[.str x]],.fs [[I z0]]]] h=some (.nilfn,h++[some (.blk false (.cells true [.pt c 0])),some (.blk true (.cells true [.str AAB,.fs [[.str x]],.fs [[I z0]]]))]):=by
 obtain⟨n,hn⟩:∃ n,h.length=n:=⟨_,rfl⟩;rw[qY 61 nM rfl,hn];unfold nM;dsimp only;(exact RS7 hn aAH aCo aDX aCq aCp aFe)
theorem aKv{c:Nat}{z0:Int}:runW aD 61 [.pt c 0,.agg [.str AAC,.fs [[.str x]],.fs [[I z0]]]] h=some (.nilfn,h++[some (.blk false (.cells true [.pt c 0])),some (.blk true (.cells true [.str AAC,.fs [[.str x]],.fs [[I z0]]]))]):=by
 obtain⟨n,hn⟩:∃ n,h.length=n:=⟨_,rfl⟩;rw[qY 61 nM rfl,hn];unfold nM;dsimp only;(exact RS7 hn zB aAA aCl aAC aAB aDT)
theorem aIY(ly:Lays h L s){z0:Int}(hx:dE (s.farmers.map (·.1)) x=none)(hl:s.farmers.length≠9) :
 runW aD 61 [.pt L.c 0,.agg [.str AAr,.fs [[.str x]],.fs [[I z0]]]] h=some (.fn (.func 88) [] [.pt h.length 0,.pt (h.length+1) 0],h++[some (.blk false (.cells true [.pt L.c 0])),some (.blk true (.cells true [.str AAr,.fs [[.str x]],.fs [[I z0]]]))]):=by
 obtain⟨n,hn⟩:∃ n,h.length=n:=⟨_,rfl⟩;obtain⟨g,hc⟩:=aB ly.hc;unfold cG at hc;have cn:(L.c<n)=True:=AAm (by rw[←hn];exact aF ly.hc);obtain⟨gw,hwo⟩:=ly.f.ho;obtain⟨gm,hwm⟩:=ly.f.hm;have won:(L.f.o<n)=True:=AAm (by rw[←hn];exact ly.f.lts.1);have wmn:(L.f.m<n)=True:=AAm (by rw[←hn];exact ly.f.lts.2.1);have hf:=ly.f.miss hx;have f1:=(ly.f.fr (Fr.app h [some (.blk false (.cells true [.pt L.c 0])),some (.blk true (.cells true [.str AAr,.fs [[.str x]],.fs [[I z0]]]))]) (fun _ _ hb=>by cases hb)).fullf (x:=x) (by decide);rw[hx,AAk rfl,Bool.true_and,AAl (by rw[B0];omega)]at f1;have m1:=uQ 6;have m2:=uQ 15;rw[qY 61 nM rfl,hn];unfold nM;dsimp only;(exact aBY hn hc cn m1 m2 hwo hwm won wmn hf f1 nS aE)
theorem aKt{c:Nat}{u1 u2 y:ByteArray}{z0 z1 a b:Int}{v:AV}{h2:XH}(call:runW aD 90 [.pt c 0,.agg [.str AAs,.fs [[.str x],[.str u1],[.str u2],[.str y]],.fs [[I z0],[I a],[I b],[I z1]]]] (h++[some (.blk false (.cells true [.pt c 0])),some (.blk true (.cells true [.str AAs,.fs [[.str x],[.str u1],[.str u2],[.str y]],.fs [[I z0],[I a],[I b],[I z1]]]))])=some (v,h2))(p0:(hat h2 h.length).isSome=true)(p1:(hat h2 (h.length+1)).isSome=true):runW aD 61 [.pt c 0,.agg [.str AAs,.fs [[.str x],[.str u1],[.str u2],[.str y]],.fs [[I z0],[I a],[I b],[I z1]]]] h=some (v,h2):=by
 obtain⟨n,hn⟩:∃ n,h.length=n:=⟨_,rfl⟩;rw[hn]at p0 p1;rw[qY 61 nM rfl,hn];unfold nM;dsimp only;(exact RS7 hn call p0 p1 pR qT aE)
theorem aOj{c:Nat}{u1:ByteArray}{i:Int}{v:AV}{h2:XH}(call:runW aD 91 [.pt c 0,I i] (h++[some (.blk false (.cells true [.pt c 0])),some (.blk true (.cells true [.str AAt,.fs [[.str u1]],.fs [[I i]]]))])=some (v,h2))(p0:(hat h2 h.length).isSome=true)(p1:(hat h2 (h.length+1)).isSome=true):runW aD 61 [.pt c 0,.agg [.str AAt,.fs [[.str u1]],.fs [[I i]]]] h=some (v,h2):=by
 obtain⟨n,hn⟩:∃ n,h.length=n:=⟨_,rfl⟩;rw[hn]at p0 p1;rw[qY 61 nM rfl,hn];unfold nM;dsimp only;(exact RS7 hn call p0 p1 qU tN vG)
theorem aKw{c:Nat}{u1:ByteArray}{z0 a:Int}{v:AV}{h2:XH}(call:runW aD 93 [.pt c 0,.str x,I a] (h++[some (.blk false (.cells true [.pt c 0])),some (.blk true (.cells true [.str AAv,.fs [[.str x],[.str u1]],.fs [[I z0],[I a]]]))])=some (v,h2))(p0:(hat h2 h.length).isSome=true)(p1:(hat h2 (h.length+1)).isSome=true):runW aD 61 [.pt c 0,.agg [.str AAv,.fs [[.str x],[.str u1]],.fs [[I z0],[I a]]]] h=some (v,h2):=by
 obtain⟨n,hn⟩:∃ n,h.length=n:=⟨_,rfl⟩;rw[hn]at p0 p1;rw[qY 61 nM rfl,hn];unfold nM;dsimp only;(exact RS9 hn call p0 p1 zC aAE aCn aAG aAF)
theorem aRk{c:Nat}{u1 u2:ByteArray}{z0 a b:Int}{v:AV}{h2:XH}(call:runW aD 94 [.pt c 0,.str x,I a,I b] (h++[some (.blk false (.cells true [.pt c 0])),some (.blk true (.cells true [.str AAw,.fs [[.str x],[.str u1],[.str u2]],.fs [[I z0],[I a],[I b]]]))])=some (v,h2))(p0:(hat h2 h.length).isSome=true)(p1:(hat h2 (h.length+1)).isSome=true):runW aD 61 [.pt c 0,.agg [.str AAw,.fs [[.str x],[.str u1],[.str u2]],.fs [[I z0],[I a],[I b]]]] h=some (v,h2):=by
 obtain⟨n,hn⟩:∃ n,h.length=n:=⟨_,rfl⟩;rw[hn]at p0 p1;rw[qY 61 nM rfl,hn];unfold nM;dsimp only;(exact xY hn call p0 p1 tO vH yG vJ vI aAD)
variable{h h' h1:XH}{L:CL}{s:dD}{x:ByteArray}
theorem aGp{c:Nat}{u1 u2 y:ByteArray}{z0 z1 a b:Int}{v:AV}{h2:XH}(call:CalP Tryz.prog aD 90 [.pt c 0,.agg [.str AAs,.fs [[.str x],[.str u1],[.str u2],[.str y]],.fs [[I z0],[I a],[I b],[I z1]]]] (h++[some (.blk false (.cells true [.pt c 0])),some (.blk true (.cells true [.str AAs,.fs [[.str x],[.str u1],[.str u2],[.str y]],.fs [[I z0],[I a],[I b],[I z1]]]))]) v h2):CalP Tryz.prog aD 61 [.pt c 0,.agg [.str AAs,.fs [[.str x],[.str u1],[.str u2],[.str y]],.fs [[I z0],[I a],[I b],[I z1]]]] h v h2:=by
 obtain⟨n,hn⟩:∃ n,h.length=n:=⟨_,rfl⟩;refine CalP.of (d:=nM) (e':=bW [] []) aA rfl (by simp[nM]) rfl ?_;unfold nM;dsimp only;refine PanX.seqR (K:=61) aA rfl [2,3] (vs:=[.pt n 0,.pt (n+1) 0]) (h1:=h++[some (.blk false (.cells true [.pt c 0])),some (.blk true (.cells true [.str AAs,.fs [[.str x],[.str u1],[.str u2],[.str y]],.fs [[I z0],[I a],[I b],[I z1]]]))]) (by rw[hn]; (exact eD hn)) ?_;refine PanX.seqL ?_;refine PanX.seqR (K:=61) aA rfl [2,3,6] (vs:=[.pt n 0,.pt (n+1) 0,.str AAs]) (h1:=h++[some (.blk false (.cells true [.pt c 0])),some (.blk true (.cells true [.str AAs,.fs [[.str x],[.str u1],[.str u2],[.str y]],.fs [[I z0],[I a],[I b],[I z1]]]))]) (by (exact eD hn)) ?_;refine PanX.block ?_;refine PanX.seqR (K:=61) aA rfl [2,3,6,7] (vs:=[.pt n 0,.pt (n+1) 0,.str AAs,.bool false]) (h1:=h++[some (.blk false (.cells true [.pt c 0])),some (.blk true (.cells true [.str AAs,.fs [[.str x],[.str u1],[.str u2],[.str y]],.fs [[I z0],[I a],[I b],[I z1]]]))]) (by (exact eD pR)) ?_;refine PanX.condF rfl ?_;refine PanX.seqR (K:=61) aA rfl [2,3,6,35] (vs:=[.pt n 0,.pt (n+1) 0,.str AAs,.bool true]) (h1:=h++[some (.blk false (.cells true [.pt c 0])),some (.blk true (.cells true [.str AAs,.fs [[.str x],[.str u1],[.str u2],[.str y]],.fs [[I z0],[I a],[I b],[I z1]]]))]) (by (exact eD qT)) ?_;refine PanX.condT rfl ?_;refine PanX.seqL ?_;exact PanX.reg (p:=[⟨0,(some 37),(.load false 1 (.t 2)),none⟩,⟨0,(some 38),(.load true 3 (.t 3)),none⟩]) (post:=[⟨0,(some 4),(.mv (.t 39)),none⟩]) aA [] (g:=90) (first:=[]) (cap:=[]) (args:=[.pt c 0,.agg [.str AAs,.fs [[.str x],[.str u1],[.str u2],[.str y]],.fs [[I z0],[I a],[I b],[I z1]]]]) (vs:=[]) rfl rfl (by (exact eD hn)) call
theorem aED{c:Nat}{u1:ByteArray}{i:Int}{v:AV}{h2:XH}(call:CalP Tryz.prog aD 91 [.pt c 0,I i] (h++[some (.blk false (.cells true [.pt c 0])),some (.blk true (.cells true [.str AAt,.fs [[.str u1]],.fs [[I i]]]))]) v h2):CalP Tryz.prog aD 61 [.pt c 0,.agg [.str AAt,.fs [[.str u1]],.fs [[I i]]]] h v h2:=by
 obtain⟨n,hn⟩:∃ n,h.length=n:=⟨_,rfl⟩;refine CalP.of (d:=nM) (e':=bW [] []) aA rfl (by simp[nM]) rfl ?_;unfold nM;dsimp only;refine PanX.seqR (K:=61) aA rfl [2,3] (vs:=[.pt n 0,.pt (n+1) 0]) (h1:=h++[some (.blk false (.cells true [.pt c 0])),some (.blk true (.cells true [.str AAt,.fs [[.str u1]],.fs [[I i]]]))]) (by rw[hn]; (exact eD hn)) ?_;refine PanX.seqL ?_;refine PanX.seqR (K:=61) aA rfl [2,3,6] (vs:=[.pt n 0,.pt (n+1) 0,.str AAt]) (h1:=h++[some (.blk false (.cells true [.pt c 0])),some (.blk true (.cells true [.str AAt,.fs [[.str u1]],.fs [[I i]]]))]) (by (exact eD hn)) ?_;refine PanX.block ?_;refine PanX.seqR (K:=61) aA rfl [2,3,6,7] (vs:=[.pt n 0,.pt (n+1) 0,.str AAt,.bool false]) (h1:=h++[some (.blk false (.cells true [.pt c 0])),some (.blk true (.cells true [.str AAt,.fs [[.str u1]],.fs [[I i]]]))]) (by (exact eD qU)) ?_;refine PanX.condF rfl ?_;refine PanX.seqR (K:=61) aA rfl [2,3,6,35] (vs:=[.pt n 0,.pt (n+1) 0,.str AAt,.bool false]) (h1:=h++[some (.blk false (.cells true [.pt c 0])),some (.blk true (.cells true [.str AAt,.fs [[.str u1]],.fs [[I i]]]))]) (by (exact eD tN)) ?_;refine PanX.condF rfl ?_;refine PanX.seqR (K:=61) aA rfl [2,3,6,40] (vs:=[.pt n 0,.pt (n+1) 0,.str AAt,.bool true]) (h1:=h++[some (.blk false (.cells true [.pt c 0])),some (.blk true (.cells true [.str AAt,.fs [[.str u1]],.fs [[I i]]]))]) (by (exact eD vG)) ?_;refine PanX.condT rfl ?_;refine PanX.seqL ?_;exact PanX.regU (fr:=[]) (p:=[⟨0,(some 42),(.load false 1 (.t 2)),none⟩,⟨1,(some 43),(.fld 2 (.t 3)),none⟩,⟨2,(some 44),(.load false 1 (.t 43)),none⟩,⟨3,(some 45),(.idx 1 (.t 44) (.c (.int .i64 0))),none⟩,⟨4,(some 46),(.load false 1 (.t 45)),none⟩]) (post:=[⟨6,(some 4),(.mv (.t 47)),none⟩]) aA [] (g:=91) (first:=[]) (cap:=[]) (args:=[.pt c 0,I i]) (vs:=[]) rfl rfl rfl (by (exact eD hn)) call
theorem aSE{c:Nat}{u1 u2:ByteArray}{z0 a b:Int}{v:AV}{h2:XH}(call:CalP Tryz.prog aD 94 [.pt c 0,.str x,I a,I b] (h++[some (.blk false (.cells true [.pt c 0])),some (.blk true (.cells true [.str AAw,.fs [[.str x],[.str u1],[.str u2]],.fs [[I z0],[I a],[I b]]]))]) v h2):CalP Tryz.prog aD 61 [.pt c 0,.agg [.str AAw,.fs [[.str x],[.str u1],[.str u2]],.fs [[I z0],[I a],[I b]]]] h v h2:=by
 obtain⟨n,hn⟩:∃ n,h.length=n:=⟨_,rfl⟩;refine CalP.of (d:=nM) (e':=bW [] []) aA rfl (by simp[nM]) rfl ?_;unfold nM;dsimp only;refine PanX.seqR (K:=61) aA rfl [2,3] (vs:=[.pt n 0,.pt (n+1) 0]) (h1:=h++[some (.blk false (.cells true [.pt c 0])),some (.blk true (.cells true [.str AAw,.fs [[.str x],[.str u1],[.str u2]],.fs [[I z0],[I a],[I b]]]))]) (by rw[hn]; (exact eD hn)) ?_;refine PanX.seqL ?_;refine PanX.seqR (K:=61) aA rfl [2,3,6] (vs:=[.pt n 0,.pt (n+1) 0,.str AAw]) (h1:=h++[some (.blk false (.cells true [.pt c 0])),some (.blk true (.cells true [.str AAw,.fs [[.str x],[.str u1],[.str u2]],.fs [[I z0],[I a],[I b]]]))]) (by (exact eD hn)) ?_;refine PanX.block ?_;refine PanX.seqR (K:=61) aA rfl [2,3,6,7] (vs:=[.pt n 0,.pt (n+1) 0,.str AAw,.bool false]) (h1:=h++[some (.blk false (.cells true [.pt c 0])),some (.blk true (.cells true [.str AAw,.fs [[.str x],[.str u1],[.str u2]],.fs [[I z0],[I a],[I b]]]))]) (by (exact eD tO)) ?_;refine PanX.condF rfl ?_;refine PanX.seqR (K:=61) aA rfl [2,3,6,35] (vs:=[.pt n 0,.pt (n+1) 0,.str AAw,.bool false]) (h1:=h++[some (.blk false (.cells true [.pt c 0])),some (.blk true (.cells true [.str AAw,.fs [[.str x],[.str u1],[.str u2]],.fs [[I z0],[I a],[I b]]]))]) (by (exact eD vH)) ?_;refine PanX.condF rfl ?_;refine PanX.seqR (K:=61) aA rfl [2,3,6,40] (vs:=[.pt n 0,.pt (n+1) 0,.str AAw,.bool false]) (h1:=h++[some (.blk false (.cells true [.pt c 0])),some (.blk true (.cells true [.str AAw,.fs [[.str x],[.str u1],[.str u2]],.fs [[I z0],[I a],[I b]]]))]) (by (exact eD yG)) ?_;refine PanX.condF rfl ?_;refine PanX.seqR (K:=61) aA rfl [2,3,6,48] (vs:=[.pt n 0,.pt (n+1) 0,.str AAw,.bool false]) (h1:=h++[some (.blk false (.cells true [.pt c 0])),some (.blk true (.cells true [.str AAw,.fs [[.str x],[.str u1],[.str u2]],.fs [[I z0],[I a],[I b]]]))]) (by (exact eD vJ)) ?_;refine PanX.condF rfl ?_;refine PanX.seqR (K:=61) aA rfl [2,3,6,62] (vs:=[.pt n 0,.pt (n+1) 0,.str AAw,.bool false]) (h1:=h++[some (.blk false (.cells true [.pt c 0])),some (.blk true (.cells true [.str AAw,.fs [[.str x],[.str u1],[.str u2]],.fs [[I z0],[I a],[I b]]]))]) (by (exact eD vI)) ?_;refine PanX.condF rfl ?_;refine PanX.seqR (K:=61) aA rfl [2,3,6,74] (vs:=[.pt n 0,.pt (n+1) 0,.str AAw,.bool true]) (h1:=h++[some (.blk false (.cells true [.pt c 0])),some (.blk true (.cells true [.str AAw,.fs [[.str x],[.str u1],[.str u2]],.fs [[I z0],[I a],[I b]]]))]) (by (exact eD aAD)) ?_;refine PanX.condT rfl ?_;refine PanX.seqL ?_;exact PanX.regU (fr:=[]) (p:=[⟨0,(some 76),(.load false 1 (.t 2)),none⟩,⟨1,(some 77),(.fld 1 (.t 3)),none⟩,⟨2,(some 78),(.load false 1 (.t 77)),none⟩,⟨3,(some 79),(.idx 1 (.t 78) (.c (.int .i64 0))),none⟩,⟨4,(some 80),(.load false 1 (.t 79)),none⟩,⟨5,(some 81),(.fld 2 (.t 3)),none⟩,⟨6,(some 82),(.load false 1 (.t 81)),none⟩,⟨7,(some 83),(.idx 1 (.t 82) (.c (.int .i64 1))),none⟩,⟨8,(some 84),(.load false 1 (.t 83)),none⟩,⟨9,(some 85),(.fld 2 (.t 3)),none⟩,⟨10,(some 86),(.load false 1 (.t 85)),none⟩,⟨11,(some 87),(.idx 1 (.t 86) (.c (.int .i64 2))),none⟩,⟨12,(some 88),(.load false 1 (.t 87)),none⟩]) (post:=[⟨14,(some 4),(.mv (.t 89)),none⟩]) aA [] (g:=94) (first:=[]) (cap:=[]) (args:=[.pt c 0,.str x,I a,I b]) (vs:=[]) rfl rfl rfl (by (exact eD hn)) call
theorem aHE(ly:Lays h L s){z0:Int}{i:Nat}(hx:dE (s.farmers.map (·.1)) x=some i):CalP Tryz.prog aD 61 [.pt L.c 0,.agg [.str AAr,.fs [[.str x]],.fs [[I z0]]]] h (.ifc 110 (.agg [I 6])) (h++[some (.blk false (.cells true [.pt L.c 0])),some (.blk true (.cells true [.str AAr,.fs [[.str x]],.fs [[I z0]]]))]):=by
 obtain⟨n,hn⟩:∃ n,h.length=n:=⟨_,rfl⟩;obtain⟨g,hc⟩:=aB ly.hc;unfold cG at hc;have cn:(L.c<n)=True:=AAm (by rw[←hn];exact aF ly.hc);obtain⟨gw,hwo⟩:=ly.f.ho;obtain⟨gm,hwm⟩:=ly.f.hm;have won:(L.f.o<n)=True:=AAm (by rw[←hn];exact ly.f.lts.1);have wmn:(L.f.m<n)=True:=AAm (by rw[←hn];exact ly.f.lts.2.1);obtain⟨e,v,he,hv,hf,hev⟩:=ly.f.found hx;refine CalP.of (d:=nM) (e':=bW [] []) aA rfl (by simp[nM]) rfl ?_;unfold nM;dsimp only;refine PanX.seqR (K:=61) aA rfl [2,3] (vs:=[.pt n 0,.pt (n+1) 0]) (h1:=h++[some (.blk false (.cells true [.pt L.c 0])),some (.blk true (.cells true [.str AAr,.fs [[.str x]],.fs [[I z0]]]))]) (by rw[hn]; (exact eD hn)) ?_;refine PanX.seqL ?_;refine PanX.seqR (K:=61) aA rfl [2,3,6] (vs:=[.pt n 0,.pt (n+1) 0,.str AAr]) (h1:=h++[some (.blk false (.cells true [.pt L.c 0])),some (.blk true (.cells true [.str AAr,.fs [[.str x]],.fs [[I z0]]]))]) (by (exact eD hn)) ?_;refine PanX.block ?_;refine PanX.seqR (K:=61) aA rfl [2,3,6,7] (vs:=[.pt n 0,.pt (n+1) 0,.str AAr,.bool true]) (h1:=h++[some (.blk false (.cells true [.pt L.c 0])),some (.blk true (.cells true [.str AAr,.fs [[.str x]],.fs [[I z0]]]))]) (by (exact eD nS)) ?_;refine PanX.condT rfl ?_;refine PanX.seqL ?_;exact PanX.regU (fr:=[]) (p:=[⟨0,(some 9),(.load false 1 (.t 2)),none⟩,⟨1,(some 10),(.nilck (.t 9)),none⟩,⟨2,(some 11),(.fld 0 (.t 10)),none⟩,⟨3,(some 12),(.load false 1 (.t 11)),none⟩,⟨4,(some 13),(.nilck (.t 12)),none⟩,⟨5,(some 14),(.fld 1 (.t 13)),none⟩,⟨6,(some 15),(.load false 1 (.t 14)),none⟩,⟨7,(some 16),(.fld 1 (.t 3)),none⟩,⟨8,(some 17),(.load false 1 (.t 16)),none⟩,⟨9,(some 18),(.idx 1 (.t 17) (.c (.int .i64 0))),none⟩,⟨10,(some 19),(.load false 1 (.t 18)),none⟩,⟨11,(some 20),(.lookup true false .nilpt (.t 15) (.t 19)),none⟩,⟨12,(some 21),(.eqn 3 false (.t 20) (.c .nilpt)),none⟩]) (post:=[]) aA [] (g:=58) (first:=[]) (cap:=[]) (args:=[.bool false,I 6]) (vs:=[]) rfl rfl rfl (by (exact RS9 hn hc cn hwo hwm won wmn hf aE)) (c58 6 _)
theorem aNo(ly:Lays h L s)(hcl:s.tickets.length≤s.closed):CalP Tryz.prog aD 61 [.pt L.c 0,.agg [.str AAu,.fs [],.fs []]] h (.ifc 110 (.agg [I 4])) (h++[some (.blk false (.cells true [.pt L.c 0])),some (.blk true (.cells true [.str AAu,.fs [],.fs []]))]):=by
 obtain⟨n,hn⟩:∃ n,h.length=n:=⟨_,rfl⟩;obtain⟨g,hc⟩:=aB ly.hc;unfold cG at hc;have cn:(L.c<n)=True:=AAm (by rw[←hn];exact aF ly.hc);refine CalP.of (d:=nM) (e':=bW [] []) aA rfl (by simp[nM]) rfl ?_;unfold nM;dsimp only;refine PanX.seqR (K:=61) aA rfl [2,3] (vs:=[.pt n 0,.pt (n+1) 0]) (h1:=h++[some (.blk false (.cells true [.pt L.c 0])),some (.blk true (.cells true [.str AAu,.fs [],.fs []]))]) (by rw[hn]; (exact eD hn)) ?_;refine PanX.seqL ?_;refine PanX.seqR (K:=61) aA rfl [2,3,6] (vs:=[.pt n 0,.pt (n+1) 0,.str AAu]) (h1:=h++[some (.blk false (.cells true [.pt L.c 0])),some (.blk true (.cells true [.str AAu,.fs [],.fs []]))]) (by (exact eD hn)) ?_;refine PanX.block ?_;refine PanX.seqR (K:=61) aA rfl [2,3,6,7] (vs:=[.pt n 0,.pt (n+1) 0,.str AAu,.bool false]) (h1:=h++[some (.blk false (.cells true [.pt L.c 0])),some (.blk true (.cells true [.str AAu,.fs [],.fs []]))]) (by (exact eD pS)) ?_;refine PanX.condF rfl ?_;refine PanX.seqR (K:=61) aA rfl [2,3,6,35] (vs:=[.pt n 0,.pt (n+1) 0,.str AAu,.bool false]) (h1:=h++[some (.blk false (.cells true [.pt L.c 0])),some (.blk true (.cells true [.str AAu,.fs [],.fs []]))]) (by (exact eD qV)) ?_;refine PanX.condF rfl ?_;refine PanX.seqR (K:=61) aA rfl [2,3,6,40] (vs:=[.pt n 0,.pt (n+1) 0,.str AAu,.bool false]) (h1:=h++[some (.blk false (.cells true [.pt L.c 0])),some (.blk true (.cells true [.str AAu,.fs [],.fs []]))]) (by (exact eD tP)) ?_;refine PanX.condF rfl ?_;refine PanX.seqR (K:=61) aA rfl [2,3,6,48] (vs:=[.pt n 0,.pt (n+1) 0,.str AAu,.bool true]) (h1:=h++[some (.blk false (.cells true [.pt L.c 0])),some (.blk true (.cells true [.str AAu,.fs [],.fs []]))]) (by (exact eD qW)) ?_;refine PanX.condT rfl ?_;refine PanX.seqL ?_;refine PanX.regU (fr:=[]) (p:=[⟨0,(some 50),(.load false 1 (.t 2)),none⟩,⟨1,(some 51),(.nilck (.t 50)),none⟩,⟨2,(some 52),(.fld 5 (.t 51)),none⟩,⟨3,(some 53),(.load false 1 (.t 52)),none⟩,⟨4,(some 54),(.load false 1 (.t 2)),none⟩,⟨5,(some 55),(.nilck (.t 54)),none⟩,⟨6,(some 56),(.fld 4 (.t 55)),none⟩,⟨7,(some 57),(.load false 1 (.t 56)),none⟩,⟨8,(some 58),(.len false (.t 57)),none⟩,⟨9,(some 59),(.bin .lss (.t 53) (.t 58)),none⟩]) (post:=[]) aA [] (g:=58) (first:=[]) (cap:=[]) (args:=[.bool false,I 4]) (vs:=[]) rfl rfl rfl ?_ (c58 4 _);by_cases hk:0<s.tickets.length
 ·rw[eJ hk]at hc
  have t1:((s.closed:Int)<(s.tickets.length:Int))=False:=AAb;(exact zY hc hn cn t1)
 ·have h0:s.tickets.length=0:=by omega
  have hv:iC L.tb s.tickets.length = .nilsl:=by rw[h0];rfl
  rw[hv]at hc;have t1:((s.closed:Int)<0)=False:=AAb;(exact zY hc hn cn t1)
variable{h h' h1:XH}{L:CL}{s:dD}{x:ByteArray}
def Clo(n:Nat):ABlk→Prop
 | .cells _ xs=>∀ b cs,n≤b→wW b cs xs=xs
 | .map _ es=>∀ b cs,n≤b→(es.map fun p=>(uI b cs p.1,uI b cs p.2))=es
 | _=>False
def Frz(n:Nat)(h hh:XH):Prop:=∀ j c,aG h j=some c→Clo n c→aG hh j=some c
theorem Fr.frz(f:Fr [] h h'){n:Nat}:Frz n h h':=fun j c hc _=>f.keepS hc (by simp)
theorem Frz.trans{n:Nat}(a:Frz n h h1)(b:Frz n h1 h'):Frz n h h':=fun j c hc hn=>b j c (a j c hc hn) hn
theorem aPy{b j:Nat}{cs:List AV}{c:ABlk}(hc:aG h j=some c)(hn:Clo b c):aG (h.map (fzO b cs)) j=some c:=by
 obtain⟨g,hg⟩:=aB hc;have h2:hat (h.map (fzO b cs)) j=fzO b cs (hat h j):=by
  unfold hat;rw[A6,A6,A9];cases h[j]?<;>rfl
 unfold aG;rw[h2,hg];cases g with
 | true=>cases c<;>rfl
 | false=>cases c with
   | cells w xs=>show some (ABlk.cells w (wW b cs xs))=_;rw[hn b cs (B7 _)]
   | map w es=>show some (ABlk.map w (es.map fun p=>(uI b cs p.1,uI b cs p.2)))=_;rw[hn b cs (B7 _)]
   | _=>exact hn.elim
theorem Clo.mono{n b:Nat}{c:ABlk}(h:Clo n c)(hb:n≤b):Clo b c:=by
 cases c with
 | cells w xs=>exact fun b' cs hb'=>h b' cs (F8 hb hb')
 | map w es=>exact fun b' cs hb'=>h b' cs (F8 hb hb')
 | _=>exact h
theorem Frz.fz{n b:Nat}{cs:List AV}(hb:n≤b):Frz n h (h.map (fzO b cs)):=fun j c hc hn=>aPy hc (hn.mono hb)
theorem Frz.app{n:Nat}(f:Frz n h h')(k:XH):Frz n h (h'++k):=f.trans (Fr.app h' k).frz
theorem aDC{n:Int}(h : -9223372036854775808≤n∧n≤9223372036854775807):runW aD 57 [I n] []=some (.str ⟨⟨Lib.itoa n⟩⟩,[]):=by
 rw[p57];unfold aBb;dsimp only;rw[if_pos h]
theorem qQ:aP .eql AAy AAy=some (.bool true):=by kernel_rfl
theorem vD:aP .eql AAx AAy=some (.bool false):=by kernel_rfl
theorem aAu:aP .eql AAx AAx=some (.bool true):=by kernel_rfl
theorem tJ:aP .eql AAA AAy=some (.bool false):=by kernel_rfl
theorem yE:aP .eql AAA AAx=some (.bool false):=by kernel_rfl
theorem vB:aP .eql AAA AAA=some (.bool true):=by kernel_rfl
theorem tM:aP .eql AAB AAy=some (.bool false):=by kernel_rfl
theorem yF:aP .eql AAB AAx=some (.bool false):=by kernel_rfl
theorem vE:aP .eql AAB AAA=some (.bool false):=by kernel_rfl
theorem vF:aP .eql AAB AAB=some (.bool true):=by kernel_rfl
theorem qR:aP .eql AAC AAy=some (.bool false):=by kernel_rfl
theorem vC:aP .eql AAC AAx=some (.bool false):=by kernel_rfl
theorem tK:aP .eql AAC AAA=some (.bool false):=by kernel_rfl
theorem tL:aP .eql AAC AAB=some (.bool false):=by kernel_rfl
theorem qS:aP .eql AAC AAC=some (.bool true):=by kernel_rfl
theorem kX:aP .eql AAz AAy=some (.bool false):=by kernel_rfl
theorem nG:aP .eql AAz AAx=some (.bool false):=by kernel_rfl
theorem lZ:aP .eql AAz AAA=some (.bool false):=by kernel_rfl
theorem mA:aP .eql AAz AAB=some (.bool false):=by kernel_rfl
theorem kY:aP .eql AAz AAC=some (.bool false):=by kernel_rfl
theorem iW:aP .eql AAz AAz=some (.bool true):=by kernel_rfl
theorem aRj(ly:Lays h L s){z0:Int}{i:Nat}{y:Int}(hx:dE (s.farmers.map (·.1)) x=some i)(hy:s.farmers[i]?=some (x,y))(hb : -9223372036854775808≤y∧y≤9223372036854775807):runW aD 62 [.pt L.c 0,.agg [.str AAx,.fs [[.str x]],.fs [[I z0]]]] h=some (.str ⟨⟨Lib.itoa y⟩⟩,h++[some (.blk true (.cells true [.str AAx,.fs [[.str x]],.fs [[I z0]]]))]):=by
 obtain⟨n,hn⟩:∃ n,h.length=n:=⟨_,rfl⟩;obtain⟨g,hc⟩:=aB ly.hc;unfold cG at hc;have cn:(L.c<n)=True:=AAm (by rw[←hn];exact aF ly.hc);obtain⟨e,v,he,hv,hev,call⟩:=(ly.ext [some (.blk true (.cells true [.str AAx,.fs [[.str x]],.fs [[I z0]]]))]).f.getf hx;rw[A9,hy]at hv;cases hv;have hev2:=ly.f.he he (v:=[I y]) (by rw[A9,hy];rfl);obtain⟨ge,hee⟩:=aB hev2;have en:(e<n)=True:=AAm (by rw[←hn];exact aF hev2);have c57:=aDC hb;rw[qY 62 sZ rfl,hn];unfold sZ;dsimp only;(exact RS9 hn hc cn call hee en c57 vD aAu)
theorem aOh(ly:Lays h L s){z0:Int}{i:Nat}{y:Int×Int}(hx:dE (s.meters.map (·.1)) x=some i)(hy:s.meters[i]?=some (x,y))(hb : -9223372036854775808≤y.2∧y.2≤9223372036854775807):runW aD 62 [.pt L.c 0,.agg [.str AAA,.fs [[.str x]],.fs [[I z0]]]] h=some (.str ⟨⟨Lib.itoa y.2⟩⟩,h++[some (.blk true (.cells true [.str AAA,.fs [[.str x]],.fs [[I z0]]]))]):=by
 obtain⟨n,hn⟩:∃ n,h.length=n:=⟨_,rfl⟩;obtain⟨g,hc⟩:=aB ly.hc;unfold cG at hc;have cn:(L.c<n)=True:=AAm (by rw[←hn];exact aF ly.hc);obtain⟨e,v,he,hv,hev,call⟩:=(ly.ext [some (.blk true (.cells true [.str AAA,.fs [[.str x]],.fs [[I z0]]]))]).m.getm hx;rw[A9,hy]at hv;cases hv;have hev2:=ly.m.he he (v:=[I y.1,I y.2]) (by rw[A9,hy];rfl);obtain⟨ge,hee⟩:=aB hev2;have en:(e<n)=True:=AAm (by rw[←hn];exact aF hev2);have c57:=aDC hb;rw[qY 62 sZ rfl,hn];unfold sZ;dsimp only;(exact xY hn hc cn call hee en c57 tJ yE vB)
theorem aOi(ly:Lays h L s){z0:Int}{i:Nat}{y:Int}(hx:dE (s.pans.map (·.1)) x=some i)(hy:s.pans[i]?=some (x,y))(hb : -9223372036854775808≤y∧y≤9223372036854775807):runW aD 62 [.pt L.c 0,.agg [.str AAB,.fs [[.str x]],.fs [[I z0]]]] h=some (.str ⟨⟨Lib.itoa y⟩⟩,h++[some (.blk true (.cells true [.str AAB,.fs [[.str x]],.fs [[I z0]]]))]):=by
 obtain⟨n,hn⟩:∃ n,h.length=n:=⟨_,rfl⟩;obtain⟨g,hc⟩:=aB ly.hc;unfold cG at hc;have cn:(L.c<n)=True:=AAm (by rw[←hn];exact aF ly.hc);obtain⟨e,v,he,hv,hev,call⟩:=(ly.ext [some (.blk true (.cells true [.str AAB,.fs [[.str x]],.fs [[I z0]]]))]).p.getp hx;rw[A9,hy]at hv;cases hv;have hev2:=ly.p.he he (v:=[I y]) (by rw[A9,hy];rfl);obtain⟨ge,hee⟩:=aB hev2;have en:(e<n)=True:=AAm (by rw[←hn];exact aF hev2);have c57:=aDC hb;rw[qY 62 sZ rfl,hn];unfold sZ;dsimp only;(exact aBY hn hc cn call hee en c57 tM yF vE vF aE aE)
theorem aKs{c:Nat}{z0 k:Int}{hh:XH}(call:runW aD 98 [.pt c 0,.str x] (h++[some (.blk true (.cells true [.str AAC,.fs [[.str x]],.fs [[I z0]]]))])=some (I k,hh))(hb : -9223372036854775808≤k∧k≤9223372036854775807):runW aD 62 [.pt c 0,.agg [.str AAC,.fs [[.str x]],.fs [[I z0]]]] h=some (.str ⟨⟨Lib.itoa k⟩⟩,hh):=by
 obtain⟨n,hn⟩:∃ n,h.length=n:=⟨_,rfl⟩;have c57:=aDC hb;rw[qY 62 sZ rfl,hn];unfold sZ;dsimp only;(exact RS9 hn call c57 qR vC tK tL qS aE)
theorem aIW(ly:Lays h L s){u1:ByteArray}{i:Nat}{k:CTk}(hk:s.tickets[i]?=some k)(hb:0≤k.net∧k.net≤99999){o:ByteArray}(hj:runW aD 99 [.fs (if k.void then [[.str k.wagon],[.str k.farmer],[.str ⟨⟨Lib.itoa k.net⟩⟩],[.str AAt]] else [[.str k.wagon],[.str k.farmer],[.str ⟨⟨Lib.itoa k.net⟩⟩]]),.str ⟨⟨[32]⟩⟩] []=some (.str o,[])):∃ hh,runW aD 62 [.pt L.c 0,.agg [.str AAz,.fs [[.str u1]],.fs [[I (i:Nat)]]]] h=some (.str o,hh)∧Frz h.length h hh:=by
 obtain⟨n,hn⟩:∃ n,h.length=n:=⟨_,rfl⟩;obtain⟨e,he,hke,hb2,hi⟩:=ly.tk.at hk;have hl:i<s.tickets.length:=by rw[←ly.tk.el];exact hi
 obtain⟨g,hc⟩:=aB ly.hc;unfold cG at hc;rw[eJ (by omega)]at hc;obtain⟨g1,hb1⟩:=aB hb2;obtain⟨g2,hk2⟩:=aB hke;unfold tkC at hk2;have cn:(L.c<n)=True:=AAm (by rw[←hn];exact aF ly.hc);have bn:(L.tb<n)=True:=AAm (by rw[←hn];exact aF hb2);have en:(e<n)=True:=AAm (by rw[←hn];exact aF hke);have t1:((i:Int)<(s.tickets.length:Int))=True:=AAa;have mp:(some e).map (fun e=>AV.pt e 0)=some (.pt e 0):=rfl;have m1:=uQ 5;have c57:=aDC (n:=k.net) (by omega);have so:∀ a:ByteArray,cN (.str a) (.str a)=true:=by intro a;simp[cN]
 cases hv:k.void with
 | false =>
   rw[hv]at hk2 hj;simp only[B8,AAd]at hj;refine⟨h.map (fzO (n+1) [.str k.wagon,.str k.farmer,.str ⟨⟨Lib.itoa k.net⟩⟩])++[some (.blk true (.cells true [.str AAz,.fs [[.str u1]],.fs [[I (i:Nat)]]])),none],?_,(Frz.fz (by omega)).app _⟩;rw[qY 62 sZ rfl,hn];unfold sZ;dsimp only;(exact xX hn hc cn bn en hb1 hk2 t1 m1 he mp c57 hj so kX nG lZ mA kY iW)
 | true =>
   rw[hv]at hk2 hj;simp only[AAe]at hj;refine⟨h.map (fzO (n+3) [.str k.wagon,.str k.farmer,.str ⟨⟨Lib.itoa k.net⟩⟩,.str AAt])++[some (.blk true (.cells true [.str AAz,.fs [[.str u1]],.fs [[I (i:Nat)]]])),none,some (.blk true (.cells true [.str AAt])),none],?_,(Frz.fz (by omega)).app _⟩;rw[qY 62 sZ rfl,hn];unfold sZ;dsimp only;(exact xX hn hc cn bn en hb1 hk2 t1 m1 he mp c57 hj so kX nG lZ mA kY iW)
variable{h h' h1:XH}{L:CL}{s:dD}{x:ByteArray}
theorem aBw{b:Nat}{cs:List AV}:∀(l:List ByteArray),wW b cs (l.map .str)=l.map .str
 | []=>rfl
 | k::r=>by simp only[C4,wW,uI,aBw r]
theorem aIB{b:Nat}{cs:List AV}:∀(l:List Nat),wW b cs (l.map fun e=>.pt e 0)=l.map fun e=>.pt e 0
 | []=>rfl
 | k::r=>by simp only[C4,wW,uI,aIB r]
theorem aHq{b k n:Nat}{cs:List AV}(hk:0<n→k<b):uI b cs (iC k n)=iC k n:=by
 unfold iC;by_cases h:n=0;·rw[if_pos h];rfl
 ·rw[if_neg h]
  show (if k=b∧_ then _ else _)=_;rw[if_neg (by have:=hk (by omega);omega)]
theorem aMQ{b:Nat}{cs:List AV}:∀(ks:List ByteArray)(es:List Nat),(ent ks es).map (fun p=>(uI b cs p.1,uI b cs p.2))=ent ks es
 | [],_=>rfl
 | _::_,[]=>rfl
 | k::ks,e::es=>AAq (_ :: ·) (aMQ ks es)
theorem Od.frz{l:OL}{ks:List ByteArray}{vs:List (List AV)}{t:Int}(od:Od h l ks vs t)(f:Frz h.length h h')(hv:∀ v∈vs,∀ b cs,wW b cs v=v):Od h' l ks vs t:=by
 refine⟨⟨fun p hp=>f p.1 p.2 (od.hd.1 p hp) ?_,od.hd.2⟩,od.ek,od.vk⟩;unfold tY at hp;rw[B4,B4,B2]at hp;rcases hp with rfl|rfl|hp|hp
 ·intro b cs hb
  have:=od.lts.2.2.1;simp only[wW,aHq (fun hk=>E7 (this hk) hb)];rfl
 ·exact fun b cs _=>aMQ _ _
 ·unfold sBk at hp
  split at hp;·cases hp
  ·rw[B5]at hp
   subst hp;exact fun b cs _=>aBw _
 ·obtain⟨i,e,v,_,h2,rfl⟩:=aHv hp
  exact fun b cs _=>hv v (A8 h2) b cs
theorem Lays.frz(ly:Lays h L s)(f:Frz h.length h h'):Lays h' L s where
 hc:=f _ _ ly.hc fun b cs hb=>by
  unfold cG;simp only[wW,aHq (fun hk=>E7 (ly.tk.lts.1 hk) hb),aHq (fun hk=>E7 (aF (ly.bk hk)) hb)];rfl
 tk:=⟨ly.tk.el,fun hk=>f _ _ (ly.tk.hb hk) fun b cs _=>aIB _,fun i e k he hk=>f _ _ (ly.tk.he i e k he hk) fun b cs _=>rfl,ly.tk.nd,ly.tk.nb⟩
 bk hk:=f _ _ (ly.bk hk) fun b cs _=>aBw _
 f:=ly.f.frz f fun v hv b cs=>by obtain⟨p,_,rfl⟩:=D8.1 hv;rfl
 m:=ly.m.frz f fun v hv b cs=>by obtain⟨p,_,rfl⟩:=D8.1 hv;rfl
 p:=ly.p.frz f fun v hv b cs=>by obtain⟨p,_,rfl⟩:=D8.1 hv;rfl
 w:=ly.w.frz f fun v hv b cs=>by obtain⟨p,_,rfl⟩:=D8.1 hv;rfl
 dj:=ly.dj
theorem aSD(ly:Lays h L s){z0:Int}(hx:dE (s.farmers.map (·.1)) x=none):CalP Tryz.prog aD 62 [.pt L.c 0,.agg [.str AAx,.fs [[.str x]],.fs [[I z0]]]] h (.ifc 110 (.agg [I 5])) (h++[some (.blk true (.cells true [.str AAx,.fs [[.str x]],.fs [[I z0]]]))]):=by
 obtain⟨n,hn⟩:∃ n,h.length=n:=⟨_,rfl⟩;obtain⟨g,hc⟩:=aB ly.hc;unfold cG at hc;have cn:(L.c<n)=True:=AAm (by rw[←hn];exact aF ly.hc);have call:=(ly.ext [some (.blk true (.cells true [.str AAx,.fs [[.str x]],.fs [[I z0]]]))]).f.nonef hx;refine CalP.of (d:=sZ) (e':=bW [] []) aA rfl (by simp[sZ]) rfl ?_;unfold sZ;dsimp only;refine PanX.seqR (K:=62) aA rfl [0,3] (vs:=[.pt L.c 0,.pt n 0]) (h1:=h++[some (.blk true (.cells true [.str AAx,.fs [[.str x]],.fs [[I z0]]]))]) (by rw[hn]; (exact eD hn)) ?_;refine PanX.seqR (K:=62) aA rfl [0,3] (vs:=[.pt L.c 0,.pt n 0]) (h1:=h++[some (.blk true (.cells true [.str AAx,.fs [[.str x]],.fs [[I z0]]]))]) (by (exact eD hn)) ?_;refine PanX.seqL ?_;refine PanX.seqR (K:=62) aA rfl [0,3,11] (vs:=[.pt L.c 0,.pt n 0,.str AAx]) (h1:=h++[some (.blk true (.cells true [.str AAx,.fs [[.str x]],.fs [[I z0]]]))]) (by (exact eD hn)) ?_;refine PanX.block ?_;refine PanX.seqR (K:=62) aA rfl [0,3,11,12] (vs:=[.pt L.c 0,.pt n 0,.str AAx,.bool false]) (h1:=h++[some (.blk true (.cells true [.str AAx,.fs [[.str x]],.fs [[I z0]]]))]) (by (exact eD vD)) ?_;refine PanX.condF rfl ?_;refine PanX.seqR (K:=62) aA rfl [0,3,11,38] (vs:=[.pt L.c 0,.pt n 0,.str AAx,.bool true]) (h1:=h++[some (.blk true (.cells true [.str AAx,.fs [[.str x]],.fs [[I z0]]]))]) (by (exact eD aAu)) ?_;refine PanX.condT rfl ?_;exact PanX.regU (fr:=[]) (p:=[⟨0,(some 40),(.mv (.t 0)),none⟩,⟨1,(some 41),(.nilck (.t 40)),none⟩,⟨2,(some 42),(.fld 0 (.t 41)),none⟩,⟨3,(some 43),(.load false 1 (.t 42)),none⟩,⟨4,(some 44),(.fld 1 (.t 3)),none⟩,⟨5,(some 45),(.load false 1 (.t 44)),none⟩,⟨6,(some 46),(.idx 1 (.t 45) (.c (.int .i64 0))),none⟩,⟨7,(some 47),(.load false 1 (.t 46)),none⟩]) (post:=[⟨9,(some 49),(.nilck (.t 48)),none⟩,⟨10,(some 50),(.fld 0 (.t 49)),none⟩,⟨11,(some 51),(.load false 1 (.t 50)),none⟩,⟨12,(some 5),(.mv (.t 51)),none⟩]) aA [] (g:=95) (first:=[]) (cap:=[]) (args:=[.pt L.f.o 0,.str x]) (vs:=[]) rfl rfl rfl (by (exact RS3 hn hc cn)) call
theorem aPW(ly:Lays h L s){z0:Int}(hx:dE (s.meters.map (·.1)) x=none):CalP Tryz.prog aD 62 [.pt L.c 0,.agg [.str AAA,.fs [[.str x]],.fs [[I z0]]]] h (.ifc 110 (.agg [I 5])) (h++[some (.blk true (.cells true [.str AAA,.fs [[.str x]],.fs [[I z0]]]))]):=by
 obtain⟨n,hn⟩:∃ n,h.length=n:=⟨_,rfl⟩;obtain⟨g,hc⟩:=aB ly.hc;unfold cG at hc;have cn:(L.c<n)=True:=AAm (by rw[←hn];exact aF ly.hc);have call:=(ly.ext [some (.blk true (.cells true [.str AAA,.fs [[.str x]],.fs [[I z0]]]))]).m.nonem hx;refine CalP.of (d:=sZ) (e':=bW [] []) aA rfl (by simp[sZ]) rfl ?_;unfold sZ;dsimp only;refine PanX.seqR (K:=62) aA rfl [0,3] (vs:=[.pt L.c 0,.pt n 0]) (h1:=h++[some (.blk true (.cells true [.str AAA,.fs [[.str x]],.fs [[I z0]]]))]) (by rw[hn]; (exact eD hn)) ?_;refine PanX.seqR (K:=62) aA rfl [0,3] (vs:=[.pt L.c 0,.pt n 0]) (h1:=h++[some (.blk true (.cells true [.str AAA,.fs [[.str x]],.fs [[I z0]]]))]) (by (exact eD hn)) ?_;refine PanX.seqL ?_;refine PanX.seqR (K:=62) aA rfl [0,3,11] (vs:=[.pt L.c 0,.pt n 0,.str AAA]) (h1:=h++[some (.blk true (.cells true [.str AAA,.fs [[.str x]],.fs [[I z0]]]))]) (by (exact eD hn)) ?_;refine PanX.block ?_;refine PanX.seqR (K:=62) aA rfl [0,3,11,12] (vs:=[.pt L.c 0,.pt n 0,.str AAA,.bool false]) (h1:=h++[some (.blk true (.cells true [.str AAA,.fs [[.str x]],.fs [[I z0]]]))]) (by (exact eD tJ)) ?_;refine PanX.condF rfl ?_;refine PanX.seqR (K:=62) aA rfl [0,3,11,38] (vs:=[.pt L.c 0,.pt n 0,.str AAA,.bool false]) (h1:=h++[some (.blk true (.cells true [.str AAA,.fs [[.str x]],.fs [[I z0]]]))]) (by (exact eD yE)) ?_;refine PanX.condF rfl ?_;refine PanX.seqR (K:=62) aA rfl [0,3,11,52] (vs:=[.pt L.c 0,.pt n 0,.str AAA,.bool true]) (h1:=h++[some (.blk true (.cells true [.str AAA,.fs [[.str x]],.fs [[I z0]]]))]) (by (exact eD vB)) ?_;refine PanX.condT rfl ?_;exact PanX.regU (fr:=[]) (p:=[⟨0,(some 54),(.mv (.t 0)),none⟩,⟨1,(some 55),(.nilck (.t 54)),none⟩,⟨2,(some 56),(.fld 1 (.t 55)),none⟩,⟨3,(some 57),(.load false 1 (.t 56)),none⟩,⟨4,(some 58),(.fld 1 (.t 3)),none⟩,⟨5,(some 59),(.load false 1 (.t 58)),none⟩,⟨6,(some 60),(.idx 1 (.t 59) (.c (.int .i64 0))),none⟩,⟨7,(some 61),(.load false 1 (.t 60)),none⟩]) (post:=[⟨9,(some 63),(.nilck (.t 62)),none⟩,⟨10,(some 64),(.fld 1 (.t 63)),none⟩,⟨11,(some 65),(.load false 1 (.t 64)),none⟩,⟨12,(some 5),(.mv (.t 65)),none⟩]) aA [] (g:=96) (first:=[]) (cap:=[]) (args:=[.pt L.m.o 0,.str x]) (vs:=[]) rfl rfl rfl (by (exact RS3 hn hc cn)) call
theorem aPX(ly:Lays h L s){z0:Int}(hx:dE (s.pans.map (·.1)) x=none):CalP Tryz.prog aD 62 [.pt L.c 0,.agg [.str AAB,.fs [[.str x]],.fs [[I z0]]]] h (.ifc 110 (.agg [I 5])) (h++[some (.blk true (.cells true [.str AAB,.fs [[.str x]],.fs [[I z0]]]))]):=by
 obtain⟨n,hn⟩:∃ n,h.length=n:=⟨_,rfl⟩;obtain⟨g,hc⟩:=aB ly.hc;unfold cG at hc;have cn:(L.c<n)=True:=AAm (by rw[←hn];exact aF ly.hc);have call:=(ly.ext [some (.blk true (.cells true [.str AAB,.fs [[.str x]],.fs [[I z0]]]))]).p.nonep hx;refine CalP.of (d:=sZ) (e':=bW [] []) aA rfl (by simp[sZ]) rfl ?_;unfold sZ;dsimp only;refine PanX.seqR (K:=62) aA rfl [0,3] (vs:=[.pt L.c 0,.pt n 0]) (h1:=h++[some (.blk true (.cells true [.str AAB,.fs [[.str x]],.fs [[I z0]]]))]) (by rw[hn]; (exact eD hn)) ?_;refine PanX.seqR (K:=62) aA rfl [0,3] (vs:=[.pt L.c 0,.pt n 0]) (h1:=h++[some (.blk true (.cells true [.str AAB,.fs [[.str x]],.fs [[I z0]]]))]) (by (exact eD hn)) ?_;refine PanX.seqL ?_;refine PanX.seqR (K:=62) aA rfl [0,3,11] (vs:=[.pt L.c 0,.pt n 0,.str AAB]) (h1:=h++[some (.blk true (.cells true [.str AAB,.fs [[.str x]],.fs [[I z0]]]))]) (by (exact eD hn)) ?_;refine PanX.block ?_;refine PanX.seqR (K:=62) aA rfl [0,3,11,12] (vs:=[.pt L.c 0,.pt n 0,.str AAB,.bool false]) (h1:=h++[some (.blk true (.cells true [.str AAB,.fs [[.str x]],.fs [[I z0]]]))]) (by (exact eD tM)) ?_;refine PanX.condF rfl ?_;refine PanX.seqR (K:=62) aA rfl [0,3,11,38] (vs:=[.pt L.c 0,.pt n 0,.str AAB,.bool false]) (h1:=h++[some (.blk true (.cells true [.str AAB,.fs [[.str x]],.fs [[I z0]]]))]) (by (exact eD yF)) ?_;refine PanX.condF rfl ?_;refine PanX.seqR (K:=62) aA rfl [0,3,11,52] (vs:=[.pt L.c 0,.pt n 0,.str AAB,.bool false]) (h1:=h++[some (.blk true (.cells true [.str AAB,.fs [[.str x]],.fs [[I z0]]]))]) (by (exact eD vE)) ?_;refine PanX.condF rfl ?_;refine PanX.seqR (K:=62) aA rfl [0,3,11,66] (vs:=[.pt L.c 0,.pt n 0,.str AAB,.bool true]) (h1:=h++[some (.blk true (.cells true [.str AAB,.fs [[.str x]],.fs [[I z0]]]))]) (by (exact eD vF)) ?_;refine PanX.condT rfl ?_;exact PanX.regU (fr:=[]) (p:=[⟨0,(some 68),(.mv (.t 0)),none⟩,⟨1,(some 69),(.nilck (.t 68)),none⟩,⟨2,(some 70),(.fld 2 (.t 69)),none⟩,⟨3,(some 71),(.load false 1 (.t 70)),none⟩,⟨4,(some 72),(.fld 1 (.t 3)),none⟩,⟨5,(some 73),(.load false 1 (.t 72)),none⟩,⟨6,(some 74),(.idx 1 (.t 73) (.c (.int .i64 0))),none⟩,⟨7,(some 75),(.load false 1 (.t 74)),none⟩]) (post:=[⟨9,(some 77),(.nilck (.t 76)),none⟩,⟨10,(some 78),(.fld 0 (.t 77)),none⟩,⟨11,(some 79),(.load false 1 (.t 78)),none⟩,⟨12,(some 5),(.mv (.t 79)),none⟩]) aA [] (g:=97) (first:=[]) (cap:=[]) (args:=[.pt L.p.o 0,.str x]) (vs:=[]) rfl rfl rfl (by (exact RS3 hn hc cn)) call
theorem aJX(ly:Lays h L s){u1:ByteArray}{i:Nat}(hi:s.tickets.length≤i):CalP Tryz.prog aD 62 [.pt L.c 0,.agg [.str AAz,.fs [[.str u1]],.fs [[I (i:Nat)]]]] h (.ifc 110 (.agg [I 5])) (h++[some (.blk true (.cells true [.str AAz,.fs [[.str u1]],.fs [[I (i:Nat)]]]))]):=by
 obtain⟨n,hn⟩:∃ n,h.length=n:=⟨_,rfl⟩;obtain⟨g,hc⟩:=aB ly.hc;unfold cG at hc;have cn:(L.c<n)=True:=AAm (by rw[←hn];exact aF ly.hc);refine CalP.of (d:=sZ) (e':=bW [] []) aA rfl (by simp[sZ]) rfl ?_;unfold sZ;dsimp only;refine PanX.seqR (K:=62) aA rfl [0,3] (vs:=[.pt L.c 0,.pt n 0]) (h1:=h++[some (.blk true (.cells true [.str AAz,.fs [[.str u1]],.fs [[I (i:Nat)]]]))]) (by rw[hn]; (exact eD hn)) ?_;refine PanX.seqR (K:=62) aA rfl [0,3] (vs:=[.pt L.c 0,.pt n 0]) (h1:=h++[some (.blk true (.cells true [.str AAz,.fs [[.str u1]],.fs [[I (i:Nat)]]]))]) (by (exact eD hn)) ?_;refine PanX.seqL ?_;refine PanX.seqR (K:=62) aA rfl [0,3,11] (vs:=[.pt L.c 0,.pt n 0,.str AAz]) (h1:=h++[some (.blk true (.cells true [.str AAz,.fs [[.str u1]],.fs [[I (i:Nat)]]]))]) (by (exact eD hn)) ?_;refine PanX.block ?_;refine PanX.seqR (K:=62) aA rfl [0,3,11,12] (vs:=[.pt L.c 0,.pt n 0,.str AAz,.bool false]) (h1:=h++[some (.blk true (.cells true [.str AAz,.fs [[.str u1]],.fs [[I (i:Nat)]]]))]) (by (exact eD kX)) ?_;refine PanX.condF rfl ?_;refine PanX.seqR (K:=62) aA rfl [0,3,11,38] (vs:=[.pt L.c 0,.pt n 0,.str AAz,.bool false]) (h1:=h++[some (.blk true (.cells true [.str AAz,.fs [[.str u1]],.fs [[I (i:Nat)]]]))]) (by (exact eD nG)) ?_;refine PanX.condF rfl ?_;refine PanX.seqR (K:=62) aA rfl [0,3,11,52] (vs:=[.pt L.c 0,.pt n 0,.str AAz,.bool false]) (h1:=h++[some (.blk true (.cells true [.str AAz,.fs [[.str u1]],.fs [[I (i:Nat)]]]))]) (by (exact eD lZ)) ?_;refine PanX.condF rfl ?_;refine PanX.seqR (K:=62) aA rfl [0,3,11,66] (vs:=[.pt L.c 0,.pt n 0,.str AAz,.bool false]) (h1:=h++[some (.blk true (.cells true [.str AAz,.fs [[.str u1]],.fs [[I (i:Nat)]]]))]) (by (exact eD mA)) ?_;refine PanX.condF rfl ?_;refine PanX.seqR (K:=62) aA rfl [0,3,11,80] (vs:=[.pt L.c 0,.pt n 0,.str AAz,.bool false]) (h1:=h++[some (.blk true (.cells true [.str AAz,.fs [[.str u1]],.fs [[I (i:Nat)]]]))]) (by (exact eD kY)) ?_;refine PanX.condF rfl ?_;refine PanX.seqR (K:=62) aA rfl [0,3,11,88] (vs:=[.pt L.c 0,.pt n 0,.str AAz,.bool true]) (h1:=h++[some (.blk true (.cells true [.str AAz,.fs [[.str u1]],.fs [[I (i:Nat)]]]))]) (by (exact eD iW)) ?_;refine PanX.condT rfl ?_;refine PanX.seqL ?_;refine PanX.regU (fr:=[]) (p:=[⟨0,(some 90),(.fld 2 (.t 3)),none⟩,⟨1,(some 91),(.load false 1 (.t 90)),none⟩,⟨2,(some 92),(.idx 1 (.t 91) (.c (.int .i64 0))),none⟩,⟨3,(some 93),(.load false 1 (.t 92)),none⟩,⟨4,(some 94),(.mv (.t 0)),none⟩,⟨5,(some 95),(.nilck (.t 94)),none⟩,⟨6,(some 96),(.fld 4 (.t 95)),none⟩,⟨7,(some 97),(.load false 1 (.t 96)),none⟩,⟨8,(some 98),(.len false (.t 97)),none⟩,⟨9,(some 99),(.bin .lss (.t 93) (.t 98)),none⟩]) (post:=[]) aA [] (g:=58) (first:=[]) (cap:=[]) (args:=[.bool false,I 5]) (vs:=[]) rfl rfl rfl ?_ (c58 5 _);by_cases hk:0<s.tickets.length
 ·rw[eJ hk]at hc
  have t1:((i:Int)<(s.tickets.length:Int))=False:=AAb;(exact zY hc hn cn t1)
 ·have h0:s.tickets.length=0:=by omega
  have hv:iC L.tb s.tickets.length = .nilsl:=by rw[h0];rfl
  rw[hv]at hc;have t1:((i:Int)<0)=False:=AAb;(exact zY hc hn cn t1)
theorem aNn{c:Nat}{z0:Int}{v:AV}{h2:XH}(call:CalP Tryz.prog aD 98 [.pt c 0,.str x] (h++[some (.blk true (.cells true [.str AAC,.fs [[.str x]],.fs [[I z0]]]))]) v h2):CalP Tryz.prog aD 62 [.pt c 0,.agg [.str AAC,.fs [[.str x]],.fs [[I z0]]]] h v h2:=by
 obtain⟨n,hn⟩:∃ n,h.length=n:=⟨_,rfl⟩;refine CalP.of (d:=sZ) (e':=bW [] []) aA rfl (by simp[sZ]) rfl ?_;unfold sZ;dsimp only;refine PanX.seqR (K:=62) aA rfl [0,3] (vs:=[.pt c 0,.pt n 0]) (h1:=h++[some (.blk true (.cells true [.str AAC,.fs [[.str x]],.fs [[I z0]]]))]) (by rw[hn]; (exact eD hn)) ?_;refine PanX.seqR (K:=62) aA rfl [0,3] (vs:=[.pt c 0,.pt n 0]) (h1:=h++[some (.blk true (.cells true [.str AAC,.fs [[.str x]],.fs [[I z0]]]))]) (by (exact eD hn)) ?_;refine PanX.seqL ?_;refine PanX.seqR (K:=62) aA rfl [0,3,11] (vs:=[.pt c 0,.pt n 0,.str AAC]) (h1:=h++[some (.blk true (.cells true [.str AAC,.fs [[.str x]],.fs [[I z0]]]))]) (by (exact eD hn)) ?_;refine PanX.block ?_;refine PanX.seqR (K:=62) aA rfl [0,3,11,12] (vs:=[.pt c 0,.pt n 0,.str AAC,.bool false]) (h1:=h++[some (.blk true (.cells true [.str AAC,.fs [[.str x]],.fs [[I z0]]]))]) (by (exact eD qR)) ?_;refine PanX.condF rfl ?_;refine PanX.seqR (K:=62) aA rfl [0,3,11,38] (vs:=[.pt c 0,.pt n 0,.str AAC,.bool false]) (h1:=h++[some (.blk true (.cells true [.str AAC,.fs [[.str x]],.fs [[I z0]]]))]) (by (exact eD vC)) ?_;refine PanX.condF rfl ?_;refine PanX.seqR (K:=62) aA rfl [0,3,11,52] (vs:=[.pt c 0,.pt n 0,.str AAC,.bool false]) (h1:=h++[some (.blk true (.cells true [.str AAC,.fs [[.str x]],.fs [[I z0]]]))]) (by (exact eD tK)) ?_;refine PanX.condF rfl ?_;refine PanX.seqR (K:=62) aA rfl [0,3,11,66] (vs:=[.pt c 0,.pt n 0,.str AAC,.bool false]) (h1:=h++[some (.blk true (.cells true [.str AAC,.fs [[.str x]],.fs [[I z0]]]))]) (by (exact eD tL)) ?_;refine PanX.condF rfl ?_;refine PanX.seqR (K:=62) aA rfl [0,3,11,80] (vs:=[.pt c 0,.pt n 0,.str AAC,.bool true]) (h1:=h++[some (.blk true (.cells true [.str AAC,.fs [[.str x]],.fs [[I z0]]]))]) (by (exact eD qS)) ?_;refine PanX.condT rfl ?_;exact PanX.reg (p:=[⟨0,(some 82),(.mv (.t 0)),none⟩,⟨0,(some 83),(.fld 1 (.t 3)),none⟩,⟨0,(some 84),(.load false 1 (.t 83)),none⟩,⟨0,(some 85),(.idx 1 (.t 84) (.c (.int .i64 0))),none⟩,⟨0,(some 86),(.load false 1 (.t 85)),none⟩]) (post:=[⟨0,(some 5),(.mv (.t 87)),none⟩]) aA [] (g:=98) (first:=[]) (cap:=[]) (args:=[.pt c 0,.str x]) (vs:=[]) rfl rfl (by (exact eD hn)) call
end Go.Proofs.YtmapgnepfgnphaaGreatDoor
namespace Go.DL
mutual
theorem zL(s:Nat→Option Nat):∀ v:AV,(∀ b∈iP v,s b=some b)→rnA s v=v
 | .agg cs,h=>by simp only[iP]at h;simp only[rnA,hC s cs h]
 | .tup cs,h=>by simp only[iP]at h;simp only[rnA,hC s cs h]
 | .sl b o z n,h=>by simp only[rnA,h b (by simp[iP])]
 | .pt b o,h=>by simp only[rnA,h b (by simp[iP])]
 | .mp b,h=>by simp only[rnA,h b (by simp[iP])]
 | .sb b n,h=>by simp only[rnA,h b (by simp[iP])]
 | .bp b,h=>by simp only[rnA,h b (by simp[iP])]
 | .fn f first cap,h=>by
   simp only[iP,B2]at h;cases f with
   | yield l=>simp only[rnA,h l (.inl (by simp)),hC s first fun b hb=>h b (.inr (.inl hb)),hC s cap fun b hb=>h b (.inr (.inr hb))]
   | _=>simp only[rnA,hC s first fun b hb=>h b (.inr (.inl hb)),hC s cap fun b hb=>h b (.inr (.inr hb))]
 | .ifc t v,h=>by simp only[iP]at h;simp only[rnA,zL s v h]
 | .int ..,_=>by simp only[rnA]
 | .bool _,_=>by simp only[rnA]
 | .str _,_=>by simp only[rnA]
 | .fs _,_=>by simp only[rnA]
 | .fp ..,_=>by simp only[rnA]
 | .nilsl,_=>by simp only[rnA]
 | .nilpt,_=>by simp only[rnA]
 | .nilmap,_=>by simp only[rnA]
 | .nilfn,_=>by simp only[rnA]
 | .nilifc,_=>by simp only[rnA]
 | .any,_=>by simp only[rnA]
theorem hC(s:Nat→Option Nat):∀ vs:List AV,(∀ b∈kW vs,s b=some b)→lQ s vs=vs
 | [],_=>by simp only[lQ]
 | v::r,h=>by
   simp only[kW,B2]at h;simp only[lQ,zL s v fun b hb=>h b (.inl hb),hC s r fun b hb=>h b (.inr hb)]
end
theorem aEb(s:Nat→Option Nat)(x:Option XB)(h:∀ b∈nmO x,s b=some b):rnO s x=x:=by
 cases x with
 | none=>rfl
 | some x =>
   cases x with
   | blk g y=>cases g with
     | true=>cases y<;>rfl
     | false=>cases y with
       | cells w cs =>
         show some (XB.blk false (.cells w (lQ s cs)))=_;rw[hC s cs h]
       | map w es =>
         show some (XB.blk false (.map w (es.map fun p=>(rnA s p.1,rnA s p.2))))=_;have:(es.map fun p=>(rnA s p.1,rnA s p.2))=es:=by
          have h2:∀ p∈es,(rnA s p.1,rnA s p.2)=p:=fun p hp=>by
           have h3:∀ b,b∈iP p.1++iP p.2→s b=some b:=fun b hb=>h b (M7.2 ⟨p,hp,hb⟩);rw[zL s p.1 fun b hb=>h3 b (E8 _ hb),zL s p.2 fun b hb=>h3 b (E5 _ hb)]
          rw[M3 h2];simp
         rw[this]
       | _=>rfl
   | loop K site vs st =>
     show some (XB.loop K site (lQ s vs) st)=_;rw[hC s vs h]
   | gh st p=>rfl
def Cd(h:XH):Prop:=∀ x∈h,∀ b∈nmO x,b<h.length
theorem kC{h k:XH}:bY h.length (h++k)=h:=by
 induction h with
 | nil=>rfl
 | cons x r ih=>show x::bY r.length (r++k)=_;rw[ih]
theorem aAT{h:XH}{k:Nat}:∀(n:Nat)(l acc:List Nat),(∀ b∈l,b<k)→cO h k n l acc=acc
 | 0,_,_,_=>rfl
 | n+1,[],_,_=>rfl
 | n+1,b::r,acc,h1=>by
   unfold cO;rw[if_pos (.inl (h1 b (by simp)))];exact aAT n r acc fun c hc=>h1 c (by simp[hc])
theorem aEo{h:XH}(cd:Cd h){acc:List Nat}:h.map (rnO (keepS h.length acc))=h:=by
 have:∀ x∈h,rnO (keepS h.length acc) x=x:=fun x hx=>aEb _ x fun b hb=>by
  unfold keepS;rw[if_pos (cd x hx b hb)]
 rw[M3 this];simp
theorem aMI{h k:XH}{n:Nat}(hn:h.length=n)(cd:Cd h){L:List Nat}{e:aH}(hv:∀ b∈kW (L.map e),b<n):dL n L (some (.normal,e,h++k))=some (L.map e,h):=by
 subst hn;have h1:cP h.length (L.map e) (h++k)=[]:=by
  unfold cP;rw[kC];refine aAT _ _ _ fun b hb=>?_;rw[B2]at hb;rcases hb with hb|hb;·exact hv b hb
  ·obtain⟨x,hx,hb⟩:=M7.1 hb
   exact cd x hx b hb
 rw[SW];unfold uN jD lD;rw[h1,kC,aEo cd];rw[hC _ _ fun b hb=>by unfold keepS;rw[if_pos (hv b hb)]];simp
end Go.DL
namespace Go.Proofs.YtmapgnepfgnphaaGreatDoor
open Go Go.DL
variable{h h' h1:XH}{L:CL}{s:dD}{x:ByteArray}
theorem aBp{h k:XH}{n:Nat}(hn:h.length=n)(cd:Cd h){L:List Nat}{r:Option (DX×aH×XH)}{vs:List AV}(hx:qH L r=some (.normal,vs,h++k))(hv:∀ b∈kW vs,b<n):dL n L r=some (vs,h):=by
 unfold qH at hx;rw[A0]at hx;obtain⟨⟨x,e,h2⟩,rfl,he⟩:=hx;simp only[B3]at he;obtain⟨rfl,rfl,rfl⟩:=he;exact aMI hn cd hv
theorem aJC{h:XH}{n:Nat}(hn:h.length=n)(cd:Cd h){L:List Nat}{r:Option (DX×aH×XH)}{vs:List AV}(hx:qH L r=some (.normal,vs,h))(hv:∀ b∈kW vs,b<n):dL n L r=some (vs,h) :=
 aBp (k:=[]) hn cd (by rw[K0];exact hx) hv
def aAg(s:dD):Int:=(s.farmers.map (·.2)).sum
theorem aCH{B:Int}:∀{l:List Int},(∀ v∈l,-B≤v∧v≤B) → -(B*l.length)≤l.sum∧l.sum≤B*l.length
 | [],_=>by simp
 | v::r,h=>by
   have h1:=h v (by simp);have h2:=aCH fun w hw=>h w (C8 v hw);rw[J7,C6];have:B*((r.length+1:Nat):Int)=B*(r.length:Int)+B:=by
    rw[Int.natCast_add,Int.mul_add];simp
   omega
theorem aDd{l:List ByteArray}(nd:l.Nodup){i:Nat}{k:ByteArray}(hk:l[i]?=some k):dE l k=some i:=by
 obtain⟨j,hj⟩:=aEm (A8 hk);have h1:=eY hj;rw[hj];exact AAq some ((aE1 (A5.1 h1).1 nd).1 (h1.trans hk.symm))
theorem aKr(ly:Lays h L s)(cd:Cd h)(hk:0<s.farmers.length)(hk9:s.farmers.length≤9)(nd:(s.farmers.map (·.1)).Nodup)(hb:∀ p∈s.farmers,-1000000000≤p.2∧p.2≤1000000000):runW aD 62 [.pt L.c 0,.agg [.str AAy,.fs [],.fs []]] h=some (.str ⟨⟨Lib.itoa (aAg s)⟩⟩,h):=by
 obtain⟨n,hn⟩:∃ n,h.length=n:=⟨_,rfl⟩;obtain⟨g,hc⟩:=aB ly.hc;unfold cG at hc;have lc:L.c<n:=by rw[←hn];exact aF ly.hc
 have cn:(L.c<n)=True:=AAm lc;obtain⟨gw,hwo⟩:=ly.f.ho;rw[B0,eJ hk]at hwo;obtain⟨gb,hfb⟩:=ly.f.hb (by rw[B0];exact hk);have lo:L.f.o<n:=by rw[←hn];exact ly.f.lts.1
 have lb:L.f.b<n:=by rw[←hn];exact ly.f.lts.2.2.1 (by rw[B0];exact hk)
 have won:(L.f.o<n)=True:=AAm lo;have bd:∀ i,-9000000000≤((s.farmers.map (·.2)).take i).sum∧((s.farmers.map (·.2)).take i).sum≤9000000000:=fun i=>by
  have h1:=aCH (B:=1000000000) (l:=(s.farmers.map (·.2)).take i) fun v hv=>by
   obtain⟨p,hp,rfl⟩:=D8.1 (G8 hv);exact hb p hp
  have h2:((s.farmers.map (·.2)).take i).length≤9:=by rw[M6,B0];omega
  omega
 have nv:∀ i:Nat,∀ b∈kW [.pt L.c 0,I ((s.farmers.map (·.2)).take i).sum,.sl L.f.b 0 1 s.farmers.length,I s.farmers.length,I (i:Nat)],b<n:=by
  intro i b hb2;simp only[kW,iP,K0,J9,M8,B4,D4,AAh]at hb2;rcases hb2 with rfl|rfl;·exact lc
  ·exact lb
 have fin:((s.farmers.map (·.2)).take s.farmers.length).sum=aAg s:=by
  rw[I0 (by simp)];rfl
 have bs:=bd s.farmers.length;rw[fin]at bs;have c57:=aDC (n:=aAg s) (by omega);rw[qY 62 sZ rfl,hn];unfold sZ;dsimp only;have klt:((s.farmers.length:Int)<(s.farmers.length:Int))=False:=AAb;sym =>
  simp[Za,Zb,Zd,Zf,Zg,Zh,Zj,Zl,Zm,Zo,Zv,Zz,Z9,ZA,ZG,ZI,ZS,ZW,Yf,Yi,Yn,Yo,Yv,Yy,Y5,Y9,YJ,YO,YP,Xx,Xy,Wg,Wh,Wi,Wr,Wu,WL,Vh,Vi,Vk,Vm,Vw,VA,VB,VC,VH,VI,VJ,VQ,VT,VV,Ua,Ub,Un,Uo,Ur,U1,U3,U4,U5,UM,UN,UQ,UR,US,UT,UV,UW,UZ,Ta,Tb,Tc,Te,Tf,Tg,Ti,Tj,Tp,Tr,Ts,Tu,TB,TF,TG,TJ,TK,TL,TM,TN,TO,TP,TU,TV,Sg,Si,Sy,Sz,S2,S6,SB,SG,SI,SJ,SK,SL,SM,SN,SO,SP,SS,SV,SX,SY,R0,RA,Qr,QH,QI,QK,QL,QM,QN,Ph,Pj,Pk,Pl,Pm,Pr,Pv,Px,P0,P8,hn,hc,cn,hwo,won,qQ]
  tactic =>
   unfold aKe;rw[cS s.farmers.length (fun i=>[.pt L.c 0,I ((s.farmers.map (·.2)).take i).sum,.sl L.f.b 0 1 s.farmers.length,I s.farmers.length,I (i:Nat)]) (fun _=>h)]
   ·rw[fin]
    (exact RS3 hn klt c57)
   ·exact aBp hn cd (k:=[some (.blk true (.cells true [.str AAy,.fs [],.fs []]))]) rfl (nv 0)
   ·intro i hi
    obtain⟨⟨q,y⟩,hq⟩:∃ p,s.farmers[i]?=some p:=⟨_,A7 hi⟩;have hqk:(s.farmers.map (·.1))[i]?=some q:=by rw[A9,hq];rfl
    have hx:=aDd nd hqk;obtain⟨e,v,he,hv,hev,call⟩:=ly.f.getf hx;rw[A9,hq]at hv;cases hv;have hev:aG h e=some (.cells true [I y]):=hev;obtain⟨ge,hee⟩:=aB hev;have t1:((i:Int)<(s.farmers.length:Int))=True:=AAa;have mq1:Option.map Prod.fst (some (q,y))=some q:=rfl;have mq2:Option.map AV.str (some q)=some (.str q):=rfl;have hs1:((s.farmers.map (·.2)).take (i+1)).sum=((s.farmers.map (·.2)).take i).sum+y:=by
     rw[O7,A9,hq];simp
    have b1:=bd (i+1);rw[hs1]at b1;have a1:IntKind.i64.wrap (((s.farmers.map (·.2)).take i).sum+y)=((s.farmers.map (·.2)).take i).sum+y:=aJ (by omega) (by omega);have a2:IntKind.i64.wrap ((i:Int)+1)=((i+1:Nat):Int):=by rw[aJ (by omega) (by omega)];rfl
    refine aJC hn cd ?_ (nv (i+1));rw[hs1];generalize ((s.farmers.map (·.2)).take i).sum=S0 at *;(exact aBY hn t1 hfb hq mq1 mq2 hc hwo call hee a1 a2 aE)
   ·(exact RS2 hn klt)
theorem aIV(ly:Lays h L s)(cd:Cd h)(hk:s.farmers.length=0):runW aD 62 [.pt L.c 0,.agg [.str AAy,.fs [],.fs []]] h=some (.str ⟨⟨Lib.itoa (aAg s)⟩⟩,h):=by
 have h0:s.farmers=[]:=C5 hk;have hs:aAg s=0:=by unfold aAg;rw[h0];rfl
 rw[hs];obtain⟨n,hn⟩:∃ n,h.length=n:=⟨_,rfl⟩;obtain⟨g,hc⟩:=aB ly.hc;unfold cG at hc;have lc:L.c<n:=by rw[←hn];exact aF ly.hc
 have cn:(L.c<n)=True:=AAm lc;obtain⟨gw,hwo⟩:=ly.f.ho;have hv:iC L.f.b (s.farmers.map (·.1)).length = .nilsl:=by rw[B0,hk];rfl
 rw[hv]at hwo;have lo:L.f.o<n:=by rw[←hn];exact ly.f.lts.1
 have won:(L.f.o<n)=True:=AAm lo;have nv:∀ b∈kW [.pt L.c 0,I 0,.nilsl,I 0,I 0],b<n:=by
  intro b hb2;simp only[kW,iP,K0,J9,M8,B4,D4,AAh]at hb2;rw[hb2];exact lc
 have c57:=aDC (n:=0) (by decide);rw[qY 62 sZ rfl,hn];unfold sZ;dsimp only;sym =>
  simp[Za,Zb,Zf,Zh,Zl,Zm,Zo,Zv,Zz,Z9,ZA,ZG,ZS,ZW,Yf,Yi,Yn,Yo,Yv,Yz,YJ,Xx,Xy,Wg,Wh,Wi,Wr,Wu,Vh,Vi,Vk,Vm,Vw,VA,VB,VC,VH,VI,VJ,VQ,VT,VV,Ua,Ub,Un,Uo,Ur,UM,UN,UQ,UR,US,UT,UV,UW,UZ,Ta,Tb,Tc,Te,Tf,Tg,Ti,Tj,Tp,Tu,TG,TJ,TK,TL,TM,TN,TO,TP,TU,TV,Sg,Si,Sz,S2,S6,SB,SG,SI,SJ,SK,SM,SN,SO,SP,SS,SV,SX,SY,Pj,Pk,Pl,Pm,Pr,Pv,Px,P0,P8,hn,hc,cn,hwo,won,qQ]
  tactic =>
   unfold aKe;rw[cS 0 (fun _=>[.pt L.c 0,I 0,.nilsl,I 0,I 0]) (fun _=>h)];·(exact RS2 hn c57)
   ·exact aBp hn cd (k:=[some (.blk true (.cells true [.str AAy,.fs [],.fs []]))]) rfl nv
   ·intro i hi;omega
   ·(exact eD hn)
inductive Wd where
 | farmer (x:ByteArray)
 | wagon (name owner:ByteArray) (full empty:Int)
 | void (i:Nat)
 | close
 | meter (x:ByteArray) (n:Int)
 | pan (x:ByteArray) (a b:Int)
 | net (x:ByteArray)
 | total
 | ticket (i:Nat)
 | used (x:ByteArray)
 | loss (x:ByteArray)
 | power (x:ByteArray)
def Wd.asks:Wd→Bool
 | .net _ | .total | .ticket _ | .used _ | .loss _ | .power _=>true
 | _=>false
def IsW:Wd→AV→Prop
 | .farmer x,v=>∃ z0:Int,v = .agg [.str AAr,.fs [[.str x]],.fs [[I z0]]]
 | .wagon x y a b,v=>(0≤a∧a≤99999∧0≤b∧b≤99999∧x.size≤10∧y.size≤10)∧∃(u1 u2:ByteArray)(z0 z1:Int),v = .agg [.str AAs,.fs [[.str x],[.str u1],[.str u2],[.str y]],.fs [[I z0],[I a],[I b],[I z1]]]
 | .void i,v=>∃ u1:ByteArray,v = .agg [.str AAt,.fs [[.str u1]],.fs [[I (i:Nat)]]]
 | .close,v=>v = .agg [.str AAu,.fs [],.fs []]
 | .meter x n,v=>(0≤n∧n≤99999)∧∃(u1:ByteArray)(z0:Int),v = .agg [.str AAv,.fs [[.str x],[.str u1]],.fs [[I z0],[I n]]]
 | .pan x a b,v=>(0≤a∧a≤99999∧0≤b∧b≤99999)∧∃(u1 u2:ByteArray)(z0:Int),v = .agg [.str AAw,.fs [[.str x],[.str u1],[.str u2]],.fs [[I z0],[I a],[I b]]]
 | .net x,v=>∃ z0:Int,v = .agg [.str AAx,.fs [[.str x]],.fs [[I z0]]]
 | .total,v=>v = .agg [.str AAy,.fs [],.fs []]
 | .ticket i,v=>∃ u1:ByteArray,v = .agg [.str AAz,.fs [[.str u1]],.fs [[I (i:Nat)]]]
 | .used x,v=>∃ z0:Int,v = .agg [.str AAA,.fs [[.str x]],.fs [[I z0]]]
 | .loss x,v=>∃ z0:Int,v = .agg [.str AAB,.fs [[.str x]],.fs [[I z0]]]
 | .power x,v=>∃ z0:Int,v = .agg [.str AAC,.fs [[.str x]],.fs [[I z0]]]
def cT{α:Type}(l:List (ByteArray×α))(x:ByteArray):Option α:=(dE (l.map (·.1)) x).bind fun i=>l[i]?.map (·.2)
theorem dZ{α:Type}{l:List (ByteArray×α)}{x:ByteArray}:cT l x=none↔dE (l.map (·.1)) x=none:=by
 unfold cT;cases h:dE (l.map (·.1)) x with
 | none=>simp
 | some i =>
   obtain⟨y,hy⟩:=rI h;simp[hy]
theorem dY{α:Type}{l:List (ByteArray×α)}{x:ByteArray}{y:α}(h:cT l x=some y):∃ i,dE (l.map (·.1)) x=some i∧l[i]?=some (x,y):=by
 unfold cT at h;cases hn:dE (l.map (·.1)) x with
 | none=>rw[hn]at h;cases h
 | some i =>
   obtain⟨z,hz⟩:=rI hn;rw[hn,D0,hz]at h;cases h;exact⟨i,rfl,hz⟩
def dS(s:dD):Wd→Option Int
 | .farmer x=>if (cT s.farmers x).isSome then some 6 else if s.farmers.length=9 then some 15 else none
 | .wagon x y a b=>match cT s.farmers y with
   | none=>some 5
   | some _=>if ¬b≤a then some 10 else match cT s.wagons x with
     | none=>none
     | some e=>if e-500≤b∧b≤e+500 then none else some 22
 | .void i=>match s.tickets[i]? with
   | none=>some 5
   | some k=>if k.void then some 6 else if i<s.closed then some 23 else none
 | .close=>if s.closed<s.tickets.length then none else some 4
 | .meter x _=>if (cT s.meters x).isNone∧s.meters.length=5 then some 15 else none
 | .pan x a b=>if ¬b≤a then some 10 else if (cT s.pans x).isNone∧s.pans.length=5 then some 15 else none
 | _=>none
def mY(s:dD):Wd→dD
 | .farmer x=>{ s with farmers:=s.farmers++[(x,0)] }
 | .wagon x y a b=>eK s x y a b
 | .void i=>match s.tickets[i]? with
   | none=>s
   | some k=>{ s with tickets:=s.tickets.set i { k with void:=true },farmers:=eV s.farmers k.farmer (-k.net) }
 | .close=>{ s with closed:=s.tickets.length }
 | .meter x n=>{ s with meters:=gM (mtr n) (n,0) x s.meters }
 | .pan x a b=>{ s with pans:=eV s.pans x (a-b) }
 | _=>s
def iQ(l:List CTk)(x:ByteArray):Int:=(l.map fun k=>if k.farmer=x∧k.void=false then k.net else 0).sum
structure fD(s:dD):Prop where
 book:s.book.length≤300
 nf:(s.farmers.map (·.1)).Nodup
 lf:s.farmers.length≤9
 lm:s.meters.length≤5
 lp:s.pans.length≤5
 lw:s.wagons.length≤s.book.length
 lt:s.tickets.length≤s.book.length
 cl:s.closed≤s.tickets.length
 bf:∀ p∈s.farmers,-(100000*s.book.length:Int)≤p.2∧p.2≤100000*s.book.length
 bm:∀ p∈s.meters,0≤p.2.1∧p.2.1≤99999∧0≤p.2.2∧p.2.2≤100000*s.book.length
 bp:∀ p∈s.pans,0≤p.2∧p.2≤100000*s.book.length
 bw:∀ p∈s.wagons,0≤p.2∧p.2≤99999
 bt:∀ k∈s.tickets,0≤k.net∧k.net≤99999∧k.farmer∈s.farmers.map (·.1)∧k.wagon.size≤10∧k.farmer.size≤10
 fs:∀ p∈s.farmers,p.2=iQ s.tickets p.1
variable{h h' h1:XH}{L:CL}{s:dD}{x:ByteArray}{w:Wd}{v:AV}
theorem aFT{α:Type}{o:Option α}(h:¬o.isSome=true):o=none:=by cases o with
 | none=>rfl
 | some _=>exact absurd rfl h
theorem aIC{α:Type}{l:List (ByteArray×α)}(h:¬((cT l x).isNone=true∧l.length=5)):(decide (dE (l.map (·.1)) x=none)&&decide (((l.map (·.1)).length:Int)=5))=false:=by
 rw[Bool.and_eq_false_iff,AAf,AAf,B0];by_cases h1:dE (l.map (·.1)) x=none;·exact .inr fun h2=>h ⟨by rw[dZ.2 h1];rfl,by omega⟩
 ·exact .inl h1
theorem aGk{x:ByteArray}{a b:Int}(ly:Lays h L s)(h5:s.pans.length≠5)(hw:IsW (.pan x a b) v){e:Int}(hc:dS s (.pan x a b)=some e):∃ h1,CalP Tryz.prog aD 61 [.pt L.c 0,v] h (.ifc 110 (.agg [I e])) h1∧Fr [] h h1:=by
 obtain⟨hb,u1,u2,z0,rfl⟩:=hw;have ly2:=ly.ext [some (.blk false (.cells true [.pt L.c 0])),some (.blk true (.cells true [.str AAw,.fs [[.str x],[.str u1],[.str u2]],.fs [[I z0],[I a],[I b]]]))];unfold dS at hc;dsimp only at hc;split at hc
 ·rename_i hle
  cases hc;exact⟨_,aSE (bAZ ly2 hle),(Fr.app h _).add _⟩
 ·rename_i hle
  split at hc;·rename_i hn;exact absurd hn.2 h5
  ·cases hc
theorem aCy{x:ByteArray}(ly:Lays h L s)(h9:s.farmers.length≠9)(hw:IsW (.farmer x) v){e:Int}(hc:dS s (.farmer x)=some e):∃ h1,CalP Tryz.prog aD 61 [.pt L.c 0,v] h (.ifc 110 (.agg [I e])) h1∧Fr [] h h1:=by
 obtain⟨z0,rfl⟩:=hw;unfold dS at hc;dsimp only at hc;split at hc
 ·rename_i hs
  cases hc;obtain⟨y,hy⟩:=C1.1 hs;obtain⟨i,hi,_⟩:=dY hy;exact⟨_,aHE ly hi,Fr.app h _⟩
 ·cases hc
theorem aEA{x y:ByteArray}{a b:Int}(ly:Lays h L s)(gs:fD s)(hle:b≤a)(hw:IsW (.wagon x y a b) v){e:Int}(hc:dS s (.wagon x y a b)=some e):∃ h1,CalP Tryz.prog aD 61 [.pt L.c 0,v] h (.ifc 110 (.agg [I e])) h1∧Fr [] h h1:=by
 obtain⟨hb,u1,u2,z0,z1,rfl⟩:=hw;have ly2:=ly.ext [some (.blk false (.cells true [.pt L.c 0])),some (.blk true (.cells true [.str AAs,.fs [[.str x],[.str u1],[.str u2],[.str y]],.fs [[I z0],[I a],[I b],[I z1]]]))];unfold dS at hc;dsimp only at hc;split at hc
 ·rename_i hn
  cases hc;exact⟨_,aGp (bBe ly2 (dZ.1 hn)),(Fr.app h _).add _⟩
 ·rename_i f hf
  obtain⟨j,hj,_⟩:=dY hf;split at hc;·rename_i q;exact absurd hle q
  ·rename_i hle
   split at hc;·cases hc
   ·rename_i q hq
    split at hc;·cases hc
    ·rename_i hne
     cases hc;obtain⟨i,hi,hqi⟩:=dY hq;obtain⟨fe,hp⟩:=bBd (f:=AAs) (name:=x) (t1:=u1) (t2:=u2) (z:=z0) (z2:=z1) ly2 hj (O8.1 hle) hi (by rw[A9,hqi];rfl) hne gs.bw;exact⟨_,aGp hp,(Fr.app h _).add _⟩
theorem aGj{i:Nat}(ly:Lays h L s)(hw:IsW (.void i) v){e:Int}(hc:dS s (.void i)=some e):∃ h1,CalP Tryz.prog aD 61 [.pt L.c 0,v] h (.ifc 110 (.agg [I e])) h1∧Fr [] h h1:=by
 obtain⟨u1,rfl⟩:=hw;have ly2:=ly.ext [some (.blk false (.cells true [.pt L.c 0])),some (.blk true (.cells true [.str AAt,.fs [[.str u1]],.fs [[I (i:Nat)]]]))];unfold dS at hc;dsimp only at hc;split at hc
 ·rename_i hn
  cases hc;exact⟨_,aED (bBc ly2 (I9.1 hn)),(Fr.app h _).add _⟩
 ·rename_i k hk
  split at hc
  ·rename_i hv
   cases hc;obtain⟨e,hp⟩:=bBb ly2 hk hv;exact⟨_,aED hp,(Fr.app h _).add _⟩
  ·rename_i hv
   split at hc
   ·rename_i hcl
    cases hc;obtain⟨e,hp⟩:=bBa ly2 hk (aE0.2 hv) hcl;exact⟨_,aED hp,(Fr.app h _).add _⟩
   ·cases hc
theorem aEB(ly:Lays h L s)(hw:IsW (.close) v){e:Int}(hc:dS s (.close)=some e):∃ h1,CalP Tryz.prog aD 61 [.pt L.c 0,v] h (.ifc 110 (.agg [I e])) h1∧Fr [] h h1:=by
 cases hw;unfold dS at hc;dsimp only at hc;split at hc;·cases hc
 ·rename_i hn
  cases hc;exact⟨_,aNo ly (by omega),Fr.app h _⟩
variable{h h' h1:XH}{L:CL}{s:dD}{x:ByteArray}{w:Wd}{v:AV}
theorem bP{h k:XH}(i:Nat){g:Bool}{c:ABlk}(hk:k[i]?=some (some (.blk g c))):aG (h++k) (h.length+i)=some c:=by
 rw[fA,if_neg (by omega),show h.length+i-h.length=i by omega];unfold aG hat;rw[A6,hk];rfl
theorem vU(ly:Lays h L s){bs:List Nat}(hb:∀ b∈bs,h.length≤b):Out L s bs:=fun b hm hp=>by
 obtain⟨j,hj⟩:=bJ.1 hp;have:=ly.lt j b hj;have:=hb b hm;omega
theorem aWK{h k:XH}(i:Nat){c:XB}(hk:k[i]?=some (some c)):(hat (h++k) (h.length+i)).isSome=true:=by
 rw[aSh];unfold hat;rw[A6,hk];rfl
theorem sD{h k k2:XH}(i:Nat){c:XB}(hk:k[i]?=some (some c)):(hat ((h++k)++k2) (h.length+i)).isSome=true:=by
 rw[O6];exact aWK i (c:=c) (by rw[F9 (A5.1 hk).1];exact hk)
abbrev aQl(g:Nat):Prop:=g=88∨g=92∨g=128∨g=130∨g=132∨g=135
def yW(h:XH)(L:CL)(s:dD)(v:AV)(s':dD):Prop:=∃(g:Nat)(caps:List AV)(h1:XH),runW aD 61 [.pt L.c 0,v] h=some (.fn (.func g) [] caps,h1)∧aQl g∧Fr [] h h1 ∧
 ∃ h2 L2,runW aD g caps h1=some (.tup [],h2)∧Lays h2 L2 s'∧L2.c=L.c∧Fr (sI L s) h1 h2∧Sb h1.length L s L2 s'
theorem aHA{x:ByteArray}(ly:Lays h L s)(gs:fD s)(hw:IsW (.farmer x) v)(hc:dS s (.farmer x)=none):yW h L s v (mY s (.farmer x)):=by
 have lbk:=gs.book;obtain⟨z0,rfl⟩:=hw;unfold dS at hc;dsimp only at hc;split at hc;·cases hc
 ·rename_i hs
  split at hc;·cases hc
  ·rename_i h9
   have hx:=dZ.1 (aFT hs);have ly1:=ly.ext [some (.blk false (.cells true [.pt L.c 0])),some (.blk true (.cells true [.str AAr,.fs [[.str x]],.fs [[I z0]]]))];obtain⟨h2,L2,q1,q2,q3,q4,q5⟩:=w88 ly1 (b0:=h.length+0) (b1:=h.length+1) (vU ly (by intro b hb;simp at hb;omega)) (bP 0 rfl) (bP 1 rfl) hx (by have:=gs.lf;omega);exact⟨88,_,_,aIY ly hx h9,by decide,Fr.app h _,h2,L2,q1,q2,q3,q4,q5⟩
theorem aJR{x y:ByteArray}{a b:Int}(ly:Lays h L s)(gs:fD s)(hw:IsW (.wagon x y a b) v)(hc:dS s (.wagon x y a b)=none):yW h L s v (mY s (.wagon x y a b)):=by
 have lbk:=gs.book;obtain⟨hb,u1,u2,z0,z1,rfl⟩:=hw;have ly2:=ly.ext [some (.blk false (.cells true [.pt L.c 0])),some (.blk true (.cells true [.str AAs,.fs [[.str x],[.str u1],[.str u2],[.str y]],.fs [[I z0],[I a],[I b],[I z1]]]))];unfold dS at hc;dsimp only at hc;split at hc;·cases hc
 ·rename_i f hf
  obtain⟨j,hj,hjf⟩:=dY hf;split at hc;·cases hc
  ·rename_i hle
   have hle:=O8.1 hle;have hww:∀ i q,dE (s.wagons.map (·.1)) x=some i→(s.wagons.map (·.2))[i]?=some q→q-500≤b∧b≤q+500:=by
    intro i q hi hq;have:cT s.wagons x=some q:=by
     unfold cT;rw[hi,D0];rw[A9]at hq;exact hq
    rw[this]at hc;dsimp only at hc;split at hc;·rename_i hne;exact hne
    ·cases hc
   obtain⟨fe,hfe,q0⟩:=w90 (f:=AAs) (name:=x) (t1:=u1) (t2:=u2) (z:=z0) (z2:=z1) ly2 hj hle hww gs.bw;have ly3:=ly2.ext (nI L.c AAs x u1 u2 y z0 a b z1 [some (.blk false (.cells true [.pt fe 0]))]);have hfb:=gs.bf _ (A8 hjf);simp only at hfb;obtain⟨h2,L2,q1,q2,q3,q4,q5⟩:=aXw (j:=j) (fe:=fe) (v:=f) (name:=x) (owner:=y) (full:=a) (empty:=b) ly3 (vU ly2 (by intro b hb;simp only[C2,C6,I1,B4,D4,AAh]at hb ⊢;omega)) (bP 0 rfl) (bP 2 rfl) (bP 4 rfl) (bP 6 rfl) (bP 3 rfl) (bP 5 rfl) hfe hj hjf (by omega) (by have:=gs.lw;omega) (by have:=gs.lt;omega);exact⟨128,_,_,aKt q0 (sD 0 rfl) (sD 1 rfl),by decide,(Fr.app h _).add _,h2,L2,q1,q2,q3,q4,q5⟩
theorem aPV{x:ByteArray}{a b:Int}(ly:Lays h L s)(gs:fD s)(hw:IsW (.pan x a b) v)(hc:dS s (.pan x a b)=none):yW h L s v (mY s (.pan x a b)):=by
 have lbk:=gs.book;obtain⟨hb,u1,u2,z0,rfl⟩:=hw;have ly2:=ly.ext [some (.blk false (.cells true [.pt L.c 0])),some (.blk true (.cells true [.str AAw,.fs [[.str x],[.str u1],[.str u2]],.fs [[I z0],[I a],[I b]]]))];unfold dS at hc;dsimp only at hc;split at hc;·cases hc
 ·rename_i hle
  have hle:=O8.1 hle;split at hc;·cases hc
  ·rename_i hn
   have ly3:=ly2.ext (aGs L.c x a b);obtain⟨h2,L2,q1,q2,q3,q4,q5⟩:=aXt ly3 (b0:=_+0) (b1:=_+1) (b2:=_+2) (b3:=_+3) (a:=a) (b:=b) (x:=x) (vU ly2 (by intro b hb;simp only[C2,C6,I1,B4,D4,AAh]at hb ⊢;omega)) (bP 0 rfl) (bP 1 rfl) (bP 2 rfl) (bP 3 rfl) (by omega) (fun p hp=>by have:=gs.bp p hp;omega) (by have:=gs.lp;omega);exact⟨135,_,_,aRk (w94 ly2 hle (aIC hn)) (sD 0 rfl) (sD 1 rfl),by decide,(Fr.app h _).add _,h2,L2,q1,q2,q3,q4,q5⟩
theorem aNj{i:Nat}(ly:Lays h L s)(gs:fD s)(hw:IsW (.void i) v)(hc:dS s (.void i)=none):yW h L s v (mY s (.void i)):=by
 have lbk:=gs.book;obtain⟨u1,rfl⟩:=hw;have ly2:=ly.ext [some (.blk false (.cells true [.pt L.c 0])),some (.blk true (.cells true [.str AAt,.fs [[.str u1]],.fs [[I (i:Nat)]]]))];unfold dS at hc;dsimp only at hc;split at hc;·cases hc
 ·rename_i k hk
  split at hc;·cases hc
  ·rename_i hv
   split at hc;·cases hc
   ·rename_i hcl
    obtain⟨e,he,q0⟩:=w91 ly2 hk (aE0.2 hv) (by omega);have ly3:=ly2.ext (aHG L.c e);obtain⟨hk1,hk2,hk3,_⟩:=gs.bt k (A8 hk);obtain⟨j,hj⟩:=aEm hk3;obtain⟨f,hjf⟩:=rI hj;have hfb:=gs.bf _ (A8 hjf);simp only at hfb;obtain⟨h2,q1,q2,q4⟩:=aXv ly3 (b0:=_+1) (b1:=_+0) (vU ly2 (by intro b hb;simp only[C2,C6,I1,B4,D4,AAh]at hb ⊢;omega)) (bP 1 rfl) (bP 0 rfl) hk he hj hjf (by omega);have hd:mY s (.void i)={ s with tickets:=s.tickets.set i { k with void:=true },farmers:=eV s.farmers k.farmer (-k.net) }:=by
     unfold mY;dsimp only;rw[hk]
    exact⟨130,_,_,aOj q0 (sD 0 rfl) (sD 1 rfl),by decide,(Fr.app h _).add _,h2,L,q1,by rw[hd];exact q2,rfl,q4,by
     rw[hd];exact .of rfl (aAs (by rw[C0])) (qP rfl) (cM (by rw[gG hj (by rw[A9,hjf];rfl),C0])) (cM rfl) (cM rfl) (cM rfl)⟩
theorem aJT(ly:Lays h L s)(gs:fD s)(hw:IsW (.close) v)(hc:dS s (.close)=none):yW h L s v (mY s (.close)):=by
 have lbk:=gs.book;cases hw;unfold dS at hc;dsimp only at hc;split at hc
 ·rename_i hn
  have ly1:=ly.ext [some (.blk false (.cells true [.pt L.c 0])),some (.blk true (.cells true [.str AAu,.fs [],.fs []]))];obtain⟨h2,q1,q2,q4⟩:=w92 ly1 (b0:=h.length+0) (bP 0 rfl) (by omega);exact⟨92,_,_,aKx ly hn,by decide,Fr.app h _,h2,L,q1,q2,rfl,q4,.of rfl (aAs rfl) (qP rfl) (cM rfl) (cM rfl) (cM rfl) (cM rfl)⟩
 ·cases hc
theorem aJS{x:ByteArray}{n:Int}(ly:Lays h L s)(gs:fD s)(hw:IsW (.meter x n) v)(hc:dS s (.meter x n)=none):yW h L s v (mY s (.meter x n)):=by
 have lbk:=gs.book;obtain⟨hb,u1,z0,rfl⟩:=hw;have ly2:=ly.ext [some (.blk false (.cells true [.pt L.c 0])),some (.blk true (.cells true [.str AAv,.fs [[.str x],[.str u1]],.fs [[I z0],[I n]]]))];unfold dS at hc;dsimp only at hc;split at hc;·cases hc
 ·rename_i hn
  have ly3:=ly2.ext (aPZ L.c x n);obtain⟨h2,L2,q1,q2,q3,q4,q5⟩:=aXu ly3 (b0:=_+0) (b1:=_+1) (b2:=_+2) (n:=n) (x:=x) (vU ly2 (by intro b hb;simp only[C2,C6,I1,B4,D4,AAh]at hb ⊢;omega)) (bP 0 rfl) (bP 1 rfl) (bP 2 rfl) hb (fun p hp=>by have:=gs.bm p hp;omega) (by have:=gs.lm;omega);exact⟨132,_,_,aKw (w93 ly2 (aIC hn)) (sD 0 rfl) (sD 1 rfl),by decide,(Fr.app h _).add _,h2,L2,q1,q2,q3,q4,q5⟩
end Go.Proofs.YtmapgnepfgnphaaGreatDoor
namespace Go.Proofs.YtmapgnepfgnphaaGreatDoor
open Go Go.DL Go.Proofs.Tryz
section
variable{B:Base}{D:Nat→Option XFn}{Y:Nat→Option YI}{r:Nat→Option Nat}{h:XH}{H:Hp}{F:Nat→Prop}{w:World}
theorem aFi(ok:XOk prog D)(B:Base)(Y:Nat→Option YI)(hY:YOk prog B D Y):Go.DL.FnS prog B D Y (runW D)∧YS prog B D Y (runYW D):=by
 refine⟨fun r h H K xs as' v h' sh hA hx=>?_,fun r h H fv fv' xs as' v h' sh hfv hA hx=>?_⟩
 ·obtain⟨n,hn⟩:=eW.1 hx
  exact(lP ok n B Y hY).1 r h H K xs as' v h' sh hA hn
 ·obtain⟨n,hn⟩:=sG.1 hx
  exact(lP ok n B Y hY).2 r h H fv fv' xs as' v h' sh hfv hA hn
theorem aMV{i:aCz}(sh:SH D Y r h H){r1:Nat→Option Nat}{e1 env1:aH}{h1:XH}{H1:Hp}(ha:Agree h.length r r1)(sr:SR D Y r1 e1 h1 env1 H1){v:AV}(hx:gT i.res e1 (aG h1)=some v) :
 ∃ v1,gT i.res env1 H1=some v1∧∃ v' H'',Shift (upd anyE 0 v1) H1 (upd anyE 0 v') H''∧dP D Y r v h1 v' H'':=by
 obtain⟨v0',k1,k2⟩:=zM sr hx;exact⟨v0',k1,v0',H1,fun F w a st re=>⟨F,Ext.refl _ _ _,st,re⟩,r1,fun b c hb=>ha b c (sh.dom b c hb) hb,sr.sh,k2⟩
def aRc(D:Nat→Option XFn)(d:XFn)(c o k:Nat)(e:aH)(h1 h3:XH)(v:AV):Prop :=
 (∃ x e2 h2,(∀ id,x ≠ .exit id)∧execW D 21 k none b21 e h1=some (x,e2,h2)∧oK saySay (runW D) (runYW D) (.pt c o) saySay.zero false h2=some h3∧gT saySay.res e2 (aG h3)=some v) ∨
 (∃ v0 e2 h2,PanX prog D d k b21 e h1 (.ifc 110 v0) e2 h2∧oK saySay (runW D) (runYW D) (.pt c o) v0 true h2=some h3∧gT saySay.res e2 (aG h3)=some v)
theorem aOS(ok:XOk prog D){d21:XFn}(hD:D 21=some d21)(hN:d21.N=41){xs as':List AV}{v:AV}{h1 h3:XH}{e1:aH}{c o:Nat}(hlen:xs.length≤41)
 (hx1:eE (runW D) (runYW D) saySay.pre (bM (qD xs)) h=some (e1,h1)) (he1:e1 4 = .pt c o) (hc:c<h1.length) (hbody:aRc D d21 c o h1.length (upd e1 7 .any) h1 h3 v) (hY:YOk prog B D Y) (sh:SH D Y r h H) (hA:RnL D Y r xs as'):FnW B prog 21 as' H (dP D Y r v h3):=by
 have hm:=ok.mixed;obtain⟨hf,hy⟩:=aFi ok B Y hY;have hA1:=hA.nz;refine FnW.nz (FnW.shift ⟨fun vs w=>call21 vs w,fun F w vs hB st hAr=>?_⟩);have hsz:(vs++Array.replicate (f21.ntmps-vs.size) undef).size=41:=by
  have h1:=hAr.1;have h2:=hA1.1;rw[gE,B0]at h2;have:xs.length≤41:=hlen;rw[aQU];simp;omega
 have hre:=wR (N:=41) (nt:=f21.ntmps-vs.size) hB hAr;have zF:=hO (P:=prog) (B:=B) hf hy saySay.pre r _ h _ H e1 h1 (fun env' H'=>∃ r',DL.Sub r r'∧SR D Y r' e1 h1 env' H') rfl ⟨sh,jG hA1⟩ hx1 (fun r' env' H' hs sr'=>⟨r',hs,sr'⟩);refine callsIn_of_wp_marks func21 aNq trivial (wpIn_seq (iV (B:=B) (r:=none) (N:=41) (draw:=false) hm aQS hsz hB st hre zF ?_));rintro a1 F1 w1 env1 H1 p1 p2 p3 p4 p5 ⟨r1,p6,p7⟩;show (Code.seq (.region 1 r21_1 false) code21).wpIn Fence.wide 0 prog _ a1 w1;have hB1:=hB.step st p3;have h4:=p7.re 4;have he1':e1 4 = .pt c o:=he1;rw[he1']at h4;obtain⟨b,hrb,henv4⟩:∃ b,r1 c=some b∧env1 4 = .pt b o:=by
  generalize env1 4=z at h4;cases h4 with
  | pt _ b _ hb=>exact⟨b,hb,rfl⟩
 refine wpIn_seq (wpIn_region ?_);rw[aTV,show List.range 2=[0,1] from rfl,wpOpsIn_cons];obtain⟨o0,g1,g2⟩:=aRZ;obtain⟨o1,k1,k2,k3,k4⟩:=aWG;refine yD (r:=none) (B:=B) (N:=41) (K:=fun env' H'=>env'=aR env1 (some 7) (.fn (.func 56) [] [.pt b o])∧H'=H1) (kP g1 g2) rfl (fun k hk=>by simp at hk;omega) p1 hB1 p4 p5 ?_ ?_
 ·rw[aFA,mZ rfl]
  simp only[aC,aD1,C4,aK,henv4,optW_some,fC];exact⟨by trivial,by trivial⟩
 rintro a2 F2 w2 env2 H2 s1 s2 s3 s4 s5 ⟨rfl,rfl⟩;rw[wpOpsIn_cons];unfold wpOpIn;simp only[k1];have hw:Region.wanted o1 (yielded r21_1 a2.tmps)=true:=by unfold Region.wanted;rw[k3]
 rw[if_pos hw];have h7:a2.eval (.tmp 7) = .func (.func 56) #[] #[.pointer (some ⟨b,o,none⟩)]:=by
  have:=s5.rv 7;simp only[aR,upd,AAe]at this;show a2.tmps.getD 7 undef=_;generalize a2.tmps.getD 7 undef=z at this;cases this with
  | fn _ _ _ fv cv hl1 hl2 q1 q2 =>
    have e1:fv = #[]:=by
     rcases fv with ⟨_|⟨a,l⟩⟩;·rfl
     ·simp at hl1
    have e2:cv = #[.pointer (some ⟨b,o,none⟩)]:=by
     rcases cv with ⟨_|⟨a,_|⟨a',l⟩⟩⟩;·simp at hl2
     ·have:=q2 0 _ a rfl rfl
      cases this;rfl
     ·simp at hl2
    rw[e1,e2]
 refine⟨fun _ _=>trivial,?_⟩;have hsem:(o1.semAt Fence.wide.round a2.eval).run prog w2 = .ok (.defer { target:=.fn (.func 56) #[.pointer (some ⟨b,o,none⟩)],args := #[] }) w2:=by
  have:Fence.wide.round=none:=rfl;rw[this,Oper.semAt_none];simp[execOp,resolve,k4,h7,Deferred.ofValue]
 rw[hsem,Oper.uponIn_defer,k2];have hdf:a2.defers=[]:=by rw[s2,p2]
 obtain⟨T,hT⟩:∃ T:List Deferred,T=[{ target:=.fn (.func 56) #[.pointer (some ⟨b,o,none⟩)],args := #[] }]:=⟨_,rfl⟩;have hact:Act.put { a2 with defers:={ target:=.fn (.func 56) #[.pointer (some ⟨b,o,none⟩)],args := #[] }::a2.defers } none undef={ tmps:=a2.tmps,defers:=T }:=by
  rw[hdf,hT];rfl
 rw[hact];show code21.wpIn Fence.wide 0 prog _ { tmps:=a2.tmps,defers:=T } w2;have hB2:=hB1.step p4 s3;have E2:=p3.trans s3;have sr2:SR D Y r1 (upd e1 7 .any) h1 (aR env1 (some 7) (.fn (.func 56) [] [.pt b o])) H2:=⟨p7.sh,fun j=>by
  simp only[upd,aR];split;·exact .any _
  ·exact p7.re j⟩
 have ag1:Agree h.length r r1:=p6.agree _
 have out:∀(F':Nat→Prop)(w':World)(H':Hp)(env':aH)(tmps:Array Value)(ds:List Deferred)(r3:Nat→Option Nat)(e2:aH)(h2:XH)(u:FrameMode)(v0 v0':AV)(t:Bool)(cval:Value),u ≠ .run→Ext F w H F' w' H'→St F' w' H'→RE F' w' env' { tmps:=tmps,defers:=[] } →
  Mk w2.heap.size T F' H' w' ds→Agree h1.length r1 r3→SR D Y r3 e2 h2 env' H'→Rn D Y r3 v0 v0'→oK saySay (runW D) (runYW D) (.pt c o) v0 t h2=some h3→gT saySay.res e2 (aG h3)=some v →
  ((t=true∧u = .panicking (pnc cval)∧Rv F' w' (.ifc 110 v0') cval)∨(t=false∧u = .returning∧v0' = .agg [.int .i64 0])) →
  LeavesInM Fence.wide 0 prog f21 tmps (sF F w H fun v1 H1=>∃ v' H'',Shift (upd anyE 0 v1) H1 (upd anyE 0 v') H''∧dP D Y r v h3 v' H'') ds u w':=by
  intro F' w' H' env' tmps ds r3 e2 h2 u v0 v0' t cval hu he st' re' mk ag sr3 hv0 hh hret hcase;obtain⟨ms,q1,q2,q3⟩:=mk.ex;rw[q1];refine tQ (env:=env') (S:=fun w'=>(t=true∧u = .panicking (pnc cval)∧Rv F' w' (.ifc 110 v0') cval)∨(t=false∧u = .returning∧v0' = .agg [.int .i64 0])) (fun w w' hu hs=>?_) hu E2.le (fun w'' hs'' he' st'' re''=>?_) ms w' hcase he st' re' q2 q3
  ·rcases hs with ⟨a1,a2,a3⟩|hs
   ·exact .inl ⟨a1,a2,a3.up hu⟩
   ·exact .inr hs
  rw[hT];refine⟨hu,.inr ⟨fun hd=>by simp[Fence.wide]at hd,_,_,56,#[.pointer (some ⟨b,o,none⟩)],rfl,?_,fun _ _=>trivial,?_⟩⟩
  ·have:=call56 #[Value.pointer (some ⟨b,o,none⟩)] w''
   first|exact this|simpa [invoke]using this
  ·refine aMM hf hy hm (hB.step st he') st'' sr3.sh (ag c b hc hrb) rfl rfl rfl hv0 hh hs'' ?_
   intro F4 w4 H4 r4 u' hset t2 t3 t4 t5;show LeavesInM Fence.wide 0 prog f21 tmps _ [] (settle u') w4;rw[hset];have re4:RE F4 w4 env' { tmps:=tmps,defers:=[] }:=re''.up (t2.up st'');have sr4:SR D Y r4 e2 h3 env' H4:=⟨t5,fun j=>(sr3.re j).mono t4⟩;have ag4:Agree h.length r r4:=fun b1 c1 hb1 hr1=>t4 _ _ (ag b1 c1 (p7.sh.dom b1 c1 (p6 b1 c1 hr1)) (p6 b1 c1 hr1));obtain⟨v1,x1,x2⟩:=aMV sh ag4 sr4 hret;obtain⟨cv,y1,y2⟩:=rA t3 re4 aQC x1;exact⟨cv,y1,cv,v1,F4,H4,rfl,he'.trans t2,t3,y2,x2⟩
 rcases hbody with ⟨x,e2,h2,hne,hex,hh,hret⟩|⟨v0,e2,h2,hpan,hh,hret⟩
 ·have hWD:=rU (Q:=fun x' env3 H3=>x'=x∧∃ r3,Agree h1.length r1 r3∧SR D Y r3 e2 h2 env3 H3) ok hD hex hY aPo (aO aPt) sr2 (fun r' env' H' ha sr'=>⟨rfl,r',ha,sr'⟩)
  have hW:=hWD code21 (by rw[hN];exact sW) F2 w2 { tmps:=a2.tmps,defers:=T } w2.heap.size T hB2 (B7 _) (by rw[hN];exact s1) s4 s5 Mk.nil;refine wpIn_mono hW ?_;rintro e a' w' ⟨x',env',F',H',z1,z2,z3,z4,z5,z6,rfl,r3,z7,z8⟩;have fin:=fun(hu:True)=>out F' w' H' env' a'.tmps a'.defers r3 e2 h2 .returning _ _ false undef (by simp) (E2.trans z3) z4 z5 z6 z7 z8 ((tZ saySay.zero rfl)) hh hret (.inr ⟨rfl,rfl,rfl⟩);cases e with
  | normal=>exact fin trivial
  | ret=>exact fin trivial
  | exit id=>simp only at z1;subst z1;exact(hne id rfl).elim
  | goto l=>exact z1.elim
  | panic c=>exact z1.elim
  | outgrown=>exact z1.elim
 ·have hWD:=hpan aPo (aO aPt) B Y r1 _ _ (fun v' env3 H3=>∃ r3,Agree h1.length r1 r3∧SR D Y r3 e2 h2 env3 H3∧Rn D Y r3 (.ifc 110 v0) v') hY sr2 (fun r' v' env' H' ha sr' hv'=>⟨r',ha,sr',hv'⟩)
  have hW:=hWD code21 (by rw[hN];exact sW) F2 w2 { tmps:=a2.tmps,defers:=T } w2.heap.size T hB2 (B7 _) (by rw[hN];exact s1) s4 s5 Mk.nil;refine wpIn_mono hW ?_;rintro e a' w' ⟨cv,vv,env',F',H',rfl,z3,z4,z5,z9,z6,r3,z7,z8,z10⟩;cases z10 with
  | ifc _ _ v0' hv0' =>
  exact out F' w' H' env' a'.tmps a'.defers r3 e2 h2 (.panicking (pnc cv)) v0 v0' true cv (by simp) (E2.trans z3) z4 z5 z6 z7 z8 hv0' hh hret (.inl ⟨rfl,rfl,z9⟩)
end
end Go.Proofs.YtmapgnepfgnphaaGreatDoor
namespace Go.Proofs.YtmapgnepfgnphaaGreatDoor
open Go Go.DL
variable{h h' h1 h2:XH}{L:CL}{s:dD}{x line:ByteArray}{w:Wd}{v:AV}
theorem w59(ly:Lays h L s):runW aD 59 [.pt L.c 0] h=some (.bool false,h):=by
 obtain⟨g,hc⟩:=aB ly.hc;unfold cG at hc;rw[qY 59 x59 rfl];unfold x59;dsimp only;(exact eD hc)
theorem aDy(run:cV)(runY:dJ)(ops:List DOper)(e:aH)(h:XH):eE run runY ops e h=xo none run runY ops e h:=rfl
theorem aIy{n:Nat}:oK saySay (runW aD) (runYW aD) (.pt n 0) saySay.zero false h=some (h++[some (.blk true (.cells true [I 0]))]):=by
 unfold oK saySay mH uE yO;dsimp only;rw[aDy];obtain⟨k,hk⟩:∃ n,h.length=n:=⟨_,rfl⟩;(exact eD hk)
def yT:List Int:=[2,4,5,6,8,9,10,13,14,15,22,23]
def noA(e:Int):ByteArray:=(AAD:ByteArray)++⟨⟨Lib.itoa e⟩⟩
theorem aPu{e:Int}(he:e∈yT):aP .add AAD ⟨⟨Lib.itoa e⟩⟩=some (.str (noA e))∧(-9223372036854775808≤e∧e≤9223372036854775807):=by
 have h0:e=2∨e=4∨e=5∨e=6∨e=8∨e=9∨e=10∨e=13∨e=14∨e=15∨e=22∨e=23:=by simpa [yT]using he
 rcases h0 with rfl|rfl|rfl|rfl|rfl|rfl|rfl|rfl|rfl|rfl|rfl|rfl;all_goals exact⟨by kernel_rfl,by decide⟩
theorem aML{n:Nat}{g:Bool}{a:ByteArray}{e:Int}(hn:hat h n=some (.blk g (.cells true [.str a])))(he:e∈yT):oK saySay (runW aD) (runYW aD) (.pt n 0) (.agg [I e]) true h=some ((h.set n (some (.blk g (.cells true [.str (noA e)]))))++[some (.blk true (.cells true [I e]))]):=by
 unfold oK saySay mH uE sQ yO;dsimp only;rw[aDy];obtain⟨k,hk⟩:∃ n,h.length=n:=⟨_,rfl⟩;obtain⟨sa,hbe⟩:=aPu he;have c57:=aDC (n:=e) hbe;have nk:(n<k)=True:=AAm (by rw[←hk];exact aF (aMJ hn));(exact RS7 hk hn nk c57 aDy sa aE)
def aAr(c n:Nat)(line:ByteArray):aH:=upd (upd (bM [.pt c 0,.str line]) 4 (.pt n 0)) 7 .any
def kT:XH:=[some (.blk true (.cells true [.str ⟨⟨[]⟩⟩]))]
theorem IsW.shape(hw:IsW w v):∃ f r1 r2,v = .agg [.str f,.fs r1,.fs r2]:=by
 cases w with
 | farmer x=>obtain⟨_,rfl⟩:=hw;exact⟨_,_,_,rfl⟩
 | wagon x y a b=>obtain⟨_,_,_,_,_,rfl⟩:=hw;exact⟨_,_,_,rfl⟩
 | void i=>obtain⟨_,rfl⟩:=hw;exact⟨_,_,_,rfl⟩
 | close=>cases hw;exact⟨_,_,_,rfl⟩
 | meter x n=>obtain⟨_,_,_,rfl⟩:=hw;exact⟨_,_,_,rfl⟩
 | pan x a b=>obtain⟨_,_,_,_,rfl⟩:=hw;exact⟨_,_,_,rfl⟩
 | net x=>obtain⟨_,rfl⟩:=hw;exact⟨_,_,_,rfl⟩
 | total=>cases hw;exact⟨_,_,_,rfl⟩
 | ticket i=>obtain⟨_,rfl⟩:=hw;exact⟨_,_,_,rfl⟩
 | used x=>obtain⟨_,rfl⟩:=hw;exact⟨_,_,_,rfl⟩
 | loss x=>obtain⟨_,rfl⟩:=hw;exact⟨_,_,_,rfl⟩
 | power x=>obtain⟨_,rfl⟩:=hw;exact⟨_,_,_,rfl⟩
def wB(f:ByteArray)(r1 r2:List (List AV)):XH:=[some (.blk true (.cells true [.str ⟨⟨[]⟩⟩])),some (.blk true (.cells true [.str f,.fs r1,.fs r2]))]
theorem Lays.bookNew(ly:Lays h L s){n m:Nat}{line a:ByteArray}{g g1 g2 g3:Bool}{cs:List AV}(hm:h.length=m)(hn:n∉sI L s)(hnl:n<m)(hcs:cs=cG { L with kb:=m+1 } { s with book:=s.book++[line] })(hh:h'=((oE h L.kb s.book.length).set L.c (some (.blk g (.cells true cs)))).set n (some (.blk g3 (.cells true [.str a])))++[some (.blk g1 (.cells true [.str line])),some (.blk g2 (.cells true (s.book.map .str++[.str line])))]) :
 Lays h' { L with kb:=m+1 } { s with book:=s.book++[line] }∧aG h' n=some (.cells true [.str a]):=by
 subst hm hcs;have cl:=aF ly.hc;have cn:L.c≠n:=fun q=>hn (bJ.2 ⟨0,by simp[px,q]⟩);have hl:(((oE h L.kb s.book.length).set L.c (some (.blk g (.cells true (cG { L with kb:=h.length+1 } { s with book:=s.book++[line] }))))).set n (some (.blk g3 (.cells true [.str a])))).length=h.length:=by rw[C0,C0,kD]
 have l1:Lays (h.set n (some (.blk g3 (.cells true [.str a])))) L s:=ly.fr ((Fr.refl [n] h).set (by simp) _) fun j b hb hm=>hn (by rw[B5]at hm;rw[←hm];exact bJ.2 ⟨j,hb⟩);have fr:Fr (L.c::mO L.kb s.book.length) (h.set n (some (.blk g3 (.cells true [.str a])))) h':=by
  refine⟨fun b hb hnm=>?_,?_⟩
  ·rw[C0]at hb
   rw[hh,fA,hl,if_pos hb,cJ,cJ];rw[B4,not_or]at hnm;by_cases hbn:b=n;·rw[if_pos hbn,if_pos (by rw[C0,kD];exact hnl),cJ,if_pos hbn,if_pos hnl]
   ·rw[if_neg hbn,if_neg hnm.1,aPp hnm.2,cJ,if_neg hbn]
  ·rw[hh,C2,hl,C0];simp
 refine⟨l1.bookApp (kb':=h.length+1) (by rw[C0];omega) ?_ ?_ fr,?_⟩;·rw[hh,fA,hl,if_pos cl,cJ,if_neg cn,cJ,if_pos rfl,if_pos (by rw[kD];exact cl)]
 ·rw[hh,fA,hl,if_neg (by omega),show h.length+1-h.length=1 by omega];rfl
 ·rw[hh,fA,hl,if_pos hnl,cJ,if_pos rfl,if_pos (by rw[C0,kD];exact hnl)]
theorem aGh{L:List Nat}{r:Option (DX×aH×XH)}{x:DX}{vs:List AV}{h:XH}(hx:qH L r=some (x,vs,h)):∃ e,r=some (x,e,h)∧L.map e=vs:=by
 unfold qH at hx;rw[A0]at hx;obtain⟨⟨x1,e,h2⟩,rfl,he⟩:=hx;simp only[B3]at he;obtain⟨rfl,rfl,rfl⟩:=he;exact⟨e,rfl,rfl⟩
theorem aOU{n m:Nat}{f:ByteArray}{r1 r2:List (List AV)}{L3:CL}{s3:dD}(ly:Lays h L s)(hn:h.length=n)(hp:runW aD 60 [.str line] []=some (.agg [.str f,.fs r1,.fs r2],[])){g:Nat}{caps:List AV}{hc h3:XH}(call:runW aD 61 [.pt L.c 0,.agg [.str f,.fs r1,.fs r2]] (h++wB f r1 r2)=some (.fn (.func g) [] caps,hc))(hg:aQl g)(call2:runW aD g caps hc=some (.tup [],h3))(hlt:s.book.length<300)
 (lyc:Lays hc L s) (ly3:Lays h3 L3 s3) (hL:L3.c=L.c) (hb:s3.book.length=s.book.length) (h3n:aG h3 n=some (.cells true [.str ⟨⟨[]⟩⟩])) (hm:h3.length=m) (nn:n∉sI L3 s3) (hk:s.book.length=0) :
 ∃ h4,qH [0,1,4] (execW aD 21 (n+1) none b21 (aAr L.c n line) (h++kT))=some (.ret,[.pt L.c 0,.str line,.pt n 0],h4)∧Lays h4 { L3 with kb:=m+1 } { s3 with book:=s3.book++[line] }∧aG h4 n=some (.cells true [.str ⟨⟨[111,107]⟩⟩]):=by
 have c59:=w59 (ly.ext kT);have m1:=uQ 9;have m2:=uQ 15;obtain⟨gc,hcc⟩:=aB lyc.hc;obtain⟨g3,h3c⟩:=aB ly3.hc;obtain⟨gn,h3n'⟩:=aB h3n;rw[hL]at h3c;unfold cG at hcc h3c;have cm:(L.c<m)=True:=AAm (by rw[←hm,←hL];exact aF ly3.hc);have nm0:n<m:=by rw[←hm];exact aF h3n
 have nm:(n<m)=True:=AAm nm0;have cn:(L.c=n)=False:=AAn fun q=>nn (bJ.2 ⟨0,by simp[px,hL,q]⟩);have nc:(n=L.c)=False:=AAn fun q=>nn (bJ.2 ⟨0,by simp[px,hL,q]⟩);have hv:iC L.kb s.book.length = .nilsl:=by rw[hk];rfl
 have hv3:iC L3.kb s3.book.length = .nilsl:=by rw[hb,hk];rfl
 rw[hv]at hcc;rw[hv3]at h3c;refine⟨(h3.set L.c (some (.blk false (.cells true [.pt L3.f.o 0,.pt L3.m.o 0,.pt L3.p.o 0,.pt L3.w.o 0,iC L3.tb s3.tickets.length,I s3.closed,.sl (m+1) 0 1 1])))).set n (some (.blk gn (.cells true [.str ⟨⟨[111,107]⟩⟩])))++[some (.blk true (.cells true [.str line])),some (.blk true (.cells true [.str line]))],?_,ly3.bookNew (g:=false) (g1:=true) (g2:=true) (g3:=gn) (cs:=_) hm nn nm0 rfl ?_⟩
 ·unfold b21 aAr kT wB at *
  rcases hg with rfl|rfl|rfl|rfl|rfl|rfl;all_goals (exact xX hn c59 m1 hp call call2 m2 hcc h3c h3n' hm cm nm cn nc aE aE aE aE aE)
 ·rw[hL]
  have hb0:s3.book=[]:=C5 (by omega);simp[oE,cG,iC,hb0]
theorem aOV{n m:Nat}{f:ByteArray}{r1 r2:List (List AV)}{L3:CL}{s3:dD}(ly:Lays h L s)(hn:h.length=n)(hp:runW aD 60 [.str line] []=some (.agg [.str f,.fs r1,.fs r2],[])){g:Nat}{caps:List AV}{hc h3:XH}(call:runW aD 61 [.pt L.c 0,.agg [.str f,.fs r1,.fs r2]] (h++wB f r1 r2)=some (.fn (.func g) [] caps,hc))(hg:aQl g)(call2:runW aD g caps hc=some (.tup [],h3))(hlt:s.book.length<300)
 (lyc:Lays hc L s) (ly3:Lays h3 L3 s3) (hL:L3.c=L.c) (hb:s3.book.length=s.book.length) (h3n:aG h3 n=some (.cells true [.str ⟨⟨[]⟩⟩])) (hm:h3.length=m) (nn:n∉sI L3 s3) (hk:0<s.book.length) :
 ∃ h4,qH [0,1,4] (execW aD 21 (n+1) none b21 (aAr L.c n line) (h++kT))=some (.ret,[.pt L.c 0,.str line,.pt n 0],h4)∧Lays h4 { L3 with kb:=m+1 } { s3 with book:=s3.book++[line] }∧aG h4 n=some (.cells true [.str ⟨⟨[111,107]⟩⟩]):=by
 have c59:=w59 (ly.ext kT);have m1:=uQ 9;have m2:=uQ 15;obtain⟨gc,hcc⟩:=aB lyc.hc;obtain⟨g3,h3c⟩:=aB ly3.hc;obtain⟨gn,h3n'⟩:=aB h3n;rw[hL]at h3c;unfold cG at hcc h3c;have cm:(L.c<m)=True:=AAm (by rw[←hm,←hL];exact aF ly3.hc);have nm0:n<m:=by rw[←hm];exact aF h3n
 have nm:(n<m)=True:=AAm nm0;have cn:(L.c=n)=False:=AAn fun q=>nn (bJ.2 ⟨0,by simp[px,hL,q]⟩);have nc:(n=L.c)=False:=AAn fun q=>nn (bJ.2 ⟨0,by simp[px,hL,q]⟩);have hk3:0<s3.book.length:=by omega
 rw[eJ hk]at hcc;rw[eJ hk3]at h3c;have hbb:=ly3.bk hk3;obtain⟨gb,h3b⟩:=aB hbb;have bp:L3.kb∈px L3 s3 2:=bQ.2 ⟨hk3,rfl⟩;have bm:(L3.kb<m)=True:=AAm (by rw[←hm];exact aF hbb);have bn:(L3.kb=n)=False:=AAn fun q=>nn (bJ.2 ⟨2,q▸bp⟩);have nb:(n=L3.kb)=False:=AAn fun q=>nn (bJ.2 ⟨2,q▸bp⟩);have bc:(L3.kb=L.c)=False:=AAn fun q=>ly3.off (i:=2) (j:=0) (by decide) bp (by simp[px,hL,q]);have cb:(L.c=L3.kb)=False:=AAn fun q=>ly3.off (i:=2) (j:=0) (by decide) bp (by simp[px,hL,q]);have t1:((s.book.length:Int)<300)=True:=AAa;have z1:((s3.book.length+1)*16≤1099511627776)=True:=AAa;have z2:(s3.book.length+1≤1099511627776)=True:=AAa;refine⟨((h3.set L3.kb none).set L.c (some (.blk false (.cells true [.pt L3.f.o 0,.pt L3.m.o 0,.pt L3.p.o 0,.pt L3.w.o 0,iC L3.tb s3.tickets.length,I s3.closed,.sl (m+1) 0 1 (s3.book.length+1)])))).set n (some (.blk gn (.cells true [.str ⟨⟨[111,107]⟩⟩])))++[some (.blk true (.cells true [.str line])),some (.blk gb (.cells true (s3.book.map .str++[.str line])))],?_,ly3.bookNew (g:=false) (g1:=true) (g2:=gb) (g3:=gn) (cs:=_) hm nn nm0 rfl ?_⟩
 ·unfold b21 aAr kT wB at *
  rcases hg with rfl|rfl|rfl|rfl|rfl|rfl;all_goals (exact wU hn c59 m1 hp call call2 m2 hcc h3c h3n' hm cm nm cn nc h3b bm bn nb bc cb t1 z1 z2 aE aE)
 ·rw[hL]
  simp[oE,cG,iC,Nat.ne_of_gt hk3]
variable{h h' h1 h2:XH}{L:CL}{s:dD}{x line:ByteArray}{w:Wd}{v:AV}
def d21:XFn:=aRS 41
theorem aFU:aD 21=some d21:=rfl
theorem aEd{e:aH}{n:Nat}{a:ByteArray}(he:e 4 = .pt n 0)(hn:aG h n=some (.cells true [.str a])):gT saySay.res e (aG h)=some (.str a):=by
 obtain⟨g,hg⟩:=aB hn;unfold saySay;dsimp only;(exact RS2 he hg)
def aEF(h:XH)(L:CL)(line:ByteArray)(s':dD)(a:ByteArray):Prop:=∃ h3 L3,aRc aD d21 h.length 0 (h.length+1) (aAr L.c h.length line) (h++kT) h3 (.str a)∧Lays h3 L3 s'∧L3.c=L.c
theorem Lays.nlt(ly:Lays h L s):h.length∉sI L s:=fun hm=>by
 obtain⟨j,hj⟩:=bJ.1 hm;have:=ly.lt j _ hj;omega
theorem aLd(ly:Lays h L s)(hp:runW aD 60 [.str line] []=some (v,[]))(hw:IsW w v)(hlt:s.book.length<300)(co:∀ k:XH,yW (h++k) L s v (mY s w)):aEF h L line { mY s w with book:=s.book++[line] } ⟨⟨[111,107]⟩⟩:=by
 obtain⟨f,r1,r2,rfl⟩:=hw.shape;obtain⟨n,hn⟩:∃ n,h.length=n:=⟨_,rfl⟩;have lyw:=ly.ext (wB f r1 r2);obtain⟨g,caps,hcc,h3,call,hg,fr1,q1,L3,call2,ly3,hL,fr2,sb⟩:∃(g:Nat)(caps:List AV)(hc h3:XH),runW aD 61 [.pt L.c 0,.agg [.str f,.fs r1,.fs r2]] (h++wB f r1 r2)=some (.fn (.func g) [] caps,hc)∧aQl g∧Fr [] (h++wB f r1 r2) hc∧True∧∃ L3,runW aD g caps hc=some (.tup [],h3)∧Lays h3 L3 (mY s w)∧L3.c=L.c∧Fr (sI L s) hc h3∧Sb hc.length L s L3 (mY s w):=by
  obtain⟨g,caps,hc1,a1,a2,a3,h3,L3,a4,a5,a6,a7,a8⟩:=co (wB f r1 r2);exact⟨g,caps,hc1,h3,a1,a2,a3,trivial,L3,a4,a5,a6,a7,a8⟩
 have lyc:Lays hcc L s:=lyw.fr fr1 fun _ _ _ hb=>by cases hb
 have n0:aG (h++wB f r1 r2) n=some (.cells true [.str ⟨⟨[]⟩⟩]):=by
  have:=bP (h:=h) (k:=wB f r1 r2) 0 (g:=true) (c:=.cells true [.str ⟨⟨[]⟩⟩]) rfl;rw[hn]at this;exact this
 have nl:=ly.nlt;rw[hn]at nl;have n1:aG hcc n=some (.cells true [.str ⟨⟨[]⟩⟩]):=fr1.keepS n0 (by simp);have n3:aG h3 n=some (.cells true [.str ⟨⟨[]⟩⟩]):=fr2.keepS n1 nl;have nn:n∉sI L3 (mY s w):=fun hm=>by
  rcases sb n hm with hm|hm;·exact nl hm
  ·have:=aF n1;omega
 have hbk:(mY s w).book=s.book:=by
  cases w<;>first|rfl|(unfold mY;dsimp only;split<;>rfl)
 obtain⟨h4,k1,k2,k3⟩:∃ h4,qH [0,1,4] (execW aD 21 (n+1) none b21 (aAr L.c n line) (h++kT))=some (.ret,[.pt L.c 0,.str line,.pt n 0],h4)∧Lays h4 { L3 with kb:=h3.length+1 } { mY s w with book:=(mY s w).book++[line] }∧aG h4 n=some (.cells true [.str ⟨⟨[111,107]⟩⟩]):=by
  by_cases hk:s.book.length=0;·exact aOU ly hn hp call hg call2 hlt lyc ly3 hL (by rw[hbk]) n3 rfl nn hk
  ·exact aOV ly hn hp call hg call2 hlt lyc ly3 hL (by rw[hbk]) n3 rfl nn (by omega)
 obtain⟨e,k4,k5⟩:=aGh k1;have he:e 4 = .pt n 0:=by
  have:=AAq (fun l=>l[2]?) k5;simpa using this
 rw[hbk]at k2;refine⟨h4++[some (.blk true (.cells true [I 0]))],_,.inl ⟨.ret,e,h4,(fun _ q=>by cases q),?_,?_,?_⟩,k2.ext _,hL⟩;·rw[hn];exact k4
 ·rw[hn];exact aIy
 ·exact aEd he ((Fr.app h4 _).keepS k3 (by simp))
variable{h h' h1 h2:XH}{L:CL}{s:dD}{x line:ByteArray}{w:Wd}{v:AV}
theorem aDQ(ly:Lays h L s){e:Int}(he:e∈yT)(hp:PanX Tryz.prog aD d21 (h.length+1) b21 (aAr L.c h.length line) (h++kT) (.ifc 110 (.agg [I e])) (bW [4] [.pt h.length 0]) h2)(ly2:Lays h2 L s)(n2:aG h2 h.length=some (.cells true [.str ⟨⟨[]⟩⟩])):aEF h L line s (noA e):=by
 obtain⟨g,hg⟩:=aB n2;refine⟨_,L,.inr ⟨.agg [I e],_,h2,hp,aML hg he,?_⟩,?_,rfl⟩
 ·refine aEd rfl ?_
  rw[fA,if_pos (by rw[C0];exact aF n2),cJ,if_pos rfl,if_pos (aF n2)]
 ·refine Lays.ext (ly2.fr ((Fr.refl [h.length] h2).set (by simp) _) fun j b hb hm=>?_) _
  rw[B5]at hm;have:=ly.lt j b hb;omega
theorem aWL:aG (h++kT) h.length=some (.cells true [.str ⟨⟨[]⟩⟩]):=bP (h:=h) (k:=kT) 0 (g:=true) rfl
theorem aRi{f:ByteArray}{r1 r2:List (List AV)}:aG (h++wB f r1 r2) h.length=some (.cells true [.str ⟨⟨[]⟩⟩]):=bP (h:=h) (k:=wB f r1 r2) 0 (g:=true) rfl
theorem aGI(ly:Lays h L s):qH [0,1,4] (execW aD 21 (h.length+1) none (match b21 with | .seq a _=>a|c=>c) (aAr L.c h.length line) (h++kT))=some (.normal,[.pt L.c 0,.str line,.pt h.length 0],h++kT):=by
 have c59:=w59 (ly.ext kT);have m1:=uQ 9;obtain⟨n,hn⟩:∃ n,h.length=n:=⟨_,rfl⟩;rw[hn];unfold b21 aAr kT at *;(exact RS3 hn c59 m1)
theorem aLb(ly:Lays h L s){e:Int}(he:e∈yT)(hp:CalP Tryz.prog aD 60 [.str line] [] (.ifc 110 (.agg [I e])) []):aEF h L line s (noA e):=by
 refine aDQ ly he ?_ (ly.ext kT) aWL;have r1:=aGI (line:=line) ly;unfold b21 at r1 ⊢;refine PanX.seqR (K:=21) aA aFU [0,1,4] r1 ?_;refine PanX.seqL ?_;refine PanX.reg (p:=[⟨0,some 12,.mv (.t 1),none⟩]) (post:=[⟨0,some 5,.alloc [.str ⟨⟨[]⟩⟩,.nilsl,.nilsl],none⟩,⟨0,none,.store 3 (.t 5) (.t 13) [],none⟩]) aA [4] (g:=60) (first:=[]) (cap:=[]) (args:=[.str line]) (vs:=[.pt h.length 0]) (h1:=h++kT) rfl rfl ?_ (CalP.pure hp (fun a ha=>by rw[B5.1 ha];exact .str _) (.ifc _ _ (.agg _ fun a ha=>by rw[B5.1 ha];exact .int _ _)) _);obtain⟨n,hn⟩:∃ n,h.length=n:=⟨_,rfl⟩;rw[hn];unfold kT;(exact eD hn)
theorem aLa(f:ByteArray)(r1 r2:List (List AV)){c:Nat}(hp:runW aD 60 [.str line] []=some (.agg [.str f,.fs r1,.fs r2],[])):qH [0,1,4,5] (execW aD 21 (h.length+1) none (match b21 with | .seq _ (.seq a _)=>a|c=>c) (bW [0,1,4] [.pt c 0,.str line,.pt h.length 0]) (h++kT))=some (.normal,[.pt c 0,.str line,.pt h.length 0,.pt (h.length+1) 0],h++wB f r1 r2):=by
 obtain⟨n,hn⟩:∃ n,h.length=n:=⟨_,rfl⟩;rw[hn];unfold b21 kT wB at *;(exact RS2 hn hp)
theorem aLe(ly:Lays h L s){e:Int}(he:e∈yT)(hp:runW aD 60 [.str line] []=some (v,[]))(hw:IsW w v)(hc:∀ k:XH,∃ h1,CalP Tryz.prog aD 61 [.pt L.c 0,v] (h++k) (.ifc 110 (.agg [I e])) h1∧Fr [] (h++k) h1):aEF h L line s (noA e):=by
 obtain⟨f,r1,r2,rfl⟩:=hw.shape;obtain⟨h1,hcal,fr⟩:=hc (wB f r1 r2);refine aDQ (h2:=h1) ly he ?_ ((ly.ext (wB f r1 r2)).fr fr fun _ _ _ hb=>by cases hb) (fr.keepS aRi (by simp));have r1':=aGI (line:=line) ly;have r2':=aLa (h:=h) f r1 r2 (c:=L.c) hp;unfold b21 at r1' r2' ⊢;refine PanX.seqR (K:=21) aA aFU [0,1,4] r1' ?_;refine PanX.seqR (K:=21) aA aFU [0,1,4,5] r2' ?_;refine PanX.seqL ?_;refine PanX.reg (p:=[⟨0,some 14,.mv (.t 0),none⟩,⟨0,some 15,.load true 3 (.t 5),none⟩]) (post:=[⟨0,some 6,.mv (.t 16),none⟩]) aA [4] (g:=61) (first:=[]) (cap:=[]) (args:=[.pt L.c 0,.agg [.str f,.fs r1,.fs r2]]) (vs:=[.pt h.length 0]) (h1:=h++wB f r1 r2) rfl rfl ?_ hcal;obtain⟨n,hn⟩:∃ n,h.length=n:=⟨_,rfl⟩;rw[hn];unfold wB;(exact eD hn)
theorem aRE(f:ByteArray)(r1 r2:List (List AV)){c:Nat}{k:AV}{hh:XH}(call:runW aD 61 [.pt c 0,.agg [.str f,.fs r1,.fs r2]] (h++wB f r1 r2)=some (k,hh)):qH [0,1,4,5,6] (execW aD 21 (h.length+1) none (match b21 with | .seq _ (.seq _ (.seq a _))=>a|c=>c) (bW [0,1,4,5] [.pt c 0,.str line,.pt h.length 0,.pt (h.length+1) 0]) (h++wB f r1 r2))=some (.normal,[.pt c 0,.str line,.pt h.length 0,.pt (h.length+1) 0,k],hh):=by
 obtain⟨n,hn⟩:∃ n,h.length=n:=⟨_,rfl⟩;rw[hn];unfold b21 wB at *;(exact RS2 hn call)
theorem qO(ly:Lays h L s){e:Int}(he:e∈yT)(hp:runW aD 60 [.str line] []=some (v,[]))(hw:IsW w v)(call:∀ k:XH,∃ hh,runW aD 61 [.pt L.c 0,v] (h++k)=some (.nilfn,hh)∧Fr [] (h++k) hh)(hc:∀ hh:XH,Lays hh L s→∃ h1,CalP Tryz.prog aD 62 [.pt L.c 0,v] hh (.ifc 110 (.agg [I e])) h1∧Frz hh.length hh h1):aEF h L line s (noA e):=by
 obtain⟨f,r1,r2,rfl⟩:=hw.shape;obtain⟨hq,c61,fr1⟩:=call (wB f r1 r2);have lyw:=ly.ext (wB f r1 r2);have lyq:Lays hq L s:=lyw.fr fr1 fun _ _ _ hb=>by cases hb
 obtain⟨h3,hcal,fz⟩:=hc hq lyq;have nq:aG hq h.length=some (.cells true [.str ⟨⟨[]⟩⟩]):=fr1.keepS aRi (by simp);have sq:(hat hq (h.length+1)).isSome=true:=by
  have:aG (h++wB f r1 r2) (h.length+1)=some (.cells true [.str f,.fs r1,.fs r2]):=bP 1 (g:=true) rfl;obtain⟨g,hg⟩:=aB (fr1.keepS this (by simp));rw[hg];rfl
 have q1:aG hq (h.length+1)=some (.cells true [.str f,.fs r1,.fs r2]):=fr1.keepS (bP 1 (g:=true) rfl) (by simp);obtain⟨g1,q2⟩:=aB q1;refine aDQ (h2:=h3) ly he ?_ (lyq.frz fz) (fz _ _ nq fun _ _ _=>rfl);have r1':=aGI (line:=line) ly;have r2':=aLa (h:=h) f r1 r2 (c:=L.c) hp;have r3':=aRE (line:=line) f r1 r2 c61;unfold b21 at r1' r2' r3' ⊢;refine PanX.seqR (K:=21) aA aFU [0,1,4] r1' ?_;refine PanX.seqR (K:=21) aA aFU [0,1,4,5] r2' ?_;refine PanX.seqR (K:=21) aA aFU [0,1,4,5,6] r3' ?_;refine PanX.seqL ?_;refine PanX.seqR (K:=21) aA aFU [0,4,5,18] (vs:=[.pt L.c 0,.pt h.length 0,.pt (h.length+1) 0,.bool true]) (h1:=hq) (by (exact zF)) ?_;refine PanX.condT rfl ?_;refine PanX.seqL ?_;refine PanX.reg (p:=[⟨0,some 19,.mv (.t 0),none⟩,⟨0,some 20,.load true 3 (.t 5),none⟩]) (post:=[⟨0,none,.store 1 (.t 4) (.t 21) [],none⟩]) aA [4] (g:=62) (first:=[]) (cap:=[]) (args:=[.pt L.c 0,.agg [.str f,.fs r1,.fs r2]]) (vs:=[.pt h.length 0]) (h1:=hq) rfl rfl ?_ hcal;obtain⟨n,hn⟩:∃ n,h.length=n:=⟨_,rfl⟩;rw[hn]at q2 ⊢;cases g1;all_goals (exact RS2 hn q2)
variable{h h' h1 h2:XH}{L:CL}{s:dD}{x line:ByteArray}{w:Wd}{v:AV}
theorem aHC{h k:XH}(cd:Cd h)(hk:∀ x∈k,∀ b∈nmO x,b<h.length):Cd (h++k):=fun x hx b hb=>by
 rw[C2];rcases B2.1 hx with hx|hx;·have:=cd x hx b hb;omega
 ·have:=hk x hx b hb;omega
def aWO(h:XH)(c:Nat)(v:AV):Prop:=∀ k:XH,∃ bx,runW aD 61 [.pt c 0,v] (h++k)=some (.nilfn,(h++k)++bx)∧∀ x∈bx,∀ b∈nmO x,b=c
theorem yV(ha:w.asks=true)(hw:IsW w v)(h:XH)(c:Nat):aWO h c v:=by
 have bxs:∀ cs:List AV,∀ x∈[some (XB.blk false (.cells true [.pt c 0])),some (.blk true (.cells true cs))],∀ b∈nmO x,b=c:=fun cs x hx b hb=>by
  simp only[B4,D4,AAh]at hx;rcases hx with rfl|rfl;·simpa [nmO,nmB,kW,iP]using hb
  ·simp[nmO,nmB]at hb
 intro k;cases w with
 | net x=>obtain⟨_,rfl⟩:=hw;exact⟨_,aRl,bxs _⟩
 | total=>cases hw;exact⟨_,aKu,bxs _⟩
 | ticket i=>obtain⟨_,rfl⟩:=hw;exact⟨_,aIX,bxs _⟩
 | used x=>obtain⟨_,rfl⟩:=hw;exact⟨_,aOk,bxs _⟩
 | loss x=>obtain⟨_,rfl⟩:=hw;exact⟨_,aOl,bxs _⟩
 | power x=>obtain⟨_,rfl⟩:=hw;exact⟨_,aKv,bxs _⟩
 | _=>cases ha
theorem oU(ly:Lays h L s)(cd:Cd h){a:ByteArray}(hp:runW aD 60 [.str line] []=some (v,[]))(hw:IsW w v)(ask:aWO h L.c v)(hc:∀ hh:XH,Lays hh L s→Cd hh→∃ h1,runW aD 62 [.pt L.c 0,v] hh=some (.str a,h1)∧Frz hh.length hh h1):aEF h L line s a:=by
 obtain⟨f,r1,r2,rfl⟩:=hw.shape;obtain⟨bx,c61,hbx⟩:=ask (wB f r1 r2);obtain⟨hq,hqe⟩:∃ hq,hq=(h++wB f r1 r2)++bx:=⟨_,rfl⟩;rw[←hqe]at c61;have lyw:=ly.ext (wB f r1 r2);have lyq:Lays hq L s:=by rw[hqe];exact lyw.ext bx
 have lc:=aF ly.hc;have cdq:Cd hq:=by
  rw[hqe];refine aHC (aHC cd fun x hx b hb=>?_) fun x hx b hb=>?_
  ·simp only[wB,B4,D4,AAh]at hx
   rcases hx with rfl|rfl;·simp[nmO,nmB]at hb
   ·simp[nmO,nmB]at hb
  ·rw[hbx x hx b hb,C2];omega
 obtain⟨h3,c62,fz⟩:=hc hq lyq cdq;have fr1:Fr [] (h++wB f r1 r2) hq:=by rw[hqe];exact Fr.app _ _
 have nq:aG hq h.length=some (.cells true [.str ⟨⟨[]⟩⟩]):=fr1.keepS aRi (by simp);have q1:aG hq (h.length+1)=some (.cells true [.str f,.fs r1,.fs r2]):=fr1.keepS (bP 1 (g:=true) rfl) (by simp);obtain⟨g1,q2⟩:=aB q1;have n3:=fz _ _ nq fun _ _ _=>rfl;obtain⟨g3,n3'⟩:=aB n3;have c59:=w59 (ly.ext kT);have m1:=uQ 9;obtain⟨n,hn⟩:∃ n,h.length=n:=⟨_,rfl⟩;have key:qH [0,1,4] (execW aD 21 (n+1) none b21 (aAr L.c n line) (h++kT))=some (.ret,[.pt L.c 0,.str line,.pt n 0],h3.set n (some (.blk g3 (.cells true [.str a])))):=by
  rw[hn]at q2 n3';unfold b21 aAr kT wB at *;cases g1;all_goals (exact RS9 hn c59 m1 hp c61 c62 q2 n3' aE)
 obtain⟨e,k4,k5⟩:=aGh key;have he:e 4 = .pt n 0:=by
  have:=AAq (fun l=>l[2]?) k5;simpa using this
 rw[hn]at n3;have ly3:Lays (h3.set n (some (.blk g3 (.cells true [.str a])))) L s:=(lyq.frz fz).fr ((Fr.refl [n] h3).set (by simp) _) fun j b hb hm=>by
  rw[B5]at hm;have:=ly.lt j b hb;omega
 refine⟨_,L,.inl ⟨.ret,e,h3.set n (some (.blk g3 (.cells true [.str a]))),(fun _ q=>by cases q),?_,?_,?_⟩,ly3.ext [some (.blk true (.cells true [I 0]))],rfl⟩;·rw[hn];exact k4
 ·rw[hn];exact aIy
 ·refine aEd he ((Fr.app _ _).keepS (?_:aG (h3.set n (some (.blk g3 (.cells true [.str a])))) n=some (.cells true [.str a])) (by simp))
  rw[cJ,if_pos rfl,if_pos (aF n3)]
variable{h h' h1 h2:XH}{L:CL}{s:dD}{x line:ByteArray}{w:Wd}{v:AV}
def tkL(k:CTk):List ByteArray:=if k.void then [k.wagon,k.farmer,⟨⟨Lib.itoa k.net⟩⟩,AAt] else [k.wagon,k.farmer,⟨⟨Lib.itoa k.net⟩⟩]
def tkT(k:CTk):ByteArray:=⟨⟨Lib.join ((tkL k).map (·.data.toList)) [32]⟩⟩
def tG(n:Int):ByteArray:=⟨⟨Lib.itoa n⟩⟩
def wT(P:dD→ByteArray→Int)(s:dD):Wd→Int ⊕ ByteArray
 | .net x=>match cT s.farmers x with|none=>.inl 5|some v=>.inr (tG v)
 | .total=>.inr (tG (aAg s))
 | .ticket i=>match s.tickets[i]? with|none=>.inl 5|some k=>.inr (tkT k)
 | .used x=>match cT s.meters x with|none=>.inl 5|some v=>.inr (tG v.2)
 | .loss x=>match cT s.pans x with|none=>.inl 5|some v=>.inr (tG v)
 | .power x=>match cT s.farmers x with|none=>.inl 5|some _=>.inr (tG (P s x))
 | _=>.inl 0
def aAp(P:dD→ByteArray→Int)(s:dD)(line:ByteArray):Int ⊕ Wd→ByteArray×dD
 | .inl e=>(noA e,s)
 | .inr w=>if w.asks then (match wT P s w with | .inl e=>(noA e,s) | .inr a=>(a,s)) else
   match dS s w with
   | some e=>(noA e,s)
   | none=>if s.book.length=300 then (noA 15,s) else (⟨⟨[111,107]⟩⟩,{ mY s w with book:=s.book++[line] })
def aQY(P:dD→ByteArray→Int):Prop:=∀(h:XH)(L:CL)(s:dD)(x:ByteArray),Lays h L s→fD s→match cT s.farmers x with
 | none=>∃ h1,CalP Tryz.prog aD 98 [.pt L.c 0,.str x] h (.ifc 110 (.agg [I 5])) h1∧Frz h.length h h1
 | some _=>(-1000000≤P s x∧P s x≤1000000)∧(Cd h→∃ h1,runW aD 98 [.pt L.c 0,.str x] h=some (I (P s x),h1)∧Frz h.length h h1)
theorem aHz{e:Int}(hc:dS s w=some e):e∈yT:=by
 cases w<;>unfold dS at hc<;>dsimp only at hc
 all_goals (repeat' split at hc)
 all_goals first|(cases hc;decide)|cases hc
theorem p99{xs:List AV}{h:XH}:runW aD 99 xs h=aBa xs h:=mC rfl rfl xs h
theorem Frz.of{hh:XH}{n:Nat}(h0:Fr [] h hh):Frz n h hh:=h0.frz
variable{h h' h1 h2:XH}{L:CL}{s:dD}{x line:ByteArray}{w:Wd}{v:AV}
theorem aMA{n:Int}(h0:0≤n)(h1:n≤99999):(Lib.itoa n).length≤20:=by
 unfold Lib.itoa;rw[if_neg (by omega),Lib.decDigits_length];have hu:n.toNat≤99999:=by omega
 generalize n.toNat=u at hu;by_cases a:u<10;·rw[Lib.nDigits_small a];omega
 ·rw[Lib.nDigits_big a]
  by_cases b:u/10<10;·rw[Lib.nDigits_small b];omega
  ·rw[Lib.nDigits_big b]
   by_cases c:u/10/10<10;·rw[Lib.nDigits_small c];omega
   ·rw[Lib.nDigits_big c]
    by_cases d:u/10/10/10<10;·rw[Lib.nDigits_small d];omega
    ·rw[Lib.nDigits_big d,Lib.nDigits_small (show u/10/10/10/10<10 by omega)];omega
theorem aOn{k:CTk}(hb:0≤k.net∧k.net≤99999)(hs:k.wagon.size≤10∧k.farmer.size≤10):runW aD 99 [.fs (if k.void then [[.str k.wagon],[.str k.farmer],[.str ⟨⟨Lib.itoa k.net⟩⟩],[.str AAt]] else [[.str k.wagon],[.str k.farmer],[.str ⟨⟨Lib.itoa k.net⟩⟩]]),.str ⟨⟨[32]⟩⟩] []=some (.str (tkT k),[]):=by
 have il:=aMA hb.1 hb.2;have s1:k.wagon.data.toList.length≤10:=by rw[D5];exact hs.1
 have s2:k.farmer.data.toList.length≤10:=by rw[D5];exact hs.2
 rw[p99];unfold aBa;cases hv:k.void with
 | true =>
   have e:uX [[AV.str k.wagon],[.str k.farmer],[.str ⟨⟨Lib.itoa k.net⟩⟩],[.str AAt]]=some (tkL k):=by unfold tkL;rw[hv];rfl
   simp only[AAe];rw[e];dsimp only;refine if_pos ⟨by unfold tkL;rw[hv];simp,?_⟩;unfold tkL;rw[hv];have:=Lib.join_length k.wagon.data.toList [k.farmer.data.toList,Lib.itoa k.net,[118,111,105,100]] [32];simp[Lib.lens]at this ⊢;omega
 | false =>
   have e:uX [[AV.str k.wagon],[.str k.farmer],[.str ⟨⟨Lib.itoa k.net⟩⟩]]=some (tkL k):=by unfold tkL;rw[hv];rfl
   simp only[B8,AAd];rw[e];dsimp only;refine if_pos ⟨by unfold tkL;rw[hv];simp,?_⟩;unfold tkL;rw[hv];have:=Lib.join_length k.wagon.data.toList [k.farmer.data.toList,Lib.itoa k.net] [32];simp[Lib.lens]at this ⊢;omega
theorem aOT{P:dD→ByteArray→Int}(pok:aQY P)(ly:Lays h L s)(cd:Cd h)(gs:fD s)(hp:runW aD 60 [.str line] []=some (v,[]))(hw:IsW w v)(hno:∀ e,w.asks=false→dS s w=some e→∀ k:XH,∃ h1,CalP Tryz.prog aD 61 [.pt L.c 0,v] (h++k) (.ifc 110 (.agg [I e])) h1∧Fr [] (h++k) h1)
 (hok:w.asks=false→dS s w=none→s.book.length≠300∧∀ k:XH,yW (h++k) L s v (mY s w)):aEF h L line (aAp P s line (.inr w)).2 (aAp P s line (.inr w)).1:=by
 have hbk:=gs.book;unfold aAp;dsimp only;cases ha:w.asks with
 | false =>
   simp only[B8,AAd];cases hc:dS s w with
   | some e=>exact aLe ly (aHz hc) hp hw (hno e ha hc)
   | none =>
     obtain⟨hl,co⟩:=hok ha hc;dsimp only;rw[if_neg hl];exact aLd ly hp hw (by omega) co
 | true =>
   simp only[AAe];have ask:=fun k:XH=>yV ha hw h L.c k;have c61:∀ k:XH,∃ hh,runW aD 61 [.pt L.c 0,v] (h++k)=some (.nilfn,hh)∧Fr [] (h++k) hh:=fun k=>by
    obtain⟨bx,q1,_⟩:=ask k;exact⟨_,q1,Fr.app _ _⟩
   cases w with
   | net x =>
     obtain⟨z0,rfl⟩:=id hw;unfold wT;dsimp only;cases hv:cT s.farmers x with
     | none=>exact qO ly (by decide) hp hw c61 (fun hh lyh=>⟨_,aSD lyh (dZ.1 hv),(Fr.app hh _).frz⟩)
     | some y =>
       obtain⟨i,hi,hy⟩:=dY hv;have:=gs.bf _ (A8 hy);exact oU ly cd hp hw (yV ha hw h L.c) fun hh lyh _=>⟨_,aRj lyh hi hy (by simp only at this;omega),(Fr.app hh _).frz⟩
   | total =>
     obtain rfl:=id hw;unfold wT;dsimp only;by_cases hk:s.farmers.length=0;·exact oU ly cd hp hw (yV ha hw h L.c) fun hh lyh cdh=>⟨_,aIV lyh cdh hk,(Fr.refl [] hh).frz⟩
     ·exact oU ly cd hp hw (yV ha hw h L.c) fun hh lyh cdh=>⟨_,aKr lyh cdh (by omega) gs.lf gs.nf (fun p hp=>by have:=gs.bf p hp;omega),(Fr.refl [] hh).frz⟩
   | ticket i =>
     obtain⟨u1,rfl⟩:=id hw;unfold wT;dsimp only;cases hk:s.tickets[i]? with
     | none=>exact qO ly (by decide) hp hw c61 (fun hh lyh=>⟨_,aJX lyh (I9.1 hk),(Fr.app hh _).frz⟩)
     | some k =>
       obtain⟨b1,b2,b3,b4⟩:=gs.bt k (A8 hk);exact oU ly cd hp hw (yV ha hw h L.c) fun hh lyh _=>aIW lyh hk ⟨b1,b2⟩ (aOn ⟨b1,b2⟩ b4)
   | used x =>
     obtain⟨z0,rfl⟩:=id hw;unfold wT;dsimp only;cases hv:cT s.meters x with
     | none=>exact qO ly (by decide) hp hw c61 (fun hh lyh=>⟨_,aPW lyh (dZ.1 hv),(Fr.app hh _).frz⟩)
     | some y =>
       obtain⟨i,hi,hy⟩:=dY hv;have:=gs.bm _ (A8 hy);exact oU ly cd hp hw (yV ha hw h L.c) fun hh lyh _=>⟨_,aOh lyh hi hy (by simp only at this;omega),(Fr.app hh _).frz⟩
   | loss x =>
     obtain⟨z0,rfl⟩:=id hw;unfold wT;dsimp only;cases hv:cT s.pans x with
     | none=>exact qO ly (by decide) hp hw c61 (fun hh lyh=>⟨_,aPX lyh (dZ.1 hv),(Fr.app hh _).frz⟩)
     | some y =>
       obtain⟨i,hi,hy⟩:=dY hv;have:=gs.bp _ (A8 hy);exact oU ly cd hp hw (yV ha hw h L.c) fun hh lyh _=>⟨_,aOi lyh hi hy (by simp only at this;omega),(Fr.app hh _).frz⟩
   | power x =>
     obtain⟨z0,rfl⟩:=id hw;unfold wT;dsimp only;cases hv:cT s.farmers x with
     | none =>
       exact qO ly (by decide) hp hw c61 (fun hh lyh=>by
        have q:=pok _ L s x (lyh.ext [some (.blk true (.cells true [.str AAC,.fs [[.str x]],.fs [[I z0]]]))]) gs;rw[hv]at q;obtain⟨h1,q1,q2⟩:=q;exact⟨h1,aNn q1,(Fr.app hh _).frz.trans fun j c hc hn=>q2 j c hc (hn.mono (by simp))⟩)
     | some y =>
       exact oU ly cd hp hw (yV ha hw h L.c) fun hh lyh cdh=>by
        have q:=pok _ L s x (lyh.ext [some (.blk true (.cells true [.str AAC,.fs [[.str x]],.fs [[I z0]]]))]) gs;rw[hv]at q;obtain⟨b,q⟩:=q;obtain⟨h1,q1,q2⟩:=q (aHC cdh fun x hx b hb=>by
         rw[B5]at hx;subst hx;simp[nmO,nmB]at hb)
        exact⟨h1,aKs q1 (by omega),(Fr.app hh _).frz.trans fun j c hc hn=>q2 j c hc (hn.mono (by simp))⟩
   | _=>cases ha
variable{s:dD}{x line:ByteArray}{w:Wd}{v:AV}
theorem mF{α:Type}{f:α→α}{z:α}:∀{l:List (ByteArray×α)}{p:ByteArray×α},p∈gM f z x l→p∈l∨p=(x,z)∨∃ y,(x,y)∈l∧p=(x,f y)
 | [],p,h=>.inr (.inl (by simpa [gM]using h))
 | (k, y)::r,p,h=>by
   unfold gM at h;split at h
   ·rename_i hk
    rcases B4.1 h with h|h;·exact .inr (.inr ⟨y,by rw[←hk];simp,by rw[h,hk]⟩)
    ·exact .inl (C8 _ h)
   ·rcases B4.1 h with h|h
    ·exact .inl (by rw[h];simp)
    ·rcases mF h with h|h|⟨y',h1,h2⟩
     ·exact .inl (C8 _ h)
     ·exact .inr (.inl h)
     ·exact .inr (.inr ⟨y',C8 _ h1,h2⟩)
theorem vW{α:Type}{f:α→α}{z:α}:∀(l:List (ByteArray×α)),(gM f z x l).length=if (cT l x).isNone then l.length+1 else l.length
 | []=>rfl
 | (k, y)::r=>by
   have ih:=vW (f:=f) (z:=z) r;have e:cT ((k,y)::r) x=if k=x then some y else cT r x:=by
    unfold cT;show (if k=x then some 0 else (dE (r.map (·.1)) x).map (· + 1)).bind _=_;by_cases hk:k=x;·rw[if_pos hk,if_pos hk];rfl
    ·rw[if_neg hk,if_neg hk]
     cases dE (r.map (·.1)) x<;>rfl
   rw[e];unfold gM;by_cases hk:k=x;·rw[if_pos hk,if_pos hk];rfl
   ·rw[if_neg hk,if_neg hk,C6,ih]
    cases cT r x<;>rfl
theorem eN{d:Int}:∀(l:List (ByteArray×Int)),eV l x d=gM (· + d) d x l
 | []=>rfl
 | (k,y)::r=>by unfold eV gM;rw[eN r]
theorem xK{α:Type}{f:α→α}{z y:α}{l:List (ByteArray×α)}(h:cT l x=some y):(gM f z x l).map (·.1)=l.map (·.1):=by
 obtain⟨i,h1,h2⟩:=dY h;rw[oG h1 h2];exact lK (eY h1) rfl
theorem aEE{d:Int}:∀{l:List (ByteArray×Int)}{p:ByteArray×Int},(l.map (·.1)).Nodup→x∈l.map (·.1)→p∈eV l x d→∃ y,(p.1,y)∈l∧p.2=y+if p.1=x then d else 0
 | [],p,_,hx,_=>by cases hx
 | (k, y)::r,p,nd,hx,h=>by
   rw[C4,G1]at nd;unfold eV at h;split at h
   ·rename_i hk
    rcases B4.1 h with h|h;·exact⟨y,by rw[h];simp,by rw[h];simp[hk]⟩
    ·refine⟨p.2,C8 _ h,?_⟩
     rw[if_neg,aF1];intro e;exact nd.1 (by rw[hk,←e];exact D8.2 ⟨p,h,rfl⟩)
   ·rename_i hk
    rcases B4.1 h with h|h;·exact⟨y,by rw[h];simp,by rw[h];simp[hk]⟩
    ·have hx2:x∈r.map (·.1):=by
      rw[C4]at hx;rcases B4.1 hx with e|e;·exact absurd e.symm hk
      ·exact e
     obtain⟨y',h1,h2⟩:=aEE nd.2 hx2 h;exact⟨y',C8 _ h1,h2⟩
theorem aET(l:List CTk)(k:CTk)(x:ByteArray):iQ (l++[k]) x=iQ l x+if k.farmer=x∧k.void=false then k.net else 0:=by
 unfold iQ;rw[F7,List.sum_append];simp
theorem xA{x:ByteArray}:∀{l:List CTk},(∀ k∈l,k.farmer≠x)→iQ l x=0
 | [],_=>rfl
 | k::r,h=>by
   have ih:=xA (l:=r) fun k hk=>h k (C8 _ hk);unfold iQ at ih ⊢;rw[C4,J7,ih,if_neg fun e=>h k (by simp) e.1];rfl
theorem wZ{x:ByteArray}:∀{l:List CTk}{i:Nat}{k:CTk},l[i]?=some k→k.void=false→iQ (l.set i { k with void:=true }) x=iQ l x-if k.farmer=x then k.net else 0
 | [],i,k,h,_=>by simp at h
 | k'::r,0,k,h,hv=>by
   rw[C9,oSI]at h;subst h;unfold iQ;rw[List.set_cons_zero,C4,C4,J7,J7];by_cases e:k'.farmer=x;·simp[e,hv];omega
   ·simp[e]
 | k'::r,i+1,k,h,hv=>by
   have ih:=wZ (x:=x) (l:=r) (i:=i) (by simpa using h) hv;unfold iQ at ih ⊢;rw[List.set_cons_succ,C4,C4,J7,J7,ih];omega
theorem aFW{x:ByteArray}(gs:fD s)(hw:IsW (.farmer x) v)(hc:dS s (.farmer x)=none)(hlt:s.book.length<300):fD { mY s (.farmer x)with book:=s.book++[line] }:=by
 have hl:(s.book++[line]).length=s.book.length+1:=by simp
 have bf':∀ p∈s.farmers,-(100000*(s.book.length+1:Nat):Int)≤p.2∧p.2≤100000*(s.book.length+1:Nat):=fun p hp=>by have:=gs.bf p hp;omega
 have bm':∀ p∈s.meters,0≤p.2.1∧p.2.1≤99999∧0≤p.2.2∧p.2.2≤100000*(s.book.length+1:Nat):=fun p hp=>by have:=gs.bm p hp;omega
 have bp':∀ p∈s.pans,0≤p.2∧p.2≤100000*(s.book.length+1:Nat):=fun p hp=>by have:=gs.bp p hp;omega
 have lw':=gs.lw;have lt':=gs.lt;unfold dS at hc;dsimp only at hc;split at hc;·cases hc
 ·rename_i hs
  split at hc;·cases hc
  ·rename_i h9
   have hx:x∉s.farmers.map (·.1):=iM.1 (dZ.1 (aFT hs));have l9:=gs.lf;unfold mY;refine⟨by rw[hl];omega,?_,?_,gs.lm,gs.lp,by rw[hl];exact I2 lw',by rw[hl];exact I2 lt',gs.cl,fun p hp=>?_,by rw[hl];exact bm',by rw[hl];exact bp',gs.bw,fun k hk=>?_,fun p hp=>?_⟩
   ·show ((s.farmers++[(x,(0:Int))]).map (fun p=>p.1)).Nodup
    rw[F7,I3];exact⟨gs.nf,by simp,fun a ha b hb=>by
     have:b=x:=by simpa using hb
     rw[this];exact fun q=>hx (q▸ha)⟩
   ·show (s.farmers++[(x,(0:Int))]).length≤9
    rw[C2,J1];omega
   ·rw[hl]
    rcases B2.1 hp with hp|hp;·exact bf' p hp
    ·rw[B5]at hp;rw[hp];show -(100000*((s.book.length+1:Nat):Int))≤0∧(0:Int)≤100000*((s.book.length+1:Nat):Int);omega
   ·obtain⟨a1,a2,a3,a4⟩:=gs.bt k hk
    exact⟨a1,a2,by show k.farmer∈(s.farmers++[(x,(0:Int))]).map (·.1);rw[F7];exact E8 _ a3,a4⟩
   ·rcases B2.1 hp with hp|hp
    ·exact gs.fs p hp
    ·rw[B5]at hp;rw[hp]
     exact(xA (x:=x) fun k hk e=>hx (by rw[←e];exact(gs.bt k hk).2.2.1)).symm
theorem aHj{x y:ByteArray}{a b:Int}(gs:fD s)(hw:IsW (.wagon x y a b) v)(hc:dS s (.wagon x y a b)=none)(hlt:s.book.length<300):fD { mY s (.wagon x y a b)with book:=s.book++[line] }:=by
 have hl:(s.book++[line]).length=s.book.length+1:=by simp
 have bf':∀ p∈s.farmers,-(100000*(s.book.length+1:Nat):Int)≤p.2∧p.2≤100000*(s.book.length+1:Nat):=fun p hp=>by have:=gs.bf p hp;omega
 have bm':∀ p∈s.meters,0≤p.2.1∧p.2.1≤99999∧0≤p.2.2∧p.2.2≤100000*(s.book.length+1:Nat):=fun p hp=>by have:=gs.bm p hp;omega
 have bp':∀ p∈s.pans,0≤p.2∧p.2≤100000*(s.book.length+1:Nat):=fun p hp=>by have:=gs.bp p hp;omega
 have lw':=gs.lw;have lt':=gs.lt;obtain⟨hb,_⟩:=hw;unfold dS at hc;dsimp only at hc;split at hc;·cases hc
 ·rename_i f hf
  split at hc;·cases hc
  ·rename_i hle
   have hle:=O8.1 hle;have hkf:(eV s.farmers y (a-b)).map (·.1)=s.farmers.map (·.1):=by rw[eN];exact xK hf
   have hlf:(eV s.farmers y (a-b)).length=s.farmers.length:=by
    have:=AAq List.length hkf;simpa using this
   unfold mY eK;refine⟨by rw[hl];omega,?_,?_,gs.lm,gs.lp,?_,?_,?_,fun p hp=>?_,by rw[hl];exact bm',by rw[hl];exact bp',fun p hp=>?_,fun k hk=>?_,fun p hp=>?_⟩
   ·show ((eV s.farmers y (a-b)).map (·.1)).Nodup
    rw[hkf];exact gs.nf
   ·show (eV s.farmers y (a-b)).length≤9
    rw[hlf];exact gs.lf
   ·rw[hl]
    show (gM id b x s.wagons).length≤_;rw[vW];split<;>omega
   ·rw[hl];show (s.tickets++[_]).length≤_;rw[C2,J1];omega
   ·show s.closed≤(s.tickets++[_]).length
    have:=gs.cl;rw[C2];omega
   ·rw[hl]
    have hp:p∈eV s.farmers y (a-b):=hp;rw[eN]at hp;rcases mF hp with hp|hp|⟨q,hq,hp⟩;·exact bf' p hp
    ·rw[hp];simp only;omega
    ·have:=gs.bf _ hq
     rw[hp];simp only at this ⊢;omega
   ·rcases mF hp with hp|hp|⟨q,hq,hp⟩
    ·exact gs.bw p hp
    ·rw[hp];simp only;omega
    ·have:=gs.bw _ hq
     rw[hp];exact this
   ·show _∧_∧k.farmer∈(eV s.farmers y (a-b)).map (·.1)∧_
    rw[hkf];rcases B2.1 hk with hk|hk;·exact gs.bt k hk
    ·rw[B5]at hk
     subst hk;obtain⟨i,h1,h2⟩:=dY hf;exact⟨by show 0≤a-b;omega,by show a-b≤99999;omega,A8 (eY h1),hb.2.2.2.2.1,hb.2.2.2.2.2⟩
   ·obtain⟨i,h1,_⟩:=dY hf
    obtain⟨v0,e1,e2⟩:=aEE gs.nf (A8 (eY h1)) hp;have e3:=gs.fs _ e1;show p.2=iQ (s.tickets++[_]) p.1;rw[aET,e2];have e3:v0=iQ s.tickets p.1:=e3;rw[e3];by_cases e:p.1=y;·rw[if_pos e,if_pos ⟨e.symm,rfl⟩]
    ·rw[if_neg e,if_neg fun q=>e q.1.symm]
theorem aMN{x:ByteArray}{a b:Int}(gs:fD s)(hw:IsW (.pan x a b) v)(hc:dS s (.pan x a b)=none)(hlt:s.book.length<300):fD { mY s (.pan x a b)with book:=s.book++[line] }:=by
 have hl:(s.book++[line]).length=s.book.length+1:=by simp
 have bf':∀ p∈s.farmers,-(100000*(s.book.length+1:Nat):Int)≤p.2∧p.2≤100000*(s.book.length+1:Nat):=fun p hp=>by have:=gs.bf p hp;omega
 have bm':∀ p∈s.meters,0≤p.2.1∧p.2.1≤99999∧0≤p.2.2∧p.2.2≤100000*(s.book.length+1:Nat):=fun p hp=>by have:=gs.bm p hp;omega
 have bp':∀ p∈s.pans,0≤p.2∧p.2≤100000*(s.book.length+1:Nat):=fun p hp=>by have:=gs.bp p hp;omega
 have lw':=gs.lw;have lt':=gs.lt;obtain⟨hb,_⟩:=hw;unfold dS at hc;dsimp only at hc;split at hc;·cases hc
 ·rename_i hle
  have hle:=O8.1 hle;split at hc;·cases hc
  ·rename_i hn
   have l5:=gs.lp;unfold mY;refine⟨by rw[hl];omega,gs.nf,gs.lf,gs.lm,?_,by rw[hl];exact I2 lw',by rw[hl];exact I2 lt',gs.cl,by rw[hl];exact bf',by rw[hl];exact bm',fun p hp=>?_,gs.bw,gs.bt,gs.fs⟩
   ·show (eV s.pans x (a-b)).length≤5
    rw[eN,vW];split
    ·rename_i h1
     have:s.pans.length≠5:=fun q=>hn ⟨h1,q⟩;omega
    ·exact l5
   ·rw[hl]
    have hp:p∈eV s.pans x (a-b):=hp;rw[eN]at hp;rcases mF hp with hp|hp|⟨q,hq,hp⟩;·exact bp' p hp
    ·rw[hp];simp only;omega
    ·have:=gs.bp _ hq
     rw[hp];simp only at this ⊢;omega
theorem aJG{i:Nat}(gs:fD s)(hw:IsW (.void i) v)(hc:dS s (.void i)=none)(hlt:s.book.length<300):fD { mY s (.void i)with book:=s.book++[line] }:=by
 have hl:(s.book++[line]).length=s.book.length+1:=by simp
 have bf':∀ p∈s.farmers,-(100000*(s.book.length+1:Nat):Int)≤p.2∧p.2≤100000*(s.book.length+1:Nat):=fun p hp=>by have:=gs.bf p hp;omega
 have bm':∀ p∈s.meters,0≤p.2.1∧p.2.1≤99999∧0≤p.2.2∧p.2.2≤100000*(s.book.length+1:Nat):=fun p hp=>by have:=gs.bm p hp;omega
 have bp':∀ p∈s.pans,0≤p.2∧p.2≤100000*(s.book.length+1:Nat):=fun p hp=>by have:=gs.bp p hp;omega
 have lw':=gs.lw;have lt':=gs.lt;unfold dS at hc;dsimp only at hc;split at hc;·cases hc
 ·rename_i k hk
  obtain⟨a1,a2,a3,a4⟩:=gs.bt k (A8 hk);obtain⟨j,hj⟩:=aEm a3;obtain⟨f,hjf⟩:=rI hj;have hf:cT s.farmers k.farmer=some f:=by unfold cT;rw[hj,D0,hjf];rfl
  have hkf:(eV s.farmers k.farmer (-k.net)).map (·.1)=s.farmers.map (·.1):=by rw[eN];exact xK hf
  have hlf:(eV s.farmers k.farmer (-k.net)).length=s.farmers.length:=by
   have:=AAq List.length hkf;simpa using this
  have hd:mY s (.void i)={ s with tickets:=s.tickets.set i { k with void:=true },farmers:=eV s.farmers k.farmer (-k.net) }:=by
   unfold mY;dsimp only;rw[hk]
  rw[hd];refine⟨by rw[hl];omega,?_,?_,gs.lm,gs.lp,by rw[hl];exact I2 lw',?_,?_,fun p hp=>?_,by rw[hl];exact bm',by rw[hl];exact bp',gs.bw,fun k' hk'=>?_,fun p hp=>?_⟩
  ·show ((eV s.farmers k.farmer (-k.net)).map (·.1)).Nodup
   rw[hkf];exact gs.nf
  ·show (eV s.farmers k.farmer (-k.net)).length≤9
   rw[hlf];exact gs.lf
  ·rw[hl];show (s.tickets.set i _).length≤_;rw[C0];omega
  ·show s.closed≤(s.tickets.set i _).length;rw[C0];exact gs.cl
  ·rw[hl]
   have hp:p∈eV s.farmers k.farmer (-k.net):=hp;rw[eN]at hp;rcases mF hp with hp|hp|⟨q,hq,hp⟩;·exact bf' p hp
   ·rw[hp];simp only;omega
   ·have:=gs.bf _ hq
    rw[hp];simp only at this ⊢;omega
  ·show _∧_∧k'.farmer∈(eV s.farmers k.farmer (-k.net)).map (·.1)∧_
   rw[hkf];rcases List.mem_or_eq_of_mem_set hk' with hk'|hk';·exact gs.bt k' hk'
   ·subst hk'
    exact⟨a1,a2,a3,a4⟩
  ·obtain⟨v0,e1,e2⟩:=aEE gs.nf a3 hp
   have e3:v0=iQ s.tickets p.1:=gs.fs _ e1;have hvd:k.void=false:=by
    cases hv:k.void with
    | false=>rfl
    | true=>rw[hv]at hc;simp at hc
   show p.2=iQ (s.tickets.set i _) p.1;rw[wZ hk hvd,e2,e3];by_cases e:p.1=k.farmer;·rw[if_pos e,if_pos e.symm];omega
   ·rw[if_neg e,if_neg fun q=>e q.symm];omega
theorem aHl(gs:fD s)(hw:IsW (.close) v)(hc:dS s (.close)=none)(hlt:s.book.length<300):fD { mY s (.close)with book:=s.book++[line] }:=by
 have hl:(s.book++[line]).length=s.book.length+1:=by simp
 have bf':∀ p∈s.farmers,-(100000*(s.book.length+1:Nat):Int)≤p.2∧p.2≤100000*(s.book.length+1:Nat):=fun p hp=>by have:=gs.bf p hp;omega
 have bm':∀ p∈s.meters,0≤p.2.1∧p.2.1≤99999∧0≤p.2.2∧p.2.2≤100000*(s.book.length+1:Nat):=fun p hp=>by have:=gs.bm p hp;omega
 have bp':∀ p∈s.pans,0≤p.2∧p.2≤100000*(s.book.length+1:Nat):=fun p hp=>by have:=gs.bp p hp;omega
 have lw':=gs.lw;have lt':=gs.lt;unfold mY;exact⟨by rw[hl];omega,gs.nf,gs.lf,gs.lm,gs.lp,by rw[hl];exact I2 lw',by rw[hl];exact I2 lt',B7 _,by rw[hl];exact bf',by rw[hl];exact bm',by rw[hl];exact bp',gs.bw,gs.bt,gs.fs⟩
theorem aHk{x:ByteArray}{n:Int}(gs:fD s)(hw:IsW (.meter x n) v)(hc:dS s (.meter x n)=none)(hlt:s.book.length<300):fD { mY s (.meter x n)with book:=s.book++[line] }:=by
 have hl:(s.book++[line]).length=s.book.length+1:=by simp
 have bf':∀ p∈s.farmers,-(100000*(s.book.length+1:Nat):Int)≤p.2∧p.2≤100000*(s.book.length+1:Nat):=fun p hp=>by have:=gs.bf p hp;omega
 have bm':∀ p∈s.meters,0≤p.2.1∧p.2.1≤99999∧0≤p.2.2∧p.2.2≤100000*(s.book.length+1:Nat):=fun p hp=>by have:=gs.bm p hp;omega
 have bp':∀ p∈s.pans,0≤p.2∧p.2≤100000*(s.book.length+1:Nat):=fun p hp=>by have:=gs.bp p hp;omega
 have lw':=gs.lw;have lt':=gs.lt;obtain⟨hb,_⟩:=hw;unfold dS at hc;dsimp only at hc;split at hc;·cases hc
 ·rename_i hn
  have l5:=gs.lm;unfold mY;refine⟨by rw[hl];omega,gs.nf,gs.lf,?_,gs.lp,by rw[hl];exact I2 lw',by rw[hl];exact I2 lt',gs.cl,by rw[hl];exact bf',fun p hp=>?_,by rw[hl];exact bp',gs.bw,gs.bt,gs.fs⟩
  ·show (gM (mtr n) (n,0) x s.meters).length≤5
   rw[vW];split
   ·rename_i h1
    have:s.meters.length≠5:=fun q=>hn ⟨h1,q⟩;omega
   ·exact l5
  ·rw[hl]
   rcases mF hp with hp|hp|⟨q,hq,hp⟩;·exact bm' p hp
   ·rw[hp];simp only;omega
   ·have:=gs.bm _ hq
    rw[hp];unfold mtr;simp only at this ⊢;omega
end Go.Proofs.YtmapgnepfgnphaaGreatDoor
namespace Go.DL
section
variable{D:Nat→Option XFn}{Y:Nat→Option YI}{r:Nat→Option Nat}
theorem aEl{b:Nat}:∀{vs:List AV},b∈kW vs→∃(i:Nat)(v:AV),vs[i]?=some v∧b∈iP v
 | [],h=>by simp[kW]at h
 | v::l,h=>by
   simp only[kW,B2]at h;rcases h with h|h;·exact⟨0,v,rfl,h⟩
   ·obtain⟨i,v',h1,h2⟩:=aEl h
    exact⟨i+1,v',h1,h2⟩
theorem aLt{v v':AV}(h:Rn D Y r v v'):∀ b∈iP v,∃ c,r b=some c:=by
 have many:∀{xs ys:List AV},xs.length=ys.length→(∀(i:Nat)(x y:AV),xs[i]?=some x→ys[i]?=some y→∀ b∈iP x,∃ c,r b=some c)→∀ b∈kW xs,∃ c,r b=some c:=fun {xs ys} hl ih b hb=>by
  obtain⟨i,x,h1,h2⟩:=aEl hb;have hi:i<ys.length:=by rw[←hl];exact(A5.1 h1).1
  exact ih i x _ h1 (A7 hi) b h2
 induction h with
 | agg xs ys hl h ih=>intro b hb;simp only[iP]at hb;exact many hl ih b hb
 | tup xs ys hl h ih=>intro b hb;simp only[iP]at hb;exact many hl ih b hb
 | fn f xs ys us vs hf hl1 h1 hl2 h2 ih1 ih2 =>
   intro b hb;simp only[iP,B2]at hb;rcases hb with hb|hb|hb
   ·cases f with
    | yield l=>exact absurd rfl (hf l)
    | _=>simp at hb
   ·exact many hl1 ih1 b hb
   ·exact many hl2 ih2 b hb
 | ifc t x y h ih=>intro b hb;simp only[iP]at hb;exact ih b hb
 | yield l c hr=>intro b hb;simp[iP,kW]at hb;exact⟨c,by rw[hb];exact hr⟩
 | sl b c o s n hr=>intro b' hb;simp[iP]at hb;exact⟨c,by rw[hb];exact hr⟩
 | pt b c o hr=>intro b' hb;simp[iP]at hb;exact⟨c,by rw[hb];exact hr⟩
 | mp b c hr=>intro b' hb;simp[iP]at hb;exact⟨c,by rw[hb];exact hr⟩
 | sb b c n hr=>intro b' hb;simp[iP]at hb;exact⟨c,by rw[hb];exact hr⟩
 | bp b c hr=>intro b' hb;simp[iP]at hb;exact⟨c,by rw[hb];exact hr⟩
 | _=>intro b hb;simp[iP]at hb
theorem aRI{xs ys:List AV}(h:RnL D Y r xs ys):∀ b∈kW xs,∃ c,r b=some c:=fun b hb=>by
 obtain⟨i,x,h1,h2⟩:=aEl hb;have hi:i<ys.length:=by rw[←h.1];exact(A5.1 h1).1
 exact aLt (h.2 i x _ h1 (A7 hi)) b h2
theorem aWH{h:XH}{H:Hp}(sh:SHb D Y r h H):Cd h:=by
 intro x hx b hb;cases x with
 | none=>simp[nmO]at hb
 | some x =>
   obtain⟨i,hi⟩:=G7 hx;have ha:hat h i=some x:=by unfold hat;rw[A6,hi];rfl
   obtain⟨⟨g,y,rfl⟩,c,z,h1,h2,h3⟩:=sh.blk i x ha;have hb:b∈nmB (.blk g y):=hb;cases h3 with
   | cells _ w xs ys hl hg =>
     cases g with
     | true=>simp[nmB]at hb
     | false =>
       obtain⟨c',hc'⟩:=aRI hl b hb;exact sh.dom b c' hc'
   | map _ w xs ys hl hg =>
     cases g with
     | true=>simp[nmB]at hb
     | false =>
       have hb:b∈xs.flatMap fun p=>iP p.1++iP p.2:=hb;obtain⟨p,hp,hb⟩:=M7.1 hb;obtain⟨j,hj⟩:=G7 hp;have hlt:j<ys.length:=by rw[←hl.1];exact(A5.1 hj).1
       obtain⟨k1,k2⟩:=hl.2 j p _ hj (A7 hlt);rcases B2.1 hb with hb|hb
       ·obtain⟨c',hc'⟩:=aLt k1 b hb
        exact sh.dom b c' hc'
       ·obtain⟨c',hc'⟩:=aLt k2 b hb
        exact sh.dom b c' hc'
   | obj _ w o=>cases g<;>simp[nmB]at hb
end
end Go.DL
namespace Go.Proofs.YtmapgnepfgnphaaGreatDoor
open Go Go.DL
variable{h h':XH}{L:CL}{s:dD}
def IsClk(s:dD):Hp→Nat→Prop:=fun H b=>fD s∧∃ h L,aG h=H∧Lays h L s∧L.c=b
theorem Od.hp{l:OL}{ks:List ByteArray}{vs:List (List AV)}{t:Int}(e:aG h=aG h')(od:Od h l ks vs t):Od h' l ks vs t:=⟨⟨fun p hp=>by rw[←e];exact od.hd.1 p hp,od.hd.2⟩,od.ek,od.vk⟩
theorem Lays.hp(e:aG h=aG h')(ly:Lays h L s):Lays h' L s where
 hc:=by rw[←e];exact ly.hc
 tk:=⟨ly.tk.el,fun hk=>by rw[←e];exact ly.tk.hb hk,fun i a k h1 h2=>by rw[←e];exact ly.tk.he i a k h1 h2,ly.tk.nd,ly.tk.nb⟩
 bk hk:=by rw[←e];exact ly.bk hk
 f:=ly.f.hp e
 m:=ly.m.hp e
 p:=ly.p.hp e
 w:=ly.w.hp e
 dj:=ly.dj
theorem IsClk.open{c:Nat}(hi:IsClk s (aG h) c):fD s∧∃ L,Lays h L s∧L.c=c:=by
 obtain⟨gs,h0,L,e,ly,hc⟩:=hi;exact⟨gs,L,ly.hp e,hc⟩
end Go.Proofs.YtmapgnepfgnphaaGreatDoor
namespace Go.DL
section
variable{D D':Nat→Option XFn}{Y Y':Nat→Option YI}{r:Nat→Option Nat}
theorem aLv{v v':AV}(h:Rn D Y r v v'):Rn D' Y' r v v':=by
 induction h with
 | any v=>exact .any v
 | int k n=>exact .int k n
 | bool b=>exact .bool b
 | str s=>exact .str s
 | agg xs ys hl h ih=>exact .agg xs ys hl ih
 | tup xs ys hl h ih=>exact .tup xs ys hl ih
 | fs rows h=>exact .fs rows h
 | fp rows i o h=>exact .fp rows i o h
 | sl b c o s n hr=>exact .sl b c o s n hr
 | pt b c o hr=>exact .pt b c o hr
 | mp b c hr=>exact .mp b c hr
 | sb b c n hr=>exact .sb b c n hr
 | bp b c hr=>exact .bp b c hr
 | nilsl=>exact .nilsl
 | nilpt=>exact .nilpt
 | nilmap=>exact .nilmap
 | nilfn=>exact .nilfn
 | nilifc=>exact .nilifc
 | fn f xs ys us vs hf hl1 h1 hl2 h2 ih1 ih2=>exact .fn f xs ys us vs hf hl1 ih1 hl2 ih2
 | yield l c hr=>exact .yield l c hr
 | ifc t x y h ih=>exact .ifc t x y ih
def yJ(J:List Nat)(h:XH):XH:=h.mapIdx fun i x=>if i∈J then x else none
theorem aBq{J:List Nat}{h:XH}{i:Nat}:hat (yJ J h) i=if i∈J then hat h i else none:=by
 unfold yJ hat;rw[A6,List.getElem?_mapIdx,A6];cases h[i]? with
 | none=>simp
 | some x=>by_cases hi:i∈J<;>simp[hi]
theorem aKX{h:XH}{H:Hp}(sh:SH D Y r h H){J:List Nat}(hJ:∀ i∈J,∃ x,aG h i=some x):SHb D' Y' r (yJ J h) H:=by
 refine⟨fun b c hb=>by unfold yJ;rw[List.length_mapIdx];exact sh.dom b c hb,fun b b' c x y hx hy h1 h2=>?_,fun b x hx=>?_⟩
 ·rw[aBq]at hx hy
  split at hx
  ·split at hy
   ·exact sh.inj b b' c x y hx hy h1 h2
   ·cases hy
  ·cases hx
 ·rw[aBq]at hx
  split at hx
  ·rename_i hb
   obtain⟨c,y,k1,k2,k3⟩:=sh.blk b x hx;obtain⟨z,hz⟩:=hJ b hb;unfold aG at hz;rw[hx]at hz;cases x with
   | blk g w =>
     refine⟨⟨g,w,rfl⟩,c,y,k1,k2,?_⟩;cases k3 with
     | cells _ w xs ys hl hg=>exact .cells c _ _ _ _ ⟨hl.1,fun i a b ha hb=>aLv (hl.2 i a b ha hb)⟩ hg
     | map _ w xs ys hl hg=>exact .map c _ _ _ _ ⟨hl.1,fun i a b ha hb=>⟨aLv (hl.2 i a b ha hb).1,aLv (hl.2 i a b ha hb).2⟩⟩ hg
     | obj _ w o=>exact .obj c _ _ _
   | _=>cases hz
  ·cases hx
end
end Go.DL
namespace Go.Proofs.YtmapgnepfgnphaaGreatDoor
open Go Go.DL
variable{h h':XH}{L:CL}{s:dD}
theorem Lays.only(ly:Lays h L s):Lays (yJ (sI L s) h) L s:=by
 refine ly.fr (J:=(List.range h.length).filter fun b=>decide (b∉sI L s)) ⟨fun b hb hn=>?_,by unfold yJ;rw[List.length_mapIdx];exact B7 _⟩ fun j b hb hm=>?_
 ·have:b∈sI L s:=Classical.byContradiction fun q=>hn (by rw[N3,G4];exact⟨hb,by simpa using q⟩)
  unfold aG;rw[aBq,if_pos this]
 ·rw[N3]at hm
  have:b∉sI L s:=by simpa using hm.2
  exact this (bJ.2 ⟨j,hb⟩)
section
variable{D:Nat→Option XFn}{P:dD→ByteArray→Int}{rd:ByteArray→Int ⊕ Wd}
open Classical in
noncomputable def pmSay(P:dD→ByteArray→Int)(rd:ByteArray→Int ⊕ Wd):List AV→XH→Option (AV×XH):=fun xs h=>match xs,h with
 | [.pt 0 0,.str line],[some (.gh s p)]=>if p=IsClk s then some (.str (aAp P s line (rd line)).1,[some (.gh (aAp P s line (rd line)).2 (IsClk (aAp P s line (rd line)).2))]) else none
 | _,_=>none
theorem sR{x:XB}{b:Nat}{y:XB}(h:hat [some x] b=some y):b=0∧y=x:=by
 cases b with
 | zero=>exact⟨rfl,by simpa [hat]using h.symm⟩
 | succ b=>simp[hat]at h
theorem aFX{Y:Nat→Option YI}{r:Nat→Option Nat}{H':Hp}{c:Nat}{s':dD}(hdm:∀ b c,r b=some c→b<1)(hrc:r 0=some c){D3:Nat→Option XFn}{Y3:Nat→Option YI}{r3:Nat→Option Nat}{h3:XH}{L3:CL}(sh3:SH D3 Y3 r3 h3 H')(h3c:r3 L3.c=some c)(ly3:Lays h3 L3 s')(gs:fD s') :
 SH D Y r [some (.gh s' (IsClk s'))] H':=by
 have hJ:∀ i∈sI L3 s',∃ x,aG h3 i=some x:=fun i hi=>by
  obtain⟨j,hj⟩:=bJ.1 hi;exact ly3.live j i hj
 refine⟨fun b c hb=>hdm b c hb,fun b b' c x y hx hy _ _=>(sR hx).1.trans (sR hy).1.symm,fun b x hx=>?_,fun _ n=>∃ i x,hat (yJ (sI L3 s') h3) i=some x∧r3 i=some n,fun b st q hb=>?_,fun b b' st q x n hb hb' hne _=>absurd ((sR hb).1.trans (sR hb').1.symm) hne⟩
 ·obtain⟨rfl,rfl⟩:=sR hx
  obtain⟨g,hg⟩:=aB ly3.hc;obtain⟨c',y,k1,k2,_⟩:=sh3.blk _ _ hg;rw[h3c]at k1;cases k1;exact⟨c,y,hrc,k2,.gh c _ _ y⟩
 ·obtain⟨rfl,e⟩:=sR hb
  cases e;exact⟨c,hrc,yJ (sI L3 s') h3,r3,L3.c,fun D' Y'=>aKX sh3 hJ,h3c,⟨gs,_,L3,rfl,ly3.only,rfl⟩,fun n=>Iff.rfl⟩
open Classical in
noncomputable def pmSayG(Fine:dD→ByteArray→Prop)(A:dD→ByteArray→ByteArray×dD):List AV→XH→Option (AV×XH):=fun xs h=>match xs,h with
 | [.pt 0 0,.str line],[some (.gh s p)]=>if p=IsClk s∧Fine s line then some (.str (A s line).1,[some (.gh (A s line).2 (IsClk (A s line).2))]) else none
 | _,_=>none
theorem aRP{Fine:dD→ByteArray→Prop}{A:dD→ByteArray→ByteArray×dD}(hF:∀(s:dD)(line:ByteArray)(h:XH)(L:CL),Fine s line→Lays h L s→Cd h→fD s→aEF h L line (A s line).2 (A s line).1∧fD (A s line).2):iT D 21 (pmSayG Fine A):=by
 intro B Y r h H xs ys v h' sh hr hx;unfold pmSayG at hx;split at hx
 ·rename_i line s p
  split at hx
  ·rename_i hp
   obtain⟨hp,hfine⟩:=hp;subst hp;cases hx;obtain⟨G,hG⟩:=sh.gh;obtain⟨c,hrc,h0,r0,b0,shb,hb0,hi,hS⟩:=hG.1 0 s _ rfl;obtain⟨gs,L,ly,hL⟩:=hi.open;have sb:=shb aD (fun _=>none);have s0:SH aD (fun _=>none) r0 h0 H:=⟨sb.dom,sb.inj,fun b x hb=>(sb.blk b x hb).2,GhR.no fun b st p hb=>by obtain⟨g,y,e⟩:=(sb.blk b _ hb).1;cases e⟩;obtain⟨⟨h3,L3,body,ly3,hL3⟩,gsay⟩:=hF s line h0 L hfine ly (aWH sb) gs;obtain⟨a,as1,rfl,q1,q2⟩:=hr.inv;obtain⟨b,as2,rfl,q3,q4⟩:=q2.inv;rw[q4.nil_inv];obtain⟨c',rfl,hc'⟩:=mS q1;rw[hrc]at hc';cases hc';rw[dG q3];have hA:RnL aD (fun _=>none) r0 [.pt L.c 0,.str line] [.pt c 0,.str line]:=RnL.cons (.pt _ _ _ (by rw[hL];exact hb0)) (RnL.cons (.str _) RnL.nil);have hlen:(h0++kT).length=h0.length+1:=by simp[kT]
   have fw:=aOS (B:=B) (h:=h0) (h1:=h0++kT) (e1:=aR (bM [.pt L.c 0,.str line]) (some 4) (.pt h0.length 0)) aA aFU rfl (xs:=[.pt L.c 0,.str line]) (by simp) rfl rfl (by rw[hlen];omega) (by rw[hlen];exact body) (Y:=fun _=>none) (fun l i h=>by simp at h) s0 hA;have cv:CallV B Tryz.prog (.fn (.func 21) [] []) [.pt c 0,.str line] H (dP aD (fun _=>none) r0 (.str (A s line).1) h3):=fw;suffices goal:CallV B Tryz.prog (.fn (.func 21) [] []) [.pt c 0,.str line] H (dP D Y r (.str (A s line).1) [some (.gh (A s line).2 (IsClk (A s line).2))]) from goal
   refine CallV.mono cv fun v' H' hq=>?_;obtain⟨r3,ha,sh3,hv⟩:=hq;refine⟨r,fun b c hb=>hb,aFX (fun b c hb=>sh.dom b c hb) hrc sh3 (ha _ _ (by rw[hL3,hL];exact hb0)) ly3 gsay,by rw[dG hv];exact .str _⟩
  ·cases hx
 ·cases hx
end
end Go.Proofs.YtmapgnepfgnphaaGreatDoor
namespace Go.Proofs.YtmapgnepfgnphaaGreatDoor
open Go Go.DL
theorem w52{n:Int}:runW aD 52 [I n] []=some (.pt 0 0,[some (.blk false (.cells true [.nilsl,.mp 1,I n])),some (.blk true (.map true []))]):=by
 rw[qX 52 x52 rfl];unfold x52;dsimp only;(exact zF)
theorem w53{n:Int}:runW aD 53 [I n] []=some (.pt 0 0,[some (.blk false (.cells true [.nilsl,.mp 1,I n])),some (.blk true (.map true []))]):=by
 rw[qX 53 x53 rfl];unfold x53;dsimp only;(exact zF)
theorem w54{n:Int}:runW aD 54 [I n] []=some (.pt 0 0,[some (.blk false (.cells true [.nilsl,.mp 1,I n])),some (.blk true (.map true []))]):=by
 rw[qX 54 x54 rfl];unfold x54;dsimp only;(exact zF)
theorem w55{n:Int}:runW aD 55 [I n] []=some (.pt 0 0,[some (.blk false (.cells true [.nilsl,.mp 1,I n])),some (.blk true (.map true []))]):=by
 rw[qX 55 x55 rfl];unfold x55;dsimp only;(exact zF)
def aHg:XH:=[some (.blk false (.cells true [.pt 1 0,.pt 3 0,.pt 5 0,.pt 7 0,.nilsl,I 0,.nilsl])),some (.blk false (.cells true [.nilsl,.mp 2,I 9])),some (.blk true (.map true [])),some (.blk false (.cells true [.nilsl,.mp 4,I 5])),some (.blk true (.map true [])),some (.blk false (.cells true [.nilsl,.mp 6,I 5])),some (.blk true (.map true [])),some (.blk false (.cells true [.nilsl,.mp 8,I 300])),some (.blk true (.map true []))]
theorem w19:runW aD 19 [] []=some (.pt 0 0,aHg):=by
 have a:=w52 (n:=9);have b:=w53 (n:=5);have c:=w54 (n:=5);have d:=w55 (n:=300);rw[qX 19 x19 rfl];unfold x19 aHg;dsimp only;(exact zY a b c d)
def pZ:dD:=⟨[],[],[],[],[],0,[]⟩
def aCw:CL:=⟨0,0,0,[],⟨1,2,0,[]⟩,⟨3,4,0,[]⟩,⟨5,6,0,[]⟩,⟨7,8,0,[]⟩⟩
theorem aEh{o m:Nat}{t:Int}(h1:aG aHg o=some (.cells true [.nilsl,.mp m,I t]))(h2:aG aHg m=some (.map true []))(hne:o≠m):Od aHg ⟨o,m,0,[]⟩ [] [] t:=by
 refine⟨⟨fun p hp=>?_,?_⟩,rfl,rfl⟩
 ·have hp:p∈[(o,ABlk.cells true [.nilsl,.mp m,I t]),(m,ABlk.map true [])]:=hp
  simp only[B4,D4,AAh]at hp;rcases hp with rfl|rfl;·exact h1
  ·exact h2
 ·show [o,m].Nodup
  simp[hne]
theorem aMu:Lays aHg aCw pZ where
 hc:=rfl
 tk:=⟨rfl,fun h=>absurd h (by decide),fun i e k h1 _=>by simp[aCw]at h1,aA1,fun h=>absurd h (by decide)⟩
 bk h:=absurd h (by decide)
 f:=aEh rfl rfl (by decide)
 m:=aEh rfl rfl (by decide)
 p:=aEh rfl rfl (by decide)
 w:=aEh rfl rfl (by decide)
 dj i j b hi hj:=by
  have p:∀ i b,b∈px aCw pZ i→(i=0∧b=0)∨(i=3∧(b=1∨b=2))∨(i=4∧(b=3∨b=4))∨(i=5∧(b=5∨b=6))∨(i=6∧(b=7∨b=8)):=fun i b h=>by
   match i,h with
   | 0,h=>simpa [px,aCw]using h
   | 1,h=>simp[px,mO,aCw,pZ]at h
   | 2,h=>simp[px,mO,aCw,pZ]at h
   | 3,h=>simpa [px,idx,aCw,pZ]using h
   | 4,h=>simpa [px,idx,aCw,pZ]using h
   | 5,h=>simpa [px,idx,aCw,pZ]using h
   | 6,h=>simpa [px,idx,aCw,pZ]using h
   | _+7,h=>cases h
  have a:=p i b hi;have c:=p j b hj;omega
theorem aMO:fD pZ:=by
 refine⟨by decide,aA1,by decide,by decide,by decide,by decide,by decide,by decide,?_,?_,?_,?_,?_,?_⟩;all_goals intro p hp;cases hp
def aIk:List AV→XH→Option (AV×XH):=fun xs h=>match xs,h with
 | [],[]=>some (.pt 0 0,[some (.gh pZ (IsClk pZ))])
 | _,_=>none
theorem aVc{D:Nat→Option XFn}:iT D 19 aIk:=by
 intro B Y r h H xs ys v h' sh hr hx;unfold aIk at hx;split at hx
 ·cases hx
  rw[hr.nil_inv];have s0:SH aD (fun _=>none) (fun _=>none) [] H:=⟨fun b c hb=>by simp at hb,fun b c c' x y hx=>by simp[hat]at hx,fun b x hx=>by simp[hat]at hx,GhR.no fun b st p hx=>by simp[hat]at hx⟩;have fw:=(aFi aA B (fun _=>none) (fun l i h=>by simp at h)).1 (fun _=>none) [] H 19 [] [] _ _ s0 RnL.nil w19;have cv:CallV B Tryz.prog (.fn (.func 19) [] []) [] H (dP aD (fun _=>none) (fun _=>none) (.pt 0 0) aHg):=fw;suffices goal:CallV B Tryz.prog (.fn (.func 19) [] []) [] H (dP D Y r (.pt 0 0) [some (.gh pZ (IsClk pZ))]) from goal
  refine CallV.mono cv fun v' H' hq=>?_;obtain⟨r3,ha,sh3,hv⟩:=hq;obtain⟨c,rfl,hc⟩:=mS hv;have rno:∀ b c,r b=some c→False:=fun b c hb=>by have:=sh.dom b c hb;simp at this
  refine⟨fun b=>if b=0 then some c else none,fun b c' hb=>(rno b c' hb).elim,aFX (fun b c' hb=>?_) rfl sh3 (by exact hc) aMu aMO,.pt _ _ _ rfl⟩;split at hb;·omega
  ·cases hb
 ·cases hx
end Go.Proofs.YtmapgnepfgnphaaGreatDoor
namespace Go.Proofs.YtmapgnepfgnphaaGreatDoor
open Go Go.DL
def gJ(w:ByteArray):Option Int:=match Lib.atoiAll w.data.toList with
 | .ok v=>if 0≤v∧v≤99999∧Lib.itoa v=w.data.toList then some v else none
 | _=>none
def fQ(line:ByteArray):List ByteArray:=(fF 32 line.data.toList).map fun l=>⟨⟨l⟩⟩
def aFF(x:ByteArray)(w:Wd):Int ⊕ Wd:=if eZ x then .inr w else .inl 8
def aPs(x:ByteArray)(f:Int→Wd):Int ⊕ Wd:=match gJ x with
 | some n=>.inr (f n)
 | none=>.inl 2
def rd(line:ByteArray):Int ⊕ Wd:=if line.size>40 then .inl 14 else match fQ line with
 | [w]=>if w=AAu then .inr .close else if w=AAy then .inr .total else .inl 13
 | [w,x]=>if w=AAr then aFF x (.farmer x) else if w=AAx then aFF x (.net x) else if w=AAA then aFF x (.used x) else
   if w=AAB then aFF x (.loss x) else if w=AAC then aFF x (.power x) else
   if w=AAt then aPs x (fun n=>.void n.toNat) else if w=AAz then aPs x (fun n=>.ticket n.toNat) else .inl 13
 | [w,x,y]=>if w=AAv then (if eZ x then aPs y (.meter x) else .inl 8) else .inl 13
 | [w,x,y,z]=>if w=AAw then (if eZ x then (match gJ y,gJ z with
  | some a,some b=>.inr (.pan x a b)
  | _,_=>.inl 2) else .inl 8) else .inl 13
 | [w,x,y,z,o]=>if w=AAs then (if eZ x&&eZ o then (match gJ y,gJ z with
  | some a,some b=>.inr (.wagon x o a b)
  | _,_=>.inl 2) else .inl 8) else .inl 13
 | _=>.inl 13
end Go.Proofs.YtmapgnepfgnphaaGreatDoor
namespace Go.Proofs.YtmapgnepfgnphaaGreatDoor
open Go Go.DL
section
variable{run:cV}{runY:dJ}{r:List DOper}{e:aH}{h:XH}{ix:Nat}{d:Option Nat}{m:Option (List (Nat×Nat))}
def aPh:AV→Option Eff
 | .str s=>some (.new none (.obj true (.stringIter s 0)) fun b=>.pt b 0)
 | _=>none
theorem fM{x:AO}:xo m run runY (⟨ix,d,.rngs x,none⟩::r) e h=kE m run runY r d e h true (aPh (aK e x)):=by
 have h0:aC (.rngs x) e (aG h)=aPh (aK e x):=by simp only[aC,aPh]<;>rfl
 rw[←h0];exact tS rfl (fun _=>rfl) (fun _=>rfl) fun _ _=>rfl
theorem fN{s:ByteArray}:aPh (.str s)=some (.new none (.obj true (.stringIter s 0)) fun b=>.pt b 0):=rfl
theorem fO{x:AO}:xo none run runY (⟨ix,d,.nxts x,none⟩::r) e h=kR none run runY r d e (aEK h (aK e x)):=by
 show eE run runY _ e h=_;simp only[eE,gd,cL];cases aEK h (aK e x)<;>rfl
def dk(s:ByteArray)(i:Nat):Int:=(Utf8.decode s i).1
def dn(s:ByteArray)(i:Nat):Nat:=i+(Utf8.decode s i).2
def nxI(b:Nat)(h:XH)(g:Bool)(s:ByteArray)(pos:Nat)(p:Bool):AV×XH:=if p then (.tup [.bool true,.int .i64 (pos:Int),.int .i32 (dk s pos)],h.set b (some (.blk g (.obj true (.stringIter s (dn s pos)))))) else (.tup [.bool false],h)
def nxM(b:Nat)(h:XH):Option XB→Option (AV×XH)
 | some (.blk g (.obj true (.stringIter s pos)))=>some (nxI b h g s pos (decide (pos<s.size)))
 | _=>none
theorem qJ{b:Nat}:aEK h (.pt b 0)=nxM b h (hat h b):=by
 simp only[aEK,nxM,nxI];split
 ·rename_i g s pos hh
  rw[hh];by_cases hp:pos<s.size;·simp[hp,dk,dn]
  ·simp[hp]
 ·rename_i hh
  split
  ·rename_i g s pos h1
   exact absurd h1 (hh _ _ _)
  ·rfl
theorem jO{b:Nat}{g:Bool}{s:ByteArray}{pos:Nat}:nxM b h (some (.blk g (.obj true (.stringIter s pos))))=some (nxI b h g s pos (decide (pos<s.size))):=rfl
theorem jK{b:Nat}{g:Bool}{s:ByteArray}{pos:Nat}:nxI b h g s pos true=(.tup [.bool true,.int .i64 (pos:Int),.int .i32 (dk s pos)],h.set b (some (.blk g (.obj true (.stringIter s (dn s pos)))))):=rfl
theorem jQ{b:Nat}{g:Bool}{s:ByteArray}{pos:Nat}:nxI b h g s pos false=(.tup [.bool false],h):=rfl
end
theorem jU:wI 5 .nilifc .nilifc=some true:=rfl
theorem jV{t:TypeId}{a:AV}:wI 5 (.ifc t a) .nilifc=some false:=rfl
def fmL:List (ByteArray×ByteArray):=[(AAr,⟨⟨[102]⟩⟩),(AAs,AAE),(AAt,⟨⟨[110]⟩⟩),(AAu,⟨⟨[]⟩⟩),(AAv,⟨⟨[109,110]⟩⟩),(AAw,AAF),(AAx,⟨⟨[102]⟩⟩),(AAy,⟨⟨[]⟩⟩),(AAz,⟨⟨[110]⟩⟩),(AAA,⟨⟨[109]⟩⟩),(AAB,⟨⟨[112]⟩⟩),(AAC,⟨⟨[102]⟩⟩)]
def fmE:List (AV×AV):=fmL.map fun p:ByteArray×ByteArray=>(.str p.1,.str p.2)
abbrev fmA:Option XB:=some (.blk true (.map true fmE))
theorem w84:runW aD 84 [] []=some (.mp 0,[fmA]):=eW.2 ⟨20,by kernel_rfl⟩
theorem aTy{s c:ByteArray}(hc:c=⟨⟨[32]⟩⟩)(hs:s.size≤100000):runW aD 83 [.str s,.str c] []=some (.fs ((fQ s).map fun w=>[.str w]),[]):=by
 subst hc;rw[mC (d:=nZ zP) rfl rfl];show (if s.size≤100000 then _ else _)=_;rw[if_pos hs];simp[fQ,Function.comp_def]
theorem w86{s:ByteArray}(hs:s.size≤100000):runW aD 86 [.str s] []=some (aBU s,[]):=by
 rw[mC (d:=nZ aEe) rfl rfl];show (if s.size≤100000 then _ else _)=_;rw[if_pos hs]
def sr(l:List ByteArray):List (List AV):=l.map fun x=>[.str x]
theorem xC(l:List ByteArray):(sr l).length=l.length:=by simp[sr]
theorem aQz{l:List ByteArray}{i:Nat}{x:ByteArray}(h:l[i]?=some x):(sr l)[i]?=some [.str x]:=by simp[sr,h]
theorem aRB(l:List ByteArray):((sr l).all fun r=>r.length==1)=true:=by simp[sr]
theorem aOG(w:ByteArray)(l:List ByteArray):((sr (w::l)).drop 1).take (l.length+1-1)=sr l:=by
 have:(sr l).take l.length=sr l:=I0 (by rw[xC];exact B7 _);exact this
structure aEH(F:ByteArray):Prop where
 dn:∀ i,i<F.size→dn F i=i+1
def zR(F:ByteArray)(xs:List ByteArray)(i:Nat):List Int:=(List.range F.size).map fun j=>if j<i∧dk F j=110 then (gJ (xs.getD j ByteArray.empty)).getD 0 else 0
abbrev b60(w0:ByteArray)(xs:List ByteArray)(ns:List Int)(n:Nat):XH:=[some (.blk true (.cells true [.str ⟨⟨[]⟩⟩,.nilsl,.nilsl])),some (.blk false (.cells true [.str w0,.fs (sr xs),.sl 2 0 1 n])),some (.blk true (.cells true (ns.map I)))]
def itB(F:ByteArray)(i:Nat):Option XB:=some (.blk true (.obj true (.stringIter F i)))
def zN(n:Nat):List Int:=List.replicate n 0
theorem aNH(n:Nat):(List.replicate n [AV.int .i64 0]).flatten=(zN n).map I:=by
 unfold zN;induction n with
 | zero=>rfl
 | succ n ih=>rw[M0,M0,G6,ih];rfl
section
variable{F w0 line:ByteArray}{xs:List ByteArray}
theorem aPf(hl:xs.length=F.size)(hF:F.size≤4)(ok:aEH F){ns:List Int}{i:Nat}(hi:i<F.size){y:ByteArray}(hy:xs[i]?=some y)(hys:y.size≤1000)(hn:dk F i=110∨eZ y=true) :
 dL 0 [2,4,6,47] (execW aD 60 0 none (match aCG with | .loop _ a=>a|c=>c) (bW [2,4,6,47] [.pt 0 0,.str F,.pt 1 0,.pt 3 0]) (b60 w0 xs ns F.size++[itB F i]))=some ([.pt 0 0,.str F,.pt 1 0,.pt 3 0],b60 w0 xs ns F.size++[itB F (i+1)]):=by
 have d1:(i<F.size)=True:=AAm hi;have d2:=ok.dn i hi;have d3:((i:Int)<(F.size:Int))=True:=AAa;have sl:=xC xs;rw[hl]at sl;have sa:=aQz hy;have c8:=uQ 8;have c85:=w85 (s:=y) (by omega);unfold aCG itB b60;dsimp only;by_cases h1:dk F i=110
 ·have e1:(dk F i=110)=True:=AAm h1
  (exact xX d1 d2 d3 sl sa c8 e1 @fM @fN @fO @qJ @jO @jK @jQ @jU @jV aE aE aE aE)
 ·have e1:(dk F i=110)=False:=AAn h1
  rw[hn.resolve_left h1]at c85;(exact xX d1 d2 d3 sl sa c8 e1 c85 @fM @fN @fO @qJ @jO @jK @jQ @jU @jV aE aE aE)
theorem aEk(F:ByteArray)(xs:List ByteArray)(i:Nat):(zR F xs i).length=F.size:=by simp[zR]
theorem aRW{F:ByteArray}{xs:List ByteArray}{i:Nat}{y:ByteArray}{v:Int}(hi:i<F.size)(hy:xs[i]?=some y)(hk:dk F i=110)(hv:gJ y=some v):zR F xs (i+1)=aKZ (zR F xs i) i v:=by
 rw[aKY (by rw[aEk];exact hi)];apply N5;intro j;rw[List.getElem?_set];unfold zR;rw[A9,A9];by_cases hj:j<F.size
 ·rw[O0 hj,B9,B9]
  by_cases e:i=j
  ·subst e
   rw[if_pos (⟨by omega,hk⟩:i<i+1∧dk F i=110),if_pos rfl,if_pos (by simpa using hi),A6,hy,F6,hv];rfl
  ·rw[if_neg e]
   congr 1;by_cases h1:j<i∧dk F j=110;·rw[if_pos ⟨by omega,h1.2⟩,if_pos h1]
   ·rw[if_neg (fun h=>h1 ⟨by omega,h.2⟩),if_neg h1]
 ·rw[G5 (by simp;omega)]
  by_cases e:i=j;·omega
  ·rw[if_neg e];rfl
theorem aRX{F:ByteArray}{xs:List ByteArray}{i:Nat}(hk:dk F i≠110):zR F xs (i+1)=zR F xs i:=by
 unfold zR;apply M3;intro j _;by_cases h1:j<i∧dk F j=110;·rw[if_pos ⟨by omega,h1.2⟩,if_pos h1]
 ·rw[if_neg (fun h=>h1 ⟨by
   have:j≠i:=fun e=>hk (e▸h.2);omega,h.2⟩),if_neg h1]
theorem aVh(F:ByteArray)(xs:List ByteArray):zR F xs 0=zN F.size:=by
 unfold zR zN;apply N5;intro j;rw[A9,aE4];by_cases hj:j<F.size
 ·rw[O0 hj,if_pos hj]
  show some (if j<0∧dk F j=110 then _ else _)=_;rw[if_neg (by omega)]
 ·rw[if_neg hj,G5 (by simp;omega)];rfl
theorem aJv{y:ByteArray}{v:Int}(h:gJ y=some v):Lib.atoiAll y.data.toList = .ok v∧0≤v∧v≤99999∧(⟨⟨Lib.itoa v⟩⟩:ByteArray)=y:=by
 unfold gJ at h;split at h
 ·rename_i u hu
  split at h
  ·rename_i hc
   cases h;refine⟨hu,hc.1,hc.2.1,?_⟩;rw[hc.2.2]
  ·cases h
 ·cases h
theorem aPe(hl:xs.length=F.size)(hF:F.size≤4)(ok:aEH F){i:Nat}(hi:i<F.size){y:ByteArray}(hy:xs[i]?=some y)(hys:y.size≤1000)(hn:dk F i=110→∃ v,gJ y=some v) :
 dL 0 [2,6,64] (execW aD 60 0 none (match aCF with | .loop _ a=>a|c=>c) (bW [2,6,64] [.pt 0 0,.pt 1 0,.pt 3 0]) (b60 w0 xs (zR F xs i) F.size++[itB F i]))=some ([.pt 0 0,.pt 1 0,.pt 3 0],b60 w0 xs (zR F xs (i+1)) F.size++[itB F (i+1)]):=by
 have d1:(i<F.size)=True:=AAm hi;have d2:=ok.dn i hi;have d3:((i:Int)<(F.size:Int))=True:=AAa;have sl:=xC xs;rw[hl]at sl;have sa:=aQz hy;by_cases h1:dk F i=110
 ·obtain⟨v,hv⟩:=hn h1
  obtain⟨v1,v2,v3,v4⟩:=aJv hv;have e1:(dk F i=110)=True:=AAm h1;have c86:runW aD 86 [.str y] []=some (.tup [I v,.nilifc],[]):=by
   rw[w86 (by omega)];unfold aBU;rw[v1]
  have c35:=w35 0 v 99999;rw[show (decide (0≤v)&&decide (v≤99999))=true by simp[v2,v3]]at c35;have c57:=aDC (n:=v) (by omega);rw[v4]at c57;have c58:=uQ 2;have se:=oT y y;rw[AAk rfl]at se;have nl:=aEk F xs i;have lt1:(i+1≤F.size)=True:=AAa;rw[aRW hi hy h1 hv];generalize zR F xs i=N0 at *;unfold aCF itB b60;dsimp only;(exact wU d1 d2 d3 sl sa e1 c86 c35 c57 c58 se nl lt1 @fM @fN @fO @qJ @jO @jK @jQ @jU @jV aE aE aE aE)
 ·have e1:(dk F i=110)=False:=AAn h1
  rw[aRX h1];unfold aCF itB b60;dsimp only;(exact xX d1 d2 d3 sl sa e1 @fM @fN @fO @qJ @jO @jK @jQ @jU @jV aE aE aE aE aE)
end
end Go.Proofs.YtmapgnepfgnphaaGreatDoor
namespace Go.DL
variable{P:Program}{D:Nat→Option XFn}
theorem CalP.drop{g:Nat}{xs0:List AV}{v:AV}{h':XH}(hp:CalP P D g xs0 [] v h')(hv:Gd v):CalP P D g xs0 [] v []:=by
 intro B Y r H as' hY sh hA;refine FnP.mono ?_ (hp B Y r H as' hY sh hA);rintro v' H' ⟨r',_,sh',rn⟩;have rno:∀ b c,r b=some c→False:=fun b c hb=>by have:=sh.dom b c hb;simp at this
 have s0:SH D Y r [] H':=⟨fun b c hb=>(rno b c hb).elim,fun b c c' x y hx=>by simp[hat]at hx,fun b x hx=>by simp[hat]at hx,GhR.no fun b st p hx=>by simp[hat]at hx⟩;refine⟨r,Sub.refl r,s0,?_⟩;rw[(rn.same hv.gr).1];exact hv.rn
end Go.DL
namespace Go.Proofs.YtmapgnepfgnphaaGreatDoor
open Go Go.DL
section
variable{F w0 line:ByteArray}{xs W:List ByteArray}{v:AV}{e':aH}{h':XH}
abbrev bA:XH:=[some (.blk true (.cells true [.str ⟨⟨[]⟩⟩,.nilsl,.nilsl]))]
def r4c:XCode:=match x60.body with | .seq _ (.seq _ (.seq _ (.seq _ r)))=>r|c=>c
theorem aZa(hs:line.size≤40)(hw:fQ line=w0::xs){f:ByteArray}{b:Bool}(hf:aFK true (.str ⟨⟨[]⟩⟩) (bK true (.str w0) fmE)=some (.tup [.str f,.bool b]))(hp:PanX Tryz.prog aD x60 0 r4c (bW [2,3,4,5] [.pt 0 0,.fs (sr (w0::xs)),.str f,.bool b]) (bA++[fmA]) v e' h'):PanX Tryz.prog aD x60 0 x60.body (bM [.str line]) [] v e' h':=by
 have c83:runW aD 83 [.str line,.str ⟨#[32]⟩] []=some (.fs (sr (fQ line)),[]):=aTy (s:=line) (c:=⟨#[32]⟩) rfl (by omega);have aNp:=uQ 14;rw[hw]at c83;have r0:(sr (w0::xs))[0]?=some [.str w0]:=rfl;have rl:=xC (w0::xs);rw[C6]at rl;have t40:((line.size:Int)≤40)=True:=AAa;have n0:((0:Int)<((xs.length+1:Nat):Int))=True:=AAa;generalize sr (w0::xs)=R at *;unfold r4c at hp;unfold x60 at *;dsimp only at *;refine PanX.seqR (K:=60) aA rfl [0,2] (vs:=[.str line,.pt 0 0]) (h1:=bA) (by (exact RS9 @fM @fN @fO @qJ @jO @jK @jQ @jU @jV)) ?_;refine PanX.seqR (K:=60) aA rfl [0,2] (vs:=[.str line,.pt 0 0]) (h1:=bA) (by (exact aBY aNp t40 @fM @fN @fO @qJ @jO @jK @jQ @jU @jV aE aE)) ?_;refine PanX.seqR (K:=60) aA rfl [2,3] (vs:=[.pt 0 0,.fs R]) (h1:=bA) (by (exact xY c83 @fM @fN @fO @qJ @jO @jK @jQ @jU @jV)) ?_;exact PanX.seqR (K:=60) aA rfl [2,3,4,5] (vs:=[.pt 0 0,.fs R,.str f,.bool b]) (h1:=bA++[fmA]) (by (exact xX w84 hf r0 rl n0 @fM @fN @fO @qJ @jO @jK @jQ @jU @jV aE aE aE aE aE aE)) hp
theorem aPY(hs:line.size≤40)(hw:fQ line=w0::xs){f:ByteArray}{b:Bool}(hf:aFK true (.str ⟨⟨[]⟩⟩) (bK true (.str w0) fmE)=some (.tup [.str f,.bool b]))(hF:f.size≤4)(hn:b=true→xs.length≠f.size):CalP Tryz.prog aD 60 [.str line] [] (.ifc 110 (.agg [I 13])) []:=by
 refine CalP.drop (h':=bA++[fmA]) ?_ (.ifc _ _ (.agg _ fun a ha=>by rw[B5.1 ha];exact .int _ _));refine CalP.of (d:=x60) (e':=bW [] []) aA rfl (by simp[x60]) rfl ?_;refine aZa hs hw hf ?_;have rl:=xC (w0::xs);rw[C6]at rl;have a1:IntKind.i64.wrap ((f.size:Int)+1)=((f.size+1:Nat):Int):=by rw[aJ (by omega) (by omega)];rfl
 have e1:b=true→(((xs.length+1:Nat):Int)=((f.size+1:Nat):Int))=False:=fun h=>AAn (by have:=hn h;omega);generalize sr (w0::xs)=R at *;unfold r4c x60;dsimp only;refine PanX.seqL ?_;refine PanX.reg (p:=[⟨0,some 27,.mv (.t 5),none⟩,⟨0,some 28,.mv (.t 27),none⟩,⟨0,some 29,.mv (.t 3),some (28,true)⟩,⟨0,some 30,.len false (.t 29),some (28,true)⟩,⟨0,some 31,.mv (.t 4),some (28,true)⟩,⟨0,some 32,.len true (.t 31),some (28,true)⟩,⟨0,some 33,.bin .add (.t 32) (.c (.int .i64 1)),some (28,true)⟩,⟨0,some 34,.bin .eql (.t 30) (.t 33),some (28,true)⟩,⟨0,some 35,.pick (.t 28) (.t 34) (.c (.bool false)),none⟩]) (post:=[]) aA [] (g:=58) (first:=[]) (cap:=[]) (args:=[.bool false,I 13]) (vs:=[]) (h1:=bA++[fmA]) rfl rfl ?_ (c58 13 _);cases b with
 | false=>(exact aBY rl a1 @fM @fN @fO @qJ @jO @jK @jQ @jU @jV aE aE)
 | true =>
   have e1:=e1 rfl;(exact aBY rl a1 e1 @fM @fN @fO @qJ @jO @jK @jQ @jU @jV aE)
end
section
variable{F w0 line:ByteArray}{xs W:List ByteArray}{v:AV}{e':aH}{h':XH}
end
section
variable{F w0 line:ByteArray}{xs W:List ByteArray}{v:AV}{e':aH}{h':XH}
def Ws(F:ByteArray)(xs:List ByteArray):Prop:=xs.length=F.size∧F.size≤4∧aEH F∧∀ y∈xs,y.size≤1000
theorem aQX{i:Nat}(hi:i<xs.length):xs[i]?=some (xs.getD i ByteArray.empty)∧xs.getD i ByteArray.empty∈xs:=by
 rw[A6,A7 hi];exact⟨rfl,aE3 _⟩
theorem aXB(ws:Ws F xs)(hn:∀ j,j<F.size→dk F j=110∨eZ (xs.getD j ByteArray.empty)=true){ns:List Int}(j:Nat)(hj:j<F.size) :
 dL 0 [2,4,6,47] (execW aD 60 0 none (match aCG with | .loop _ a=>a|c=>c) (bW [2,4,6,47] [.pt 0 0,.str F,.pt 1 0,.pt 3 0]) (b60 w0 xs ns F.size++[itB F j]))=some ([.pt 0 0,.str F,.pt 1 0,.pt 3 0],b60 w0 xs ns F.size++[itB F (j+1)]):=by
 obtain⟨h1,h2,h3,h4⟩:=ws;obtain⟨k1,k2⟩:=aQX (xs:=xs) (i:=j) (by omega);exact aPf h1 h2 h3 hj k1 (h4 _ k2) (hn j hj)
theorem aXA(ws:Ws F xs){i:Nat}(hn:∀ j,j<i→dk F j=110→∃ v,gJ (xs.getD j ByteArray.empty)=some v)(j:Nat)(hji:j<i)(hj:j<F.size) :
 dL 0 [2,6,64] (execW aD 60 0 none (match aCF with | .loop _ a=>a|c=>c) (bW [2,6,64] [.pt 0 0,.pt 1 0,.pt 3 0]) (b60 w0 xs (zR F xs j) F.size++[itB F j]))=some ([.pt 0 0,.pt 1 0,.pt 3 0],b60 w0 xs (zR F xs (j+1)) F.size++[itB F (j+1)]):=by
 obtain⟨h1,h2,h3,h4⟩:=ws;obtain⟨k1,k2⟩:=aQX (xs:=xs) (i:=j) (by omega);exact aPe h1 h2 h3 hj k1 (h4 _ k2) (hn j hji)
end
section
variable{F w0 line:ByteArray}{xs W:List ByteArray}{v:AV}{e':aH}{h':XH}
theorem w60(hs:line.size≤40)(hw:fQ line=w0::xs)(hf:bK true (.str w0) fmE=some (some (.str F)))(ws:Ws F xs)(hn:∀ j,j<F.size→dk F j=110∨eZ (xs.getD j ByteArray.empty)=true)(hm:∀ j,j<F.size→dk F j=110→∃ v,gJ (xs.getD j ByteArray.empty)=some v) :
 runW aD 60 [.str line] []=some (.agg [.str w0,.fs (sr xs),.fs ((zR F xs F.size).map fun v=>[I v])],[]):=by
 have hl:=ws.1;have hF:=ws.2.1;have c83:runW aD 83 [.str line,.str ⟨#[32]⟩] []=some (.fs (sr (fQ line)),[]):=aTy (s:=line) (c:=⟨#[32]⟩) rfl (by omega);have aNp:=uQ 14;have aSF:=uQ 13;rw[hw]at c83;have r0:(sr (w0::xs))[0]?=some [.str w0]:=rfl;have rl:=xC (w0::xs);rw[C6,hl]at rl;have ra:=aRB (w0::xs);have rt:=aOG w0 xs;rw[hl]at rt;have t40:((line.size:Int)≤40)=True:=AAa;have n0:((0:Int)<((F.size+1:Nat):Int))=True:=AAa;have n1:((1:Int)≤((F.size+1:Nat):Int))=True:=AAa;have a1:IntKind.i64.wrap ((F.size:Int)+1)=((F.size+1:Nat):Int):=by rw[aJ (by omega) (by omega)];rfl
 have z0:((0:Int)≤(F.size:Int))=True:=AAa;have z1:((8:Int)*(F.size:Int)≤281474976710656)=True:=AAa;have z3:((F.size:Int)≤(F.size:Int))=True:=AAa;have z4:((F.size:Int)).toNat=F.size:=Int.toNat_natCast _;have z5:=aNH F.size;have z2:((F.size:Int)≤9223372036854775807)=True:=AAa;have e0:(F.size<F.size)=False:=AAb;have nl:=aEk F xs F.size;have ch:dB ((zR F xs F.size).map I) 0 1 F.size=(zR F xs F.size).map fun v=>[I v]:=by
  have h:=zW (f:=I) (zR F xs F.size) [];rw[nl]at h;exact h
 have f1:(F.size≤(zR F xs F.size).length)=True:=AAm (by rw[nl];exact B7 _);have rd0:=aXB (w0:=w0) (ns:=zN F.size) ws hn;have rd1:=fun j (hj:j<F.size)=>aXA (w0:=w0) ws hm j hj hj;generalize sr (w0::xs)=R at *;rw[qX 60 x60 rfl];unfold x60;dsimp only;sym =>
  simp[fM,fN,fO,qJ,jO,jK,jQ,jU,jV,Za,Zb,Zc,Zd,Ze,Zf,Zg,Zh,Zi,Zj,Zl,Zm,Zn,Zo,Zp,Zq,Zv,Zw,Zy,Z0,ZA,ZI,ZL,ZN,ZQ,ZR,ZS,ZW,ZY,ZZ,Ya,Yb,Yc,Ye,Yf,Yi,Yj,Yk,Yn,Yo,Yp,Yx,Y4,Y6,Y7,Y8,Y9,YG,YK,YO,YP,YU,YX,Xi,Xo,Xp,Xs,Xt,Xu,Xy,Xz,XI,XJ,XM,XN,XO,We,Wg,Wi,Wj,Wm,Wr,Wt,Wu,Wv,Ww,Wx,Wy,Wz,WB,WL,WM,WO,WP,WX,Va,Vb,Vc,Vh,Vi,Vk,Vv,Vw,Vx,Vy,V8,VA,VB,VC,VD,VE,VF,VG,VH,VI,VJ,VK,VL,VN,VO,VP,VQ,VR,VS,VT,VU,VV,VW,VX,VY,VZ,Ua,Ub,Ue,Uf,Ug,Uk,Ul,Un,Uo,Ur,Ut,Uu,Uv,Uy,Uz,U0,U1,U2,U3,U4,U5,UB,UC,UD,UG,UH,UJ,UK,UL,UM,UN,UQ,UR,US,UU,UV,UW,UX,UY,UZ,Tb,Tc,Te,Tf,Tg,Th,Ti,Tj,Tm,Tn,Tp,Tq,Ts,Tu,Tw,Ty,Tz,TA,TB,TE,TF,TG,TH,TJ,TK,TL,TM,TN,TO,TP,TQ,TR,TS,TT,TU,TV,TW,TX,TY,TZ,Sa,Sc,Sd,Sp,Sq,Sz,S2,S3,S4,S5,S6,S7,S8,SB,SG,SJ,SK,SM,SN,SO,SP,SV,SW,SX,SY,Ri,Rj,Rl,Rm,R0,RA,RC,RF,RJ,Qo,Qr,Qt,Qw,QH,QI,QK,QL,QM,QN,Pj,Pk,Pl,Pm,Pn,Pv,c83,aNp,aSF,w84,hf,r0,rl,ra,rt,t40,n0,n1,a1,z0,z1,z2,z3,z4,z5]
  tactic =>
   unfold aCG at rd0 ⊢;rw[cS F.size (fun _=>[.pt 0 0,.str F,.pt 1 0,.pt 3 0]) (fun i=>b60 w0 xs (zN F.size) F.size++[itB F i])]
   ·unfold itB b60
    sym =>
     simp[fM,fN,fO,qJ,jO,jK,jQ,jU,jV,Za,Zb,Zc,Zd,Ze,Zf,Zg,Zh,Zi,Zj,Zl,Zm,Zn,Zo,Zp,Zq,Zv,Zw,Zy,Z0,ZA,ZI,ZL,ZN,ZQ,ZR,ZS,ZW,ZY,ZZ,Ya,Yb,Yc,Ye,Yf,Yi,Yj,Yk,Yn,Yo,Yp,Yx,Y4,Y6,Y7,Y8,Y9,YG,YK,YO,YP,YU,YX,Xi,Xo,Xp,Xs,Xt,Xu,Xy,Xz,XI,XJ,XM,XN,XO,We,Wg,Wi,Wj,Wm,Wr,Wt,Wu,Wv,Ww,Wx,Wy,Wz,WB,WL,WM,WO,WP,WX,Va,Vb,Vc,Vh,Vi,Vk,Vv,Vw,Vx,Vy,V8,VA,VB,VC,VD,VE,VF,VG,VH,VI,VJ,VK,VL,VN,VO,VP,VQ,VR,VS,VT,VU,VV,VW,VX,VY,VZ,Ua,Ub,Ue,Uf,Ug,Uk,Ul,Un,Uo,Ur,Ut,Uu,Uv,Uy,Uz,U0,U1,U2,U3,U4,U5,UB,UC,UD,UG,UH,UJ,UK,UL,UM,UN,UQ,UR,US,UU,UV,UW,UX,UY,UZ,Tb,Tc,Te,Tf,Tg,Th,Ti,Tj,Tm,Tn,Tp,Tq,Ts,Tu,Tw,Ty,Tz,TA,TB,TE,TF,TG,TH,TJ,TK,TL,TM,TN,TO,TP,TQ,TR,TS,TT,TU,TV,TW,TX,TY,TZ,Sa,Sc,Sd,Sp,Sq,Sz,S2,S3,S4,S5,S6,S7,S8,SB,SG,SJ,SK,SM,SN,SO,SP,SV,SW,SX,SY,Ri,Rj,Rl,Rm,R0,RA,RC,RF,RJ,Qo,Qr,Qt,Qw,QH,QI,QK,QL,QM,QN,Pj,Pk,Pl,Pm,Pn,Pv,e0]
     tactic =>
      unfold aCF at rd1 ⊢;rw[cS F.size (fun _=>[.pt 0 0,.pt 1 0,.pt 3 0]) (fun i=>b60 w0 xs (zR F xs i) F.size++[itB F i])]
      ·unfold itB b60
       generalize zR F xs F.size=N0 at *;(exact aBY e0 nl ch f1 @fM @fN @fO @qJ @jO @jK @jQ @jU @jV)
      ·unfold itB b60
       rw[aVh];(exact RS9 @fM @fN @fO @qJ @jO @jK @jQ @jU @jV)
      ·exact rd1
      ·unfold itB b60
       (exact xY e0 @fM @fN @fO @qJ @jO @jK @jQ @jU @jV)
   ·unfold itB b60
    (exact RS9 @fM @fN @fO @qJ @jO @jK @jQ @jU @jV)
   ·exact rd0
   ·unfold itB b60
    (exact xY e0 @fM @fN @fO @qJ @jO @jK @jQ @jU @jV)
end
section
variable{F w0 line:ByteArray}{xs W:List ByteArray}{v:AV}
theorem aPI:∀ p∈fmL,aEH p.2:=by
 have h:∀ p∈fmL,∀ i,i<p.2.size→dn p.2 i=i+1:=by
  intro p hp;have:(fmL.all fun p=>(List.range p.2.size).all fun i=>dn p.2 i==i+1)=true:=by kernel_rfl
  intro i hi;have h1:=C3.1 (C3.1 this p hp) i (G4.2 hi);exact beq_iff_eq.1 h1
 exact fun p hp=>⟨h p hp⟩
theorem aPH:∀ p∈fmL,p.2.size≤4:=by
 have:(fmL.all fun p=>decide (p.2.size≤4))=true:=by kernel_rfl
 intro p hp;exact of_decide_eq_true (C3.1 this p hp)
end
structure Ln(line w0:ByteArray)(xs:List ByteArray)(F:ByteArray):Prop where
 hs:line.size≤40
 hw:fQ line=w0::xs
 hf:bK true (.str w0) fmE=some (some (.str F))
 ws:Ws F xs
section
variable{F w0 line x y z o:ByteArray}{xs W:List ByteArray}{v:AV}
theorem aGZ(F:ByteArray)(xs:List ByteArray)(n:Nat)(h:F.size=n):zR F xs F.size=(List.range n).map fun j=>if dk F j=110 then (gJ (xs.getD j ByteArray.empty)).getD 0 else 0:=by
 unfold zR;rw[h];apply M3;intro j hj;have:=G4.1 hj;simp[this]
theorem f2n(k1:dk F 1=110)(hb:eZ x=true)(h0:F.size=2)(j:Nat)(hj:j<F.size):dk F j=110∨eZ ([x,y].getD j ByteArray.empty)=true:=by
 rcases (by omega:j=0∨j=1)with rfl|rfl;·exact .inr hb
 ·exact .inl k1
theorem f2c(l:Ln line w0 [x,y] F)(h0:F.size=2)(k0:dk F 0≠110)(k1:dk F 1=110)(hb:eZ x=true){a:Int}(hy:gJ y=some a):runW aD 60 [.str line] []=some (.agg [.str w0,.fs [[.str x],[.str y]],.fs [[I 0],[I a]]],[]):=by
 have h:=w60 l.hs l.hw l.hf l.ws (f2n k1 hb h0) (fun j hj hk=>by
  rcases (by omega:j=0∨j=1)with rfl|rfl;·exact absurd hk k0
  ·exact⟨a,hy⟩)
 rw[aGZ F [x,y] 2 h0]at h;have e:(List.range 2).map (fun j=>if dk F j=110 then (gJ ([x,y].getD j ByteArray.empty)).getD 0 else 0)=[0,a]:=by
  show [if dk F 0=110 then _ else (0:Int),if dk F 1=110 then (gJ y).getD 0 else (0:Int)]=_;rw[if_neg k0,if_pos k1,hy];rfl
 rw[e]at h;exact h
theorem f3n(k1:dk F 1=110)(k2:dk F 2=110)(hb:eZ x=true)(h0:F.size=3)(j:Nat)(hj:j<F.size):dk F j=110∨eZ ([x,y,z].getD j ByteArray.empty)=true:=by
 rcases (by omega:j=0∨j=1∨j=2)with rfl|rfl|rfl;·exact .inr hb
 ·exact .inl k1
 ·exact .inl k2
theorem f3c(l:Ln line w0 [x,y,z] F)(h0:F.size=3)(k0:dk F 0≠110)(k1:dk F 1=110)(k2:dk F 2=110)(hb:eZ x=true){a b:Int}(hy:gJ y=some a)(hz:gJ z=some b):runW aD 60 [.str line] []=some (.agg [.str w0,.fs [[.str x],[.str y],[.str z]],.fs [[I 0],[I a],[I b]]],[]):=by
 have h:=w60 l.hs l.hw l.hf l.ws (f3n k1 k2 hb h0) (fun j hj hk=>by
  rcases (by omega:j=0∨j=1∨j=2)with rfl|rfl|rfl;·exact absurd hk k0
  ·exact⟨a,hy⟩
  ·exact⟨b,hz⟩)
 rw[aGZ F [x,y,z] 3 h0]at h;have e:(List.range 3).map (fun j=>if dk F j=110 then (gJ ([x,y,z].getD j ByteArray.empty)).getD 0 else 0)=[0,a,b]:=by
  show [if dk F 0=110 then _ else (0:Int),if dk F 1=110 then (gJ y).getD 0 else (0:Int),if dk F 2=110 then (gJ z).getD 0 else (0:Int)]=_;rw[if_neg k0,if_pos k1,if_pos k2,hy,hz];rfl
 rw[e]at h;exact h
theorem f4n(k1:dk F 1=110)(k2:dk F 2=110)(hb:eZ x=true)(ho:eZ o=true)(h0:F.size=4)(j:Nat)(hj:j<F.size):dk F j=110∨eZ ([x,y,z,o].getD j ByteArray.empty)=true:=by
 rcases (by omega:j=0∨j=1∨j=2∨j=3)with rfl|rfl|rfl|rfl;·exact .inr hb
 ·exact .inl k1
 ·exact .inl k2
 ·exact .inr ho
theorem f4c(l:Ln line w0 [x,y,z,o] F)(h0:F.size=4)(k0:dk F 0≠110)(k1:dk F 1=110)(k2:dk F 2=110)(k3:dk F 3≠110)(hb:eZ x=true)(ho:eZ o=true){a b:Int}(hy:gJ y=some a)(hz:gJ z=some b):runW aD 60 [.str line] []=some (.agg [.str w0,.fs [[.str x],[.str y],[.str z],[.str o]],.fs [[I 0],[I a],[I b],[I 0]]],[]):=by
 have h:=w60 l.hs l.hw l.hf l.ws (f4n k1 k2 hb ho h0) (fun j hj hk=>by
  rcases (by omega:j=0∨j=1∨j=2∨j=3)with rfl|rfl|rfl|rfl;·exact absurd hk k0
  ·exact⟨a,hy⟩
  ·exact⟨b,hz⟩
  ·exact absurd hk k3)
 rw[aGZ F [x,y,z,o] 4 h0]at h;have e:(List.range 4).map (fun j=>if dk F j=110 then (gJ ([x,y,z,o].getD j ByteArray.empty)).getD 0 else 0)=[0,a,b,0]:=by
  show [if dk F 0=110 then _ else (0:Int),if dk F 1=110 then (gJ y).getD 0 else (0:Int),if dk F 2=110 then (gJ z).getD 0 else (0:Int),if dk F 3=110 then _ else (0:Int)]=_;rw[if_neg k0,if_pos k1,if_pos k2,if_neg k3,hy,hz];rfl
 rw[e]at h;exact h
end
abbrev Uq(a:Nat):AV:=.int .u64 (a:Int)
def big(k:IntKind):Prop:=k = .u64∨k = .i64
theorem wO:big .u64:=.inl rfl
theorem wP{k:IntKind}(h:big k):k.bits=64:=by rcases h with rfl|rfl<;>rfl
theorem mM{k:IntKind}(h:big k){a:Nat}(ha:a<2^63):k.wrap (a:Int)=(a:Int):=by
 rcases h with rfl|rfl;·simp[IntKind.wrap,IntKind.bits,IntKind.signed];omega
 ·simp[IntKind.wrap,IntKind.bits,IntKind.signed];omega
theorem lR{w:Nat}(a:Nat):BitVec.ofInt w (a:Int)=BitVec.ofNat w a:=by
 apply BitVec.eq_of_toNat_eq;simp
theorem aNs{k:IntKind}(h:big k){a b:Nat}(ha:a<2^63)(hb:b<2^63):nC .and k (a:Int) (b:Int)=((a&&&b:Nat):Int):=by
 unfold nC;dsimp only;rw[lR,lR,wP h,BitVec.toNat_and,BitVec.toNat_ofNat,BitVec.toNat_ofNat,J3 (by omega),J3 (by omega)];exact mM h (O4 aF4 ha)
theorem aQb{k:IntKind}(h:big k){a b:Nat}(ha:a<2^63)(hb:b<2^63):nC .or k (a:Int) (b:Int)=((a|||b:Nat):Int):=by
 unfold nC;dsimp only;rw[lR,lR,wP h,BitVec.toNat_or,BitVec.toNat_ofNat,BitVec.toNat_ofNat,J3 (by omega),J3 (by omega)];exact mM h (Nat.or_lt_two_pow ha hb)
def dif(a b:Nat):Nat:=a&&&(2^64-(b+1))
theorem aSy(a b:Nat):dif a b≤a:=aF4
theorem aNr{k:IntKind}(h:big k){a b:Nat}(ha:a<2^63)(hb:b<2^63):nC .andNot k (a:Int) (b:Int)=((dif a b:Nat):Int):=by
 unfold nC;dsimp only;rw[lR,lR,wP h,BitVec.toNat_and,BitVec.toNat_not,BitVec.toNat_ofNat,BitVec.toNat_ofNat,J3 (by omega),J3 (by omega),show 2^64-1-b=2^64-(b+1) by omega];exact mM h (O4 (aSy a b) ha)
theorem aIH{a b:Nat}(hb:b<2^64){i:Nat}:(dif a b).testBit i=(a.testBit i&&(decide (i<64) && !b.testBit i)):=by
 unfold dif;rw[Nat.testBit_and,Nat.testBit_two_pow_sub_succ hb]
theorem aNt{a n:Nat}(h:a<2^n){i:Nat}(hi:n≤i):a.testBit i=false:=Nat.testBit_lt_two_pow (E7 h (G9 (by omega) hi))
theorem aDO{k:IntKind}(h:big k){i:Nat}(hi:i<63):k.wrap (1*2^min i k.bits)=((2^i:Nat):Int):=by
 rw[wP h,Nat.min_eq_left (by omega),Int.one_mul,show (2:Int)^i=((2^i:Nat):Int) by norm_cast];exact mM h (N6 (by omega) hi)
theorem aVe{a i n:Nat}(ha:a<2^n)(hi:i<n):a|||2^i<2^n:=Nat.or_lt_two_pow ha (N6 (by omega) hi)
def el(a:Nat):List Nat:=(List.range 10).filter (a.testBit ·)
def aMr(a:Nat):Nat:=(el a).headD 0
def tzq(a:Nat):Bool:=match bV aD 6 175 [Uq a] []with
 | some (.int .i64 n,[])=>decide (n=(aMr a:Nat))
 | _=>false
theorem aRm:((List.range 1024).all fun a=>a==0||tzq a)=true:=by kernel_rfl
theorem aXp{a:Nat}(ha:a<1024)(h0:a≠0):runW aD 175 [Uq a] []=some (I (aMr a:Nat),[]):=by
 have h:=C3.1 aRm a (G4.2 ha);have h1:(a==0)=false:=by simp[h0]
 rw[h1,aG0]at h;unfold tzq at h;refine eW.2 ⟨6,?_⟩;revert h;generalize bV aD 6 175 [Uq a] []=r;intro h;match r,h with
 | some (.int .i64 n,[]),h=>rw[of_decide_eq_true h]
theorem aIG:∀ a:Nat,a<1024→a≠0→el a=aMr a::el (a&&&(a-1)):=by decide +kernel
theorem bAY:∀ a:Nat,a<1024→(el a=[]↔a=0):=by decide +kernel
theorem aSv{a k:Nat}:k∈el a↔k<10∧a.testBit k=true:=by simp[el]
def zE(a:Nat):Nat→Nat
 | 0=>a
 | i+1=>zE a i&&&(zE a i-1)
theorem aBI{a:Nat}(ha:a<1024):∀ i,zE a i<1024
 | 0=>ha
 | i+1=>by rw[zE];exact O4 aF4 (aBI ha i)
theorem aHx{a:Nat}(ha:a<1024):∀ i,el (zE a i)=(el a).drop i
 | 0=>rfl
 | i+1=>by
   have ih:=aHx ha i;rw[zE];by_cases h0:zE a i=0
   ·rw[h0]at ih ⊢
    have e0:el 0=[]:=rfl;rw[show (0&&&(0-1))=0 from rfl,e0];rw[e0]at ih;have:=AAq List.length ih;rw[I1,aE5]at this;exact(aE9 (by omega)).symm
   ·rw[aIG _ (aBI ha i) h0]at ih
    rw[←List.drop_drop,←ih];rfl
theorem aSA{a:Nat}(ha:a<1024){i:Nat}(hi:i<(el a).length):zE a i≠0∧(el a)[i]?=some (aMr (zE a i)):=by
 have h:=aHx ha i;have h0:zE a i≠0:=fun hc=>by
  rw[hc,show el 0=[] from rfl]at h;have:=AAq List.length h;rw[I1,aE5]at this;omega
 refine⟨h0,?_⟩;rw[aIG _ (aBI ha i) h0]at h;have:=AAq (fun l=>l[0]?) h;simpa using this.symm
theorem aPQ{a:Nat}(ha:a<1024):zE a (el a).length=0:=by
 have h:=aHx ha (el a).length;rw[List.drop_length]at h;exact(bAY _ (aBI ha _)).1 h
end Go.Proofs.YtmapgnepfgnphaaGreatDoor
