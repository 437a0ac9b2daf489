/- Parts of a proof, joined. No statement of the seed is proved here. -/
import Derived.Test.YtfcdcgplogojbaaGreatDoorH6
set_option linter.unusedSimpArgs false
set_option linter.unusedVariables false
set_option linter.unusedSectionVars false
set_option maxRecDepth 100000
set_option maxHeartbeats 4000000
namespace Go.Proofs.YtfcdcgplogojbaaGreatDoor
open Go Go.DL
section
variable{h h' h1:XH}{L:CL}{s:CSt}
theorem Fr.set{J:List Nat}(f:Fr J h h1){b:Nat}(hb:b∈J)(x:Option XB):Fr J h (h1.set b x):=⟨λj hj hn=>by
 have hne:j≠b:=λq=>hn (q▸hb);have:aH (h1.set b x) j=aH h1 j:=by simp only[aH,PQ,if_neg hne]
 rw[this];exact f.keep j hj hn,by rw[G6];exact f.len⟩
theorem Fr.add{J:List Nat}(f:Fr J h h1)(k:XH):Fr J h (h1++k):=f.trans ((Fr.app h1 k).mono λ_ hb=>by cases hb)
namespace Lays
theorem setC(ly:Lays h L s){tb' kb' cl:Nat}{te':List Nat}{ks:List zH}{bk:List ByteArray}(hc':aH h' L.c=some (.cells true [.pt L.f.o 0,.pt L.m.o 0,.pt L.p.o 0,.pt L.w.o 0,iX tb' ks.length,I cl,iX kb' bk.length]))(tk':Tk h' tb' te' ks)(bk':0<bk.length->aH h' kb'=some (.cells true (bk.map .str)))
 (fr:Fr (L.c::((pL L.tb s.tickets.length++L.te)++pL L.kb s.book.length)) h h') (s1:∀ b,b∈pL tb' ks.length++te'->b∈pL L.tb s.tickets.length++L.te\/h.length<=b) (s2:∀ b,b∈pL kb' bk.length->b∈pL L.kb s.book.length\/h.length<=b) (s12:∀ b,b∈pL tb' ks.length++te'->b∈pL kb' bk.length->b<h.length) :
 Lays h' { L with tb:=tb',te:=te',kb:=kb' } { s with tickets:=ks,closed:=cl,book:=bk }:=by
 have aCc:∀ j b,3<=j->b∈px L s j->b∉L.c::((pL L.tb s.tickets.length++L.te)++pL L.kb s.book.length):=λj b hj hb hm=>by
  rw[C4,C8]at hm;rcases hm with rfl|hm|hm;·exact ly.off (i:=j) (j:=0) AS hb (by simp[px])
  .exact ly.off (i:=j) (j:=1) AS hb hm
  .exact ly.off (i:=j) (j:=2) AS hb hm
 refine⟨hc',tk',bk',ly.f.fr fr λb hb=>aCc 3 b (by decide) (by rw[B8]at hb;exact hb),ly.m.fr fr λb hb=>aCc 4 b (by decide) (by rw[B8]at hb;exact hb),ly.p.fr fr λb hb=>aCc 5 b (by decide) (by rw[B8]at hb;exact hb),ly.w.fr fr λb hb=>aCc 6 b (by decide) (by rw[B8]at hb;exact hb),?_⟩;refine aBs (· < 3) ly.dj ly.lt (λj hj=>?_) (λj b hj hb=>?_) (λi j b hi hj h1 h2 hn=>?_)
 .unfold px
  grind
 .match j,hj with
  | 0,_=>exact .inl hb
  | 1,_=>exact s1 b hb
  | 2,_=>exact s2 b hb
 .have c0:∀ b,b∈px { L with tb:=tb',te:=te',kb:=kb' } { s with tickets:=ks,closed:=cl,book:=bk } 0->b<h.length:=λb hb=>by
   have hb:b=L.c:=by simpa [px]using hb
   subst hb;exact aI ly.hc
  match i,hi,j,hj with
  | 0,_,0,_=>rfl
  | 1,_,1,_=>rfl
  | 2,_,2,_=>rfl
  | 0,_,1,_=>grind
  | 0,_,2,_=>grind
  | 1,_,0,_=>grind
  | 2,_,0,_=>grind
  | 1,_,2,_=>have:=s12 b h1 h2;omega
  | 2,_,1,_=>have:=s12 b h2 h1;omega
theorem cNe(ly:Lays h L s):(∀ b∈pL L.tb s.tickets.length++L.te,b≠L.c)/\(∀ b∈pL L.kb s.book.length,b≠L.c)/\∀ b,b∈pL L.tb s.tickets.length++L.te->b∉pL L.kb s.book.length :=
 ⟨λb hb q=>ly.off (i:=1) (j:=0) (by decide) hb (by simp[px,q]),λb hb q=>ly.off (i:=2) (j:=0) (by decide) hb (by simp[px,q]),λb hb=>ly.off (i:=1) (j:=2) (by decide) hb⟩
theorem bookApp(ly:Lays h L s){kb':Nat}{line:ByteArray}(hn:h.length<=kb')(hc':aH h' L.c=some (.cells true (cL { L with kb:=kb' } { s with book:=s.book++[line] })))(hb':aH h' kb'=some (.cells true (s.book.map .str++[.str line])))(fr:Fr (L.c::pL L.kb s.book.length) h h') :
 Lays h' { L with kb:=kb' } { s with book:=s.book++[line] }:=by
 have fr2:Fr (L.c::((pL L.tb s.tickets.length++L.te)++pL L.kb s.book.length)) h h':=fr.mono λb hb=>by
  grind
 refine ly.setC (tb':=L.tb) (te':=L.te) (ks:=s.tickets) (cl:=s.closed) hc' (ly.tk.fr fr λb hb hm=>?_) (λ_=>by grind) fr2 (λb hb=>.inl hb) (λb hb=>.inr ?_) (λb hb hb2=>ly.tk.lt hb)
 .rw[C4]at hm
  rcases hm with hm|hm;·exact ly.cNe.1 b hb hm
  .exact ly.cNe.2.2 b hb hm
 grind [cG]
theorem tickApp(ly:Lays h L s){tb' e:Nat}{k:zH}(he:h.length<=e)(hn:h.length<=tb')(hne:tb'≠e)(hc':aH h' L.c=some (.cells true (cL { L with tb:=tb' } { s with tickets:=s.tickets++[k] })))(hb':aH h' tb'=some (.cells true (L.te.map (λe=>.pt e 0)++[.pt e 0])))(hk':aH h' e=some (.cells true (tkC k)))(fr:Fr (L.c::pL L.tb s.tickets.length) h h') :
 Lays h' { L with tb:=tb',te:=L.te++[e] } { s with tickets:=s.tickets++[k] }:=by
 have fr2:Fr (L.c::((pL L.tb s.tickets.length++L.te)++pL L.kb s.book.length)) h h':=fr.mono λb hb=>by
  grind
 have tl:=ly.tk.lts.2;have tkeep:∀ b∈L.te,aH h' b=aH h b:=λb hb=>fr.keep b (tl b hb) λhm=>by
  rw[C4,cG]at hm;rcases hm with hm|⟨hk,hm⟩;·exact ly.cNe.1 b (N5 _ hb) hm
  .exact ly.tk.nb hk (hm▸hb)
 refine ly.setC (kb':=L.kb) (cl:=s.closed) (bk:=s.book) hc' ⟨by simp[ly.tk.el],λ_=>by grind,λi e' k' hi hk=>?_,?_,λ_ hm=>?_⟩ (λhk=>?_) fr2 (λb hb=>?_) (λb hb=>.inl hb) (λb hb hb2=>?_)
 .by_cases hl:i<L.te.length
  .rw[aE0 hl]at hi
   rw[aE0 (by rw[<-ly.tk.el];exact hl)]at hk;rw[tkeep e' (B3 hi)];exact ly.tk.he i e' k' hi hk
  .rw[I8 AS]at hi
   rw[I8 (by rw[<-ly.tk.el];omega),<-ly.tk.el]at hk
   grind
 .rw[aE7]
  refine⟨ly.tk.nd,by simp,λa ha b hb=>?_⟩
  grind
 .grind
 .have hl:=aI (ly.bk hk)
  rw[fr.keep L.kb hl λhm=>?_];·exact ly.bk hk
  .rw[C4]at hm
   rcases hm with hm|hm;·exact ly.cNe.2.1 _ (cG.2 ⟨hk,rfl⟩) hm
   .exact ly.cNe.2.2 _ (I3 _ hm) (cG.2 ⟨hk,rfl⟩)
 .grind [cG]
 .rw[cG]at hb2
  obtain⟨hk,rfl⟩:=hb2;exact aI (ly.bk hk)
theorem close(ly:Lays h L s){cl:Nat}(hc':aH h' L.c=some (.cells true (cL L { s with closed:=cl })))(fr:Fr [L.c] h h'):Lays h' L { s with closed:=cl }:=by
 have fr2:Fr (L.c::((pL L.tb s.tickets.length++L.te)++pL L.kb s.book.length)) h h':=fr.mono λb hb=>by
  grind
 refine ly.setC (tb':=L.tb) (te':=L.te) (kb':=L.kb) (ks:=s.tickets) (bk:=s.book) hc' (ly.tk.fr fr λb hb hm=>?_) (λhk=>?_) fr2 (λb hb=>.inl hb) (λb hb=>.inl hb) (λb hb hb2=>ly.tk.lt hb);·rw[D2]at hm;exact ly.cNe.1 b hb hm
 .rw[fr.keep L.kb (aI (ly.bk hk)) λhm=>ly.cNe.2.1 _ (cG.2 ⟨hk,rfl⟩) (by grind)];exact ly.bk hk
theorem tickSet(ly:Lays h L s){i e:Nat}{k:zH}{g:Bool}(he:L.te[i]?=some e):Lays (h.set e (some (.blk g (.cells true (tkC k))))) L { s with tickets:=s.tickets.set i k }:=by
 have hm:=B3 he;have el:=ly.tk.lts.2 e hm;have fr0:Fr [e] h (h.set e (some (.blk g (.cells true (tkC k))))):=(Fr.refl [e] h).set (by simp) _;have fr2:Fr (L.c::((pL L.tb s.tickets.length++L.te)++pL L.kb s.book.length)) h (h.set e (some (.blk g (.cells true (tkC k))))):=fr0.mono λb hb=>by
  grind
 have hne:∀ b,b≠e->aH (h.set e (some (.blk g (.cells true (tkC k))))) b=aH h b:=λb hb=>by rw[cR,if_neg hb]
 have hll:(s.tickets.set i k).length=s.tickets.length:=G6;refine ly.setC (tb':=L.tb) (te':=L.te) (kb':=L.kb) (ks:=s.tickets.set i k) (cl:=s.closed) (bk:=s.book) ?_ ⟨by rw[hll];exact ly.tk.el,λhk=>?_,λj e' k' hj hk=>?_,ly.tk.nd,λhk=>ly.tk.nb AS⟩ (λhk=>?_) fr2 (λb hb=>.inl (by grind)) (λb hb=>.inl hb) (λb hb hb2=>ly.tk.lt (by grind));·rw[hne L.c (Ne.symm (ly.cNe.1 e (N5 _ hm))),hll];exact ly.hc
 .rw[hll]at hk
  rw[hne L.tb λq=>ly.tk.nb hk (q▸hm)];exact ly.tk.hb hk
 .by_cases hij:j=i
  .subst hij
   rw[he]at hj;cases hj;have hl:j<s.tickets.length:=by grind
   rw[aB5 hl]at hk;cases hk;rw[cR,if_pos rfl,if_pos el]
  .rw[List.getElem?_set_ne (λq=>hij q.symm)]at hk
   rw[hne e' λq=>hij ((aE6 (B6.1 hj).1 ly.tk.nd).1 (hj.trans (q▸he.symm)))];exact ly.tk.he j e' k' hj hk
 .rw[hne L.kb λq=>ly.cNe.2.2 e (N5 _ hm) (cG.2 ⟨hk,q.symm⟩)];exact ly.bk hk
end Lays
end
section
variable{h h' h1:XH}{L:CL}{s:CSt}{x:ByteArray}
def iE:List (ByteArray×Int)->ByteArray->Int->List (ByteArray×Int)
 | [],x,d=>[(x,d)]
 | (k,v)::r,x,d=>if k=x then (k,v+d)::r else (k,v)::iE r x d
theorem gX{d v:Int}:∀{l:List (ByteArray×Int)}{i:Nat},bR (l.map (·.1)) x=some i->(l.map (·.2))[i]?=some v->iE l x d=l.set i (x,v+d)
 | [],i,h,_=>by cases h
 | (k,w)::r,i,h,hv=>by
   have h2:(if k=x then some 0 else (bR (r.map (·.1)) x).map (· + 1))=some i:=h;unfold iE;by_cases e:k=x;·grind
   .rw[if_neg e]at h2 ⊢
    rw[B2]at h2;obtain⟨j,hj,rfl⟩:=h2;rw[gX (l:=r) hj (by simpa using hv)];rfl
theorem aCd{d:Int}:∀{l:List (ByteArray×Int)},bR (l.map (·.1)) x=none->iE l x d=l++[(x,d)]
 | [],_=>rfl
 | (k,w)::r,h=>by
   have h2:(if k=x then some 0 else (bR (r.map (·.1)) x).map (· + 1))=none:=h;unfold iE;by_cases e:k=x;·grind
   .rw[if_neg e]at h2 ⊢
    rw[O8]at h2;rw[aCd h2];rfl
theorem lD{α β:Type}{f:α->β}{l:List α}{i:Nat}{a:α}{b:β}(h:(l.map f)[i]?=some b)(hf:f a=b):(l.set i a).map f=l.map f:=by
 grind [List.map_set,List.set_getElem_self]
def zF(L:CL)(s:CSt):List Nat:=px L s 0++(px L s 1++(px L s 2++(px L s 3++(px L s 4++(px L s 5++px L s 6)))))
theorem bI{b:Nat}:b∈zF L s↔∃ j,b∈px L s j:=by
 unfold zF;simp only[C8];constructor;·grind
 .rintro ⟨j,h⟩
  match j with
  | 0=>exact .inl h
  | 1=>grind
  | 2=>grind
  | 3=>grind
  | 4=>grind
  | 5=>grind
  | 6=>grind
  | _+7=>cases h
theorem aBk{l:OL}{n b:Nat}:b∈idx l n↔b=l.o\/b=l.m\/(0<n/\b=l.b)\/b∈l.es:=by
 unfold idx
 grind
theorem oK{l:OL}{n k:Nat}{b:Nat}(hb:b∈idx ⟨l.o,l.m,k+1,l.es++[k+2]⟩ n){m:Nat}:b∈idx l m\/k<=b:=by
 grind [aBk]
def Sb(N:Nat)(L:CL)(s:CSt)(L':CL)(s':CSt):Prop:=∀ b,b∈zF L' s'->b∈zF L s\/N<=b
theorem Sb.of{N:Nat}{L L':CL}{s s':CSt}(h0:L'.c=L.c)(h1:∀ b,b∈pL L'.tb s'.tickets.length++L'.te->b∈pL L.tb s.tickets.length++L.te\/N<=b)(h2:∀ b,b∈pL L'.kb s'.book.length->b∈pL L.kb s.book.length\/N<=b)
 (h3:∀ b,b∈idx L'.f s'.farmers.length->b∈idx L.f s.farmers.length\/N<=b) (h4:∀ b,b∈idx L'.m s'.meters.length->b∈idx L.m s.meters.length\/N<=b) (h5:∀ b,b∈idx L'.p s'.pans.length->b∈idx L.p s.pans.length\/N<=b) (h6:∀ b,b∈idx L'.w s'.wagons.length->b∈idx L.w s.wagons.length\/N<=b):Sb N L s L' s':=λb hb=>by
 obtain⟨j,hj⟩:=bI.1 hb;match j,hj with
 | 0,hj=>exact .inl (bI.2 ⟨0,by simpa [px,h0]using hj⟩)
 | 1,hj=>exact(h1 b hj).imp (λq=>bI.2 ⟨1,q⟩) id
 | 2,hj=>exact(h2 b hj).imp (λq=>bI.2 ⟨2,q⟩) id
 | 3,hj=>exact(h3 b hj).imp (λq=>bI.2 ⟨3,q⟩) id
 | 4,hj=>exact(h4 b hj).imp (λq=>bI.2 ⟨4,q⟩) id
 | 5,hj=>exact(h5 b hj).imp (λq=>bI.2 ⟨5,q⟩) id
 | 6,hj=>exact(h6 b hj).imp (λq=>bI.2 ⟨6,q⟩) id
 | _+7,hj=>cases hj
theorem dE{l:OL}{n n' N:Nat}(h:n'=n):∀ b,b∈idx l n'->b∈idx l n\/N<=b:=by grind
theorem aDr{t n n' N:Nat}{te:List Nat}(h:n'=n):∀ b,b∈pL t n'++te->b∈pL t n++te\/N<=b:=by grind
theorem wO{t n n' N:Nat}(h:n'=n):∀ b,b∈pL t n'->b∈pL t n\/N<=b:=by grind
theorem Fr.keepS{J:List Nat}(f:Fr J h h1){b:Nat}{c:ABlk}(hb:aH h b=some c)(hn:b∉J):aH h1 b=some c:=by
 rw[f.keep b (aI hb) hn];exact hb
def aAv(c:Nat)(x:ByteArray)(a b:Int):XH:=[ab [.pt c 0],aa [.str x],aa [I a],aa [I b]]
theorem w94(ly:Lays h L s){a b:Int}(hab:b<=a)(hf:(decide (bR (s.pans.map (·.1)) x=none)&&decide (((s.pans.map (·.1)).length:Int)=5))=false) :
 runW aB 71 [.pt L.c 0,.str x,I a,I b] h=some (.fn (.func 115) [] [.pt h.length 0,.pt (h.length+1) 0,.pt (h.length+2) 0,.pt (h.length+3) 0],h++aAv L.c x a b):=by
 obtain⟨n,hn⟩:∃ n,h.length=n:=⟨_,rfl⟩;obtain⟨g,hc⟩:=aC ly.hc;unfold cL at hc;have cn:(L.c<n)=True:=AAn (by rw[<-hn];exact aI ly.hc);have f1:=(ly.p.fr (Fr.app h (aAv L.c x a b)) (λ_ _ hb=>by cases hb)).fullp (x:=x) (by decide);rw[hf]at f1;have m1:=zC 10;have m2:=zC 15;have t1:(b<=a)=True:=AAn hab;rw[qY 71 x71 rfl,hn];unfold x71;dsimp only;unfold aAv at f1 ⊢;(exact iS hc hn cn f1 m1 m2 t1)
theorem bFc(ly:Lays h L s){a b:Int}(hab:¬b<=a):CalP Tryz.prog aB 71 [.pt L.c 0,.str x,I a,I b] h (.ifc 48 (.agg [I 10])) (h++aAv L.c x a b):=by
 refine CalP.of (d:=x71) (e':=aY [] []) aA rfl (by simp[x71]) rfl ?_;unfold x71;dsimp only;obtain⟨n,hn⟩:∃ n,h.length=n:=⟨_,rfl⟩;have t1:(b<=a)=False:=AAo hab;refine PanX.seqR (K:=71) aA rfl [4,5,6,7] (vs:=[.pt n 0,.pt (n+1) 0,.pt (n+2) 0,.pt (n+3) 0]) (h1:=h++aAv L.c x a b) (by rw[hn];unfold aAv; (exact cI hn)) ?_;refine PanX.seqL ?_;exact PanX.reg (p:=[⟨0,some 9,.load false 1 (.t 7),none⟩,⟨0,some 10,.load false 1 (.t 6),none⟩,⟨0,some 11,.bin .leq (.t 9) (.t 10),none⟩]) (post:=[]) aA [] (g:=24) (first:=[]) (cap:=[]) (args:=[.bool false,I 10]) (vs:=[]) rfl rfl (by unfold aAv; (exact kJ hn t1)) (c58 10 _)
theorem bFb(ly:Lays h L s){a b:Int}(hab:b<=a)(hf:(decide (bR (s.pans.map (·.1)) x=none)&&decide (((s.pans.map (·.1)).length:Int)=5))=true):CalP Tryz.prog aB 71 [.pt L.c 0,.str x,I a,I b] h (.ifc 48 (.agg [I 15])) (h++aAv L.c x a b):=by
 refine CalP.of (d:=x71) (e':=aY [] []) aA rfl (by simp[x71]) rfl ?_;unfold x71;dsimp only;obtain⟨n,hn⟩:∃ n,h.length=n:=⟨_,rfl⟩;obtain⟨g,hc⟩:=aC ly.hc;unfold cL at hc;have cn:(L.c<n)=True:=AAn (by rw[<-hn];exact aI ly.hc);have f1:=(ly.p.fr (Fr.app h (aAv L.c x a b)) (λ_ _ hb=>by cases hb)).fullp (x:=x) (by decide);rw[hf]at f1;have m1:=zC 10;have t1:(b<=a)=True:=AAn hab;refine PanX.seqR (K:=71) aA rfl [4,5,6,7] (vs:=[.pt n 0,.pt (n+1) 0,.pt (n+2) 0,.pt (n+3) 0]) (h1:=h++aAv L.c x a b) (by rw[hn];unfold aAv; (exact cI hn)) ?_;refine PanX.seqR (K:=71) aA rfl [4,5,6,7] (vs:=[.pt n 0,.pt (n+1) 0,.pt (n+2) 0,.pt (n+3) 0]) (h1:=h++aAv L.c x a b) (by unfold aAv; (exact vC hn t1 m1)) ?_;refine PanX.seqL ?_;exact PanX.regU (fr:=[]) (p:=[⟨0,some 13,.load false 1 (.t 4),none⟩,⟨1,some 14,.nilck (.t 13),none⟩,⟨2,some 15,.fld 2 (.t 14),none⟩,⟨3,some 16,.load false 1 (.t 15),none⟩,⟨4,some 17,.load false 1 (.t 5),none⟩,⟨5,some 18,.callf false (.c (.fn (.func 114) [] [])) [(.t 16),(.t 17)] [],none⟩,⟨6,some 19,.not (.t 18),none⟩]) (post:=[]) aA [] (g:=24) (first:=[]) (cap:=[]) (args:=[.bool false,I 15]) (vs:=[]) rfl rfl rfl (by unfold aAv at f1 ⊢; (exact rR hc hn cn f1)) (c58 15 _)
def Out(L:CL)(s:CSt)(bs:List Nat):Prop:=∀ b∈bs,b∉zF L s
theorem Lays.px_out(ly:Lays h L s){bs:List Nat}(o:Out L s bs){j b:Nat}(hb:b∈bs):b∉px L s j:=λhm=>o b hb (bI.2 ⟨j,hm⟩)
theorem Fr.px{j:Nat}(f:Fr (px L s j) h h'):Fr (zF L s) h h':=f.mono λb hb=>bI.2 ⟨j,hb⟩
theorem Lays.oldP(ly:Lays h L s){i e:Nat}{v d:Int}{g:Bool}(hx:bR (s.pans.map (·.1)) x=some i)(hv:(s.pans.map (·.2))[i]?=some v)(he:L.p.es[i]?=some e):Lays (h.set e (some (.blk g (.cells true [I (v+d)])))) L { s with pans:=iE s.pans x d }:=by
 obtain⟨u1,u2⟩:=ly.p.upd (v:=[I (v+d)]) (g:=g) he;have hm:e∈idx L.p s.pans.length:=aBk.2 (.inr (.inr (.inr (B3 he))));have ha:=gX (d:=d) hx hv;have hk:(s.pans.set i (x,v+d)).map (·.1)=s.pans.map (·.1):=lD (dG hx) rfl;rw[ha];refine ly.setp (l':=L.p) (xs:=s.pans.set i (x,v+d)) ?_ (u2.mono λb hb=>by grind) (λb hb=>.inl (by grind)) rfl
 simp_all
theorem Fr.setNew{J:List Nat}(f:Fr J h h1){b:Nat}(hb:h.length<=b)(y:Option XB):Fr J h (h1.set b y):=⟨λj hj hn=>by
 have hne:j≠b:=AS
 have:aH (h1.set b y) j=aH h1 j:=by simp only[aH,PQ,if_neg hne]
 rw[this];exact f.keep j hj hn,by rw[G6];exact f.len⟩
theorem Lays.newP(ly:Lays h L s){d:Int}{g:Bool}(hx:bR (s.pans.map (·.1)) x=none)(od:Od h1 ⟨L.p.o,L.p.m,h.length+1,L.p.es++[h.length+2]⟩ (s.pans.map (·.1)++[x]) (s.pans.map (λp=>[I p.2])++[[I 0]]) 5)(fr:Fr (idx L.p s.pans.length) h h1) :
 Lays (h1.set (h.length+2) (some (.blk g (.cells true [I d])))) { L with p:=⟨L.p.o,L.p.m,h.length+1,L.p.es++[h.length+2]⟩ } { s with pans:=iE s.pans x d }/\Fr (idx L.p s.pans.length) h (h1.set (h.length+2) (some (.blk g (.cells true [I d])))):=by
 have fr2:Fr (idx L.p s.pans.length) h (h1.set (h.length+2) (some (.blk g (.cells true [I d])))):=fr.setNew AS _;refine⟨?_,fr2⟩;have hl:L.p.es.length=s.pans.length:=by rw[ly.p.ek,B8]
 have he:(L.p.es++[h.length+2])[s.pans.length]?=some (h.length+2):=by
  grind
 obtain⟨u1,u2⟩:=od.upd (v:=[I d]) (g:=g) he;rw[aCd (d:=d) hx];refine ly.setp (l':=⟨L.p.o,L.p.m,h.length+1,L.p.es++[h.length+2]⟩) (xs:=s.pans++[(x,d)]) ?_ fr2 (λb hb=>?_) rfl;all_goals grind [aBk]
theorem bCs(ly:Lays h L s){b0 b1 b2 b3:Nat}{a b:Int}(o:Out L s [b0,b1,b2,b3])(k0:aH h b0=some (.cells true [.pt L.c 0]))(k1:aH h b1=some (.cells true [.str x]))(k2:aH h b2=some (.cells true [I a]))(k3:aH h b3=some (.cells true [I b]))(hab:0<=b/\b<=a/\a<=99999)(sm:∀ p∈s.pans,0<=p.2/\p.2<=1000000000)(hl:s.pans.length<=1000) :
 ∃ h' L',runW aB 115 [.pt b0 0,.pt b1 0,.pt b2 0,.pt b3 0] h=some (.tup [],h')/\Lays h' L' { s with pans:=iE s.pans x (a-b) }/\L'.c=L.c/\Fr (zF L s) h h'/\Sb h.length L s L' { s with pans:=iE s.pans x (a-b) }:=by
 obtain⟨g0,j0⟩:=aC k0;obtain⟨g1,j1⟩:=aC k1;obtain⟨g4,hc⟩:=aC ly.hc;unfold cL at hc;have a1:IntKind.i64.wrap (a-b)=a-b:=aE AS AS;cases hx:bR (s.pans.map (·.1)) x with
 | some i =>
   obtain⟨e,v,he,hv,hev,call⟩:=ly.p.oldp hx;have hv2:∃ v0,(s.pans.map (·.2))[i]?=some v0/\v=[I v0]:=by
    grind
   obtain⟨v0,hv0,rfl⟩:=hv2;have hb:0<=v0/\v0<=1000000000:=by
    grind
   obtain⟨g5,he5⟩:=aC hev;obtain⟨g2,j2⟩:=aC k2;obtain⟨g3,j3⟩:=aC k3;have a2:IntKind.i64.wrap (v0+(a-b))=v0+(a-b):=aE AS AS;refine⟨_,L,?_,ly.oldP (g:=g5) (d:=a-b) hx hv0 he,rfl,Fr.px (j:=5) ((Fr.refl _ h).set (aBk.2 (.inr (.inr (.inr (B3 he))))) _),.of rfl (aDr rfl) (wO rfl) (dE rfl) (dE rfl) (dE (by rw[gX hx hv0,G6])) (dE rfl)⟩;rw[qY 115 aMw rfl];unfold aMw;dsimp only;(exact kN j0 j1 j2 j3 hc call he5 a1 a2)
 | none =>
   obtain⟨h1,call,hl1,od1,fr1⟩:=ly.p.newp hx (by grind);rw[B8]at fr1;obtain⟨g2,j2⟩:=aC (fr1.keepS k2 (ly.px_out (j:=5) o (by simp)));obtain⟨g3,j3⟩:=aC (fr1.keepS k3 (ly.px_out (j:=5) o (by simp)));obtain⟨g6,i0⟩:=aC (fr1.keepS k0 (ly.px_out (j:=5) o (by simp)));obtain⟨g7,i1⟩:=aC (fr1.keepS k1 (ly.px_out (j:=5) o (by simp)));obtain⟨g8,ic⟩:=aC (fr1.keepS ly.hc (ly.off (i:=0) (j:=5) (by decide) (by simp[px])));have hll:L.p.es.length=s.pans.length:=by rw[ly.p.ek,B8]
   have he1:(L.p.es++[h.length+2])[s.pans.length]?=some (h.length+2):=by
    grind
   obtain⟨g5,he5⟩:=aC (od1.he (i:=s.pans.length) (v:=[I 0]) he1 (by grind));have a2:IntKind.i64.wrap (0+(a-b))=a-b:=by grind
   obtain⟨z1,z2⟩:=ly.newP (d:=a-b) (g:=g5) hx od1 fr1;refine⟨_,_,?_,z1,rfl,Fr.px (j:=5) z2,.of rfl (aDr rfl) (wO rfl) (dE rfl) (dE rfl) (λb hb=>oK hb) (dE rfl)⟩;rw[qY 115 aMw rfl];unfold aMw;dsimp only;(exact eK j0 j1 j2 j3 i0 i1 ic hc call he5 a1 a2 aF)
theorem aBl{l:OL}{n i e:Nat}(he:l.es[i]?=some e):e∈idx l n:=aBk.2 (.inr (.inr (.inr (B3 he))))
theorem rF{α:Type}{l:List (ByteArray×α)}{i:Nat}(h:bR (l.map (·.1)) x=some i):∃ y,l[i]?=some (x,y):=by
 have h1:=dG h
 grind
theorem Lays.oldF(ly:Lays h L s){i e:Nat}{y:Int}{g:Bool}(hx:bR (s.farmers.map (·.1)) x=some i)(he:L.f.es[i]?=some e):Lays (h.set e (some (.blk g (.cells true [I y])))) L { s with farmers:=s.farmers.set i (x,y) }:=by
 obtain⟨u1,u2⟩:=ly.f.upd (v:=[I y]) (g:=g) he;have hk:(s.farmers.set i (x,y)).map (·.1)=s.farmers.map (·.1):=lD (dG hx) rfl;refine ly.setf (l':=L.f) (xs:=s.farmers.set i (x,y)) ?_ (u2.mono λb hb=>by grind [aBl]) (λb hb=>.inl (by grind)) rfl
 simp_all
theorem Lays.addF(ly:Lays h L s)(od:Od h1 ⟨L.f.o,L.f.m,h.length+1,L.f.es++[h.length+2]⟩ (s.farmers.map (·.1)++[x]) (s.farmers.map (λp=>[I p.2])++[[I 0]]) 9)(fr:Fr (idx L.f s.farmers.length) h h1) :
 Lays h1 { L with f:=⟨L.f.o,L.f.m,h.length+1,L.f.es++[h.length+2]⟩ } { s with farmers:=s.farmers++[(x,(0:Int))] }:=by
 refine ly.setf (l':=⟨L.f.o,L.f.m,h.length+1,L.f.es++[h.length+2]⟩) (xs:=s.farmers++[(x,(0:Int))]) ?_ fr (λb hb=>oK hb) rfl
 grind
theorem Lays.newF(ly:Lays h L s){y:Int}{g:Bool}(od:Od h1 ⟨L.f.o,L.f.m,h.length+1,L.f.es++[h.length+2]⟩ (s.farmers.map (·.1)++[x]) (s.farmers.map (λp=>[I p.2])++[[I 0]]) 9)(fr:Fr (idx L.f s.farmers.length) h h1) :
 Lays (h1.set (h.length+2) (some (.blk g (.cells true [I y])))) { L with f:=⟨L.f.o,L.f.m,h.length+1,L.f.es++[h.length+2]⟩ } { s with farmers:=s.farmers++[(x,y)] }/\Fr (idx L.f s.farmers.length) h (h1.set (h.length+2) (some (.blk g (.cells true [I y])))):=by
 have fr2:Fr (idx L.f s.farmers.length) h (h1.set (h.length+2) (some (.blk g (.cells true [I y])))):=fr.setNew AS _;refine⟨?_,fr2⟩;have hl:L.f.es.length=s.farmers.length:=by rw[ly.f.ek,B8]
 have he:(L.f.es++[h.length+2])[s.farmers.length]?=some (h.length+2):=by
  grind
 obtain⟨u1,u2⟩:=od.upd (v:=[I y]) (g:=g) he;refine ly.setf (l':=⟨L.f.o,L.f.m,h.length+1,L.f.es++[h.length+2]⟩) (xs:=s.farmers++[(x,y)]) ?_ fr2 (λb hb=>oK hb) rfl
 grind
theorem Lays.oldM(ly:Lays h L s){i e:Nat}{y:Int×Int}{g:Bool}(hx:bR (s.meters.map (·.1)) x=some i)(he:L.m.es[i]?=some e):Lays (h.set e (some (.blk g (.cells true [I y.1,I y.2])))) L { s with meters:=s.meters.set i (x,y) }:=by
 obtain⟨u1,u2⟩:=ly.m.upd (v:=[I y.1,I y.2]) (g:=g) he;have hk:(s.meters.set i (x,y)).map (·.1)=s.meters.map (·.1):=lD (dG hx) rfl;refine ly.setm (l':=L.m) (xs:=s.meters.set i (x,y)) ?_ (u2.mono λb hb=>by grind [aBl]) (λb hb=>.inl (by grind)) rfl
 simp_all
theorem Lays.newM(ly:Lays h L s){y:Int×Int}{g:Bool}(od:Od h1 ⟨L.m.o,L.m.m,h.length+1,L.m.es++[h.length+2]⟩ (s.meters.map (·.1)++[x]) (s.meters.map (λp=>[I p.2.1,I p.2.2])++[[I 0,I 0]]) 5)(fr:Fr (idx L.m s.meters.length) h h1) :
 Lays (h1.set (h.length+2) (some (.blk g (.cells true [I y.1,I y.2])))) { L with m:=⟨L.m.o,L.m.m,h.length+1,L.m.es++[h.length+2]⟩ } { s with meters:=s.meters++[(x,y)] }/\Fr (idx L.m s.meters.length) h (h1.set (h.length+2) (some (.blk g (.cells true [I y.1,I y.2])))):=by
 have fr2:Fr (idx L.m s.meters.length) h (h1.set (h.length+2) (some (.blk g (.cells true [I y.1,I y.2])))):=fr.setNew AS _;refine⟨?_,fr2⟩;have hl:L.m.es.length=s.meters.length:=by rw[ly.m.ek,B8]
 have he:(L.m.es++[h.length+2])[s.meters.length]?=some (h.length+2):=by
  grind
 obtain⟨u1,u2⟩:=od.upd (v:=[I y.1,I y.2]) (g:=g) he;refine ly.setm (l':=⟨L.m.o,L.m.m,h.length+1,L.m.es++[h.length+2]⟩) (xs:=s.meters++[(x,y)]) ?_ fr2 (λb hb=>oK hb) rfl
 grind
theorem Lays.newW(ly:Lays h L s){y:Int}{g:Bool}(od:Od h1 ⟨L.w.o,L.w.m,h.length+1,L.w.es++[h.length+2]⟩ (s.wagons.map (·.1)++[x]) (s.wagons.map (λp=>[I p.2])++[[I 0]]) 300)(fr:Fr (idx L.w s.wagons.length) h h1) :
 Lays (h1.set (h.length+2) (some (.blk g (.cells true [I y])))) { L with w:=⟨L.w.o,L.w.m,h.length+1,L.w.es++[h.length+2]⟩ } { s with wagons:=s.wagons++[(x,y)] }/\Fr (idx L.w s.wagons.length) h (h1.set (h.length+2) (some (.blk g (.cells true [I y])))):=by
 have fr2:Fr (idx L.w s.wagons.length) h (h1.set (h.length+2) (some (.blk g (.cells true [I y])))):=fr.setNew AS _;refine⟨?_,fr2⟩;have hl:L.w.es.length=s.wagons.length:=by rw[ly.w.ek,B8]
 have he:(L.w.es++[h.length+2])[s.wagons.length]?=some (h.length+2):=by
  grind
 obtain⟨u1,u2⟩:=od.upd (v:=[I y]) (g:=g) he;refine ly.setw (l':=⟨L.w.o,L.w.m,h.length+1,L.w.es++[h.length+2]⟩) (xs:=s.wagons++[(x,y)]) ?_ fr2 (λb hb=>oK hb) rfl
 grind
def nO{α:Type}(f:α->α)(z:α)(x:ByteArray):List (ByteArray×α)->List (ByteArray×α)
 | []=>[(x,z)]
 | (k,v)::r=>if k=x then (k,f v)::r else (k,v)::nO f z x r
theorem oS{α:Type}{f:α->α}{z v:α}:∀{l:List (ByteArray×α)}{i:Nat},bR (l.map (·.1)) x=some i->l[i]?=some (x,v)->nO f z x l=l.set i (x,f v)
 | [],i,h,_=>by cases h
 | (k,w)::r,i,h,hv=>by
   have h2:(if k=x then some 0 else (bR (r.map (·.1)) x).map (· + 1))=some i:=h;unfold nO;by_cases e:k=x;·grind
   .rw[if_neg e]at h2 ⊢
    rw[B2]at h2;obtain⟨j,hj,rfl⟩:=h2;rw[oS (l:=r) hj hv];rfl
theorem sV{α:Type}{f:α->α}{z:α}:∀{l:List (ByteArray×α)},bR (l.map (·.1)) x=none->nO f z x l=l++[(x,z)]
 | [],_=>rfl
 | (k,w)::r,h=>by
   have h2:(if k=x then some 0 else (bR (r.map (·.1)) x).map (· + 1))=none:=h;unfold nO;by_cases e:k=x;·grind
   .rw[if_neg e]at h2 ⊢
    rw[O8]at h2;rw[sV h2];rfl
def mtr(n:Int)(y:Int×Int):Int×Int:=(n,y.2+(n-y.1+100000)%100000)
def aHP(c:Nat)(x:ByteArray)(a:Int):XH:=[ab [.pt c 0],aa [.str x],aa [I a]]
theorem w93(ly:Lays h L s){a:Int}(hf:(decide (bR (s.meters.map (·.1)) x=none)&&decide (((s.meters.map (·.1)).length:Int)=5))=false) :
 runW aB 70 [.pt L.c 0,.str x,I a] h=some (.fn (.func 112) [] [.pt h.length 0,.pt (h.length+1) 0,.pt (h.length+2) 0],h++aHP L.c x a):=by
 obtain⟨n,hn⟩:∃ n,h.length=n:=⟨_,rfl⟩;obtain⟨g,hc⟩:=aC ly.hc;unfold cL at hc;have cn:(L.c<n)=True:=AAn (by rw[<-hn];exact aI ly.hc);have f1:=(ly.m.fr (Fr.app h (aHP L.c x a)) (λ_ _ hb=>by cases hb)).fullm (x:=x) (by decide);rw[hf]at f1;have m2:=zC 15;rw[qY 70 x70 rfl,hn];unfold x70;dsimp only;unfold aHP at f1 ⊢;(exact qR hc hn cn f1 @m2)
theorem c93(ly:Lays h L s){a:Int}(hf:(decide (bR (s.meters.map (·.1)) x=none)&&decide (((s.meters.map (·.1)).length:Int)=5))=true):CalP Tryz.prog aB 70 [.pt L.c 0,.str x,I a] h (.ifc 48 (.agg [I 15])) (h++aHP L.c x a):=by
 refine CalP.of (d:=x70) (e':=aY [] []) aA rfl (by simp[x70]) rfl ?_;unfold x70;dsimp only;obtain⟨n,hn⟩:∃ n,h.length=n:=⟨_,rfl⟩;obtain⟨g,hc⟩:=aC ly.hc;unfold cL at hc;have cn:(L.c<n)=True:=AAn (by rw[<-hn];exact aI ly.hc);have f1:=(ly.m.fr (Fr.app h (aHP L.c x a)) (λ_ _ hb=>by cases hb)).fullm (x:=x) (by decide);rw[hf]at f1;refine PanX.seqR (K:=70) aA rfl [3,4,5] (vs:=[.pt n 0,.pt (n+1) 0,.pt (n+2) 0]) (h1:=h++aHP L.c x a) (by rw[hn];unfold aHP; (exact cI hn)) ?_;refine PanX.seqL ?_;exact PanX.regU (fr:=[]) (p:=[⟨0,some 7,.load false 1 (.t 3),none⟩,⟨1,some 8,.nilck (.t 7),none⟩,⟨2,some 9,.fld 1 (.t 8),none⟩,⟨3,some 10,.load false 1 (.t 9),none⟩,⟨4,some 11,.load false 1 (.t 4),none⟩,⟨5,some 12,.callf false (.c (.fn (.func 111) [] [])) [(.t 10),(.t 11)] [],none⟩,⟨6,some 13,.not (.t 12),none⟩]) (post:=[]) aA [] (g:=24) (first:=[]) (cap:=[]) (args:=[.bool false,I 15]) (vs:=[]) rfl rfl rfl (by unfold aHP at f1 ⊢; (exact rR hc hn cn f1)) (c58 15 _)
theorem bCt(ly:Lays h L s){b0 b1 b2:Nat}{n:Int}(o:Out L s [b0,b1,b2])(k0:aH h b0=some (.cells true [.pt L.c 0]))(k1:aH h b1=some (.cells true [.str x]))(k2:aH h b2=some (.cells true [I n]))(hn:0<=n/\n<=99999)(sm:∀ p∈s.meters,0<=p.2.1/\p.2.1<=99999/\0<=p.2.2/\p.2.2<=1000000000)(hl:s.meters.length<=1000) :
 ∃ h' L',runW aB 112 [.pt b0 0,.pt b1 0,.pt b2 0] h=some (.tup [],h')/\Lays h' L' { s with meters:=nO (mtr n) (n,0) x s.meters }/\L'.c=L.c/\Fr (zF L s) h h'/\Sb h.length L s L' { s with meters:=nO (mtr n) (n,0) x s.meters }:=by
 obtain⟨g0,j0⟩:=aC k0;obtain⟨g1,j1⟩:=aC k1;obtain⟨g4,hc⟩:=aC ly.hc;unfold cL at hc;rcases hx:bR (s.meters.map (·.1)) x with _|i
 case' some =>
  obtain⟨e,v,he,hv,hev,call⟩:=ly.m.oldm hx;obtain⟨⟨a,b⟩,hy⟩:=rF hx;rw[C3,hy]at hv;cases hv;have hb:=sm _ (B3 hy);simp only at hb;have hev:aH h e=some (.cells true [I a,I b]):=hev;obtain⟨g5,he5⟩:=aC hev;obtain⟨g2,j2⟩:=aC k2;have be:(b2=e)=False:=AAo λq=>ly.px_out (j:=4) o (b:=b2) (by simp) (q▸aBl he);have a1:IntKind.i64.wrap (n-a)=n-a:=aE AS AS;have a2:IntKind.i64.wrap (n-a+99999)=n-a+99999:=aE AS AS;have a3:IntKind.i64.wrap (n-a+99999+1)=n-a+100000:=by grind [aE]
  have a4:IntKind.i64.wrap ((n-a+100000)%100000)=(n-a+100000)%100000:=aE AS AS;have a5:IntKind.i64.wrap (b+(n-a+100000)%100000)=b+(n-a+100000)%100000:=aE AS AS;have a6:tmZ (n-a+100000) 100000=(n-a+100000)%100000:=Int.tmod_eq_emod_of_nonneg AS;have el:e<h.length:=aI hev;have et:(e<h.length)=True:=AAn el;rw[oS (f:=mtr n) (z:=(n,0)) hx hy];refine⟨_,L,?_,ly.oldM (g:=g5) (y:=mtr n (a,b)) hx he,rfl,Fr.px (j:=4) ((Fr.refl _ h).set (aBl he) _),.of rfl (aDr rfl) (wO rfl) (dE rfl) (dE (by grind)) (dE rfl) (dE rfl)⟩;rw[qY 112 aMx rfl];unfold aMx mtr;dsimp only;sym =>
   simp[cN,cO,eZ,Za,Zb,Zc,Ze,Zf,Zh,Zi,Zl,Zm,Zv,Z9,ZA,ZE,ZG,ZR,ZW,ZX,ZZ,Ya,Yb,Yc,Ye,Yj,Yk,Yn,Ys,Yu,Y7,Y8,Y9,Xz,Wh,Vi,Vp,V2,V6,V7,V9,VF,VG,VH,VI,Ux,Uz,U0,UX,UZ,Tb,Tg,Tl,Tm,Tn,Tr,Ts,Tt,Tu,Tv,Tw,Tz,T2,T8,TB,TC,TD,TF,TK,TL,TM,TS,TT,TZ,Sa,Sc,SA,SC,SG,SI,SJ,SV,SX,SZ,Rc,Rk,Rl,QL,PH,PJ,PL,PQ,PZ,Ob,j0,j1,j2,hc,call,he5,a1,a2,a3,et,be,List.set_set]
   tactic =>
    grind
 case' none =>
  obtain⟨h1,call,hl1,od1,fr1⟩:=ly.m.newm hx (by grind);rw[B8]at fr1;obtain⟨g2,j2⟩:=aC (fr1.keepS k2 (ly.px_out (j:=4) o (by simp)));obtain⟨g6,i0⟩:=aC (fr1.keepS k0 (ly.px_out (j:=4) o (by simp)));obtain⟨g7,i1⟩:=aC (fr1.keepS k1 (ly.px_out (j:=4) o (by simp)));obtain⟨g8,ic⟩:=aC (fr1.keepS ly.hc (ly.off (i:=0) (j:=4) (by decide) (by simp[px])));have hll:L.m.es.length=s.meters.length:=by rw[ly.m.ek,B8]
  have he1:(L.m.es++[h.length+2])[s.meters.length]?=some (h.length+2):=by
   grind
  obtain⟨g5,he5⟩:=aC (od1.he (i:=s.meters.length) (v:=[I 0,I 0]) he1 (by grind));rw[sV (f:=mtr n) (z:=(n,0)) hx];obtain⟨z1,z2⟩:=ly.newM (y:=(n,0)) (g:=g5) od1 fr1;refine⟨_,_,?_,z1,rfl,Fr.px (j:=4) z2,.of rfl (aDr rfl) (wO rfl) (dE rfl) (λb hb=>oK hb) (dE rfl) (dE rfl)⟩;rw[qY 112 aMx rfl];unfold aMx;dsimp only;(exact kN j0 j1 j2 i0 i1 ic hc call he5)
theorem w88(ly:Lays h L s){b0 b1:Nat}{f z:AV}(o:Out L s [b0,b1])(k0:aH h b0=some (.cells true [.pt L.c 0]))(k1:aH h b1=some (.cells true [f,.fs [[.str x]],z]))(hx:bR (s.farmers.map (·.1)) x=none)(hl:s.farmers.length<=1000) :
 ∃ h' L',runW aB 65 [.pt b0 0,.pt b1 0] h=some (.tup [],h')/\Lays h' L' { s with farmers:=s.farmers++[(x,0)] }/\L'.c=L.c/\Fr (zF L s) h h'/\Sb h.length L s L' { s with farmers:=s.farmers++[(x,0)] }:=by
 obtain⟨g0,j0⟩:=aC k0;obtain⟨g1,j1⟩:=aC k1;obtain⟨g4,hc⟩:=aC ly.hc;unfold cL at hc;obtain⟨h1,call,hl1,od1,fr1⟩:=ly.f.newf hx (by grind);rw[B8]at fr1;obtain⟨g6,i0⟩:=aC (fr1.keepS k0 (ly.px_out (j:=3) o (by simp)));obtain⟨g7,i1⟩:=aC (fr1.keepS k1 (ly.px_out (j:=3) o (by simp)));obtain⟨g8,ic⟩:=aC (fr1.keepS ly.hc (ly.off (i:=0) (j:=3) (by decide) (by simp[px])));refine⟨_,_,?_,ly.addF od1 fr1,rfl,Fr.px (j:=3) fr1,.of rfl (aDr rfl) (wO rfl) (λb hb=>oK hb) (dE rfl) (dE rfl) (dE rfl)⟩;rw[qY 65 x65 rfl];unfold x65;dsimp only;(exact iS j0 j1 hc call i0 i1 ic)
theorem fD{b n:Nat}(h:0<n):iX b n = .sl b 0 1 n:=by
 grind [iX]
theorem w92(ly:Lays h L s){b0:Nat}(k0:aH h b0=some (.cells true [.pt L.c 0]))(hk:0<s.tickets.length) :
 ∃ h',runW aB 69 [.pt b0 0] h=some (.tup [],h')/\Lays h' L { s with closed:=s.tickets.length }/\Fr (zF L s) h h':=by
 obtain⟨g0,j0⟩:=aC k0;obtain⟨g4,hc⟩:=aC ly.hc;unfold cL at hc;rw[fD hk]at hc;have cl:=aI ly.hc;have fr:Fr [L.c] h (h.set L.c (some (.blk g4 (.cells true (cL L { s with closed:=s.tickets.length }))))):=(Fr.refl _ h).set (by simp) _;refine⟨_,?_,ly.close (cl:=s.tickets.length) (by rw[cR,if_pos rfl,if_pos cl]) fr,Fr.px (j:=0) fr⟩;rw[qY 69 x69 rfl];unfold x69 cL;dsimp only;have hv:=fD (b:=L.tb) hk;(exact vC j0 hc hv)
def aKT(c e:Nat):XH:=[ab [.pt c 0],ab [.pt e 0]]
theorem Tk.at{tb:Nat}{te:List Nat}{ks:List zH}(t:Tk h tb te ks){i:Nat}{k:zH}(hk:ks[i]?=some k):∃ e,te[i]?=some e/\aH h e=some (.cells true (tkC k))/\aH h tb=some (.cells true (te.map λe=>.pt e 0))/\i<te.length:=by
 have hl:i<ks.length:=(B6.1 hk).1;have h2:i<te.length:=by rw[t.el];exact hl
 have he:=B7 h2;exact⟨_,he,t.he i _ k he hk,t.hb AS,h2⟩
theorem w91(ly:Lays h L s){i:Nat}{k:zH}(hk:s.tickets[i]?=some k)(hv:k.void=false)(hcl:s.closed<=i) :
 ∃ e,L.te[i]?=some e/\runW aB 68 [.pt L.c 0,I i] h=some (.fn (.func 110) [] [.pt (h.length+1) 0,.pt h.length 0],h++aKT L.c e):=by
 obtain⟨n,hn⟩:∃ n,h.length=n:=⟨_,rfl⟩;obtain⟨e,he,hke,hb,hi⟩:=ly.tk.at hk;have hl:i<s.tickets.length:=by grind
 obtain⟨g,hc⟩:=aC ly.hc;unfold cL at hc;rw[fD AS]at hc;obtain⟨g1,hb1⟩:=aC hb;obtain⟨g2,hk2⟩:=aC hke;unfold tkC at hk2;rw[hv]at hk2;have cn:(L.c<n)=True:=AAn (by rw[<-hn];exact aI ly.hc);have bn:(L.tb<n)=True:=AAn (by rw[<-hn];exact aI hb);have en:(e<n)=True:=AAn (by rw[<-hn];exact aI hke);have t1:((i:Int)<(s.tickets.length:Int))=True:=AAa;have t2:((s.closed:Int)<=(i:Int))=True:=AAa;have m1:=zC 5;have m2:=zC 6;have m3:=zC 23;have mp:(some e).map (λe=>AV.pt e 0)=some (.pt e 0):=rfl;refine⟨e,he,?_⟩;rw[qY 68 x68 rfl,hn];unfold x68 aKT;dsimp only;(exact eD hc hn cn bn en hb1 hk2 t1 t2 m1 m2 m3 he mp aF aF aF aF aF aF)
theorem bFf(ly:Lays h L s){i:Nat}(hi:s.tickets.length<=i):CalP Tryz.prog aB 68 [.pt L.c 0,I i] h (.ifc 48 (.agg [I 5])) (h++[ab [.pt L.c 0]]):=by
 refine CalP.of (d:=x68) (e':=aY [] []) aA rfl (by simp[x68]) rfl ?_;unfold x68;dsimp only;obtain⟨n,hn⟩:∃ n,h.length=n:=⟨_,rfl⟩;obtain⟨g,hc⟩:=aC ly.hc;unfold cL at hc;have cn:(L.c<n)=True:=AAn (by rw[<-hn];exact aI ly.hc);refine PanX.seqR (K:=68) aA rfl [1,2] (vs:=[I i,.pt n 0]) (h1:=h++[ab [.pt L.c 0]]) (by rw[hn]; (exact cI hn)) ?_;refine PanX.seqL ?_;refine PanX.reg (p:=[⟨0,some 6,.mv (.t 1),none⟩,⟨0,some 7,.load false 1 (.t 2),none⟩,⟨0,some 8,.nilck (.t 7),none⟩,⟨0,some 9,.fld 4 (.t 8),none⟩,⟨0,some 10,.load false 1 (.t 9),none⟩,⟨0,some 11,.len false (.t 10),none⟩,⟨0,some 12,.bin .lss (.t 6) (.t 11),none⟩]) (post:=[]) aA [] (g:=24) (first:=[]) (cap:=[]) (args:=[.bool false,I 5]) (vs:=[]) rfl rfl ?_ (c58 5 _);by_cases hk:0<s.tickets.length
 .rw[fD hk]at hc
  have t1:((i:Int)<(s.tickets.length:Int))=False:=AAb;(exact rR hc hn cn t1)
 .have h0:s.tickets.length=0:=AS
  have hv:iX L.tb s.tickets.length = .nilsl:=by rw[h0];rfl
  rw[hv]at hc;have t1:((i:Int)<0)=False:=AAb;(exact rR hc hn cn t1)
theorem bFe(ly:Lays h L s){i:Nat}{k:zH}(hk:s.tickets[i]?=some k)(hv:k.void=true):∃ e,CalP Tryz.prog aB 68 [.pt L.c 0,I i] h (.ifc 48 (.agg [I 6])) (h++aKT L.c e):=by
 obtain⟨n,hn⟩:∃ n,h.length=n:=⟨_,rfl⟩;obtain⟨e,he,hke,hb,hi⟩:=ly.tk.at hk;have hl:i<s.tickets.length:=by grind
 obtain⟨g,hc⟩:=aC ly.hc;unfold cL at hc;rw[fD AS]at hc;obtain⟨g1,hb1⟩:=aC hb;obtain⟨g2,hk2⟩:=aC hke;unfold tkC at hk2;rw[hv]at hk2;have cn:(L.c<n)=True:=AAn (by rw[<-hn];exact aI ly.hc);have bn:(L.tb<n)=True:=AAn (by rw[<-hn];exact aI hb);have en:(e<n)=True:=AAn (by rw[<-hn];exact aI hke);have t1:((i:Int)<(s.tickets.length:Int))=True:=AAa;have m1:=zC 5;have mp:(some e).map (λe=>AV.pt e 0)=some (.pt e 0):=rfl;refine⟨e,CalP.of (d:=x68) (e':=aY [] []) aA rfl (by simp[x68]) rfl ?_⟩;unfold x68 aKT;dsimp only;refine PanX.seqR (K:=68) aA rfl [1,2] (vs:=[I i,.pt n 0]) (h1:=h++[ab [.pt L.c 0]]) (by rw[hn]; (exact cI hn)) ?_;refine PanX.seqR (K:=68) aA rfl [1,2] (vs:=[I i,.pt n 0]) (h1:=h++[ab [.pt L.c 0]]) (by (exact qR hc hn cn t1 m1)) ?_;refine PanX.seqR (K:=68) aA rfl [1,2,5] (vs:=[I i,.pt n 0,.pt (n+1) 0]) (h1:=h++[ab [.pt L.c 0],ab [.pt e 0]]) (by (exact gZ hc hn cn bn en hb1 hk2 t1 he mp)) ?_;refine PanX.seqL ?_;exact PanX.reg (p:=[⟨0,some 21,.load false 1 (.t 5),none⟩,⟨0,some 22,.nilck (.t 21),none⟩,⟨0,some 23,.fld 3 (.t 22),none⟩,⟨0,some 24,.load false 1 (.t 23),none⟩,⟨0,some 25,.not (.t 24),none⟩]) (post:=[]) aA [] (g:=24) (first:=[]) (cap:=[]) (args:=[.bool false,I 6]) (vs:=[]) rfl rfl (by (exact vC hn en hk2)) (c58 6 _)
theorem bFd(ly:Lays h L s){i:Nat}{k:zH}(hk:s.tickets[i]?=some k)(hv:k.void=false)(hcl:i<s.closed):∃ e,CalP Tryz.prog aB 68 [.pt L.c 0,I i] h (.ifc 48 (.agg [I 23])) (h++aKT L.c e):=by
 obtain⟨n,hn⟩:∃ n,h.length=n:=⟨_,rfl⟩;obtain⟨e,he,hke,hb,hi⟩:=ly.tk.at hk;have hl:i<s.tickets.length:=by grind
 obtain⟨g,hc⟩:=aC ly.hc;unfold cL at hc;rw[fD AS]at hc;obtain⟨g1,hb1⟩:=aC hb;obtain⟨g2,hk2⟩:=aC hke;unfold tkC at hk2;rw[hv]at hk2;have cn:(L.c<n)=True:=AAn (by rw[<-hn];exact aI ly.hc);have bn:(L.tb<n)=True:=AAn (by rw[<-hn];exact aI hb);have en:(e<n)=True:=AAn (by rw[<-hn];exact aI hke);have t1:((i:Int)<(s.tickets.length:Int))=True:=AAa;have t2:((s.closed:Int)<=(i:Int))=False:=AAb;have m1:=zC 5;have m2:=zC 6;have mp:(some e).map (λe=>AV.pt e 0)=some (.pt e 0):=rfl;refine⟨e,CalP.of (d:=x68) (e':=aY [] []) aA rfl (by simp[x68]) rfl ?_⟩;unfold x68 aKT;dsimp only;refine PanX.seqR (K:=68) aA rfl [1,2] (vs:=[I i,.pt n 0]) (h1:=h++[ab [.pt L.c 0]]) (by rw[hn]; (exact cI hn)) ?_;refine PanX.seqR (K:=68) aA rfl [1,2] (vs:=[I i,.pt n 0]) (h1:=h++[ab [.pt L.c 0]]) (by (exact qR hc hn cn t1 m1)) ?_;refine PanX.seqR (K:=68) aA rfl [1,2,5] (vs:=[I i,.pt n 0,.pt (n+1) 0]) (h1:=h++[ab [.pt L.c 0],ab [.pt e 0]]) (by (exact gZ hc hn cn bn en hb1 hk2 t1 he mp)) ?_;refine PanX.seqR (K:=68) aA rfl [1,2,5] (vs:=[I i,.pt n 0,.pt (n+1) 0]) (h1:=h++[ab [.pt L.c 0],ab [.pt e 0]]) (by (exact rR hn en hk2 m2)) ?_;refine PanX.seqL ?_;exact PanX.reg (p:=[⟨0,some 27,.mv (.t 1),none⟩,⟨0,some 28,.load false 1 (.t 2),none⟩,⟨0,some 29,.nilck (.t 28),none⟩,⟨0,some 30,.fld 5 (.t 29),none⟩,⟨0,some 31,.load false 1 (.t 30),none⟩,⟨0,some 32,.bin .geq (.t 27) (.t 31),none⟩]) (post:=[]) aA [] (g:=24) (first:=[]) (cap:=[]) (args:=[.bool false,I 23]) (vs:=[]) rfl rfl (by (exact rR hn cn hc t2)) (c58 23 _)
theorem bCu(ly:Lays h L s){b0 b1 i e j:Nat}{k:zH}{v:Int}(o:Out L s [b0,b1])(k0:aH h b0=some (.cells true [.pt e 0]))(k1:aH h b1=some (.cells true [.pt L.c 0]))(hk:s.tickets[i]?=some k)(he:L.te[i]?=some e)(hx:bR (s.farmers.map (·.1)) k.farmer=some j)(hy:s.farmers[j]?=some (k.farmer,v))(hb : -1000000000<=v/\v<=1000000000/\0<=k.net/\k.net<=99999) :
 ∃ h',runW aB 110 [.pt b0 0,.pt b1 0] h=some (.tup [],h')/\Lays h' L { s with tickets:=s.tickets.set i { k with void:=true },farmers:=iE s.farmers k.farmer (-k.net) }/\Fr (zF L s) h h':=by
 obtain⟨e',he',hke,hb1,hi⟩:=ly.tk.at hk;rw[he]at he';cases he';have em:=B3 he;obtain⟨g0,j0⟩:=aC k0;obtain⟨g1,j1⟩:=aC k1;obtain⟨g4,hc⟩:=aC ly.hc;obtain⟨g2,hk2⟩:=aC hke;have ly2:=ly.tickSet (k:={ k with void:=true }) (g:=g2) he;obtain⟨fe,v',hfe,hv',hfv,call⟩:=ly2.f.getf hx;rw[C3,hy]at hv';cases hv';have hfv:aH (h.set e (some (.blk g2 (.cells true (tkC { k with void:=true }))))) fe=some (.cells true [I v]):=hfv;obtain⟨g5,hf5⟩:=aC hfv;have el:(e<h.length)=True:=AAn (aI hke);have ep:e∈px L s 1:=N5 _ em;have fp:fe∈px L s 3:=aBl hfe;have n1:(b0=e)=False:=AAo λq=>ly.px_out (j:=1) o (b:=b0) (by simp) (q▸ep);have n2:(b1=e)=False:=AAo λq=>ly.px_out (j:=1) o (b:=b1) (by simp) (q▸ep);have n3:(L.c=e)=False:=AAo λq=>ly.off (i:=1) (j:=0) (by decide) ep (by simp[px,q]);have n4:(fe=e)=False:=AAo λq=>ly.off (i:=1) (j:=3) (by decide) ep (q▸fp);have a1:IntKind.i64.wrap (v-k.net)=v + -k.net:=by grind [aE]
 have z:=ly2.oldF (g:=g5) (y:=v + -k.net) hx hfe;have ha:=gX (d := -k.net) hx (by rw[C3,hy];rfl);refine⟨_,?_,by rw[ha];exact z,((Fr.refl _ h).set (bI.2 ⟨1,ep⟩) _).set (bI.2 ⟨3,fp⟩) _⟩;rw[qY 110 aSM rfl];unfold aSM;dsimp only;unfold cL at hc;unfold tkC at hk2 call hf5 ⊢;dsimp only at call hf5 ⊢;have so:∀ a:ByteArray,cP (.str a) (.str a)=true:=by intro a;simp[cP]
 have hf6:hat h fe=some (.blk g5 (.cells true [I v])):=by
  rw[PQ,if_neg (by rw[n4];exact id)]at hf5;exact hf5
 (exact eK j0 j1 hc hk2 call hf6 el n1 n2 n3 n4 a1 so)
def sR(h:XH)(b n:Nat):XH:=if n=0 then h else h.set b none
theorem xC{b n:Nat}:(sR h b n).length=h.length:=by
 unfold sR;grind
theorem aTQ{b n j:Nat}(hj:j∉pL b n):aH (sR h b n) j=aH h j:=by
 unfold sR
 grind [aGb,cG]
theorem Fr.off{J:List Nat}(f:Fr J h h1){b n:Nat}(hb:∀ j,j∈pL b n->j∈J):Fr J h (sR h1 b n):=by
 unfold sR;split;·exact f
 .rename_i hn
  exact f.set (hb b (cG.2 ⟨by omega,rfl⟩)) _
theorem aXs{h k:XH}(i:Nat):hat (h++k) (h.length+i)=hat k i:=by
 rw[PR,if_neg AS];congr 1;omega
theorem Lays.tickNew(ly:Lays h L s){k:zH}{g g1 g2 g3:Bool}{cs:List AV}(hcs:cs=cL { L with tb:=h.length+2 } { s with tickets:=s.tickets++[k] }) :
 Lays ((sR h L.tb s.tickets.length).set L.c (some (.blk g (.cells true cs)))++[some (.blk g1 (.cells true (tkC k))),some (.blk g2 (.cells true [.pt h.length 0])),some (.blk g3 (.cells true (L.te.map (λe=>.pt e 0)++[.pt h.length 0])))]) { L with tb:=h.length+2,te:=L.te++[h.length] } { s with tickets:=s.tickets++[k] } /\
  Fr (L.c::pL L.tb s.tickets.length) h ((sR h L.tb s.tickets.length).set L.c (some (.blk g (.cells true cs)))++[some (.blk g1 (.cells true (tkC k))),some (.blk g2 (.cells true [.pt h.length 0])),some (.blk g3 (.cells true (L.te.map (λe=>.pt e 0)++[.pt h.length 0])))]):=by
 subst hcs;have cl:=aI ly.hc
 have fr:Fr (L.c::pL L.tb s.tickets.length) h ((sR h L.tb s.tickets.length).set L.c (some (.blk g (.cells true (cL { L with tb:=h.length+2 } { s with tickets:=s.tickets++[k] }))))++[some (.blk g1 (.cells true (tkC k))),some (.blk g2 (.cells true [.pt h.length 0])),some (.blk g3 (.cells true (L.te.map (λe=>.pt e 0)++[.pt h.length 0])))]) :=
  (((Fr.refl _ h).off λj hj=>D8 _ hj).set aD3 _).add _
 refine⟨ly.tickApp (k:=k) (B5 _) AS AS ?_ ?_ ?_ fr,fr⟩;·rw[fZ,if_pos (by grind [xC]),cR,if_pos rfl,if_pos (by grind [xC])]
 .have hl:((sR h L.tb s.tickets.length).set L.c (some (.blk g (.cells true (cL { L with tb:=h.length+2 } { s with tickets:=s.tickets++[k] }))))).length=h.length:=by grind [xC]
  rw[fZ,hl,if_neg AS,show h.length+2-h.length=2 by omega];rfl
 .have hl:((sR h L.tb s.tickets.length).set L.c (some (.blk g (.cells true (cL { L with tb:=h.length+2 } { s with tickets:=s.tickets++[k] }))))).length=h.length:=by grind [xC]
  rw[fZ,hl,if_neg AS,show h.length-h.length=0 by omega];rfl
theorem Lays.tickNew2(ly:Lays h L s){k:zH}{n:Nat}{g g1 g2 g3:Bool}{cs:List AV}(hn:h.length=n)(hcs:cs=cL { L with tb:=n+2 } { s with tickets:=s.tickets++[k] })(hh:h'=(sR h L.tb s.tickets.length).set L.c (some (.blk g (.cells true cs)))++[some (.blk g1 (.cells true (tkC k))),some (.blk g2 (.cells true [.pt n 0])),some (.blk g3 (.cells true (L.te.map (λe=>.pt e 0)++[.pt n 0])))]) :
 Lays h' { L with tb:=n+2,te:=L.te++[n] } { s with tickets:=s.tickets++[k] }/\Fr (L.c::pL L.tb s.tickets.length) h h':=by
 subst hn hh;exact ly.tickNew hcs
def fF(s:CSt)(name owner:ByteArray)(full empty:Int):CSt :=
 { s with wagons:=nO id empty name s.wagons,farmers:=iE s.farmers owner (full-empty),tickets:=s.tickets++[⟨name,owner,full-empty,false⟩] }
theorem aOr(ly:Lays h L s){b0 b1 b2 b3 b4 b5 fe j i:Nat}{name owner:ByteArray}{full empty v:Int}(o:Out L s [b0,b1,b2,b3,b4,b5])(k0:aH h b0=some (.cells true [.pt L.c 0]))(k1:aH h b1=some (.cells true [.str name]))(k2:aH h b2=some (.cells true [I empty]))(k3:aH h b3=some (.cells true [.pt fe 0]))(k4:aH h b4=some (.cells true [I full]))(k5:aH h b5=some (.cells true [.str owner]))
 (hfe:L.f.es[j]?=some fe) (hj:bR (s.farmers.map (·.1)) owner=some j) (hy:s.farmers[j]?=some (owner,v)) (hb : -1000000000<=v/\v<=1000000000/\0<=empty/\empty<=full/\full<=99999) (hl:s.wagons.length<=1000) (hl2:s.tickets.length<=1000) (hx:bR (s.wagons.map (·.1)) name=some i) (ht:s.tickets.length=0) :
 ∃ h' L',runW aB 108 [.pt b0 0,.pt b1 0,.pt b2 0,.pt b3 0,.pt b4 0,.pt b5 0] h=some (.tup [],h')/\Lays h' L' (fF s name owner full empty)/\L'.c=L.c/\Fr (zF L s) h h'/\Sb h.length L s L' (fF s name owner full empty):=by
 obtain⟨g0,j0⟩:=aC k0;obtain⟨g1,j1⟩:=aC k1;have a1:IntKind.i64.wrap (full-empty)=full-empty:=aE AS AS;have a2:IntKind.i64.wrap (v+(full-empty))=v+(full-empty):=aE AS AS;have fp:fe∈px L s 3:=aBl hfe;have hfv:aH h fe=some (.cells true [I v]):=ly.f.he hfe (by grind);obtain⟨e,v',he,hv,hev,call⟩:=ly.w.oldw hx;obtain⟨em,hy2⟩:=rF hx;have hm:nO id empty name s.wagons=s.wagons:=by
  rw[oS hx hy2];exact I7 λq=>by
   grind
 obtain⟨g6,hc⟩:=aC ly.hc;unfold cL at hc;obtain⟨g2,j2⟩:=aC k2;obtain⟨g3,j3⟩:=aC k3;obtain⟨g4,j4⟩:=aC k4;obtain⟨g5,j5⟩:=aC k5;obtain⟨g7,hf5⟩:=aC hfv;obtain⟨n,hn⟩:∃ n,h.length=n:=⟨_,rfl⟩;have lyF:=ly.oldF (g:=g7) (y:=v+(full-empty)) hj hfe;have frF:Fr (zF L s) h (h.set fe (some (.blk g7 (.cells true [I (v+(full-empty))])))):=(Fr.refl _ h).set (bI.2 ⟨3,fp⟩) _;have ha:=gX (d:=full-empty) hj (by rw[C3,hy];rfl);have b0f:(b0=fe)=False:=AAo λq=>ly.px_out (j:=3) o (b:=b0) (by simp) (q▸fp);have b1f:(b1=fe)=False:=AAo λq=>ly.px_out (j:=3) o (b:=b1) (by simp) (q▸fp);have b2f:(b2=fe)=False:=AAo λq=>ly.px_out (j:=3) o (b:=b2) (by simp) (q▸fp);have b4f:(b4=fe)=False:=AAo λq=>ly.px_out (j:=3) o (b:=b4) (by simp) (q▸fp);have b5f:(b5=fe)=False:=AAo λq=>ly.px_out (j:=3) o (b:=b5) (by simp) (q▸fp);have cf:(L.c=fe)=False:=AAo λq=>ly.off (i:=3) (j:=0) (by decide) fp (by simp[px,q]);have bl:∀ b c,aH h b=some c->(b<n)=True:=λb c hb=>AAn (by have:=aI hb;omega);have l0:=bl _ _ k0;have l1:=bl _ _ k1;have l2:=bl _ _ k2;have l4:=bl _ _ k4;have l5:=bl _ _ k5;have lf:=bl _ _ hfv;have lc:=bl _ _ ly.hc;have te0:L.te=[]:=D0 (by rw[ly.tk.el];exact ht);have hv:iX L.tb s.tickets.length = .nilsl:=by rw[ht];rfl
 rw[hv]at hc;have hbl:(h.set fe (some (.blk g7 (.cells true [I (v+(full-empty))])))).length=n:=(by grind);have walk:runW aB 108 [.pt b0 0,.pt b1 0,.pt b2 0,.pt b3 0,.pt b4 0,.pt b5 0] h=some (.tup [],(h.set fe (some (.blk g7 (.cells true [I (v+(full-empty))])))).set L.c (ab [.pt L.f.o 0,.pt L.m.o 0,.pt L.p.o 0,.pt L.w.o 0,.sl (n+2) 0 1 1,I s.closed,iX L.kb s.book.length])++[aa [.str name,.str owner,I (full-empty),.bool false,.bool false],ab [.pt (n) 0],ab [.pt (n) 0]]):=by
  rw[qY 108 aEV rfl,hn];unfold aEV;dsimp only;(exact iW j0 j1 j2 j3 j4 j5 hc call hf5 a1 a2 hn l0 l1 l2 l4 l5 lf lc b0f b1f b2f b4f b5f cf aF)
 obtain⟨y1,y2⟩:=lyF.tickNew2 (h':=(h.set fe (some (.blk g7 (.cells true [I (v+(full-empty))])))).set L.c (ab [.pt L.f.o 0,.pt L.m.o 0,.pt L.p.o 0,.pt L.w.o 0,.sl (n+2) 0 1 1,I s.closed,iX L.kb s.book.length])++[aa [.str name,.str owner,I (full-empty),.bool false,.bool false],ab [.pt (n) 0],ab [.pt (n) 0]]) (k:=⟨name,owner,full-empty,false⟩) (n:=n) (g:=false) (g1:=true) (g2:=false) (g3:=false) (cs:=[.pt L.f.o 0,.pt L.m.o 0,.pt L.p.o 0,.pt L.w.o 0,.sl (n+2) 0 1 1,I s.closed,iX L.kb s.book.length]) hbl (by simp[cL,iX,ht]) (by simp[sR,tkC,ht,te0]);refine⟨_,{ L with tb:=n+2,te:=L.te++[n] },walk,by unfold fF;grind,rfl,frF.trans (y2.mono λb hb=>?_),by
  unfold fF;rw[hm,ha];exact .of rfl (λb hb=>by
   grind [cG]) (wO rfl) (dE (by grind)) (dE rfl) (dE rfl) (dE rfl)⟩
 rw[C4]at hb;rcases hb with rfl|hb;·exact bI.2 ⟨0,by simp[px]⟩
 .exact bI.2 ⟨1,I3 _ hb⟩
theorem aOs(ly:Lays h L s){b0 b1 b2 b3 b4 b5 fe j i:Nat}{name owner:ByteArray}{full empty v:Int}(o:Out L s [b0,b1,b2,b3,b4,b5])(k0:aH h b0=some (.cells true [.pt L.c 0]))(k1:aH h b1=some (.cells true [.str name]))(k2:aH h b2=some (.cells true [I empty]))(k3:aH h b3=some (.cells true [.pt fe 0]))(k4:aH h b4=some (.cells true [I full]))(k5:aH h b5=some (.cells true [.str owner]))
 (hfe:L.f.es[j]?=some fe) (hj:bR (s.farmers.map (·.1)) owner=some j) (hy:s.farmers[j]?=some (owner,v)) (hb : -1000000000<=v/\v<=1000000000/\0<=empty/\empty<=full/\full<=99999) (hl:s.wagons.length<=1000) (hl2:s.tickets.length<=1000) (hx:bR (s.wagons.map (·.1)) name=some i) (ht:0<s.tickets.length) :
 ∃ h' L',runW aB 108 [.pt b0 0,.pt b1 0,.pt b2 0,.pt b3 0,.pt b4 0,.pt b5 0] h=some (.tup [],h')/\Lays h' L' (fF s name owner full empty)/\L'.c=L.c/\Fr (zF L s) h h'/\Sb h.length L s L' (fF s name owner full empty):=by
 obtain⟨g0,j0⟩:=aC k0;obtain⟨g1,j1⟩:=aC k1;have a1:IntKind.i64.wrap (full-empty)=full-empty:=aE AS AS;have a2:IntKind.i64.wrap (v+(full-empty))=v+(full-empty):=aE AS AS;have fp:fe∈px L s 3:=aBl hfe;have hfv:aH h fe=some (.cells true [I v]):=ly.f.he hfe (by grind);obtain⟨e,v',he,hv,hev,call⟩:=ly.w.oldw hx;obtain⟨em,hy2⟩:=rF hx;have hm:nO id empty name s.wagons=s.wagons:=by
  rw[oS hx hy2];exact I7 λq=>by
   grind
 obtain⟨g6,hc⟩:=aC ly.hc;unfold cL at hc;obtain⟨g2,j2⟩:=aC k2;obtain⟨g3,j3⟩:=aC k3;obtain⟨g4,j4⟩:=aC k4;obtain⟨g5,j5⟩:=aC k5;obtain⟨g7,hf5⟩:=aC hfv;obtain⟨n,hn⟩:∃ n,h.length=n:=⟨_,rfl⟩;have lyF:=ly.oldF (g:=g7) (y:=v+(full-empty)) hj hfe;have frF:Fr (zF L s) h (h.set fe (some (.blk g7 (.cells true [I (v+(full-empty))])))):=(Fr.refl _ h).set (bI.2 ⟨3,fp⟩) _;have ha:=gX (d:=full-empty) hj (by rw[C3,hy];rfl);have b0f:(b0=fe)=False:=AAo λq=>ly.px_out (j:=3) o (b:=b0) (by simp) (q▸fp);have b1f:(b1=fe)=False:=AAo λq=>ly.px_out (j:=3) o (b:=b1) (by simp) (q▸fp);have b2f:(b2=fe)=False:=AAo λq=>ly.px_out (j:=3) o (b:=b2) (by simp) (q▸fp);have b4f:(b4=fe)=False:=AAo λq=>ly.px_out (j:=3) o (b:=b4) (by simp) (q▸fp);have b5f:(b5=fe)=False:=AAo λq=>ly.px_out (j:=3) o (b:=b5) (by simp) (q▸fp);have cf:(L.c=fe)=False:=AAo λq=>ly.off (i:=3) (j:=0) (by decide) fp (by simp[px,q]);have bl:∀ b c,aH h b=some c->(b<n)=True:=λb c hb=>AAn (by have:=aI hb;omega);have l0:=bl _ _ k0;have l1:=bl _ _ k1;have l2:=bl _ _ k2;have l4:=bl _ _ k4;have l5:=bl _ _ k5;have lf:=bl _ _ hfv;have lc:=bl _ _ ly.hc;obtain⟨tk0,tk1⟩:∃ k,s.tickets[0]?=some k:=⟨_,B7 ht⟩;obtain⟨te0,te1,te2,htb,te4⟩:=ly.tk.at tk1;have tp:L.tb∈px L s 1:=I3 _ (cG.2 ⟨ht,rfl⟩);have hv:=fD (b:=L.tb) ht;rw[hv]at hc;have lt:=bl _ _ htb;have tf:(L.tb=fe)=False:=AAo λq=>ly.off (i:=3) (j:=1) (by decide) fp (q▸tp);have tc:(L.tb=L.c)=False:=AAo λq=>ly.off (i:=0) (j:=1) (by decide) (by simp[px]) (q▸tp);have tb0:(b0=L.tb)=False:=AAo λq=>ly.px_out (j:=1) o (b:=b0) (by simp) (q▸tp);have bt0:(L.tb=b0)=False:=AAo λq=>ly.px_out (j:=1) o (b:=b0) (by simp) (q▸tp);have tb1:(b1=L.tb)=False:=AAo λq=>ly.px_out (j:=1) o (b:=b1) (by simp) (q▸tp);have bt1:(L.tb=b1)=False:=AAo λq=>ly.px_out (j:=1) o (b:=b1) (by simp) (q▸tp);have tb2:(b2=L.tb)=False:=AAo λq=>ly.px_out (j:=1) o (b:=b2) (by simp) (q▸tp);have bt2:(L.tb=b2)=False:=AAo λq=>ly.px_out (j:=1) o (b:=b2) (by simp) (q▸tp);have tb4:(b4=L.tb)=False:=AAo λq=>ly.px_out (j:=1) o (b:=b4) (by simp) (q▸tp);have bt4:(L.tb=b4)=False:=AAo λq=>ly.px_out (j:=1) o (b:=b4) (by simp) (q▸tp);have tb5:(b5=L.tb)=False:=AAo λq=>ly.px_out (j:=1) o (b:=b5) (by simp) (q▸tp);have bt5:(L.tb=b5)=False:=AAo λq=>ly.px_out (j:=1) o (b:=b5) (by simp) (q▸tp);have ct:(L.c=L.tb)=False:=AAo λq=>ly.off (i:=0) (j:=1) (by decide) (by simp[px]) (q▸tp);have tl:(L.te.map λe=>AV.pt e 0).length=s.tickets.length:=by rw[B8];exact ly.tk.el
 have z1:((s.tickets.length+1)*8<=1099511627776)=True:=AAa;have z2:(s.tickets.length+1<=1099511627776)=True:=AAa;have tel:L.te.length=s.tickets.length:=ly.tk.el;obtain⟨gt,hgt⟩:=aC htb;have hbl:(h.set fe (some (.blk g7 (.cells true [I (v+(full-empty))])))).length=n:=(by grind);have walk:runW aB 108 [.pt b0 0,.pt b1 0,.pt b2 0,.pt b3 0,.pt b4 0,.pt b5 0] h=some (.tup [],((h.set fe (some (.blk g7 (.cells true [I (v+(full-empty))])))).set L.tb none).set L.c (ab [.pt L.f.o 0,.pt L.m.o 0,.pt L.p.o 0,.pt L.w.o 0,.sl (n+2) 0 1 (s.tickets.length+1),I s.closed,iX L.kb s.book.length])++[aa [.str name,.str owner,I (full-empty),.bool false,.bool false],ab [.pt (n) 0],ab (L.te.map (λe=>.pt e 0)++[.pt (n) 0])]):=by
  rw[qY 108 aEV rfl,hn];unfold aEV;dsimp only;(sym=>(simp[Za,Zb,Zc,Zd,Ze,Zf,Zh,Zi,Zl,Zm,Zo,Zv,Zz,Z0,Z8,Z9,ZA,ZG,ZR,ZX,ZZ,Ya,Yc,Ye,Yj,Yk,Yn,Yu,Y7,Y8,Y9,Xw,Xz,Wh,Wi,Wj,Wk,Wm,Wn,Wq,Vi,Vp,Vr,Vs,Vu,Vv,V1,V2,V5,V6,V7,V9,VD,VF,VG,VH,VI,Ux,Uz,U0,UX,UZ,Tb,Tg,Tl,Tn,Tr,Ts,Tt,Tu,Tv,Tw,Tz,T2,T3,T8,TA,TC,TD,TF,TK,TL,TM,TS,TT,TZ,Sa,Sc,Sd,Se,Sf,Sn,Sp,Sq,Sr,Ss,Su,S3,S4,S5,S7,S8,SA,SC,SG,SI,SJ,SN,SO,SP,SQ,SV,SX,SZ,Rc,Rk,Rl,RY,RZ,Qi,QI,QL,PH,PJ,PL,PQ,PR,PS,PT,PU,PW,PY,PZ,Ob,j0,j1,j2,j3,j4,j5,hc,call,hf5,a1,a2,hn,l0,l1,l2,l4,l5,lf,lc,b0f,b1f,b2f,b4f,b5f,cf,hgt,lt,tf,tc,ct,tel,z1,z2,tb0,tb1,tb2,tb4,tb5,bt0,bt1,bt2,bt4,bt5];all_goals tactic=>exact rfl))
 obtain⟨y1,y2⟩:=lyF.tickNew2 (h':=((h.set fe (some (.blk g7 (.cells true [I (v+(full-empty))])))).set L.tb none).set L.c (ab [.pt L.f.o 0,.pt L.m.o 0,.pt L.p.o 0,.pt L.w.o 0,.sl (n+2) 0 1 (s.tickets.length+1),I s.closed,iX L.kb s.book.length])++[aa [.str name,.str owner,I (full-empty),.bool false,.bool false],ab [.pt (n) 0],ab (L.te.map (λe=>.pt e 0)++[.pt (n) 0])]) (k:=⟨name,owner,full-empty,false⟩) (n:=n) (g:=false) (g1:=true) (g2:=false) (g3:=false) (cs:=[.pt L.f.o 0,.pt L.m.o 0,.pt L.p.o 0,.pt L.w.o 0,.sl (n+2) 0 1 (s.tickets.length+1),I s.closed,iX L.kb s.book.length]) hbl (by simp[cL,iX]) (by simp[sR,tkC,Nat.ne_of_gt ht]);refine⟨_,{ L with tb:=n+2,te:=L.te++[n] },walk,by unfold fF;grind,rfl,frF.trans (y2.mono λb hb=>?_),by
  unfold fF;rw[hm,ha];exact .of rfl (λb hb=>by
   grind [cG]) (wO rfl) (dE (by grind)) (dE rfl) (dE rfl) (dE rfl)⟩
 rw[C4]at hb;rcases hb with rfl|hb;·exact bI.2 ⟨0,by simp[px]⟩
 .exact bI.2 ⟨1,I3 _ hb⟩
theorem aOt(ly:Lays h L s){b0 b1 b2 b3 b4 b5 fe j:Nat}{name owner:ByteArray}{full empty v:Int}(o:Out L s [b0,b1,b2,b3,b4,b5])(k0:aH h b0=some (.cells true [.pt L.c 0]))(k1:aH h b1=some (.cells true [.str name]))(k2:aH h b2=some (.cells true [I empty]))(k3:aH h b3=some (.cells true [.pt fe 0]))(k4:aH h b4=some (.cells true [I full]))(k5:aH h b5=some (.cells true [.str owner]))
 (hfe:L.f.es[j]?=some fe) (hj:bR (s.farmers.map (·.1)) owner=some j) (hy:s.farmers[j]?=some (owner,v)) (hb : -1000000000<=v/\v<=1000000000/\0<=empty/\empty<=full/\full<=99999) (hl:s.wagons.length<=1000) (hl2:s.tickets.length<=1000) (hx:bR (s.wagons.map (·.1)) name=none) (ht:s.tickets.length=0) :
 ∃ h' L',runW aB 108 [.pt b0 0,.pt b1 0,.pt b2 0,.pt b3 0,.pt b4 0,.pt b5 0] h=some (.tup [],h')/\Lays h' L' (fF s name owner full empty)/\L'.c=L.c/\Fr (zF L s) h h'/\Sb h.length L s L' (fF s name owner full empty):=by
 obtain⟨g0,j0⟩:=aC k0;obtain⟨g1,j1⟩:=aC k1;have a1:IntKind.i64.wrap (full-empty)=full-empty:=aE AS AS;have a2:IntKind.i64.wrap (v+(full-empty))=v+(full-empty):=aE AS AS;have fp:fe∈px L s 3:=aBl hfe;have hfv:aH h fe=some (.cells true [I v]):=ly.f.he hfe (by grind);obtain⟨h1,call,hl1,od1,fr1⟩:=ly.w.neww hx (by grind);rw[B8]at fr1;have hm:nO id empty name s.wagons=s.wagons++[(name,empty)]:=sV hx;obtain⟨g6,hc⟩:=aC ly.hc;unfold cL at hc;obtain⟨g9,he9⟩:=aC (od1.he (i:=s.wagons.length) (v:=[I 0]) (e:=h.length+2) (by have:=ly.w.ek;grind) (by grind));obtain⟨lyW,frW⟩:=ly.newW (y:=empty) (g:=g9) od1 fr1;obtain⟨g2,j2⟩:=aC (fr1.keepS k2 (ly.px_out (j:=6) o (by simp)));obtain⟨gc1,hc1⟩:=aC (fr1.keepS ly.hc (ly.off (i:=0) (j:=6) (by decide) (by simp[px])));unfold cL at hc1;obtain⟨gi0,i0⟩:=aC (fr1.keepS k0 (ly.px_out (j:=6) o (by simp)));obtain⟨gi1,i1⟩:=aC (fr1.keepS k1 (ly.px_out (j:=6) o (by simp)));obtain⟨g3,j3⟩:=aC (fr1.keepS k3 (ly.px_out (j:=6) o (by simp)));obtain⟨g4,j4⟩:=aC (fr1.keepS k4 (ly.px_out (j:=6) o (by simp)));obtain⟨g5,j5⟩:=aC (fr1.keepS k5 (ly.px_out (j:=6) o (by simp)));obtain⟨g7,hf5⟩:=aC (fr1.keepS hfv (ly.off (i:=3) (j:=6) (by decide) fp));obtain⟨n,hn⟩:∃ n,h.length=n:=⟨_,rfl⟩;rw[hn]at call hl1 he9 lyW frW;have lyF:=lyW.oldF (g:=g7) (y:=v+(full-empty)) hj hfe;have frF:Fr (zF L s) h ((h1.set (n+2) (some (.blk g9 (.cells true [I empty])))).set fe (some (.blk g7 (.cells true [I (v+(full-empty))])))):=(Fr.px (j:=6) frW).set (bI.2 ⟨3,fp⟩) _;have b0n:(b0=n+2)=False:=AAo (by grind);have b1n:(b1=n+2)=False:=AAo (by grind);have b2n:(b2=n+2)=False:=AAo (by have:=aI k2;omega);have b3n:(b3=n+2)=False:=AAo (by grind);have b4n:(b4=n+2)=False:=AAo (by have:=aI k4;omega);have b5n:(b5=n+2)=False:=AAo (by grind);have fn:(fe=n+2)=False:=AAo (by have:=aI hfv;omega);have cn2:(L.c=n+2)=False:=AAo (by grind);have nl:(n+2<n+3)=True:=AAa
 have ha:=gX (d:=full-empty) hj (by rw[C3,hy];rfl);have b0f:(b0=fe)=False:=AAo λq=>ly.px_out (j:=3) o (b:=b0) (by simp) (q▸fp);have b1f:(b1=fe)=False:=AAo λq=>ly.px_out (j:=3) o (b:=b1) (by simp) (q▸fp);have b2f:(b2=fe)=False:=AAo λq=>ly.px_out (j:=3) o (b:=b2) (by simp) (q▸fp);have b4f:(b4=fe)=False:=AAo λq=>ly.px_out (j:=3) o (b:=b4) (by simp) (q▸fp);have b5f:(b5=fe)=False:=AAo λq=>ly.px_out (j:=3) o (b:=b5) (by simp) (q▸fp);have cf:(L.c=fe)=False:=AAo λq=>ly.off (i:=3) (j:=0) (by decide) fp (by simp[px,q]);have bl:∀ b c,aH h b=some c->(b<n)=True:=λb c hb=>AAn (by have:=aI hb;omega);have l0:=bl _ _ k0;have l1:=bl _ _ k1;have l2:=bl _ _ k2;have l4:=bl _ _ k4;have l5:=bl _ _ k5;have lf:=bl _ _ hfv;have lc:=bl _ _ ly.hc;have up:∀ b,(b<n)=True->(b<n+3)=True:=λb hb=>AAn (by grind);have u0:=up _ l0;have u1:=up _ l1;have u2:=up _ l2;have u4:=up _ l4;have u5:=up _ l5;have uf:=up _ lf;have uc:=up _ lc;have te0:L.te=[]:=D0 (by rw[ly.tk.el];exact ht);have hv:iX L.tb s.tickets.length = .nilsl:=by rw[ht];rfl
 rw[hv]at hc;rw[hv]at hc1;have hbl:((h1.set (n+2) (some (.blk g9 (.cells true [I empty])))).set fe (some (.blk g7 (.cells true [I (v+(full-empty))])))).length=n+3:=(by grind);have walk:runW aB 108 [.pt b0 0,.pt b1 0,.pt b2 0,.pt b3 0,.pt b4 0,.pt b5 0] h=some (.tup [],((h1.set (n+2) (some (.blk g9 (.cells true [I empty])))).set fe (some (.blk g7 (.cells true [I (v+(full-empty))])))).set L.c (ab [.pt L.f.o 0,.pt L.m.o 0,.pt L.p.o 0,.pt L.w.o 0,.sl (n+5) 0 1 1,I s.closed,iX L.kb s.book.length])++[aa [.str name,.str owner,I (full-empty),.bool false,.bool false],ab [.pt (n+3) 0],ab [.pt (n+3) 0]]):=by
  rw[qY 108 aEV rfl,hn];unfold aEV;dsimp only;(sym=>(simp[Za,Zb,Zc,Zd,Ze,Zf,Zh,Zi,Zl,Zm,Zo,Zv,Zz,Z0,Z8,Z9,ZA,ZG,ZR,ZW,ZX,ZZ,Ya,Yb,Yc,Ye,Yj,Yk,Yn,Yu,Y7,Y8,Y9,Xw,Xz,Wh,Wi,Wj,Wk,Wm,Wn,Wq,Vi,Vp,Vr,Vs,Vu,Vv,V2,V3,V5,V6,V7,V9,VD,VF,VG,VH,VI,Ux,Uz,U0,UX,UZ,Tb,Tg,Tl,Tm,Tr,Ts,Tt,Tu,Tv,Tw,Tz,T2,T8,TA,TC,TD,TF,TL,TM,TS,TT,TZ,Sa,Sc,Sd,Se,Sf,Sn,Sp,Sq,Sr,Ss,Su,S3,S4,S5,S6,SA,SC,SG,SI,SJ,SN,SP,SQ,SU,SV,SX,Rc,Rk,Rl,RY,Qi,QI,QJ,QL,PH,PJ,PL,PQ,PR,PS,PT,PU,PW,PY,PZ,Ob,j0,j1,j2,j3,j4,j5,hc,call,hf5,a1,a2,hn,l0,l1,l2,l4,l5,lf,lc,b0f,b1f,b2f,b4f,b5f,cf,hl1,b0n,b1n,b2n,b3n,b4n,b5n,fn,cn2,nl,he9,i0,i1,hc1,u0,u1,u2,u4,u5,uf,uc];all_goals tactic=>exact rfl))
 obtain⟨y1,y2⟩:=lyF.tickNew2 (h':=((h1.set (n+2) (some (.blk g9 (.cells true [I empty])))).set fe (some (.blk g7 (.cells true [I (v+(full-empty))])))).set L.c (ab [.pt L.f.o 0,.pt L.m.o 0,.pt L.p.o 0,.pt L.w.o 0,.sl (n+5) 0 1 1,I s.closed,iX L.kb s.book.length])++[aa [.str name,.str owner,I (full-empty),.bool false,.bool false],ab [.pt (n+3) 0],ab [.pt (n+3) 0]]) (k:=⟨name,owner,full-empty,false⟩) (n:=n+3) (g:=false) (g1:=true) (g2:=false) (g3:=false) (cs:=[.pt L.f.o 0,.pt L.m.o 0,.pt L.p.o 0,.pt L.w.o 0,.sl (n+5) 0 1 1,I s.closed,iX L.kb s.book.length]) hbl (by simp[cL,iX,ht]) (by simp[sR,tkC,ht,te0]);refine⟨_,{ ({ L with w:=⟨L.w.o,L.w.m,n+1,L.w.es++[n+2]⟩ }:CL)with tb:=n+5,te:=L.te++[n+3] },walk,by unfold fF;grind,rfl,frF.trans (y2.mono λb hb=>?_),by
  unfold fF;rw[hm,ha];exact .of rfl (λb hb=>by
   grind [cG]) (wO rfl) (dE (by grind)) (dE rfl) (dE rfl) (λb hb=>by rw[<-hn]at hb;exact oK hb)⟩
 rw[C4]at hb;rcases hb with rfl|hb;·exact bI.2 ⟨0,by simp[px]⟩
 .exact bI.2 ⟨1,I3 _ hb⟩
theorem aOu(ly:Lays h L s){b0 b1 b2 b3 b4 b5 fe j:Nat}{name owner:ByteArray}{full empty v:Int}(o:Out L s [b0,b1,b2,b3,b4,b5])(k0:aH h b0=some (.cells true [.pt L.c 0]))(k1:aH h b1=some (.cells true [.str name]))(k2:aH h b2=some (.cells true [I empty]))(k3:aH h b3=some (.cells true [.pt fe 0]))(k4:aH h b4=some (.cells true [I full]))(k5:aH h b5=some (.cells true [.str owner]))
 (hfe:L.f.es[j]?=some fe) (hj:bR (s.farmers.map (·.1)) owner=some j) (hy:s.farmers[j]?=some (owner,v)) (hb : -1000000000<=v/\v<=1000000000/\0<=empty/\empty<=full/\full<=99999) (hl:s.wagons.length<=1000) (hl2:s.tickets.length<=1000) (hx:bR (s.wagons.map (·.1)) name=none) (ht:0<s.tickets.length) :
 ∃ h' L',runW aB 108 [.pt b0 0,.pt b1 0,.pt b2 0,.pt b3 0,.pt b4 0,.pt b5 0] h=some (.tup [],h')/\Lays h' L' (fF s name owner full empty)/\L'.c=L.c/\Fr (zF L s) h h'/\Sb h.length L s L' (fF s name owner full empty):=by
 obtain⟨g0,j0⟩:=aC k0;obtain⟨g1,j1⟩:=aC k1;have a1:IntKind.i64.wrap (full-empty)=full-empty:=aE AS AS;have a2:IntKind.i64.wrap (v+(full-empty))=v+(full-empty):=aE AS AS;have fp:fe∈px L s 3:=aBl hfe;have hfv:aH h fe=some (.cells true [I v]):=ly.f.he hfe (by grind);obtain⟨h1,call,hl1,od1,fr1⟩:=ly.w.neww hx (by grind);rw[B8]at fr1;have hm:nO id empty name s.wagons=s.wagons++[(name,empty)]:=sV hx;obtain⟨g6,hc⟩:=aC ly.hc;unfold cL at hc;obtain⟨g9,he9⟩:=aC (od1.he (i:=s.wagons.length) (v:=[I 0]) (e:=h.length+2) (by have:=ly.w.ek;grind) (by grind));obtain⟨lyW,frW⟩:=ly.newW (y:=empty) (g:=g9) od1 fr1;obtain⟨g2,j2⟩:=aC (fr1.keepS k2 (ly.px_out (j:=6) o (by simp)));obtain⟨gc1,hc1⟩:=aC (fr1.keepS ly.hc (ly.off (i:=0) (j:=6) (by decide) (by simp[px])));unfold cL at hc1;obtain⟨gi0,i0⟩:=aC (fr1.keepS k0 (ly.px_out (j:=6) o (by simp)));obtain⟨gi1,i1⟩:=aC (fr1.keepS k1 (ly.px_out (j:=6) o (by simp)));obtain⟨g3,j3⟩:=aC (fr1.keepS k3 (ly.px_out (j:=6) o (by simp)));obtain⟨g4,j4⟩:=aC (fr1.keepS k4 (ly.px_out (j:=6) o (by simp)));obtain⟨g5,j5⟩:=aC (fr1.keepS k5 (ly.px_out (j:=6) o (by simp)));obtain⟨g7,hf5⟩:=aC (fr1.keepS hfv (ly.off (i:=3) (j:=6) (by decide) fp));obtain⟨n,hn⟩:∃ n,h.length=n:=⟨_,rfl⟩;rw[hn]at call hl1 he9 lyW frW;have lyF:=lyW.oldF (g:=g7) (y:=v+(full-empty)) hj hfe;have frF:Fr (zF L s) h ((h1.set (n+2) (some (.blk g9 (.cells true [I empty])))).set fe (some (.blk g7 (.cells true [I (v+(full-empty))])))):=(Fr.px (j:=6) frW).set (bI.2 ⟨3,fp⟩) _;have b0n:(b0=n+2)=False:=AAo (by grind);have b1n:(b1=n+2)=False:=AAo (by grind);have b2n:(b2=n+2)=False:=AAo (by have:=aI k2;omega);have b3n:(b3=n+2)=False:=AAo (by grind);have b4n:(b4=n+2)=False:=AAo (by have:=aI k4;omega);have b5n:(b5=n+2)=False:=AAo (by grind);have fn:(fe=n+2)=False:=AAo (by have:=aI hfv;omega);have cn2:(L.c=n+2)=False:=AAo (by grind);have nl:(n+2<n+3)=True:=AAa
 have ha:=gX (d:=full-empty) hj (by rw[C3,hy];rfl);have b0f:(b0=fe)=False:=AAo λq=>ly.px_out (j:=3) o (b:=b0) (by simp) (q▸fp);have b1f:(b1=fe)=False:=AAo λq=>ly.px_out (j:=3) o (b:=b1) (by simp) (q▸fp);have b2f:(b2=fe)=False:=AAo λq=>ly.px_out (j:=3) o (b:=b2) (by simp) (q▸fp);have b4f:(b4=fe)=False:=AAo λq=>ly.px_out (j:=3) o (b:=b4) (by simp) (q▸fp);have b5f:(b5=fe)=False:=AAo λq=>ly.px_out (j:=3) o (b:=b5) (by simp) (q▸fp);have cf:(L.c=fe)=False:=AAo λq=>ly.off (i:=3) (j:=0) (by decide) fp (by simp[px,q]);have bl:∀ b c,aH h b=some c->(b<n)=True:=λb c hb=>AAn (by have:=aI hb;omega);have l0:=bl _ _ k0;have l1:=bl _ _ k1;have l2:=bl _ _ k2;have l4:=bl _ _ k4;have l5:=bl _ _ k5;have lf:=bl _ _ hfv;have lc:=bl _ _ ly.hc;have up:∀ b,(b<n)=True->(b<n+3)=True:=λb hb=>AAn (by grind);have u0:=up _ l0;have u1:=up _ l1;have u2:=up _ l2;have u4:=up _ l4;have u5:=up _ l5;have uf:=up _ lf;have uc:=up _ lc;obtain⟨tk0,tk1⟩:∃ k,s.tickets[0]?=some k:=⟨_,B7 ht⟩;obtain⟨te0,te1,te2,htb,te4⟩:=ly.tk.at tk1;have tp:L.tb∈px L s 1:=I3 _ (cG.2 ⟨ht,rfl⟩);have hv:=fD (b:=L.tb) ht;rw[hv]at hc;have lt:=bl _ _ htb;have tf:(L.tb=fe)=False:=AAo λq=>ly.off (i:=3) (j:=1) (by decide) fp (q▸tp);have tc:(L.tb=L.c)=False:=AAo λq=>ly.off (i:=0) (j:=1) (by decide) (by simp[px]) (q▸tp);have tb0:(b0=L.tb)=False:=AAo λq=>ly.px_out (j:=1) o (b:=b0) (by simp) (q▸tp);have bt0:(L.tb=b0)=False:=AAo λq=>ly.px_out (j:=1) o (b:=b0) (by simp) (q▸tp);have tb1:(b1=L.tb)=False:=AAo λq=>ly.px_out (j:=1) o (b:=b1) (by simp) (q▸tp);have bt1:(L.tb=b1)=False:=AAo λq=>ly.px_out (j:=1) o (b:=b1) (by simp) (q▸tp);have tb2:(b2=L.tb)=False:=AAo λq=>ly.px_out (j:=1) o (b:=b2) (by simp) (q▸tp);have bt2:(L.tb=b2)=False:=AAo λq=>ly.px_out (j:=1) o (b:=b2) (by simp) (q▸tp);have tb4:(b4=L.tb)=False:=AAo λq=>ly.px_out (j:=1) o (b:=b4) (by simp) (q▸tp);have bt4:(L.tb=b4)=False:=AAo λq=>ly.px_out (j:=1) o (b:=b4) (by simp) (q▸tp);have tb5:(b5=L.tb)=False:=AAo λq=>ly.px_out (j:=1) o (b:=b5) (by simp) (q▸tp);have bt5:(L.tb=b5)=False:=AAo λq=>ly.px_out (j:=1) o (b:=b5) (by simp) (q▸tp);have ct:(L.c=L.tb)=False:=AAo λq=>ly.off (i:=0) (j:=1) (by decide) (by simp[px]) (q▸tp);have tl:(L.te.map λe=>AV.pt e 0).length=s.tickets.length:=by rw[B8];exact ly.tk.el
 have z1:((s.tickets.length+1)*8<=1099511627776)=True:=AAa;have z2:(s.tickets.length+1<=1099511627776)=True:=AAa;have tel:L.te.length=s.tickets.length:=ly.tk.el;obtain⟨gt,hgt⟩:=aC (fr1.keepS htb (ly.off (i:=1) (j:=6) (by decide) tp));have tn:(L.tb=n+2)=False:=AAo (by grind);have ut:=up _ lt;rw[hv]at hc1;have hbl:((h1.set (n+2) (some (.blk g9 (.cells true [I empty])))).set fe (some (.blk g7 (.cells true [I (v+(full-empty))])))).length=n+3:=(by grind);have walk:runW aB 108 [.pt b0 0,.pt b1 0,.pt b2 0,.pt b3 0,.pt b4 0,.pt b5 0] h=some (.tup [],(((h1.set (n+2) (some (.blk g9 (.cells true [I empty])))).set fe (some (.blk g7 (.cells true [I (v+(full-empty))])))).set L.tb none).set L.c (ab [.pt L.f.o 0,.pt L.m.o 0,.pt L.p.o 0,.pt L.w.o 0,.sl (n+5) 0 1 (s.tickets.length+1),I s.closed,iX L.kb s.book.length])++[aa [.str name,.str owner,I (full-empty),.bool false,.bool false],ab [.pt (n+3) 0],ab (L.te.map (λe=>.pt e 0)++[.pt (n+3) 0])]):=by
  rw[qY 108 aEV rfl,hn];unfold aEV;dsimp only;(sym=>(simp[Za,Zb,Zc,Zd,Ze,Zf,Zh,Zi,Zl,Zm,Zo,Zv,Zz,Z0,Z8,Z9,ZA,ZG,ZR,ZW,ZX,ZZ,Ya,Yb,Yc,Ye,Yj,Yk,Yn,Yu,Y7,Y8,Y9,Xw,Xz,Wh,Wi,Wj,Wk,Wm,Wn,Wq,Vi,Vp,Vr,Vs,Vu,Vv,V1,V2,V5,V6,V7,V9,VD,VF,VG,VH,VI,Ux,Uz,U0,UX,UZ,Tb,Tg,Tl,Tm,Tr,Ts,Tt,Tu,Tv,Tw,Tz,T2,T3,T8,TA,TC,TD,TF,TK,TL,TM,TS,TT,TZ,Sa,Sc,Sd,Se,Sf,Sn,Sp,Sq,Sr,Ss,Su,S3,S4,S5,S7,S8,SA,SC,SG,SI,SJ,SN,SO,SP,SQ,SV,SX,Rc,Rk,Rl,RY,RZ,Qi,QI,QL,PH,PJ,PL,PQ,PR,PS,PT,PU,PW,PY,PZ,Ob,j0,j1,j2,j3,j4,j5,hc,call,hf5,a1,a2,hn,l0,l1,l2,l4,l5,lf,lc,b0f,b1f,b2f,b4f,b5f,cf,hl1,b0n,b1n,b2n,b3n,b4n,b5n,fn,cn2,nl,he9,i0,i1,hc1,u0,u1,u2,u4,u5,uf,uc,hgt,lt,tf,tc,ct,tel,z1,z2,tb0,tb1,tb2,tb4,tb5,bt0,bt1,bt2,bt4,bt5,tn,ut];all_goals tactic=>exact rfl))
 obtain⟨y1,y2⟩:=lyF.tickNew2 (h':=(((h1.set (n+2) (some (.blk g9 (.cells true [I empty])))).set fe (some (.blk g7 (.cells true [I (v+(full-empty))])))).set L.tb none).set L.c (ab [.pt L.f.o 0,.pt L.m.o 0,.pt L.p.o 0,.pt L.w.o 0,.sl (n+5) 0 1 (s.tickets.length+1),I s.closed,iX L.kb s.book.length])++[aa [.str name,.str owner,I (full-empty),.bool false,.bool false],ab [.pt (n+3) 0],ab (L.te.map (λe=>.pt e 0)++[.pt (n+3) 0])]) (k:=⟨name,owner,full-empty,false⟩) (n:=n+3) (g:=false) (g1:=true) (g2:=false) (g3:=false) (cs:=[.pt L.f.o 0,.pt L.m.o 0,.pt L.p.o 0,.pt L.w.o 0,.sl (n+5) 0 1 (s.tickets.length+1),I s.closed,iX L.kb s.book.length]) hbl (by simp[cL,iX]) (by simp[sR,tkC,Nat.ne_of_gt ht]);refine⟨_,{ ({ L with w:=⟨L.w.o,L.w.m,n+1,L.w.es++[n+2]⟩ }:CL)with tb:=n+5,te:=L.te++[n+3] },walk,by unfold fF;grind,rfl,frF.trans (y2.mono λb hb=>?_),by
  unfold fF;rw[hm,ha];exact .of rfl (λb hb=>by
   grind [cG]) (wO rfl) (dE (by grind)) (dE rfl) (dE rfl) (λb hb=>by rw[<-hn]at hb;exact oK hb)⟩
 rw[C4]at hb;rcases hb with rfl|hb;·exact bI.2 ⟨0,by simp[px]⟩
 .exact bI.2 ⟨1,I3 _ hb⟩
theorem bCv(ly:Lays h L s){b0 b1 b2 b3 b4 b5 fe j:Nat}{name owner:ByteArray}{full empty v:Int}(o:Out L s [b0,b1,b2,b3,b4,b5])(k0:aH h b0=some (.cells true [.pt L.c 0]))(k1:aH h b1=some (.cells true [.str name]))(k2:aH h b2=some (.cells true [I empty]))(k3:aH h b3=some (.cells true [.pt fe 0]))(k4:aH h b4=some (.cells true [I full]))(k5:aH h b5=some (.cells true [.str owner]))
 (hfe:L.f.es[j]?=some fe) (hj:bR (s.farmers.map (·.1)) owner=some j) (hy:s.farmers[j]?=some (owner,v)) (hb : -1000000000<=v/\v<=1000000000/\0<=empty/\empty<=full/\full<=99999) (hl:s.wagons.length<=1000) (hl2:s.tickets.length<=1000) :
 ∃ h' L',runW aB 108 [.pt b0 0,.pt b1 0,.pt b2 0,.pt b3 0,.pt b4 0,.pt b5 0] h=some (.tup [],h')/\Lays h' L' (fF s name owner full empty)/\L'.c=L.c/\Fr (zF L s) h h'/\Sb h.length L s L' (fF s name owner full empty):=by
 cases hx:bR (s.wagons.map (·.1)) name with
 | some i =>
   by_cases ht:s.tickets.length=0;·exact aOr ly o k0 k1 k2 k3 k4 k5 hfe hj hy hb hl hl2 hx ht
   .exact aOs ly o k0 k1 k2 k3 k4 k5 hfe hj hy hb hl hl2 hx AS
 | none =>
   by_cases ht:s.tickets.length=0;·exact aOt ly o k0 k1 k2 k3 k4 k5 hfe hj hy hb hl hl2 hx ht
   .exact aOu ly o k0 k1 k2 k3 k4 k5 hfe hj hy hb hl hl2 hx AS
def wWg(f:ByteArray)(name t1 t2 owner:ByteArray)(z full empty z2:Int):AV:=.agg [.str f,.fs [[.str name],[.str t1],[.str t2],[.str owner]],.fs [[I z],[I full],[I empty],[I z2]]]
def lN(c:Nat)(f name t1 t2 owner:ByteArray)(z full empty z2:Int)(r:XH):XH:=ab [.pt c 0]::(aa [.str f,.fs [[.str name],[.str t1],[.str t2],[.str owner]],.fs [[I z],[I full],[I empty],[I z2]]])::(aa [.str name])::(aa [I full])::(aa [I empty])::(aa [.str owner])::r
variable{f name t1 t2 owner:ByteArray}{z full empty z2:Int}
theorem bBt(ly:Lays h L s)(hx:bR (s.farmers.map (·.1)) owner=none):CalP Tryz.prog aB 67 [.pt L.c 0,wWg f name t1 t2 owner z full empty z2] h (.ifc 48 (.agg [I 5])) (h++lN L.c f name t1 t2 owner z full empty z2 []):=by
 refine CalP.of (d:=x67) (e':=aY [] []) aA rfl (by simp[x67]) rfl ?_;unfold x67;dsimp only;obtain⟨n,hn⟩:∃ n,h.length=n:=⟨_,rfl⟩;obtain⟨g,hc⟩:=aC ly.hc;unfold cL at hc;have cn:(L.c<n)=True:=AAn (by rw[<-hn];exact aI ly.hc);have na:∀ a b:Nat,(n+a=n+b)=(a=b):=λa b=>by simp
 have ly2:=ly.ext (lN L.c f name t1 t2 owner z full empty z2 []);refine PanX.seqR (K:=67) aA rfl [2,3] (vs:=[.pt n 0,.pt (n+1) 0]) (h1:=h++[ab [.pt L.c 0],aa [.str f,.fs [[.str name],[.str t1],[.str t2],[.str owner]],.fs [[I z],[I full],[I empty],[I z2]]]]) (by rw[hn];unfold wWg; (exact cI hn)) ?_;refine PanX.seqR (K:=67) aA rfl [2,3,5,6,7,8] (vs:=[.pt n 0,.pt (n+1) 0,.pt (n+2) 0,.pt (n+3) 0,.pt (n+4) 0,.pt (n+5) 0]) (h1:=h++lN L.c f name t1 t2 owner z full empty z2 []) (by unfold lN; (exact kJ hn na)) ?_;refine PanX.seqL ?_;exact PanX.regU (fr:=[9]) (p:=[⟨0,some 27,.load false 1 (.t 2),none⟩,⟨1,some 28,.nilck (.t 27),none⟩,⟨2,some 29,.fld 0 (.t 28),none⟩,⟨3,some 30,.load false 1 (.t 29),none⟩,⟨4,some 31,.load false 1 (.t 8),none⟩]) (post:=[⟨6,some 9,.alloc [.nilpt],none⟩,⟨7,none,.store 1 (.t 9) (.t 32) [],none⟩]) aA [] (g:=72) (first:=[]) (cap:=[]) (args:=[.pt L.f.o 0,.str owner]) (vs:=[]) rfl rfl rfl (by unfold lN; (exact vC hc hn cn)) (ly2.f.nonef hx)
theorem aPZ(ly:Lays h L s){j:Nat}(hj:bR (s.farmers.map (·.1)) owner=some j)(r:XH):∃ fe,L.f.es[j]?=some fe/\runW aB 72 [.pt L.f.o 0,.str owner] (h++r)=some (.pt fe 0,h++r):=by
 obtain⟨fe,v,h1,h2,h3,h4⟩:=(ly.ext r).f.getf hj
 grind
theorem bFh(ly:Lays h L s){j:Nat}(hj:bR (s.farmers.map (·.1)) owner=some j)(hle:¬empty<=full):∃ fe,CalP Tryz.prog aB 67 [.pt L.c 0,wWg f name t1 t2 owner z full empty z2] h (.ifc 48 (.agg [I 10])) (h++lN L.c f name t1 t2 owner z full empty z2 [ab [.pt fe 0]]):=by
 obtain⟨fe,hfe,call⟩:=aPZ ly hj (lN L.c f name t1 t2 owner z full empty z2 []);refine⟨fe,CalP.of (d:=x67) (e':=aY [] []) aA rfl (by simp[x67]) rfl ?_⟩;unfold x67;dsimp only;obtain⟨n,hn⟩:∃ n,h.length=n:=⟨_,rfl⟩;obtain⟨g,hc⟩:=aC ly.hc;unfold cL at hc;have cn:(L.c<n)=True:=AAn (by rw[<-hn];exact aI ly.hc);have na:∀ a b:Nat,(n+a=n+b)=(a=b):=λa b=>by simp
 have tle:(empty<=full)=False:=AAo hle;refine PanX.seqR (K:=67) aA rfl [2,3] (vs:=[.pt n 0,.pt (n+1) 0]) (h1:=h++[ab [.pt L.c 0],aa [.str f,.fs [[.str name],[.str t1],[.str t2],[.str owner]],.fs [[I z],[I full],[I empty],[I z2]]]]) (by rw[hn];unfold wWg; (exact cI hn)) ?_;refine PanX.seqR (K:=67) aA rfl [2,3,5,6,7,8] (vs:=[.pt n 0,.pt (n+1) 0,.pt (n+2) 0,.pt (n+3) 0,.pt (n+4) 0,.pt (n+5) 0]) (h1:=h++lN L.c f name t1 t2 owner z full empty z2 []) (by unfold lN; (exact kJ hn na)) ?_;refine PanX.seqR (K:=67) aA rfl [2,3,5,6,7,8,9] (vs:=[.pt n 0,.pt (n+1) 0,.pt (n+2) 0,.pt (n+3) 0,.pt (n+4) 0,.pt (n+5) 0,.pt (n+6) 0]) (h1:=h++lN L.c f name t1 t2 owner z full empty z2 [ab [.pt fe 0]]) (by unfold lN at call ⊢; (exact qR hn na hc cn call)) ?_;refine PanX.seqL ?_;exact PanX.reg (p:=[⟨0,some 33,.load false 1 (.t 7),none⟩,⟨0,some 34,.load false 1 (.t 6),none⟩,⟨0,some 35,.bin .leq (.t 33) (.t 34),none⟩]) (post:=[]) aA [] (g:=24) (first:=[]) (cap:=[]) (args:=[.bool false,I 10]) (vs:=[]) rfl rfl (by unfold lN; (exact kJ hn tle)) (c58 10 _)
theorem w90(ly:Lays h L s){j:Nat}(hj:bR (s.farmers.map (·.1)) owner=some j)(hle:empty<=full)(hw:∀ i v,bR (s.wagons.map (·.1)) name=some i->(s.wagons.map (·.2))[i]?=some v->v-500<=empty/\empty<=v+500)(hb:∀ p∈s.wagons,0<=p.2/\p.2<=99999) :
 ∃ fe,L.f.es[j]?=some fe/\runW aB 67 [.pt L.c 0,wWg f name t1 t2 owner z full empty z2] h=some (.fn (.func 108) [] [.pt h.length 0,.pt (h.length+2) 0,.pt (h.length+4) 0,.pt (h.length+6) 0,.pt (h.length+3) 0,.pt (h.length+5) 0],h++lN L.c f name t1 t2 owner z full empty z2 [ab [.pt fe 0]]):=by
 obtain⟨fe,hfe,call⟩:=aPZ ly hj (lN L.c f name t1 t2 owner z full empty z2 []);refine⟨fe,hfe,?_⟩;obtain⟨n,hn⟩:∃ n,h.length=n:=⟨_,rfl⟩;obtain⟨g,hc⟩:=aC ly.hc;unfold cL at hc;have cn:(L.c<n)=True:=AAn (by rw[<-hn];exact aI ly.hc);have na:∀ a b:Nat,(n+a=n+b)=(a=b):=λa b=>by simp
 have tle:(empty<=full)=True:=AAn hle;obtain⟨gw,hwo⟩:=ly.w.ho;obtain⟨gm,hwm⟩:=ly.w.hm;have won:(L.w.o<n)=True:=AAn (by rw[<-hn];exact ly.w.lts.1);have wmn:(L.w.m<n)=True:=AAn (by rw[<-hn];exact ly.w.lts.2.1);have m1:=zC 10;have m2:=zC 22;rw[qY 67 x67 rfl,hn];unfold x67;dsimp only;unfold lN wWg at *;rcases hx:bR (s.wagons.map (·.1)) name with _|i
 .have hf:=ly.w.miss hx
  (exact eK hn hc cn na tle call hwo hwm won wmn m1 hf aF)
 .obtain⟨e,v,he,hv,hf,hev⟩:=ly.w.found hx
  obtain⟨y,hy⟩:=rF hx;rw[C3,hy]at hv;cases hv;have hev:aH h e=some (.cells true [I y]):=hev;obtain⟨ge,hee⟩:=aC hev;have hww:=hw i y hx (by grind);have hbb:=hb _ (B3 hy);simp only at hbb;have een:(e<n)=True:=AAn (by rw[<-hn];exact aI hev);have v1:IntKind.i64.wrap (y-500)=y-500:=aE AS AS;have v2:IntKind.i64.wrap (y+500)=y+500:=aE AS AS;have c35:=w35 (y-500) empty (y+500);rw[AAj hww.1,AAj hww.2]at c35;(exact eD hn hc cn na tle call hwo hwm won wmn m1 hf hee een v1 v2 c35 m2 aF aF)
theorem bFg(ly:Lays h L s){i j:Nat}{y:Int}(hj:bR (s.farmers.map (·.1)) owner=some j)(hle:empty<=full)(hx:bR (s.wagons.map (·.1)) name=some i)(hy:(s.wagons.map (·.2))[i]?=some y)(hw:¬(y-500<=empty/\empty<=y+500))(hb:∀ p∈s.wagons,0<=p.2/\p.2<=99999):∃ fe,CalP Tryz.prog aB 67 [.pt L.c 0,wWg f name t1 t2 owner z full empty z2] h (.ifc 48 (.agg [I 22])) (h++lN L.c f name t1 t2 owner z full empty z2 [ab [.pt fe 0]]):=by
 obtain⟨fe,hfe,call⟩:=aPZ ly hj (lN L.c f name t1 t2 owner z full empty z2 []);refine⟨fe,CalP.of (d:=x67) (e':=aY [] []) aA rfl (by simp[x67]) rfl ?_⟩;unfold x67;dsimp only;obtain⟨n,hn⟩:∃ n,h.length=n:=⟨_,rfl⟩;obtain⟨g,hc⟩:=aC ly.hc;unfold cL at hc;have cn:(L.c<n)=True:=AAn (by rw[<-hn];exact aI ly.hc);have na:∀ a b:Nat,(n+a=n+b)=(a=b):=λa b=>by simp
 have tle:(empty<=full)=True:=AAn hle;obtain⟨gw,hwo⟩:=ly.w.ho;obtain⟨gm,hwm⟩:=ly.w.hm;have won:(L.w.o<n)=True:=AAn (by rw[<-hn];exact ly.w.lts.1);have wmn:(L.w.m<n)=True:=AAn (by rw[<-hn];exact ly.w.lts.2.1);have m1:=zC 10;obtain⟨e,v,he,hv,hf,hev⟩:=ly.w.found hx;rw[C3]at hv hy;obtain⟨⟨q1,q2⟩,hq,hy⟩:=B2.1 hy;have hy:q2=y:=hy;subst hy;rw[hq]at hv;cases hv;have hev:aH h e=some (.cells true [I q2]):=hev;obtain⟨ge,hee⟩:=aC hev;have hbb:=hb _ (B3 hq);simp only at hbb;have een:(e<n)=True:=AAn (by rw[<-hn];exact aI hev);have v1:IntKind.i64.wrap (q2-500)=q2-500:=aE AS AS;have v2:IntKind.i64.wrap (q2+500)=q2+500:=aE AS AS;have c35:=w35 (q2-500) empty (q2+500);have hdd:(decide (q2-500<=empty)&&decide (empty<=q2+500))=false:=by
  grind
 rw[hdd]at c35;refine PanX.seqR (K:=67) aA rfl [2,3] (vs:=[.pt n 0,.pt (n+1) 0]) (h1:=h++[ab [.pt L.c 0],aa [.str f,.fs [[.str name],[.str t1],[.str t2],[.str owner]],.fs [[I z],[I full],[I empty],[I z2]]]]) (by rw[hn];unfold wWg; (exact cI hn)) ?_;refine PanX.seqR (K:=67) aA rfl [2,3,5,6,7,8] (vs:=[.pt n 0,.pt (n+1) 0,.pt (n+2) 0,.pt (n+3) 0,.pt (n+4) 0,.pt (n+5) 0]) (h1:=h++lN L.c f name t1 t2 owner z full empty z2 []) (by unfold lN; (exact kJ hn na)) ?_;refine PanX.seqR (K:=67) aA rfl [2,3,5,6,7,8,9] (vs:=[.pt n 0,.pt (n+1) 0,.pt (n+2) 0,.pt (n+3) 0,.pt (n+4) 0,.pt (n+5) 0,.pt (n+6) 0]) (h1:=h++lN L.c f name t1 t2 owner z full empty z2 [ab [.pt fe 0]]) (by unfold lN at call ⊢; (exact qR hn na hc cn call)) ?_;refine PanX.seqR (K:=67) aA rfl [2,3,5,6,7,8,9] (vs:=[.pt n 0,.pt (n+1) 0,.pt (n+2) 0,.pt (n+3) 0,.pt (n+4) 0,.pt (n+5) 0,.pt (n+6) 0]) (h1:=h++lN L.c f name t1 t2 owner z full empty z2 [ab [.pt fe 0]]) (by unfold lN; (exact vC hn tle m1)) ?_;refine PanX.seqL ?_;refine PanX.seqR (K:=67) aA rfl [7,10] (vs:=[.pt (n+4) 0,.pt e 0]) (h1:=h++lN L.c f name t1 t2 owner z full empty z2 [ab [.pt fe 0]]) (by unfold lN; (exact kN hn hc cn hwo hwm won wmn hf aF)) ?_;refine PanX.seqR (K:=67) aA rfl [7,10,47] (vs:=[.pt (n+4) 0,.pt e 0,.bool true]) (h1:=h++lN L.c f name t1 t2 owner z full empty z2 [ab [.pt fe 0]]) (by (exact RT0)) ?_;refine PanX.condT rfl ?_;exact PanX.regU (fr:=[]) (p:=[⟨0,some 48,.mv (.t 10),none⟩,⟨1,some 49,.nilck (.t 48),none⟩,⟨2,some 50,.fld 0 (.t 49),none⟩,⟨3,some 51,.load false 1 (.t 50),none⟩,⟨4,some 52,.bin .sub (.t 51) (.c (.int .i64 500)),none⟩,⟨5,some 53,.load false 1 (.t 7),none⟩,⟨6,some 54,.mv (.t 10),none⟩,⟨7,some 55,.nilck (.t 54),none⟩,⟨8,some 56,.fld 0 (.t 55),none⟩,⟨9,some 57,.load false 1 (.t 56),none⟩,⟨10,some 58,.bin .add (.t 57) (.c (.int .i64 500)),none⟩,⟨11,some 59,.callf false (.c (.fn (.func 40) [] [])) [(.t 52),(.t 53),(.t 58)] [],none⟩]) (post:=[]) aA [] (g:=24) (first:=[]) (cap:=[]) (args:=[.bool false,I 22]) (vs:=[]) rfl rfl rfl (by unfold lN; (exact iS hn hee een v1 v2 c35 aF)) (c58 22 _)
variable{h h' h1:XH}{L:CL}{s:CSt}{x:ByteArray}
theorem lZ:aN .eql AAt AAt=some (.bool true):=by kernel_rfl
theorem vI:aN .eql AAu AAt=some (.bool false):=by kernel_rfl
theorem kQ:aN .eql AAu AAu=some (.bool true):=by kernel_rfl
theorem wU:aN .eql AAv AAt=some (.bool false):=by kernel_rfl
theorem rB:aN .eql AAv AAu=some (.bool false):=by kernel_rfl
theorem tW:aN .eql AAv AAv=some (.bool true):=by kernel_rfl
theorem vK:aN .eql AAw AAt=some (.bool false):=by kernel_rfl
theorem pG:aN .eql AAw AAu=some (.bool false):=by kernel_rfl
theorem rE:aN .eql AAw AAv=some (.bool false):=by kernel_rfl
theorem pH:aN .eql AAw AAw=some (.bool true):=by kernel_rfl
theorem vJ:aN .eql AAx AAt=some (.bool false):=by kernel_rfl
theorem pC:aN .eql AAx AAu=some (.bool false):=by kernel_rfl
theorem rD:aN .eql AAx AAv=some (.bool false):=by kernel_rfl
theorem pF:aN .eql AAx AAw=some (.bool false):=by kernel_rfl
theorem pD:aN .eql AAx AAx=some (.bool true):=by kernel_rfl
theorem zP:aN .eql AAy AAt=some (.bool false):=by kernel_rfl
theorem tX:aN .eql AAy AAu=some (.bool false):=by kernel_rfl
theorem wV:aN .eql AAy AAv=some (.bool false):=by kernel_rfl
theorem tZ:aN .eql AAy AAw=some (.bool false):=by kernel_rfl
theorem tY:aN .eql AAy AAx=some (.bool false):=by kernel_rfl
theorem aAb:aN .eql AAy AAy=some (.bool true):=by kernel_rfl
theorem aFg:aN .eql AAz AAt=some (.bool false):=by kernel_rfl
theorem aGV:aN .eql AAz AAu=some (.bool false):=by kernel_rfl
theorem aIs:aN .eql AAz AAv=some (.bool false):=by kernel_rfl
theorem aGX:aN .eql AAz AAw=some (.bool false):=by kernel_rfl
theorem aGW:aN .eql AAz AAx=some (.bool false):=by kernel_rfl
theorem aJT:aN .eql AAz AAy=some (.bool false):=by kernel_rfl
theorem aCA:aN .eql AAA AAt=some (.bool false):=by kernel_rfl
theorem aDv:aN .eql AAA AAu=some (.bool false):=by kernel_rfl
theorem aFd:aN .eql AAA AAv=some (.bool false):=by kernel_rfl
theorem aDx:aN .eql AAA AAw=some (.bool false):=by kernel_rfl
theorem aDw:aN .eql AAA AAx=some (.bool false):=by kernel_rfl
theorem aGT:aN .eql AAA AAy=some (.bool false):=by kernel_rfl
theorem aBF:aN .eql AAB AAt=some (.bool false):=by kernel_rfl
theorem aCB:aN .eql AAB AAu=some (.bool false):=by kernel_rfl
theorem aDy:aN .eql AAB AAv=some (.bool false):=by kernel_rfl
theorem aCD:aN .eql AAB AAw=some (.bool false):=by kernel_rfl
theorem aCC:aN .eql AAB AAx=some (.bool false):=by kernel_rfl
theorem aFe:aN .eql AAB AAy=some (.bool false):=by kernel_rfl
theorem aDu:aN .eql AAC AAt=some (.bool false):=by kernel_rfl
theorem aFa:aN .eql AAC AAu=some (.bool false):=by kernel_rfl
theorem aGS:aN .eql AAC AAv=some (.bool false):=by kernel_rfl
theorem aFc:aN .eql AAC AAw=some (.bool false):=by kernel_rfl
theorem aFb:aN .eql AAC AAx=some (.bool false):=by kernel_rfl
theorem aIr:aN .eql AAC AAy=some (.bool false):=by kernel_rfl
theorem aDC:aN .eql AAD AAt=some (.bool false):=by kernel_rfl
theorem aFh:aN .eql AAD AAu=some (.bool false):=by kernel_rfl
theorem aGY:aN .eql AAD AAv=some (.bool false):=by kernel_rfl
theorem aFj:aN .eql AAD AAw=some (.bool false):=by kernel_rfl
theorem aFi:aN .eql AAD AAx=some (.bool false):=by kernel_rfl
theorem aIt:aN .eql AAD AAy=some (.bool false):=by kernel_rfl
theorem aCE:aN .eql AAE AAt=some (.bool false):=by kernel_rfl
theorem aDz:aN .eql AAE AAu=some (.bool false):=by kernel_rfl
theorem aFf:aN .eql AAE AAv=some (.bool false):=by kernel_rfl
theorem aDB:aN .eql AAE AAw=some (.bool false):=by kernel_rfl
theorem aDA:aN .eql AAE AAx=some (.bool false):=by kernel_rfl
theorem aGU:aN .eql AAE AAy=some (.bool false):=by kernel_rfl
theorem aOq(ly:Lays h L s)(hcl:s.closed<s.tickets.length) :
 runW aB 27 [.pt L.c 0,.agg [.str AAw,.fs [],.fs []]] h=some (.fn (.func 69) [] [.pt h.length 0],h++[ab [.pt L.c 0],aa [.str AAw,.fs [],.fs []]]):=by
 obtain⟨n,hn⟩:∃ n,h.length=n:=⟨_,rfl⟩;obtain⟨g,hc⟩:=aC ly.hc;unfold cL at hc;have cn:(L.c<n)=True:=AAn (by rw[<-hn];exact aI ly.hc);rw[fD AS]at hc;have t1:((s.closed:Int)<(s.tickets.length:Int))=True:=AAa;have m1:=zC 4;rw[qY 27 oX rfl,hn];unfold oX;dsimp only;(exact kN hn hc cn t1 m1 vK pG rE pH)
theorem aWs{c:Nat}{z0:Int}:runW aB 27 [.pt c 0,.agg [.str AAz,.fs [[.str x]],.fs [[I z0]]]] h=some (.nilfn,h++[ab [.pt c 0],aa [.str AAz,.fs [[.str x]],.fs [[I z0]]]]):=by
 obtain⟨n,hn⟩:∃ n,h.length=n:=⟨_,rfl⟩;rw[qY 27 oX rfl,hn];unfold oX;dsimp only;(exact iS hn aFg aGV aIs aGX aGW aJT)
theorem aOn{c:Nat}  : runW aB 27 [.pt c 0,.agg [.str AAA,.fs [],.fs []]] h=some (.nilfn,h++[ab [.pt c 0],aa [.str AAA,.fs [],.fs []]]):=by
 obtain⟨n,hn⟩:∃ n,h.length=n:=⟨_,rfl⟩;rw[qY 27 oX rfl,hn];unfold oX;dsimp only;(exact iS hn aCA aDv aFd aDx aDw aGT)
theorem aMA{c:Nat}{u1:ByteArray}{i:Int}:runW aB 27 [.pt c 0,.agg [.str AAB,.fs [[.str u1]],.fs [[I i]]]] h=some (.nilfn,h++[ab [.pt c 0],aa [.str AAB,.fs [[.str u1]],.fs [[I i]]]]):=by
 obtain⟨n,hn⟩:∃ n,h.length=n:=⟨_,rfl⟩;rw[qY 27 oX rfl,hn];unfold oX;dsimp only;(exact iS hn aBF aCB aDy aCD aCC aFe)
theorem aSS{c:Nat}{z0:Int}:runW aB 27 [.pt c 0,.agg [.str AAC,.fs [[.str x]],.fs [[I z0]]]] h=some (.nilfn,h++[ab [.pt c 0],aa [.str AAC,.fs [[.str x]],.fs [[I z0]]]]):=by
 obtain⟨n,hn⟩:∃ n,h.length=n:=⟨_,rfl⟩;rw[qY 27 oX rfl,hn];unfold oX;dsimp only;(exact iS hn aDu aFa aGS aFc aFb aIr)
theorem aST{c:Nat}{z0:Int}:runW aB 27 [.pt c 0,.agg [.str AAD,.fs [[.str x]],.fs [[I z0]]]] h=some (.nilfn,h++[ab [.pt c 0],aa [.str AAD,.fs [[.str x]],.fs [[I z0]]]]):=by
 obtain⟨n,hn⟩:∃ n,h.length=n:=⟨_,rfl⟩;rw[qY 27 oX rfl,hn];unfold oX;dsimp only;(exact iS hn aDC aFh aGY aFj aFi aIt)
theorem aOo{c:Nat}{z0:Int}:runW aB 27 [.pt c 0,.agg [.str AAE,.fs [[.str x]],.fs [[I z0]]]] h=some (.nilfn,h++[ab [.pt c 0],aa [.str AAE,.fs [[.str x]],.fs [[I z0]]]]):=by
 obtain⟨n,hn⟩:∃ n,h.length=n:=⟨_,rfl⟩;rw[qY 27 oX rfl,hn];unfold oX;dsimp only;(exact iS hn aCE aDz aFf aDB aDA aGU)
theorem aMB(ly:Lays h L s){z0:Int}(hx:bR (s.farmers.map (·.1)) x=none)(hl:s.farmers.length≠9) :
 runW aB 27 [.pt L.c 0,.agg [.str AAt,.fs [[.str x]],.fs [[I z0]]]] h=some (.fn (.func 65) [] [.pt h.length 0,.pt (h.length+1) 0],h++[ab [.pt L.c 0],aa [.str AAt,.fs [[.str x]],.fs [[I z0]]]]):=by
 obtain⟨n,hn⟩:∃ n,h.length=n:=⟨_,rfl⟩;obtain⟨g,hc⟩:=aC ly.hc;unfold cL at hc;have cn:(L.c<n)=True:=AAn (by rw[<-hn];exact aI ly.hc);obtain⟨gw,hwo⟩:=ly.f.ho;obtain⟨gm,hwm⟩:=ly.f.hm;have won:(L.f.o<n)=True:=AAn (by rw[<-hn];exact ly.f.lts.1);have wmn:(L.f.m<n)=True:=AAn (by rw[<-hn];exact ly.f.lts.2.1);have hf:=ly.f.miss hx;have f1:=(ly.f.fr (Fr.app h [ab [.pt L.c 0],aa [.str AAt,.fs [[.str x]],.fs [[I z0]]]]) (λ_ _ hb=>by cases hb)).fullf (x:=x) (by decide);rw[hx,AAj rfl,J2,AAk (by grind)]at f1;have m1:=zC 6;have m2:=zC 15;rw[qY 27 oX rfl,hn];unfold oX;dsimp only;(exact eK hn hc cn m1 m2 hwo hwm won wmn hf f1 lZ aF)
theorem aOm{c:Nat}{u1 u2 y:ByteArray}{z0 z1 a b:Int}{v:AV}{h2:XH}(call:runW aB 67 [.pt c 0,.agg [.str AAu,.fs [[.str x],[.str u1],[.str u2],[.str y]],.fs [[I z0],[I a],[I b],[I z1]]]] (h++[ab [.pt c 0],aa [.str AAu,.fs [[.str x],[.str u1],[.str u2],[.str y]],.fs [[I z0],[I a],[I b],[I z1]]]])=some (v,h2))(p0:(hat h2 h.length).isSome=true)(p1:(hat h2 (h.length+1)).isSome=true):runW aB 27 [.pt c 0,.agg [.str AAu,.fs [[.str x],[.str u1],[.str u2],[.str y]],.fs [[I z0],[I a],[I b],[I z1]]]] h=some (v,h2):=by
 obtain⟨n,hn⟩:∃ n,h.length=n:=⟨_,rfl⟩;rw[hn]at p0 p1;rw[qY 27 oX rfl,hn];unfold oX;dsimp only;(exact iS hn call p0 p1 vI kQ aF)
theorem aSR{c:Nat}{u1:ByteArray}{i:Int}{v:AV}{h2:XH}(call:runW aB 68 [.pt c 0,I i] (h++[ab [.pt c 0],aa [.str AAv,.fs [[.str u1]],.fs [[I i]]]])=some (v,h2))(p0:(hat h2 h.length).isSome=true)(p1:(hat h2 (h.length+1)).isSome=true):runW aB 27 [.pt c 0,.agg [.str AAv,.fs [[.str u1]],.fs [[I i]]]] h=some (v,h2):=by
 obtain⟨n,hn⟩:∃ n,h.length=n:=⟨_,rfl⟩;rw[hn]at p0 p1;rw[qY 27 oX rfl,hn];unfold oX;dsimp only;(exact iS hn call p0 p1 wU rB tW)
theorem aOp{c:Nat}{u1:ByteArray}{z0 a:Int}{v:AV}{h2:XH}(call:runW aB 70 [.pt c 0,.str x,I a] (h++[ab [.pt c 0],aa [.str AAx,.fs [[.str x],[.str u1]],.fs [[I z0],[I a]]]])=some (v,h2))(p0:(hat h2 h.length).isSome=true)(p1:(hat h2 (h.length+1)).isSome=true):runW aB 27 [.pt c 0,.agg [.str AAx,.fs [[.str x],[.str u1]],.fs [[I z0],[I a]]]] h=some (v,h2):=by
 obtain⟨n,hn⟩:∃ n,h.length=n:=⟨_,rfl⟩;rw[hn]at p0 p1;rw[qY 27 oX rfl,hn];unfold oX;dsimp only;(exact kN hn call p0 p1 vJ pC rD pF pD)
theorem aWr{c:Nat}{u1 u2:ByteArray}{z0 a b:Int}{v:AV}{h2:XH}(call:runW aB 71 [.pt c 0,.str x,I a,I b] (h++[ab [.pt c 0],aa [.str AAy,.fs [[.str x],[.str u1],[.str u2]],.fs [[I z0],[I a],[I b]]]])=some (v,h2))(p0:(hat h2 h.length).isSome=true)(p1:(hat h2 (h.length+1)).isSome=true):runW aB 27 [.pt c 0,.agg [.str AAy,.fs [[.str x],[.str u1],[.str u2]],.fs [[I z0],[I a],[I b]]]] h=some (v,h2):=by
 obtain⟨n,hn⟩:∃ n,h.length=n:=⟨_,rfl⟩;rw[hn]at p0 p1;rw[qY 27 oX rfl,hn];unfold oX;dsimp only;(exact gZ hn call p0 p1 zP tX wV tZ tY aAb)
theorem aBw{c:Nat}{u1 u2 y:ByteArray}{z0 z1 a b:Int}{v:AV}{h2:XH}(call:CalP Tryz.prog aB 67 [.pt c 0,.agg [.str AAu,.fs [[.str x],[.str u1],[.str u2],[.str y]],.fs [[I z0],[I a],[I b],[I z1]]]] (h++[ab [.pt c 0],aa [.str AAu,.fs [[.str x],[.str u1],[.str u2],[.str y]],.fs [[I z0],[I a],[I b],[I z1]]]]) v h2):CalP Tryz.prog aB 27 [.pt c 0,.agg [.str AAu,.fs [[.str x],[.str u1],[.str u2],[.str y]],.fs [[I z0],[I a],[I b],[I z1]]]] h v h2:=by
 obtain⟨n,hn⟩:∃ n,h.length=n:=⟨_,rfl⟩;refine CalP.of (d:=oX) (e':=aY [] []) aA rfl (by simp[oX]) rfl ?_;unfold oX;dsimp only;refine PanX.seqR (K:=27) aA rfl [2,3] (vs:=[.pt n 0,.pt (n+1) 0]) (h1:=h++[ab [.pt c 0],aa [.str AAu,.fs [[.str x],[.str u1],[.str u2],[.str y]],.fs [[I z0],[I a],[I b],[I z1]]]]) (by rw[hn]; (exact cI hn)) ?_;refine PanX.seqL ?_;refine PanX.seqR (K:=27) aA rfl [2,3,6] (vs:=[.pt n 0,.pt (n+1) 0,.str AAu]) (h1:=h++[ab [.pt c 0],aa [.str AAu,.fs [[.str x],[.str u1],[.str u2],[.str y]],.fs [[I z0],[I a],[I b],[I z1]]]]) (by (exact cI hn)) ?_;refine PanX.block ?_;refine PanX.seqR (K:=27) aA rfl [2,3,6,7] (vs:=[.pt n 0,.pt (n+1) 0,.str AAu,.bool false]) (h1:=h++[ab [.pt c 0],aa [.str AAu,.fs [[.str x],[.str u1],[.str u2],[.str y]],.fs [[I z0],[I a],[I b],[I z1]]]]) (by (exact cI vI)) ?_;refine PanX.condF rfl ?_;refine PanX.seqR (K:=27) aA rfl [2,3,6,35] (vs:=[.pt n 0,.pt (n+1) 0,.str AAu,.bool true]) (h1:=h++[ab [.pt c 0],aa [.str AAu,.fs [[.str x],[.str u1],[.str u2],[.str y]],.fs [[I z0],[I a],[I b],[I z1]]]]) (by (exact cI kQ)) ?_;refine PanX.condT rfl ?_;refine PanX.seqL ?_;exact PanX.reg (p:=[⟨0,(some 37),(.load false 1 (.t 2)),none⟩,⟨0,(some 38),(.load true 3 (.t 3)),none⟩]) (post:=[⟨0,(some 4),(.mv (.t 39)),none⟩]) aA [] (g:=67) (first:=[]) (cap:=[]) (args:=[.pt c 0,.agg [.str AAu,.fs [[.str x],[.str u1],[.str u2],[.str y]],.fs [[I z0],[I a],[I b],[I z1]]]]) (vs:=[]) rfl rfl (by (exact cI hn)) call
theorem aHO{c:Nat}{u1:ByteArray}{i:Int}{v:AV}{h2:XH}(call:CalP Tryz.prog aB 68 [.pt c 0,I i] (h++[ab [.pt c 0],aa [.str AAv,.fs [[.str u1]],.fs [[I i]]]]) v h2):CalP Tryz.prog aB 27 [.pt c 0,.agg [.str AAv,.fs [[.str u1]],.fs [[I i]]]] h v h2:=by
 obtain⟨n,hn⟩:∃ n,h.length=n:=⟨_,rfl⟩;refine CalP.of (d:=oX) (e':=aY [] []) aA rfl (by simp[oX]) rfl ?_;unfold oX;dsimp only;refine PanX.seqR (K:=27) aA rfl [2,3] (vs:=[.pt n 0,.pt (n+1) 0]) (h1:=h++[ab [.pt c 0],aa [.str AAv,.fs [[.str u1]],.fs [[I i]]]]) (by rw[hn]; (exact cI hn)) ?_;refine PanX.seqL ?_;refine PanX.seqR (K:=27) aA rfl [2,3,6] (vs:=[.pt n 0,.pt (n+1) 0,.str AAv]) (h1:=h++[ab [.pt c 0],aa [.str AAv,.fs [[.str u1]],.fs [[I i]]]]) (by (exact cI hn)) ?_;refine PanX.block ?_;refine PanX.seqR (K:=27) aA rfl [2,3,6,7] (vs:=[.pt n 0,.pt (n+1) 0,.str AAv,.bool false]) (h1:=h++[ab [.pt c 0],aa [.str AAv,.fs [[.str u1]],.fs [[I i]]]]) (by (exact cI wU)) ?_;refine PanX.condF rfl ?_;refine PanX.seqR (K:=27) aA rfl [2,3,6,35] (vs:=[.pt n 0,.pt (n+1) 0,.str AAv,.bool false]) (h1:=h++[ab [.pt c 0],aa [.str AAv,.fs [[.str u1]],.fs [[I i]]]]) (by (exact cI rB)) ?_;refine PanX.condF rfl ?_;refine PanX.seqR (K:=27) aA rfl [2,3,6,40] (vs:=[.pt n 0,.pt (n+1) 0,.str AAv,.bool true]) (h1:=h++[ab [.pt c 0],aa [.str AAv,.fs [[.str u1]],.fs [[I i]]]]) (by (exact cI tW)) ?_;refine PanX.condT rfl ?_;refine PanX.seqL ?_;exact PanX.regU (fr:=[]) (p:=[⟨0,(some 42),(.load false 1 (.t 2)),none⟩,⟨1,(some 43),(.fld 2 (.t 3)),none⟩,⟨2,(some 44),(.load false 1 (.t 43)),none⟩,⟨3,(some 45),(.idx 1 (.t 44) (.c (.int .i64 0))),none⟩,⟨4,(some 46),(.load false 1 (.t 45)),none⟩]) (post:=[⟨6,(some 4),(.mv (.t 47)),none⟩]) aA [] (g:=68) (first:=[]) (cap:=[]) (args:=[.pt c 0,I i]) (vs:=[]) rfl rfl rfl (by (exact cI hn)) call
theorem aRv{c:Nat}{u1:ByteArray}{z0 a:Int}{v:AV}{h2:XH}(call:CalP Tryz.prog aB 70 [.pt c 0,.str x,I a] (h++[ab [.pt c 0],aa [.str AAx,.fs [[.str x],[.str u1]],.fs [[I z0],[I a]]]]) v h2):CalP Tryz.prog aB 27 [.pt c 0,.agg [.str AAx,.fs [[.str x],[.str u1]],.fs [[I z0],[I a]]]] h v h2:=by
 obtain⟨n,hn⟩:∃ n,h.length=n:=⟨_,rfl⟩;refine CalP.of (d:=oX) (e':=aY [] []) aA rfl (by simp[oX]) rfl ?_;unfold oX;dsimp only;refine PanX.seqR (K:=27) aA rfl [2,3] (vs:=[.pt n 0,.pt (n+1) 0]) (h1:=h++[ab [.pt c 0],aa [.str AAx,.fs [[.str x],[.str u1]],.fs [[I z0],[I a]]]]) (by rw[hn]; (exact cI hn)) ?_;refine PanX.seqL ?_;refine PanX.seqR (K:=27) aA rfl [2,3,6] (vs:=[.pt n 0,.pt (n+1) 0,.str AAx]) (h1:=h++[ab [.pt c 0],aa [.str AAx,.fs [[.str x],[.str u1]],.fs [[I z0],[I a]]]]) (by (exact cI hn)) ?_;refine PanX.block ?_;refine PanX.seqR (K:=27) aA rfl [2,3,6,7] (vs:=[.pt n 0,.pt (n+1) 0,.str AAx,.bool false]) (h1:=h++[ab [.pt c 0],aa [.str AAx,.fs [[.str x],[.str u1]],.fs [[I z0],[I a]]]]) (by (exact cI vJ)) ?_;refine PanX.condF rfl ?_;refine PanX.seqR (K:=27) aA rfl [2,3,6,35] (vs:=[.pt n 0,.pt (n+1) 0,.str AAx,.bool false]) (h1:=h++[ab [.pt c 0],aa [.str AAx,.fs [[.str x],[.str u1]],.fs [[I z0],[I a]]]]) (by (exact cI pC)) ?_;refine PanX.condF rfl ?_;refine PanX.seqR (K:=27) aA rfl [2,3,6,40] (vs:=[.pt n 0,.pt (n+1) 0,.str AAx,.bool false]) (h1:=h++[ab [.pt c 0],aa [.str AAx,.fs [[.str x],[.str u1]],.fs [[I z0],[I a]]]]) (by (exact cI rD)) ?_;refine PanX.condF rfl ?_;refine PanX.seqR (K:=27) aA rfl [2,3,6,48] (vs:=[.pt n 0,.pt (n+1) 0,.str AAx,.bool false]) (h1:=h++[ab [.pt c 0],aa [.str AAx,.fs [[.str x],[.str u1]],.fs [[I z0],[I a]]]]) (by (exact cI pF)) ?_;refine PanX.condF rfl ?_;refine PanX.seqR (K:=27) aA rfl [2,3,6,62] (vs:=[.pt n 0,.pt (n+1) 0,.str AAx,.bool true]) (h1:=h++[ab [.pt c 0],aa [.str AAx,.fs [[.str x],[.str u1]],.fs [[I z0],[I a]]]]) (by (exact cI pD)) ?_;refine PanX.condT rfl ?_;refine PanX.seqL ?_;exact PanX.regU (fr:=[]) (p:=[⟨0,(some 64),(.load false 1 (.t 2)),none⟩,⟨1,(some 65),(.fld 1 (.t 3)),none⟩,⟨2,(some 66),(.load false 1 (.t 65)),none⟩,⟨3,(some 67),(.idx 1 (.t 66) (.c (.int .i64 0))),none⟩,⟨4,(some 68),(.load false 1 (.t 67)),none⟩,⟨5,(some 69),(.fld 2 (.t 3)),none⟩,⟨6,(some 70),(.load false 1 (.t 69)),none⟩,⟨7,(some 71),(.idx 1 (.t 70) (.c (.int .i64 1))),none⟩,⟨8,(some 72),(.load false 1 (.t 71)),none⟩]) (post:=[⟨10,(some 4),(.mv (.t 73)),none⟩]) aA [] (g:=70) (first:=[]) (cap:=[]) (args:=[.pt c 0,.str x,I a]) (vs:=[]) rfl rfl rfl (by (exact cI hn)) call
theorem aRu{c:Nat}{u1 u2:ByteArray}{z0 a b:Int}{v:AV}{h2:XH}(call:CalP Tryz.prog aB 71 [.pt c 0,.str x,I a,I b] (h++[ab [.pt c 0],aa [.str AAy,.fs [[.str x],[.str u1],[.str u2]],.fs [[I z0],[I a],[I b]]]]) v h2):CalP Tryz.prog aB 27 [.pt c 0,.agg [.str AAy,.fs [[.str x],[.str u1],[.str u2]],.fs [[I z0],[I a],[I b]]]] h v h2:=by
 obtain⟨n,hn⟩:∃ n,h.length=n:=⟨_,rfl⟩;refine CalP.of (d:=oX) (e':=aY [] []) aA rfl (by simp[oX]) rfl ?_;unfold oX;dsimp only;refine PanX.seqR (K:=27) aA rfl [2,3] (vs:=[.pt n 0,.pt (n+1) 0]) (h1:=h++[ab [.pt c 0],aa [.str AAy,.fs [[.str x],[.str u1],[.str u2]],.fs [[I z0],[I a],[I b]]]]) (by rw[hn]; (exact cI hn)) ?_;refine PanX.seqL ?_;refine PanX.seqR (K:=27) aA rfl [2,3,6] (vs:=[.pt n 0,.pt (n+1) 0,.str AAy]) (h1:=h++[ab [.pt c 0],aa [.str AAy,.fs [[.str x],[.str u1],[.str u2]],.fs [[I z0],[I a],[I b]]]]) (by (exact cI hn)) ?_;refine PanX.block ?_;refine PanX.seqR (K:=27) aA rfl [2,3,6,7] (vs:=[.pt n 0,.pt (n+1) 0,.str AAy,.bool false]) (h1:=h++[ab [.pt c 0],aa [.str AAy,.fs [[.str x],[.str u1],[.str u2]],.fs [[I z0],[I a],[I b]]]]) (by (exact cI zP)) ?_;refine PanX.condF rfl ?_;refine PanX.seqR (K:=27) aA rfl [2,3,6,35] (vs:=[.pt n 0,.pt (n+1) 0,.str AAy,.bool false]) (h1:=h++[ab [.pt c 0],aa [.str AAy,.fs [[.str x],[.str u1],[.str u2]],.fs [[I z0],[I a],[I b]]]]) (by (exact cI tX)) ?_;refine PanX.condF rfl ?_;refine PanX.seqR (K:=27) aA rfl [2,3,6,40] (vs:=[.pt n 0,.pt (n+1) 0,.str AAy,.bool false]) (h1:=h++[ab [.pt c 0],aa [.str AAy,.fs [[.str x],[.str u1],[.str u2]],.fs [[I z0],[I a],[I b]]]]) (by (exact cI wV)) ?_;refine PanX.condF rfl ?_;refine PanX.seqR (K:=27) aA rfl [2,3,6,48] (vs:=[.pt n 0,.pt (n+1) 0,.str AAy,.bool false]) (h1:=h++[ab [.pt c 0],aa [.str AAy,.fs [[.str x],[.str u1],[.str u2]],.fs [[I z0],[I a],[I b]]]]) (by (exact cI tZ)) ?_;refine PanX.condF rfl ?_;refine PanX.seqR (K:=27) aA rfl [2,3,6,62] (vs:=[.pt n 0,.pt (n+1) 0,.str AAy,.bool false]) (h1:=h++[ab [.pt c 0],aa [.str AAy,.fs [[.str x],[.str u1],[.str u2]],.fs [[I z0],[I a],[I b]]]]) (by (exact cI tY)) ?_;refine PanX.condF rfl ?_;refine PanX.seqR (K:=27) aA rfl [2,3,6,74] (vs:=[.pt n 0,.pt (n+1) 0,.str AAy,.bool true]) (h1:=h++[ab [.pt c 0],aa [.str AAy,.fs [[.str x],[.str u1],[.str u2]],.fs [[I z0],[I a],[I b]]]]) (by (exact cI aAb)) ?_;refine PanX.condT rfl ?_;refine PanX.seqL ?_;exact PanX.regU (fr:=[]) (p:=[⟨0,(some 76),(.load false 1 (.t 2)),none⟩,⟨1,(some 77),(.fld 1 (.t 3)),none⟩,⟨2,(some 78),(.load false 1 (.t 77)),none⟩,⟨3,(some 79),(.idx 1 (.t 78) (.c (.int .i64 0))),none⟩,⟨4,(some 80),(.load false 1 (.t 79)),none⟩,⟨5,(some 81),(.fld 2 (.t 3)),none⟩,⟨6,(some 82),(.load false 1 (.t 81)),none⟩,⟨7,(some 83),(.idx 1 (.t 82) (.c (.int .i64 1))),none⟩,⟨8,(some 84),(.load false 1 (.t 83)),none⟩,⟨9,(some 85),(.fld 2 (.t 3)),none⟩,⟨10,(some 86),(.load false 1 (.t 85)),none⟩,⟨11,(some 87),(.idx 1 (.t 86) (.c (.int .i64 2))),none⟩,⟨12,(some 88),(.load false 1 (.t 87)),none⟩]) (post:=[⟨14,(some 4),(.mv (.t 89)),none⟩]) aA [] (g:=71) (first:=[]) (cap:=[]) (args:=[.pt c 0,.str x,I a,I b]) (vs:=[]) rfl rfl rfl (by (exact cI hn)) call
theorem aEQ(ly:Lays h L s){z0:Int}{i:Nat}(hx:bR (s.farmers.map (·.1)) x=some i):CalP Tryz.prog aB 27 [.pt L.c 0,.agg [.str AAt,.fs [[.str x]],.fs [[I z0]]]] h (.ifc 48 (.agg [I 6])) (h++[ab [.pt L.c 0],aa [.str AAt,.fs [[.str x]],.fs [[I z0]]]]):=by
 obtain⟨n,hn⟩:∃ n,h.length=n:=⟨_,rfl⟩;obtain⟨g,hc⟩:=aC ly.hc;unfold cL at hc;have cn:(L.c<n)=True:=AAn (by rw[<-hn];exact aI ly.hc);obtain⟨gw,hwo⟩:=ly.f.ho;obtain⟨gm,hwm⟩:=ly.f.hm;have won:(L.f.o<n)=True:=AAn (by rw[<-hn];exact ly.f.lts.1);have wmn:(L.f.m<n)=True:=AAn (by rw[<-hn];exact ly.f.lts.2.1);obtain⟨e,v,he,hv,hf,hev⟩:=ly.f.found hx;refine CalP.of (d:=oX) (e':=aY [] []) aA rfl (by simp[oX]) rfl ?_;unfold oX;dsimp only;refine PanX.seqR (K:=27) aA rfl [2,3] (vs:=[.pt n 0,.pt (n+1) 0]) (h1:=h++[ab [.pt L.c 0],aa [.str AAt,.fs [[.str x]],.fs [[I z0]]]]) (by rw[hn]; (exact cI hn)) ?_;refine PanX.seqL ?_;refine PanX.seqR (K:=27) aA rfl [2,3,6] (vs:=[.pt n 0,.pt (n+1) 0,.str AAt]) (h1:=h++[ab [.pt L.c 0],aa [.str AAt,.fs [[.str x]],.fs [[I z0]]]]) (by (exact cI hn)) ?_;refine PanX.block ?_;refine PanX.seqR (K:=27) aA rfl [2,3,6,7] (vs:=[.pt n 0,.pt (n+1) 0,.str AAt,.bool true]) (h1:=h++[ab [.pt L.c 0],aa [.str AAt,.fs [[.str x]],.fs [[I z0]]]]) (by (exact cI lZ)) ?_;refine PanX.condT rfl ?_;refine PanX.seqL ?_;exact PanX.regU (fr:=[]) (p:=[⟨0,(some 9),(.load false 1 (.t 2)),none⟩,⟨1,(some 10),(.nilck (.t 9)),none⟩,⟨2,(some 11),(.fld 0 (.t 10)),none⟩,⟨3,(some 12),(.load false 1 (.t 11)),none⟩,⟨4,(some 13),(.nilck (.t 12)),none⟩,⟨5,(some 14),(.fld 1 (.t 13)),none⟩,⟨6,(some 15),(.load false 1 (.t 14)),none⟩,⟨7,(some 16),(.fld 1 (.t 3)),none⟩,⟨8,(some 17),(.load false 1 (.t 16)),none⟩,⟨9,(some 18),(.idx 1 (.t 17) (.c (.int .i64 0))),none⟩,⟨10,(some 19),(.load false 1 (.t 18)),none⟩,⟨11,(some 20),(.lookup true false .nilpt (.t 15) (.t 19)),none⟩,⟨12,(some 21),(.eqn 3 false (.t 20) (.c .nilpt)),none⟩]) (post:=[]) aA [] (g:=24) (first:=[]) (cap:=[]) (args:=[.bool false,I 6]) (vs:=[]) rfl rfl rfl (by (exact kN hn hc cn hwo hwm won wmn hf aF)) (c58 6 _)
theorem aKS(ly:Lays h L s){z0:Int}(hx:bR (s.farmers.map (·.1)) x=none)(hl:s.farmers.length=9):CalP Tryz.prog aB 27 [.pt L.c 0,.agg [.str AAt,.fs [[.str x]],.fs [[I z0]]]] h (.ifc 48 (.agg [I 15])) (h++[ab [.pt L.c 0],aa [.str AAt,.fs [[.str x]],.fs [[I z0]]]]):=by
 obtain⟨n,hn⟩:∃ n,h.length=n:=⟨_,rfl⟩;obtain⟨g,hc⟩:=aC ly.hc;unfold cL at hc;have cn:(L.c<n)=True:=AAn (by rw[<-hn];exact aI ly.hc);obtain⟨gw,hwo⟩:=ly.f.ho;obtain⟨gm,hwm⟩:=ly.f.hm;have won:(L.f.o<n)=True:=AAn (by rw[<-hn];exact ly.f.lts.1);have wmn:(L.f.m<n)=True:=AAn (by rw[<-hn];exact ly.f.lts.2.1);have hf:=ly.f.miss hx;have f1:=(ly.f.fr (Fr.app h [ab [.pt L.c 0],aa [.str AAt,.fs [[.str x]],.fs [[I z0]]]]) (λ_ _ hb=>by cases hb)).fullf (x:=x) (by decide);rw[hx,AAj rfl,J2,AAj (by grind)]at f1;have m1:=zC 6;refine CalP.of (d:=oX) (e':=aY [] []) aA rfl (by simp[oX]) rfl ?_;unfold oX;dsimp only;refine PanX.seqR (K:=27) aA rfl [2,3] (vs:=[.pt n 0,.pt (n+1) 0]) (h1:=h++[ab [.pt L.c 0],aa [.str AAt,.fs [[.str x]],.fs [[I z0]]]]) (by rw[hn]; (exact cI hn)) ?_;refine PanX.seqL ?_;refine PanX.seqR (K:=27) aA rfl [2,3,6] (vs:=[.pt n 0,.pt (n+1) 0,.str AAt]) (h1:=h++[ab [.pt L.c 0],aa [.str AAt,.fs [[.str x]],.fs [[I z0]]]]) (by (exact cI hn)) ?_;refine PanX.block ?_;refine PanX.seqR (K:=27) aA rfl [2,3,6,7] (vs:=[.pt n 0,.pt (n+1) 0,.str AAt,.bool true]) (h1:=h++[ab [.pt L.c 0],aa [.str AAt,.fs [[.str x]],.fs [[I z0]]]]) (by (exact cI lZ)) ?_;refine PanX.condT rfl ?_;refine PanX.seqR (K:=27) aA rfl [2,3] (vs:=[.pt n 0,.pt (n+1) 0]) (h1:=h++[ab [.pt L.c 0],aa [.str AAt,.fs [[.str x]],.fs [[I z0]]]]) (by (exact kN hn hc cn hwo hwm won wmn hf m1)) ?_;refine PanX.seqL ?_;exact PanX.regU (fr:=[]) (p:=[⟨0,(some 23),(.load false 1 (.t 2)),none⟩,⟨1,(some 24),(.nilck (.t 23)),none⟩,⟨2,(some 25),(.fld 0 (.t 24)),none⟩,⟨3,(some 26),(.load false 1 (.t 25)),none⟩,⟨4,(some 27),(.fld 1 (.t 3)),none⟩,⟨5,(some 28),(.load false 1 (.t 27)),none⟩,⟨6,(some 29),(.idx 1 (.t 28) (.c (.int .i64 0))),none⟩,⟨7,(some 30),(.load false 1 (.t 29)),none⟩,⟨8,(some 31),(.callf false (.c (.fn (.func 64) [] [])) [(.t 26),(.t 30)] []),none⟩,⟨9,(some 32),(.not (.t 31)),none⟩]) (post:=[]) aA [] (g:=24) (first:=[]) (cap:=[]) (args:=[.bool false,I 15]) (vs:=[]) rfl rfl rfl (by (exact rR hn hc cn f1)) (c58 15 _)
theorem aRw(ly:Lays h L s)(hcl:s.tickets.length<=s.closed):CalP Tryz.prog aB 27 [.pt L.c 0,.agg [.str AAw,.fs [],.fs []]] h (.ifc 48 (.agg [I 4])) (h++[ab [.pt L.c 0],aa [.str AAw,.fs [],.fs []]]):=by
 obtain⟨n,hn⟩:∃ n,h.length=n:=⟨_,rfl⟩;obtain⟨g,hc⟩:=aC ly.hc;unfold cL at hc;have cn:(L.c<n)=True:=AAn (by rw[<-hn];exact aI ly.hc);refine CalP.of (d:=oX) (e':=aY [] []) aA rfl (by simp[oX]) rfl ?_;unfold oX;dsimp only;refine PanX.seqR (K:=27) aA rfl [2,3] (vs:=[.pt n 0,.pt (n+1) 0]) (h1:=h++[ab [.pt L.c 0],aa [.str AAw,.fs [],.fs []]]) (by rw[hn]; (exact cI hn)) ?_;refine PanX.seqL ?_;refine PanX.seqR (K:=27) aA rfl [2,3,6] (vs:=[.pt n 0,.pt (n+1) 0,.str AAw]) (h1:=h++[ab [.pt L.c 0],aa [.str AAw,.fs [],.fs []]]) (by (exact cI hn)) ?_;refine PanX.block ?_;refine PanX.seqR (K:=27) aA rfl [2,3,6,7] (vs:=[.pt n 0,.pt (n+1) 0,.str AAw,.bool false]) (h1:=h++[ab [.pt L.c 0],aa [.str AAw,.fs [],.fs []]]) (by (exact cI vK)) ?_;refine PanX.condF rfl ?_;refine PanX.seqR (K:=27) aA rfl [2,3,6,35] (vs:=[.pt n 0,.pt (n+1) 0,.str AAw,.bool false]) (h1:=h++[ab [.pt L.c 0],aa [.str AAw,.fs [],.fs []]]) (by (exact cI pG)) ?_;refine PanX.condF rfl ?_;refine PanX.seqR (K:=27) aA rfl [2,3,6,40] (vs:=[.pt n 0,.pt (n+1) 0,.str AAw,.bool false]) (h1:=h++[ab [.pt L.c 0],aa [.str AAw,.fs [],.fs []]]) (by (exact cI rE)) ?_;refine PanX.condF rfl ?_;refine PanX.seqR (K:=27) aA rfl [2,3,6,48] (vs:=[.pt n 0,.pt (n+1) 0,.str AAw,.bool true]) (h1:=h++[ab [.pt L.c 0],aa [.str AAw,.fs [],.fs []]]) (by (exact cI pH)) ?_;refine PanX.condT rfl ?_;refine PanX.seqL ?_;refine PanX.regU (fr:=[]) (p:=[⟨0,(some 50),(.load false 1 (.t 2)),none⟩,⟨1,(some 51),(.nilck (.t 50)),none⟩,⟨2,(some 52),(.fld 5 (.t 51)),none⟩,⟨3,(some 53),(.load false 1 (.t 52)),none⟩,⟨4,(some 54),(.load false 1 (.t 2)),none⟩,⟨5,(some 55),(.nilck (.t 54)),none⟩,⟨6,(some 56),(.fld 4 (.t 55)),none⟩,⟨7,(some 57),(.load false 1 (.t 56)),none⟩,⟨8,(some 58),(.len false (.t 57)),none⟩,⟨9,(some 59),(.bin .lss (.t 53) (.t 58)),none⟩]) (post:=[]) aA [] (g:=24) (first:=[]) (cap:=[]) (args:=[.bool false,I 4]) (vs:=[]) rfl rfl rfl ?_ (c58 4 _);by_cases hk:0<s.tickets.length
 .rw[fD hk]at hc
  have t1:((s.closed:Int)<(s.tickets.length:Int))=False:=AAb;(exact rR hc hn cn t1)
 .have h0:s.tickets.length=0:=AS
  have hv:iX L.tb s.tickets.length = .nilsl:=by rw[h0];rfl
  rw[hv]at hc;have t1:((s.closed:Int)<0)=False:=AAb;(exact rR hc hn cn t1)
def Clo(n:Nat):ABlk->Prop
 | .cells _ xs=>∀ b cs,n<=b->fzL b cs xs=xs
 | .map _ es=>∀ b cs,n<=b->(es.map λp=>(xJ b cs p.1,xJ b cs p.2))=es
 | _=>False
def Frz(n:Nat)(h hh:XH):Prop:=∀ j c,aH h j=some c->Clo n c->aH hh j=some c
theorem Fr.frz(f:Fr [] h h'){n:Nat}:Frz n h h':=λj c hc _=>f.keepS hc (by simp)
theorem Frz.trans{n:Nat}(a:Frz n h h1)(b:Frz n h1 h'):Frz n h h':=λj c hc hn=>b j c (a j c hc hn) hn
theorem aUb{b j:Nat}{cs:List AV}{c:ABlk}(hc:aH h j=some c)(hn:Clo b c):aH (h.map (fzO b cs)) j=some c:=by
 obtain⟨g,hg⟩:=aC hc;have h2:hat (h.map (fzO b cs)) j=fzO b cs (hat h j):=by
  unfold hat;rw[C7,C7,C3];cases h[j]?<;>rfl
 unfold aH;rw[h2,hg];cases g with
 | true=>rfl
 | false=>cases c with
   | cells w xs=>show some (ABlk.cells w (fzL b cs xs))=_;rw[hn b cs (B5 _)]
   | map w es=>show some (ABlk.map w (es.map λp=>(xJ b cs p.1,xJ b cs p.2)))=_;rw[hn b cs (B5 _)]
   | _=>rfl
theorem Clo.mono{n b:Nat}{c:ABlk}(h:Clo n c)(hb:n<=b):Clo b c:=by
 cases c with
 | cells w xs=>grind [Clo]
 | map w es=>exact λb' cs hb'=>h b' cs (H9 hb hb')
 | _=>exact h
theorem Frz.fz{n b:Nat}{cs:List AV}(hb:n<=b):Frz n h (h.map (fzO b cs)):=λj c hc hn=>aUb hc (hn.mono hb)
theorem Frz.app{n:Nat}(f:Frz n h h')(k:XH):Frz n h (h'++k):=f.trans (Fr.app h' k).frz
theorem aEX{n:Int}(h : -9223372036854775808<=n/\n<=9223372036854775807):runW aB 23 [I n] []=some (.str ⟨⟨Lib.itoa n⟩⟩,[]):=by
 rw[p57];simp_all [aBJ]
theorem wP:aN .eql AAA AAA=some (.bool true):=by kernel_rfl
theorem aAL:aN .eql AAz AAA=some (.bool false):=by kernel_rfl
theorem aDt:aN .eql AAz AAz=some (.bool true):=by kernel_rfl
theorem zK:aN .eql AAC AAA=some (.bool false):=by kernel_rfl
theorem aCi:aN .eql AAC AAz=some (.bool false):=by kernel_rfl
theorem aAJ:aN .eql AAC AAC=some (.bool true):=by kernel_rfl
theorem zO:aN .eql AAD AAA=some (.bool false):=by kernel_rfl
theorem aCj:aN .eql AAD AAz=some (.bool false):=by kernel_rfl
theorem aAM:aN .eql AAD AAC=some (.bool false):=by kernel_rfl
theorem aAN:aN .eql AAD AAD=some (.bool true):=by kernel_rfl
theorem wQ:aN .eql AAE AAA=some (.bool false):=by kernel_rfl
theorem aAK:aN .eql AAE AAz=some (.bool false):=by kernel_rfl
theorem zL:aN .eql AAE AAC=some (.bool false):=by kernel_rfl
theorem zM:aN .eql AAE AAD=some (.bool false):=by kernel_rfl
theorem wT:aN .eql AAE AAE=some (.bool true):=by kernel_rfl
theorem nI:aN .eql AAB AAA=some (.bool false):=by kernel_rfl
theorem rA:aN .eql AAB AAz=some (.bool false):=by kernel_rfl
theorem pA:aN .eql AAB AAC=some (.bool false):=by kernel_rfl
theorem pB:aN .eql AAB AAD=some (.bool false):=by kernel_rfl
theorem nJ:aN .eql AAB AAE=some (.bool false):=by kernel_rfl
theorem lY:aN .eql AAB AAB=some (.bool true):=by kernel_rfl
theorem aWq(ly:Lays h L s){z0:Int}{i:Nat}{y:Int}(hx:bR (s.farmers.map (·.1)) x=some i)(hy:s.farmers[i]?=some (x,y))(hb : -9223372036854775808<=y/\y<=9223372036854775807):runW aB 28 [.pt L.c 0,.agg [.str AAz,.fs [[.str x]],.fs [[I z0]]]] h=some (.str ⟨⟨Lib.itoa y⟩⟩,h++[aa [.str AAz,.fs [[.str x]],.fs [[I z0]]]]):=by
 obtain⟨n,hn⟩:∃ n,h.length=n:=⟨_,rfl⟩;obtain⟨g,hc⟩:=aC ly.hc;unfold cL at hc;have cn:(L.c<n)=True:=AAn (by rw[<-hn];exact aI ly.hc);obtain⟨e,v,he,hv,hev,call⟩:=(ly.ext [aa [.str AAz,.fs [[.str x]],.fs [[I z0]]]]).f.getf hx;rw[C3,hy]at hv;cases hv;have hev2:=ly.f.he he (v:=[I y]) (by grind);obtain⟨ge,hee⟩:=aC hev2;have en:(e<n)=True:=AAn (by rw[<-hn];exact aI hev2);have c57:=aEX hb;rw[qY 28 zB rfl,hn];unfold zB;dsimp only;(exact kN hn hc cn call hee en c57 aAL aDt)
theorem aSP(ly:Lays h L s){z0:Int}{i:Nat}{y:Int×Int}(hx:bR (s.meters.map (·.1)) x=some i)(hy:s.meters[i]?=some (x,y))(hb : -9223372036854775808<=y.2/\y.2<=9223372036854775807):runW aB 28 [.pt L.c 0,.agg [.str AAC,.fs [[.str x]],.fs [[I z0]]]] h=some (.str ⟨⟨Lib.itoa y.2⟩⟩,h++[aa [.str AAC,.fs [[.str x]],.fs [[I z0]]]]):=by
 obtain⟨n,hn⟩:∃ n,h.length=n:=⟨_,rfl⟩;obtain⟨g,hc⟩:=aC ly.hc;unfold cL at hc;have cn:(L.c<n)=True:=AAn (by rw[<-hn];exact aI ly.hc);obtain⟨e,v,he,hv,hev,call⟩:=(ly.ext [aa [.str AAC,.fs [[.str x]],.fs [[I z0]]]]).m.getm hx;rw[C3,hy]at hv;cases hv;have hev2:=ly.m.he he (v:=[I y.1,I y.2]) (by grind);obtain⟨ge,hee⟩:=aC hev2;have en:(e<n)=True:=AAn (by rw[<-hn];exact aI hev2);have c57:=aEX hb;rw[qY 28 zB rfl,hn];unfold zB;dsimp only;(exact gZ hn hc cn call hee en c57 zK aCi aAJ)
theorem aSQ(ly:Lays h L s){z0:Int}{i:Nat}{y:Int}(hx:bR (s.pans.map (·.1)) x=some i)(hy:s.pans[i]?=some (x,y))(hb : -9223372036854775808<=y/\y<=9223372036854775807):runW aB 28 [.pt L.c 0,.agg [.str AAD,.fs [[.str x]],.fs [[I z0]]]] h=some (.str ⟨⟨Lib.itoa y⟩⟩,h++[aa [.str AAD,.fs [[.str x]],.fs [[I z0]]]]):=by
 obtain⟨n,hn⟩:∃ n,h.length=n:=⟨_,rfl⟩;obtain⟨g,hc⟩:=aC ly.hc;unfold cL at hc;have cn:(L.c<n)=True:=AAn (by rw[<-hn];exact aI ly.hc);obtain⟨e,v,he,hv,hev,call⟩:=(ly.ext [aa [.str AAD,.fs [[.str x]],.fs [[I z0]]]]).p.getp hx;rw[C3,hy]at hv;cases hv;have hev2:=ly.p.he he (v:=[I y]) (by grind);obtain⟨ge,hee⟩:=aC hev2;have en:(e<n)=True:=AAn (by rw[<-hn];exact aI hev2);have c57:=aEX hb;rw[qY 28 zB rfl,hn];unfold zB;dsimp only;(exact eK hn hc cn call hee en c57 zO aCj aAM aAN aF aF)
theorem aOl{c:Nat}{z0 k:Int}{hh:XH}(call:runW aB 75 [.pt c 0,.str x] (h++[aa [.str AAE,.fs [[.str x]],.fs [[I z0]]]])=some (I k,hh))(hb : -9223372036854775808<=k/\k<=9223372036854775807):runW aB 28 [.pt c 0,.agg [.str AAE,.fs [[.str x]],.fs [[I z0]]]] h=some (.str ⟨⟨Lib.itoa k⟩⟩,hh):=by
 obtain⟨n,hn⟩:∃ n,h.length=n:=⟨_,rfl⟩;have c57:=aEX hb;rw[qY 28 zB rfl,hn];unfold zB;dsimp only;(exact kN hn call c57 wQ aAK zL zM wT aF)
theorem aMz(ly:Lays h L s){u1:ByteArray}{i:Nat}{k:zH}(hk:s.tickets[i]?=some k)(hb:0<=k.net/\k.net<=99999){o:ByteArray}(hj:runW aB 76 [.fs (if k.void then [[.str k.wagon],[.str k.farmer],[.str ⟨⟨Lib.itoa k.net⟩⟩],[.str AAv]] else [[.str k.wagon],[.str k.farmer],[.str ⟨⟨Lib.itoa k.net⟩⟩]]),.str ⟨⟨[32]⟩⟩] []=some (.str o,[])):∃ hh,runW aB 28 [.pt L.c 0,.agg [.str AAB,.fs [[.str u1]],.fs [[I (i:Nat)]]]] h=some (.str o,hh)/\Frz h.length h hh:=by
 obtain⟨n,hn⟩:∃ n,h.length=n:=⟨_,rfl⟩;obtain⟨e,he,hke,hb2,hi⟩:=ly.tk.at hk;have hl:i<s.tickets.length:=by grind
 obtain⟨g,hc⟩:=aC ly.hc;unfold cL at hc;rw[fD AS]at hc;obtain⟨g1,hb1⟩:=aC hb2;obtain⟨g2,hk2⟩:=aC hke;unfold tkC at hk2;have cn:(L.c<n)=True:=AAn (by rw[<-hn];exact aI ly.hc);have bn:(L.tb<n)=True:=AAn (by rw[<-hn];exact aI hb2);have en:(e<n)=True:=AAn (by rw[<-hn];exact aI hke);have t1:((i:Int)<(s.tickets.length:Int))=True:=AAa;have mp:(some e).map (λe=>AV.pt e 0)=some (.pt e 0):=rfl;have m1:=zC 5;have c57:=aEX (n:=k.net) AS;have so:∀ a:ByteArray,cP (.str a) (.str a)=true:=by intro a;simp[cP]
 cases hv:k.void with
 | false =>
   rw[hv]at hk2 hj;simp only[C6,AAd]at hj;refine⟨h.map (fzO (n+1) [.str k.wagon,.str k.farmer,.str ⟨⟨Lib.itoa k.net⟩⟩])++[aa [.str AAB,.fs [[.str u1]],.fs [[I (i:Nat)]]],none],?_,(Frz.fz AS).app _⟩;rw[qY 28 zB rfl,hn];unfold zB;dsimp only;(exact eD hn hc cn bn en hb1 hk2 t1 m1 he mp c57 hj so nI rA pA pB nJ lY)
 | true =>
   rw[hv]at hk2 hj;simp only[AAe]at hj;refine⟨h.map (fzO (n+3) [.str k.wagon,.str k.farmer,.str ⟨⟨Lib.itoa k.net⟩⟩,.str AAv])++[aa [.str AAB,.fs [[.str u1]],.fs [[I (i:Nat)]]],none,aa [.str AAv],none],?_,(Frz.fz AS).app _⟩;rw[qY 28 zB rfl,hn];unfold zB;dsimp only;(exact eD hn hc cn bn en hb1 hk2 t1 m1 he mp c57 hj so nI rA pA pB nJ lY)
theorem aEw{b:Nat}{cs:List AV}:∀(l:List ByteArray),fzL b cs (l.map .str)=l.map .str
 | []=>rfl
 | k::r=>by simp only[E7,fzL,xJ,aEw r]
theorem aLR{b:Nat}{cs:List AV}:∀(l:List Nat),fzL b cs (l.map λe=>.pt e 0)=l.map λe=>.pt e 0
 | []=>rfl
 | k::r=>by simp only[E7,fzL,xJ,aLR r]
theorem aKy{b k n:Nat}{cs:List AV}(hk:0<n->k<b):xJ b cs (iX k n)=iX k n:=by
 grind [xJ,iX]
theorem aQP{b:Nat}{cs:List AV}:∀(ks:List ByteArray)(es:List Nat),(ent ks es).map (λp=>(xJ b cs p.1,xJ b cs p.2))=ent ks es
 | [],_=>rfl
 | _::_,[]=>rfl
 | k::ks,e::es=>AAs (_ :: ·) (aQP ks es)
theorem Od.frz{l:OL}{ks:List ByteArray}{vs:List (List AV)}{t:Int}(od:Od h l ks vs t)(f:Frz h.length h h')(hv:∀ v∈vs,∀ b cs,fzL b cs v=v):Od h' l ks vs t:=by
 refine⟨⟨λp hp=>f p.1 p.2 (od.hd.1 p hp) ?_,od.hd.2⟩,od.ek,od.vk⟩;unfold aAg at hp;rw[C4,C4,C8]at hp;rcases hp with rfl|rfl|hp|hp
 .intro b cs hb
  have:=od.lts.2.2.1;simp only[fzL,aKy (λhk=>E5 (this hk) hb)];rfl
 .exact λb cs _=>aQP _ _
 .unfold sBk at hp
  split at hp;·cases hp
  .rw[D2]at hp
   subst hp;exact λb cs _=>aEw _
 .obtain⟨i,e,v,_,h2,rfl⟩:=aKH hp
  exact λb cs _=>hv v (B3 h2) b cs
theorem Lays.frz(ly:Lays h L s)(f:Frz h.length h h'):Lays h' L s where
 hc:=f _ _ ly.hc λb cs hb=>by
  unfold cL;simp only[fzL,aKy (λhk=>E5 (ly.tk.lts.1 hk) hb),aKy (λhk=>E5 (aI (ly.bk hk)) hb)];rfl
 tk:=⟨ly.tk.el,λhk=>f _ _ (ly.tk.hb hk) λb cs _=>aLR _,λi e k he hk=>f _ _ (ly.tk.he i e k he hk) λb cs _=>rfl,ly.tk.nd,ly.tk.nb⟩
 bk hk:=f _ _ (ly.bk hk) λb cs _=>aEw _
 f:=ly.f.frz f λv hv b cs=>by obtain⟨p,_,rfl⟩:=F8.1 hv;rfl
 m:=ly.m.frz f λv hv b cs=>by obtain⟨p,_,rfl⟩:=F8.1 hv;rfl
 p:=ly.p.frz f λv hv b cs=>by obtain⟨p,_,rfl⟩:=F8.1 hv;rfl
 w:=ly.w.frz f λv hv b cs=>by obtain⟨p,_,rfl⟩:=F8.1 hv;rfl
 dj:=ly.dj
theorem aXR(ly:Lays h L s){z0:Int}(hx:bR (s.farmers.map (·.1)) x=none):CalP Tryz.prog aB 28 [.pt L.c 0,.agg [.str AAz,.fs [[.str x]],.fs [[I z0]]]] h (.ifc 48 (.agg [I 5])) (h++[aa [.str AAz,.fs [[.str x]],.fs [[I z0]]]]):=by
 obtain⟨n,hn⟩:∃ n,h.length=n:=⟨_,rfl⟩;obtain⟨g,hc⟩:=aC ly.hc;unfold cL at hc;have cn:(L.c<n)=True:=AAn (by rw[<-hn];exact aI ly.hc);have call:=(ly.ext [aa [.str AAz,.fs [[.str x]],.fs [[I z0]]]]).f.nonef hx;refine CalP.of (d:=zB) (e':=aY [] []) aA rfl (by simp[zB]) rfl ?_;unfold zB;dsimp only;refine PanX.seqR (K:=28) aA rfl [0,3] (vs:=[.pt L.c 0,.pt n 0]) (h1:=h++[aa [.str AAz,.fs [[.str x]],.fs [[I z0]]]]) (by rw[hn]; (exact cI hn)) ?_;refine PanX.seqR (K:=28) aA rfl [0,3] (vs:=[.pt L.c 0,.pt n 0]) (h1:=h++[aa [.str AAz,.fs [[.str x]],.fs [[I z0]]]]) (by (exact cI hn)) ?_;refine PanX.seqL ?_;refine PanX.seqR (K:=28) aA rfl [0,3,11] (vs:=[.pt L.c 0,.pt n 0,.str AAz]) (h1:=h++[aa [.str AAz,.fs [[.str x]],.fs [[I z0]]]]) (by (exact cI hn)) ?_;refine PanX.block ?_;refine PanX.seqR (K:=28) aA rfl [0,3,11,12] (vs:=[.pt L.c 0,.pt n 0,.str AAz,.bool false]) (h1:=h++[aa [.str AAz,.fs [[.str x]],.fs [[I z0]]]]) (by (exact cI aAL)) ?_;refine PanX.condF rfl ?_;refine PanX.seqR (K:=28) aA rfl [0,3,11,38] (vs:=[.pt L.c 0,.pt n 0,.str AAz,.bool true]) (h1:=h++[aa [.str AAz,.fs [[.str x]],.fs [[I z0]]]]) (by (exact cI aDt)) ?_;refine PanX.condT rfl ?_;exact PanX.regU (fr:=[]) (p:=[⟨0,(some 40),(.mv (.t 0)),none⟩,⟨1,(some 41),(.nilck (.t 40)),none⟩,⟨2,(some 42),(.fld 0 (.t 41)),none⟩,⟨3,(some 43),(.load false 1 (.t 42)),none⟩,⟨4,(some 44),(.fld 1 (.t 3)),none⟩,⟨5,(some 45),(.load false 1 (.t 44)),none⟩,⟨6,(some 46),(.idx 1 (.t 45) (.c (.int .i64 0))),none⟩,⟨7,(some 47),(.load false 1 (.t 46)),none⟩]) (post:=[⟨9,(some 49),(.nilck (.t 48)),none⟩,⟨10,(some 50),(.fld 0 (.t 49)),none⟩,⟨11,(some 51),(.load false 1 (.t 50)),none⟩,⟨12,(some 5),(.mv (.t 51)),none⟩]) aA [] (g:=72) (first:=[]) (cap:=[]) (args:=[.pt L.f.o 0,.str x]) (vs:=[]) rfl rfl rfl (by (exact vC hn hc cn)) call
theorem aUz(ly:Lays h L s){z0:Int}(hx:bR (s.meters.map (·.1)) x=none):CalP Tryz.prog aB 28 [.pt L.c 0,.agg [.str AAC,.fs [[.str x]],.fs [[I z0]]]] h (.ifc 48 (.agg [I 5])) (h++[aa [.str AAC,.fs [[.str x]],.fs [[I z0]]]]):=by
 obtain⟨n,hn⟩:∃ n,h.length=n:=⟨_,rfl⟩;obtain⟨g,hc⟩:=aC ly.hc;unfold cL at hc;have cn:(L.c<n)=True:=AAn (by rw[<-hn];exact aI ly.hc);have call:=(ly.ext [aa [.str AAC,.fs [[.str x]],.fs [[I z0]]]]).m.nonem hx;refine CalP.of (d:=zB) (e':=aY [] []) aA rfl (by simp[zB]) rfl ?_;unfold zB;dsimp only;refine PanX.seqR (K:=28) aA rfl [0,3] (vs:=[.pt L.c 0,.pt n 0]) (h1:=h++[aa [.str AAC,.fs [[.str x]],.fs [[I z0]]]]) (by rw[hn]; (exact cI hn)) ?_;refine PanX.seqR (K:=28) aA rfl [0,3] (vs:=[.pt L.c 0,.pt n 0]) (h1:=h++[aa [.str AAC,.fs [[.str x]],.fs [[I z0]]]]) (by (exact cI hn)) ?_;refine PanX.seqL ?_;refine PanX.seqR (K:=28) aA rfl [0,3,11] (vs:=[.pt L.c 0,.pt n 0,.str AAC]) (h1:=h++[aa [.str AAC,.fs [[.str x]],.fs [[I z0]]]]) (by (exact cI hn)) ?_;refine PanX.block ?_;refine PanX.seqR (K:=28) aA rfl [0,3,11,12] (vs:=[.pt L.c 0,.pt n 0,.str AAC,.bool false]) (h1:=h++[aa [.str AAC,.fs [[.str x]],.fs [[I z0]]]]) (by (exact cI zK)) ?_;refine PanX.condF rfl ?_;refine PanX.seqR (K:=28) aA rfl [0,3,11,38] (vs:=[.pt L.c 0,.pt n 0,.str AAC,.bool false]) (h1:=h++[aa [.str AAC,.fs [[.str x]],.fs [[I z0]]]]) (by (exact cI aCi)) ?_;refine PanX.condF rfl ?_;refine PanX.seqR (K:=28) aA rfl [0,3,11,52] (vs:=[.pt L.c 0,.pt n 0,.str AAC,.bool true]) (h1:=h++[aa [.str AAC,.fs [[.str x]],.fs [[I z0]]]]) (by (exact cI aAJ)) ?_;refine PanX.condT rfl ?_;exact PanX.regU (fr:=[]) (p:=[⟨0,(some 54),(.mv (.t 0)),none⟩,⟨1,(some 55),(.nilck (.t 54)),none⟩,⟨2,(some 56),(.fld 1 (.t 55)),none⟩,⟨3,(some 57),(.load false 1 (.t 56)),none⟩,⟨4,(some 58),(.fld 1 (.t 3)),none⟩,⟨5,(some 59),(.load false 1 (.t 58)),none⟩,⟨6,(some 60),(.idx 1 (.t 59) (.c (.int .i64 0))),none⟩,⟨7,(some 61),(.load false 1 (.t 60)),none⟩]) (post:=[⟨9,(some 63),(.nilck (.t 62)),none⟩,⟨10,(some 64),(.fld 1 (.t 63)),none⟩,⟨11,(some 65),(.load false 1 (.t 64)),none⟩,⟨12,(some 5),(.mv (.t 65)),none⟩]) aA [] (g:=73) (first:=[]) (cap:=[]) (args:=[.pt L.m.o 0,.str x]) (vs:=[]) rfl rfl rfl (by (exact vC hn hc cn)) call
theorem aUA(ly:Lays h L s){z0:Int}(hx:bR (s.pans.map (·.1)) x=none):CalP Tryz.prog aB 28 [.pt L.c 0,.agg [.str AAD,.fs [[.str x]],.fs [[I z0]]]] h (.ifc 48 (.agg [I 5])) (h++[aa [.str AAD,.fs [[.str x]],.fs [[I z0]]]]):=by
 obtain⟨n,hn⟩:∃ n,h.length=n:=⟨_,rfl⟩;obtain⟨g,hc⟩:=aC ly.hc;unfold cL at hc;have cn:(L.c<n)=True:=AAn (by rw[<-hn];exact aI ly.hc);have call:=(ly.ext [aa [.str AAD,.fs [[.str x]],.fs [[I z0]]]]).p.nonep hx;refine CalP.of (d:=zB) (e':=aY [] []) aA rfl (by simp[zB]) rfl ?_;unfold zB;dsimp only;refine PanX.seqR (K:=28) aA rfl [0,3] (vs:=[.pt L.c 0,.pt n 0]) (h1:=h++[aa [.str AAD,.fs [[.str x]],.fs [[I z0]]]]) (by rw[hn]; (exact cI hn)) ?_;refine PanX.seqR (K:=28) aA rfl [0,3] (vs:=[.pt L.c 0,.pt n 0]) (h1:=h++[aa [.str AAD,.fs [[.str x]],.fs [[I z0]]]]) (by (exact cI hn)) ?_;refine PanX.seqL ?_;refine PanX.seqR (K:=28) aA rfl [0,3,11] (vs:=[.pt L.c 0,.pt n 0,.str AAD]) (h1:=h++[aa [.str AAD,.fs [[.str x]],.fs [[I z0]]]]) (by (exact cI hn)) ?_;refine PanX.block ?_;refine PanX.seqR (K:=28) aA rfl [0,3,11,12] (vs:=[.pt L.c 0,.pt n 0,.str AAD,.bool false]) (h1:=h++[aa [.str AAD,.fs [[.str x]],.fs [[I z0]]]]) (by (exact cI zO)) ?_;refine PanX.condF rfl ?_;refine PanX.seqR (K:=28) aA rfl [0,3,11,38] (vs:=[.pt L.c 0,.pt n 0,.str AAD,.bool false]) (h1:=h++[aa [.str AAD,.fs [[.str x]],.fs [[I z0]]]]) (by (exact cI aCj)) ?_;refine PanX.condF rfl ?_;refine PanX.seqR (K:=28) aA rfl [0,3,11,52] (vs:=[.pt L.c 0,.pt n 0,.str AAD,.bool false]) (h1:=h++[aa [.str AAD,.fs [[.str x]],.fs [[I z0]]]]) (by (exact cI aAM)) ?_;refine PanX.condF rfl ?_;refine PanX.seqR (K:=28) aA rfl [0,3,11,66] (vs:=[.pt L.c 0,.pt n 0,.str AAD,.bool true]) (h1:=h++[aa [.str AAD,.fs [[.str x]],.fs [[I z0]]]]) (by (exact cI aAN)) ?_;refine PanX.condT rfl ?_;exact PanX.regU (fr:=[]) (p:=[⟨0,(some 68),(.mv (.t 0)),none⟩,⟨1,(some 69),(.nilck (.t 68)),none⟩,⟨2,(some 70),(.fld 2 (.t 69)),none⟩,⟨3,(some 71),(.load false 1 (.t 70)),none⟩,⟨4,(some 72),(.fld 1 (.t 3)),none⟩,⟨5,(some 73),(.load false 1 (.t 72)),none⟩,⟨6,(some 74),(.idx 1 (.t 73) (.c (.int .i64 0))),none⟩,⟨7,(some 75),(.load false 1 (.t 74)),none⟩]) (post:=[⟨9,(some 77),(.nilck (.t 76)),none⟩,⟨10,(some 78),(.fld 0 (.t 77)),none⟩,⟨11,(some 79),(.load false 1 (.t 78)),none⟩,⟨12,(some 5),(.mv (.t 79)),none⟩]) aA [] (g:=74) (first:=[]) (cap:=[]) (args:=[.pt L.p.o 0,.str x]) (vs:=[]) rfl rfl rfl (by (exact vC hn hc cn)) call
theorem aNz(ly:Lays h L s){u1:ByteArray}{i:Nat}(hi:s.tickets.length<=i):CalP Tryz.prog aB 28 [.pt L.c 0,.agg [.str AAB,.fs [[.str u1]],.fs [[I (i:Nat)]]]] h (.ifc 48 (.agg [I 5])) (h++[aa [.str AAB,.fs [[.str u1]],.fs [[I (i:Nat)]]]]):=by
 obtain⟨n,hn⟩:∃ n,h.length=n:=⟨_,rfl⟩;obtain⟨g,hc⟩:=aC ly.hc;unfold cL at hc;have cn:(L.c<n)=True:=AAn (by rw[<-hn];exact aI ly.hc);refine CalP.of (d:=zB) (e':=aY [] []) aA rfl (by simp[zB]) rfl ?_;unfold zB;dsimp only;refine PanX.seqR (K:=28) aA rfl [0,3] (vs:=[.pt L.c 0,.pt n 0]) (h1:=h++[aa [.str AAB,.fs [[.str u1]],.fs [[I (i:Nat)]]]]) (by rw[hn]; (exact cI hn)) ?_;refine PanX.seqR (K:=28) aA rfl [0,3] (vs:=[.pt L.c 0,.pt n 0]) (h1:=h++[aa [.str AAB,.fs [[.str u1]],.fs [[I (i:Nat)]]]]) (by (exact cI hn)) ?_;refine PanX.seqL ?_;refine PanX.seqR (K:=28) aA rfl [0,3,11] (vs:=[.pt L.c 0,.pt n 0,.str AAB]) (h1:=h++[aa [.str AAB,.fs [[.str u1]],.fs [[I (i:Nat)]]]]) (by (exact cI hn)) ?_;refine PanX.block ?_;refine PanX.seqR (K:=28) aA rfl [0,3,11,12] (vs:=[.pt L.c 0,.pt n 0,.str AAB,.bool false]) (h1:=h++[aa [.str AAB,.fs [[.str u1]],.fs [[I (i:Nat)]]]]) (by (exact cI nI)) ?_;refine PanX.condF rfl ?_;refine PanX.seqR (K:=28) aA rfl [0,3,11,38] (vs:=[.pt L.c 0,.pt n 0,.str AAB,.bool false]) (h1:=h++[aa [.str AAB,.fs [[.str u1]],.fs [[I (i:Nat)]]]]) (by (exact cI rA)) ?_;refine PanX.condF rfl ?_;refine PanX.seqR (K:=28) aA rfl [0,3,11,52] (vs:=[.pt L.c 0,.pt n 0,.str AAB,.bool false]) (h1:=h++[aa [.str AAB,.fs [[.str u1]],.fs [[I (i:Nat)]]]]) (by (exact cI pA)) ?_;refine PanX.condF rfl ?_;refine PanX.seqR (K:=28) aA rfl [0,3,11,66] (vs:=[.pt L.c 0,.pt n 0,.str AAB,.bool false]) (h1:=h++[aa [.str AAB,.fs [[.str u1]],.fs [[I (i:Nat)]]]]) (by (exact cI pB)) ?_;refine PanX.condF rfl ?_;refine PanX.seqR (K:=28) aA rfl [0,3,11,80] (vs:=[.pt L.c 0,.pt n 0,.str AAB,.bool false]) (h1:=h++[aa [.str AAB,.fs [[.str u1]],.fs [[I (i:Nat)]]]]) (by (exact cI nJ)) ?_;refine PanX.condF rfl ?_;refine PanX.seqR (K:=28) aA rfl [0,3,11,88] (vs:=[.pt L.c 0,.pt n 0,.str AAB,.bool true]) (h1:=h++[aa [.str AAB,.fs [[.str u1]],.fs [[I (i:Nat)]]]]) (by (exact cI lY)) ?_;refine PanX.condT rfl ?_;refine PanX.seqL ?_;refine PanX.regU (fr:=[]) (p:=[⟨0,(some 90),(.fld 2 (.t 3)),none⟩,⟨1,(some 91),(.load false 1 (.t 90)),none⟩,⟨2,(some 92),(.idx 1 (.t 91) (.c (.int .i64 0))),none⟩,⟨3,(some 93),(.load false 1 (.t 92)),none⟩,⟨4,(some 94),(.mv (.t 0)),none⟩,⟨5,(some 95),(.nilck (.t 94)),none⟩,⟨6,(some 96),(.fld 4 (.t 95)),none⟩,⟨7,(some 97),(.load false 1 (.t 96)),none⟩,⟨8,(some 98),(.len false (.t 97)),none⟩,⟨9,(some 99),(.bin .lss (.t 93) (.t 98)),none⟩]) (post:=[]) aA [] (g:=24) (first:=[]) (cap:=[]) (args:=[.bool false,I 5]) (vs:=[]) rfl rfl rfl ?_ (c58 5 _);by_cases hk:0<s.tickets.length
 .rw[fD hk]at hc
  have t1:((i:Int)<(s.tickets.length:Int))=False:=AAb;(exact rR hc hn cn t1)
 .have h0:s.tickets.length=0:=AS
  have hv:iX L.tb s.tickets.length = .nilsl:=by rw[h0];rfl
  rw[hv]at hc;have t1:((i:Int)<0)=False:=AAb;(exact rR hc hn cn t1)
theorem aRt{c:Nat}{z0:Int}{v:AV}{h2:XH}(call:CalP Tryz.prog aB 75 [.pt c 0,.str x] (h++[aa [.str AAE,.fs [[.str x]],.fs [[I z0]]]]) v h2):CalP Tryz.prog aB 28 [.pt c 0,.agg [.str AAE,.fs [[.str x]],.fs [[I z0]]]] h v h2:=by
 obtain⟨n,hn⟩:∃ n,h.length=n:=⟨_,rfl⟩;refine CalP.of (d:=zB) (e':=aY [] []) aA rfl (by simp[zB]) rfl ?_;unfold zB;dsimp only;refine PanX.seqR (K:=28) aA rfl [0,3] (vs:=[.pt c 0,.pt n 0]) (h1:=h++[aa [.str AAE,.fs [[.str x]],.fs [[I z0]]]]) (by rw[hn]; (exact cI hn)) ?_;refine PanX.seqR (K:=28) aA rfl [0,3] (vs:=[.pt c 0,.pt n 0]) (h1:=h++[aa [.str AAE,.fs [[.str x]],.fs [[I z0]]]]) (by (exact cI hn)) ?_;refine PanX.seqL ?_;refine PanX.seqR (K:=28) aA rfl [0,3,11] (vs:=[.pt c 0,.pt n 0,.str AAE]) (h1:=h++[aa [.str AAE,.fs [[.str x]],.fs [[I z0]]]]) (by (exact cI hn)) ?_;refine PanX.block ?_;refine PanX.seqR (K:=28) aA rfl [0,3,11,12] (vs:=[.pt c 0,.pt n 0,.str AAE,.bool false]) (h1:=h++[aa [.str AAE,.fs [[.str x]],.fs [[I z0]]]]) (by (exact cI wQ)) ?_;refine PanX.condF rfl ?_;refine PanX.seqR (K:=28) aA rfl [0,3,11,38] (vs:=[.pt c 0,.pt n 0,.str AAE,.bool false]) (h1:=h++[aa [.str AAE,.fs [[.str x]],.fs [[I z0]]]]) (by (exact cI aAK)) ?_;refine PanX.condF rfl ?_;refine PanX.seqR (K:=28) aA rfl [0,3,11,52] (vs:=[.pt c 0,.pt n 0,.str AAE,.bool false]) (h1:=h++[aa [.str AAE,.fs [[.str x]],.fs [[I z0]]]]) (by (exact cI zL)) ?_;refine PanX.condF rfl ?_;refine PanX.seqR (K:=28) aA rfl [0,3,11,66] (vs:=[.pt c 0,.pt n 0,.str AAE,.bool false]) (h1:=h++[aa [.str AAE,.fs [[.str x]],.fs [[I z0]]]]) (by (exact cI zM)) ?_;refine PanX.condF rfl ?_;refine PanX.seqR (K:=28) aA rfl [0,3,11,80] (vs:=[.pt c 0,.pt n 0,.str AAE,.bool true]) (h1:=h++[aa [.str AAE,.fs [[.str x]],.fs [[I z0]]]]) (by (exact cI wT)) ?_;refine PanX.condT rfl ?_;exact PanX.reg (p:=[⟨0,(some 82),(.mv (.t 0)),none⟩,⟨0,(some 83),(.fld 1 (.t 3)),none⟩,⟨0,(some 84),(.load false 1 (.t 83)),none⟩,⟨0,(some 85),(.idx 1 (.t 84) (.c (.int .i64 0))),none⟩,⟨0,(some 86),(.load false 1 (.t 85)),none⟩]) (post:=[⟨0,(some 5),(.mv (.t 87)),none⟩]) aA [] (g:=75) (first:=[]) (cap:=[]) (args:=[.pt c 0,.str x]) (vs:=[]) rfl rfl (by (exact cI hn)) call
end
end Go.Proofs.YtfcdcgplogojbaaGreatDoor
namespace Go.DL
mutual
theorem aHe(s:Nat->Option Nat):∀ v:AV,(∀ b∈kK v,s b=some b)->rnA s v=v
 | .agg cs,h=>by simp only[kK]at h;simp only[rnA,jN s cs h]
 | .tup cs,h=>by simp only[kK]at h;simp only[rnA,jN s cs h]
 | .sl b o z n,h=>by simp only[rnA,h b (by simp[kK])]
 | .pt b o,h=>by simp only[rnA,h b (by simp[kK])]
 | .mp b,h=>by simp only[rnA,h b (by simp[kK])]
 | .sb b n,h=>by simp only[rnA,h b (by simp[kK])]
 | .bp b,h=>by simp only[rnA,h b (by simp[kK])]
 | .fn f first cap,h=>by
   simp only[kK,C8]at h;cases f with
   | yield l=>simp only[rnA,h l (.inl (by simp)),jN s first λb hb=>h b (.inr (.inl hb)),jN s cap λb hb=>h b (.inr (.inr hb))]
   | _=>simp only[rnA,jN s first λb hb=>h b (.inr (.inl hb)),jN s cap λb hb=>h b (.inr (.inr hb))]
 | .ifc t v,h=>by simp only[kK]at h;simp only[rnA,aHe s v h]
 | .int ..,_=>by simp only[rnA]
 | .bool _,_=>by simp only[rnA]
 | .str _,_=>by simp only[rnA]
 | .fs _,_=>by simp only[rnA]
 | .fp ..,_=>by simp only[rnA]
 | .nilsl,_=>by simp only[rnA]
 | .nilpt,_=>by simp only[rnA]
 | .nilmap,_=>by simp only[rnA]
 | .nilfn,_=>by simp only[rnA]
 | .nilifc,_=>by simp only[rnA]
 | .any,_=>by simp only[rnA]
theorem jN(s:Nat->Option Nat):∀ vs:List AV,(∀ b∈mI vs,s b=some b)->mR s vs=vs
 | [],_=>by simp only[mR]
 | v::r,h=>by
   simp only[mI,C8]at h;simp only[mR,aHe s v λb hb=>h b (.inl hb),jN s r λb hb=>h b (.inr hb)]
end
theorem aHd(s:Nat->Option Nat)(x:Option XB)(h:∀ b∈nmO x,s b=some b):rnO s x=x:=by
 cases x with
 | none=>rfl
 | some x =>
   cases x with
   | blk g y=>cases g with
     | true=>rfl
     | false=>cases y with
       | cells w cs =>
         show some (XB.blk false (.cells w (mR s cs)))=_;rw[jN s cs h]
       | map w es =>
         show some (XB.blk false (.map w (es.map λp=>(rnA s p.1,rnA s p.2))))=_;have:(es.map λp=>(rnA s p.1,rnA s p.2))=es:=by
          have h2:∀ p∈es,(rnA s p.1,rnA s p.2)=p:=λp hp=>by
           have h3:∀ b,b∈kK p.1++kK p.2->s b=some b:=λb hb=>h b (O5.2 ⟨p,hp,hb⟩)
           grind [aHe]
          rw[I4 h2];simp
         rw[this]
       | _=>rfl
   | loop K site vs st =>
     show some (XB.loop K site (mR s vs) st)=_;rw[jN s vs h]
   | gh st p=>rfl
def Cd(h:XH):Prop:=∀ x∈h,∀ b∈nmO x,b<h.length
theorem mY{h k:XH}:dF h.length (h++k)=h:=by
 induction h with
 | nil=>rfl
 | cons x r ih=>simp_all [dF]
theorem aDP{h:XH}{k:Nat}:∀(n:Nat)(l acc:List Nat),(∀ b∈l,b<k)->cW h k n l acc=acc
 | 0,_,_,_=>rfl
 | n+1,[],_,_=>rfl
 | n+1,b::r,acc,h1=>by
   unfold cW;rw[if_pos (.inl (h1 b (by simp)))];exact aDP n r acc λc hc=>h1 c (by simp[hc])
theorem aHy{h:XH}(cd:Cd h){acc:List Nat}:h.map (rnO (keepS h.length acc))=h:=by
 have:∀ x∈h,rnO (keepS h.length acc) x=x:=λx hx=>aHd _ x λb hb=>by
  unfold keepS;rw[if_pos (cd x hx b hb)]
 rw[I4 this];simp
theorem aQI{h k:XH}{n:Nat}(hn:h.length=n)(cd:Cd h){L:List Nat}{e:aJ}(hv:∀ b∈mI (L.map e),b<n):bT n L (some (.normal,e,h++k))=some (L.map e,h):=by
 subst hn;have h1:dH h.length (L.map e) (h++k)=[]:=by
  unfold dH;rw[mY];refine aDP _ _ _ λb hb=>?_;rw[C8]at hb;rcases hb with hb|hb;·exact hv b hb
  .obtain⟨x,hx,hb⟩:=O5.1 hb
   exact cd x hx b hb
 rw[Rj];unfold aAt qB oF;rw[h1,mY,aHy cd];rw[jN _ _ λb hb=>by unfold keepS;grind];simp
end Go.DL
namespace Go.Proofs.YtfcdcgplogojbaaGreatDoor
open Go Go.DL
variable{h h' h1:XH}{L:CL}{s:CSt}{x:ByteArray}
theorem aEo{h k:XH}{n:Nat}(hn:h.length=n)(cd:Cd h){L:List Nat}{r:Option (DX×aJ×XH)}{vs:List AV}(hx:uW L r=some (.normal,vs,h++k))(hv:∀ b∈mI vs,b<n):bT n L r=some (vs,h):=by
 unfold uW at hx;rw[B2]at hx
 grind [aQI]
theorem aNe{h:XH}{n:Nat}(hn:h.length=n)(cd:Cd h){L:List Nat}{r:Option (DX×aJ×XH)}{vs:List AV}(hx:uW L r=some (.normal,vs,h))(hv:∀ b∈mI vs,b<n):bT n L r=some (vs,h) :=
 aEo (k:=[]) hn cd (by grind) hv
def aAa(s:CSt):Int:=(s.farmers.map (·.2)).sum
theorem aFE{B:Int}:∀{l:List Int},(∀ v∈l,-B<=v/\v<=B) -> -(B*l.length)<=l.sum/\l.sum<=B*l.length
 | [],_=>by simp
 | v::r,h=>by
   have h1:=h v (by simp);have h2:=aFE λw hw=>h w (D8 v hw);rw[aB8,D7]
   grind
theorem aBK{l:List ByteArray}(nd:l.Nodup){i:Nat}{k:ByteArray}(hk:l[i]?=some k):bR l k=some i:=by
 obtain⟨j,hj⟩:=yM (B3 hk);have h1:=dG hj;rw[hj];exact AAs some ((aE6 (B6.1 h1).1 nd).1 (h1.trans hk.symm))
theorem aOk(ly:Lays h L s)(cd:Cd h)(hk:0<s.farmers.length)(hk9:s.farmers.length<=9)(nd:(s.farmers.map (·.1)).Nodup)(hb:∀ p∈s.farmers,-1000000000<=p.2/\p.2<=1000000000):runW aB 28 [.pt L.c 0,.agg [.str AAA,.fs [],.fs []]] h=some (.str ⟨⟨Lib.itoa (aAa s)⟩⟩,h):=by
 obtain⟨n,hn⟩:∃ n,h.length=n:=⟨_,rfl⟩;obtain⟨g,hc⟩:=aC ly.hc;unfold cL at hc;have lc:L.c<n:=by rw[<-hn];exact aI ly.hc
 have cn:(L.c<n)=True:=AAn lc;obtain⟨gw,hwo⟩:=ly.f.ho;rw[B8,fD hk]at hwo;obtain⟨gb,hfb⟩:=ly.f.hb (by grind);have lo:L.f.o<n:=by rw[<-hn];exact ly.f.lts.1
 have lb:L.f.b<n:=by rw[<-hn];exact ly.f.lts.2.2.1 (by grind)
 have won:(L.f.o<n)=True:=AAn lo;have bd:∀ i,-9000000000<=((s.farmers.map (·.2)).take i).sum/\((s.farmers.map (·.2)).take i).sum<=9000000000:=λi=>by
  have h1:=aFE (B:=1000000000) (l:=(s.farmers.map (·.2)).take i) λv hv=>by
   grind
  grind
 have nv:∀ i:Nat,∀ b∈mI [.pt L.c 0,I ((s.farmers.map (·.2)).take i).sum,.sl L.f.b 0 1 s.farmers.length,I s.farmers.length,I (i:Nat)],b<n:=by
  intro i b hb2;simp only[mI,kK,J3,D4,M5,C4,H6,AAh]at hb2;omega
 have fin:((s.farmers.map (·.2)).take s.farmers.length).sum=aAa s:=by
  rw[C9 (by simp)];rfl
 have bs:=bd s.farmers.length;rw[fin]at bs;have c57:=aEX (n:=aAa s) AS;rw[qY 28 zB rfl,hn];unfold zB;dsimp only;have klt:((s.farmers.length:Int)<(s.farmers.length:Int))=False:=AAb;sym =>
  simp[Za,Zb,Zd,Zf,Zg,Zh,Zj,Zl,Zm,Zo,Zv,Zz,Z9,ZA,ZG,ZI,ZS,ZW,Yf,Yi,Yn,Yo,Yu,Yx,Y4,Y8,YH,YM,YN,Xz,XI,Wj,Wk,Wl,Wv,Wx,WH,Vd,Ve,Vg,Vi,Vs,V5,V6,V7,VG,VH,VI,VQ,VX,VZ,Ue,Uf,Ut,Uu,Uv,UC,UE,UF,UG,UX,UY,Tb,Tc,Td,Te,Tg,Th,Tl,Tm,Tn,Tp,Tr,Ts,Tt,Tv,Tw,T2,T4,T5,T8,TF,TJ,TK,TN,TO,TP,TQ,TR,TS,TT,TZ,Sa,Sn,Sp,S9,SA,SC,SG,SN,SV,SW,SX,SY,SZ,Ra,Rb,Rc,Re,Rg,Ri,Rk,Rl,RZ,Qa,QQ,Pj,Pk,Pm,Pn,Po,Pp,PH,PI,PJ,PK,PL,PR,PV,PX,Oa,Ob,hn,hc,cn,hwo,won,wP]
  tactic =>
   unfold aNS;rw[aG s.farmers.length (λi=>[.pt L.c 0,I ((s.farmers.map (·.2)).take i).sum,.sl L.f.b 0 1 s.farmers.length,I s.farmers.length,I (i:Nat)]) (λ_=>h)]
   .rw[fin]
    (exact vC hn klt c57)
   .exact aEo hn cd (k:=[aa [.str AAA,.fs [],.fs []]]) rfl (nv 0)
   .intro i hi
    obtain⟨⟨q,y⟩,hq⟩:∃ p,s.farmers[i]?=some p:=⟨_,B7 hi⟩;have hqk:(s.farmers.map (·.1))[i]?=some q:=by grind
    have hx:=aBK nd hqk;obtain⟨e,v,he,hv,hev,call⟩:=ly.f.getf hx;rw[C3,hq]at hv;cases hv;have hev:aH h e=some (.cells true [I y]):=hev;obtain⟨ge,hee⟩:=aC hev;have t1:((i:Int)<(s.farmers.length:Int))=True:=AAa;have mq1:Option.map Prod.fst (some (q,y))=some q:=rfl;have mq2:Option.map AV.str (some q)=some (.str q):=rfl;have hs1:((s.farmers.map (·.2)).take (i+1)).sum=((s.farmers.map (·.2)).take i).sum+y:=by
     grind [List.take_add_one]
    have b1:=bd (i+1);rw[hs1]at b1;have a1:IntKind.i64.wrap (((s.farmers.map (·.2)).take i).sum+y)=((s.farmers.map (·.2)).take i).sum+y:=aE AS AS;have a2:IntKind.i64.wrap ((i:Int)+1)=((i+1:Nat):Int):=by grind [aE]
    refine aNe hn cd ?_ (nv (i+1));rw[hs1];generalize ((s.farmers.map (·.2)).take i).sum=S0 at *;(exact eK hn t1 hfb hq mq1 mq2 hc hwo call hee a1 a2 aF)
   ·(exact kJ hn klt)
theorem aMy(ly:Lays h L s)(cd:Cd h)(hk:s.farmers.length=0):runW aB 28 [.pt L.c 0,.agg [.str AAA,.fs [],.fs []]] h=some (.str ⟨⟨Lib.itoa (aAa s)⟩⟩,h):=by
 have h0:s.farmers=[]:=D0 hk;have hs:aAa s=0:=by unfold aAa;rw[h0];rfl
 rw[hs];obtain⟨n,hn⟩:∃ n,h.length=n:=⟨_,rfl⟩;obtain⟨g,hc⟩:=aC ly.hc;unfold cL at hc;have lc:L.c<n:=by rw[<-hn];exact aI ly.hc
 have cn:(L.c<n)=True:=AAn lc;obtain⟨gw,hwo⟩:=ly.f.ho;have hv:iX L.f.b (s.farmers.map (·.1)).length = .nilsl:=by rw[B8,hk];rfl
 rw[hv]at hwo;have lo:L.f.o<n:=by rw[<-hn];exact ly.f.lts.1
 have won:(L.f.o<n)=True:=AAn lo;have nv:∀ b∈mI [.pt L.c 0,I 0,.nilsl,I 0,I 0],b<n:=by
  intro b hb2;simp only[mI,kK,J3,D4,M5,C4,H6,AAh]at hb2;omega
 have c57:=aEX (n:=0) (by decide);rw[qY 28 zB rfl,hn];unfold zB;dsimp only;sym =>
  simp[Za,Zb,Zf,Zh,Zl,Zm,Zo,Zv,Zz,Z9,ZA,ZG,ZS,ZW,Yf,Yi,Yn,Yo,Yu,Yy,YH,Xz,XI,Wj,Wk,Wl,Wv,Wx,Vd,Ve,Vg,Vi,Vs,V5,V6,V7,VG,VH,VI,VQ,VX,VZ,Ue,Uf,Ut,Uu,Uv,UX,UY,Tb,Tc,Td,Te,Tg,Th,Tl,Tm,Tn,Tp,Tr,Ts,Tt,Tv,Tw,T2,T8,TK,TN,TO,TP,TQ,TR,TS,TT,TZ,Sa,Sn,Sp,SA,SC,SG,SN,SV,SW,SX,SY,Ra,Rb,Rc,Re,Rg,Ri,Rk,Rl,PI,PJ,PK,PL,PR,PV,PX,Oa,Ob,hn,hc,cn,hwo,won,wP]
  tactic =>
   unfold aNS;rw[aG 0 (λ_=>[.pt L.c 0,I 0,.nilsl,I 0,I 0]) (λ_=>h)];·(exact kJ hn c57)
   .exact aEo hn cd (k:=[aa [.str AAA,.fs [],.fs []]]) rfl nv
   .omega
   ·(exact cI hn)
inductive Wd where
 | farmer (x:ByteArray)
 | wagon (name owner:ByteArray) (full empty:Int)
 | void (i:Nat)
 | close
 | meter (x:ByteArray) (n:Int)
 | pan (x:ByteArray) (a b:Int)
 | net (x:ByteArray)
 | total
 | ticket (i:Nat)
 | used (x:ByteArray)
 | loss (x:ByteArray)
 | power (x:ByteArray)
def Wd.asks:Wd->Bool
 | .net _ | .total | .ticket _ | .used _ | .loss _ | .power _=>true
 | _=>false
def IsW:Wd->AV->Prop
 | .farmer x,v=>∃ z0:Int,v = .agg [.str AAt,.fs [[.str x]],.fs [[I z0]]]
 | .wagon x y a b,v=>(0<=a/\a<=99999/\0<=b/\b<=99999/\x.size<=10/\y.size<=10)/\∃(u1 u2:ByteArray)(z0 z1:Int),v = .agg [.str AAu,.fs [[.str x],[.str u1],[.str u2],[.str y]],.fs [[I z0],[I a],[I b],[I z1]]]
 | .void i,v=>∃ u1:ByteArray,v = .agg [.str AAv,.fs [[.str u1]],.fs [[I (i:Nat)]]]
 | .close,v=>v = .agg [.str AAw,.fs [],.fs []]
 | .meter x n,v=>(0<=n/\n<=99999)/\∃(u1:ByteArray)(z0:Int),v = .agg [.str AAx,.fs [[.str x],[.str u1]],.fs [[I z0],[I n]]]
 | .pan x a b,v=>(0<=a/\a<=99999/\0<=b/\b<=99999)/\∃(u1 u2:ByteArray)(z0:Int),v = .agg [.str AAy,.fs [[.str x],[.str u1],[.str u2]],.fs [[I z0],[I a],[I b]]]
 | .net x,v=>∃ z0:Int,v = .agg [.str AAz,.fs [[.str x]],.fs [[I z0]]]
 | .total,v=>v = .agg [.str AAA,.fs [],.fs []]
 | .ticket i,v=>∃ u1:ByteArray,v = .agg [.str AAB,.fs [[.str u1]],.fs [[I (i:Nat)]]]
 | .used x,v=>∃ z0:Int,v = .agg [.str AAC,.fs [[.str x]],.fs [[I z0]]]
 | .loss x,v=>∃ z0:Int,v = .agg [.str AAD,.fs [[.str x]],.fs [[I z0]]]
 | .power x,v=>∃ z0:Int,v = .agg [.str AAE,.fs [[.str x]],.fs [[I z0]]]
def dW{α:Type}(l:List (ByteArray×α))(x:ByteArray):Option α:=(bR (l.map (·.1)) x).bind λi=>l[i]?.map (·.2)
theorem cQ{α:Type}{l:List (ByteArray×α)}{x:ByteArray}:dW l x=none↔bR (l.map (·.1)) x=none:=by
 unfold dW;cases h:bR (l.map (·.1)) x with
 | none=>simp
 | some i =>
   obtain⟨y,hy⟩:=rF h;simp[hy]
theorem eT{α:Type}{l:List (ByteArray×α)}{x:ByteArray}{y:α}(h:dW l x=some y):∃ i,bR (l.map (·.1)) x=some i/\l[i]?=some (x,y):=by
 unfold dW at h;cases hn:bR (l.map (·.1)) x with
 | none=>grind
 | some i =>
   obtain⟨z,hz⟩:=rF hn
   grind
def dC(s:CSt):Wd->Option Int
 | .farmer x=>if (dW s.farmers x).isSome then some 6 else if s.farmers.length=9 then some 15 else none
 | .wagon x y a b=>match dW s.farmers y with
   | none=>some 5
   | some _=>if ¬b<=a then some 10 else match dW s.wagons x with
     | none=>none
     | some e=>if e-500<=b/\b<=e+500 then none else some 22
 | .void i=>match s.tickets[i]? with
   | none=>some 5
   | some k=>if k.void then some 6 else if i<s.closed then some 23 else none
 | .close=>if s.closed<s.tickets.length then none else some 4
 | .meter x _=>if (dW s.meters x).isNone/\s.meters.length=5 then some 15 else none
 | .pan x a b=>if ¬b<=a then some 10 else if (dW s.pans x).isNone/\s.pans.length=5 then some 15 else none
 | _=>none
def fL(s:CSt):Wd->CSt
 | .farmer x=>{ s with farmers:=s.farmers++[(x,0)] }
 | .wagon x y a b=>fF s x y a b
 | .void i=>match s.tickets[i]? with
   | none=>s
   | some k=>{ s with tickets:=s.tickets.set i { k with void:=true },farmers:=iE s.farmers k.farmer (-k.net) }
 | .close=>{ s with closed:=s.tickets.length }
 | .meter x n=>{ s with meters:=nO (mtr n) (n,0) x s.meters }
 | .pan x a b=>{ s with pans:=iE s.pans x (a-b) }
 | _=>s
def oI(l:List zH)(x:ByteArray):Int:=(l.map λk=>if k.farmer=x/\k.void=false then k.net else 0).sum
structure cY(s:CSt):Prop where
 book:s.book.length<=300
 nf:(s.farmers.map (·.1)).Nodup
 lf:s.farmers.length<=9
 lm:s.meters.length<=5
 lp:s.pans.length<=5
 lw:s.wagons.length<=s.book.length
 lt:s.tickets.length<=s.book.length
 cl:s.closed<=s.tickets.length
 bf:∀ p∈s.farmers,-(100000*s.book.length:Int)<=p.2/\p.2<=100000*s.book.length
 bm:∀ p∈s.meters,0<=p.2.1/\p.2.1<=99999/\0<=p.2.2/\p.2.2<=100000*s.book.length
 bp:∀ p∈s.pans,0<=p.2/\p.2<=100000*s.book.length
 bw:∀ p∈s.wagons,0<=p.2/\p.2<=99999
 bt:∀ k∈s.tickets,0<=k.net/\k.net<=99999/\k.farmer∈s.farmers.map (·.1)/\k.wagon.size<=10/\k.farmer.size<=10
 fs:∀ p∈s.farmers,p.2=oI s.tickets p.1
variable{h h' h1:XH}{L:CL}{s:CSt}{x:ByteArray}{w:Wd}{v:AV}
theorem aEn{α:Type}{o:Option α}(h:¬o.isSome=true):o=none:=by simp_all
theorem aLS{α:Type}{l:List (ByteArray×α)}(h:¬((dW l x).isNone=true/\l.length=5)):(decide (bR (l.map (·.1)) x=none)&&decide (((l.map (·.1)).length:Int)=5))=false:=by
 grind [dW]
theorem aJf{α:Type}{l:List (ByteArray×α)}(h:(dW l x).isNone=true/\l.length=5):(decide (bR (l.map (·.1)) x=none)&&decide (((l.map (·.1)).length:Int)=5))=true:=by
 rw[B4,AAg,AAg,B8];refine⟨cQ.1 ?_,by omega⟩
 simp_all
theorem aKN{x:ByteArray}{a b:Int}(ly:Lays h L s)(hw:IsW (.pan x a b) v){e:Int}(hc:dC s (.pan x a b)=some e):∃ h1,CalP Tryz.prog aB 27 [.pt L.c 0,v] h (.ifc 48 (.agg [I e])) h1/\Fr [] h h1:=by
 obtain⟨hb,u1,u2,z0,rfl⟩:=hw;have ly2:=ly.ext [ab [.pt L.c 0],aa [.str AAy,.fs [[.str x],[.str u1],[.str u2]],.fs [[I z0],[I a],[I b]]]];unfold dC at hc;dsimp only at hc;split at hc
 .rename_i hle
  cases hc;exact⟨_,aRu (bFc ly2 hle),(Fr.app h _).add _⟩
 .rename_i hle
  split at hc
  .rename_i hn
   cases hc;exact⟨_,aRu (bFb ly2 (N9.1 hle) (aJf hn)),(Fr.app h _).add _⟩
  .cases hc
theorem aFs{x:ByteArray}(ly:Lays h L s)(h9:s.farmers.length≠9)(hw:IsW (.farmer x) v){e:Int}(hc:dC s (.farmer x)=some e):∃ h1,CalP Tryz.prog aB 27 [.pt L.c 0,v] h (.ifc 48 (.agg [I e])) h1/\Fr [] h h1:=by
 obtain⟨z0,rfl⟩:=hw;unfold dC at hc;dsimp only at hc;split at hc
 .rename_i hs
  cases hc;obtain⟨y,hy⟩:=C5.1 hs;obtain⟨i,hi,_⟩:=eT hy;exact⟨_,aEQ ly hi,Fr.app h _⟩
 .cases hc
theorem aHM{x y:ByteArray}{a b:Int}(ly:Lays h L s)(gs:cY s)(hle:b<=a)(hw:IsW (.wagon x y a b) v){e:Int}(hc:dC s (.wagon x y a b)=some e):∃ h1,CalP Tryz.prog aB 27 [.pt L.c 0,v] h (.ifc 48 (.agg [I e])) h1/\Fr [] h h1:=by
 obtain⟨hb,u1,u2,z0,z1,rfl⟩:=hw;have ly2:=ly.ext [ab [.pt L.c 0],aa [.str AAu,.fs [[.str x],[.str u1],[.str u2],[.str y]],.fs [[I z0],[I a],[I b],[I z1]]]];unfold dC at hc;dsimp only at hc;split at hc
 .rename_i hn
  cases hc;exact⟨_,aBw (bBt ly2 (cQ.1 hn)),(Fr.app h _).add _⟩
 .rename_i f hf
  obtain⟨j,hj,_⟩:=eT hf;split at hc;·omega
  .rename_i hle
   split at hc;·cases hc
   .rename_i q hq
    split at hc;·cases hc
    .rename_i hne
     cases hc;obtain⟨i,hi,hqi⟩:=eT hq;obtain⟨fe,hp⟩:=bFg (f:=AAu) (name:=x) (t1:=u1) (t2:=u2) (z:=z0) (z2:=z1) ly2 hj (N9.1 hle) hi (by grind) hne gs.bw;exact⟨_,aBw hp,(Fr.app h _).add _⟩
theorem aJt{i:Nat}(ly:Lays h L s)(hw:IsW (.void i) v){e:Int}(hc:dC s (.void i)=some e):∃ h1,CalP Tryz.prog aB 27 [.pt L.c 0,v] h (.ifc 48 (.agg [I e])) h1/\Fr [] h h1:=by
 obtain⟨u1,rfl⟩:=hw;have ly2:=ly.ext [ab [.pt L.c 0],aa [.str AAv,.fs [[.str u1]],.fs [[I (i:Nat)]]]];unfold dC at hc;dsimp only at hc;split at hc
 .rename_i hn
  cases hc;exact⟨_,aHO (bFf ly2 (N7.1 hn)),(Fr.app h _).add _⟩
 .rename_i k hk
  split at hc;·grind [bFe,aHO,Fr.app]
  .rename_i hv
   split at hc
   .rename_i hcl
    cases hc;obtain⟨e,hp⟩:=bFd ly2 hk (aE5.2 hv) hcl
    grind [aHO,Fr.app]
   .cases hc
theorem aHN(ly:Lays h L s)(hw:IsW (.close) v){e:Int}(hc:dC s (.close)=some e):∃ h1,CalP Tryz.prog aB 27 [.pt L.c 0,v] h (.ifc 48 (.agg [I e])) h1/\Fr [] h h1:=by
 cases hw;unfold dC at hc;dsimp only at hc;split at hc;·cases hc
 .rename_i hn
  cases hc;exact⟨_,aRw ly AS,Fr.app h _⟩
theorem aXQ(ly:Lays h L s)(gs:cY s)(hw:IsW w v)(ha:w.asks=false){e:Int}(hc:dC s w=some e):∃ h1,CalP Tryz.prog aB 27 [.pt L.c 0,v] h (.ifc 48 (.agg [I e])) h1/\Fr [] h h1:=by
 cases w with
 | farmer x =>
   by_cases h9:s.farmers.length=9
   .obtain⟨z0,rfl⟩:=hw
    unfold dC at hc;dsimp only at hc;split at hc
    .rename_i hs
     cases hc;obtain⟨y,hy⟩:=C5.1 hs;obtain⟨i,hi,_⟩:=eT hy;exact⟨_,aEQ ly hi,Fr.app h _⟩
    .rename_i hs
     cases hc;exact⟨_,aKS ly (cQ.1 (aEn hs)) h9,Fr.app h _⟩
   grind [aFs]
 | wagon x y a b =>
   by_cases hle:b<=a;·grind [aHM]
   .obtain⟨hb,u1,u2,z0,z1,rfl⟩:=hw
    have ly2:=ly.ext [ab [.pt L.c 0],aa [.str AAu,.fs [[.str x],[.str u1],[.str u2],[.str y]],.fs [[I z0],[I a],[I b],[I z1]]]];unfold dC at hc;dsimp only at hc;split at hc
    .rename_i hn
     cases hc;exact⟨_,aBw (bBt ly2 (cQ.1 hn)),(Fr.app h _).add _⟩
    .rename_i f hf
     obtain⟨j,hj,_⟩:=eT hf;rw[if_pos hle]at hc;cases hc;obtain⟨fe,hp⟩:=bFh (f:=AAu) (name:=x) (t1:=u1) (t2:=u2) (z:=z0) (z2:=z1) ly2 hj hle;exact⟨_,aBw hp,(Fr.app h _).add _⟩
 | void i=>grind [aJt]
 | close=>grind [aHN]
 | meter x n =>
   obtain⟨hb,u1,z0,rfl⟩:=hw;have ly2:=ly.ext [ab [.pt L.c 0],aa [.str AAx,.fs [[.str x],[.str u1]],.fs [[I z0],[I n]]]];unfold dC at hc;dsimp only at hc;split at hc
   .rename_i hn
    cases hc;exact⟨_,aRv (c93 ly2 (aJf hn)),(Fr.app h _).add _⟩
   .cases hc
 | pan x a b=>grind [aKN]
 | _=>cases ha
theorem cC{h k:XH}(i:Nat){g:Bool}{c:ABlk}(hk:k[i]?=some (some (.blk g c))):aH (h++k) (h.length+i)=some c:=by
 rw[fZ,if_neg AS,show h.length+i-h.length=i by omega];unfold aH hat
 grind
theorem aBa(ly:Lays h L s){bs:List Nat}(hb:∀ b∈bs,h.length<=b):Out L s bs:=λb hm hp=>by
 obtain⟨j,hj⟩:=bI.1 hp;have:=ly.lt j b hj
 grind
theorem bBv{h k:XH}(i:Nat){c:XB}(hk:k[i]?=some (some c)):(hat (h++k) (h.length+i)).isSome=true:=by
 rw[aXs]
 simp_all [hat]
theorem yC{h k k2:XH}(i:Nat){c:XB}(hk:k[i]?=some (some c)):(hat ((h++k)++k2) (h.length+i)).isSome=true:=by
 grind [bBv]
abbrev aUW(g:Nat):Prop:=g=65\/g=69\/g=108\/g=110\/g=112\/g=115
def zW(h:XH)(L:CL)(s:CSt)(v:AV)(s':CSt):Prop:=∃(g:Nat)(caps:List AV)(h1:XH),runW aB 27 [.pt L.c 0,v] h=some (.fn (.func g) [] caps,h1)/\aUW g/\Fr [] h h1 /\
 ∃ h2 L2,runW aB g caps h1=some (.tup [],h2)/\Lays h2 L2 s'/\L2.c=L.c/\Fr (zF L s) h1 h2/\Sb h1.length L s L2 s'
theorem aKO{x:ByteArray}(ly:Lays h L s)(gs:cY s)(hw:IsW (.farmer x) v)(hc:dC s (.farmer x)=none):zW h L s v (fL s (.farmer x)):=by
 have lbk:=gs.book;obtain⟨z0,rfl⟩:=hw;unfold dC at hc;dsimp only at hc;split at hc;·cases hc
 .rename_i hs
  split at hc;·cases hc
  .rename_i h9
   have hx:=cQ.1 (aEn hs);have ly1:=ly.ext [ab [.pt L.c 0],aa [.str AAt,.fs [[.str x]],.fs [[I z0]]]];obtain⟨h2,L2,q1,q2,q3,q4,q5⟩:=w88 ly1 (b0:=h.length+0) (b1:=h.length+1) (aBa ly (by grind)) (cC 0 rfl) (cC 1 rfl) hx (by have:=gs.lf;omega);exact⟨65,_,_,aMB ly hx h9,by decide,Fr.app h _,h2,L2,q1,q2,q3,q4,q5⟩
theorem aNt{x y:ByteArray}{a b:Int}(ly:Lays h L s)(gs:cY s)(hw:IsW (.wagon x y a b) v)(hc:dC s (.wagon x y a b)=none):zW h L s v (fL s (.wagon x y a b)):=by
 have lbk:=gs.book;obtain⟨hb,u1,u2,z0,z1,rfl⟩:=hw;have ly2:=ly.ext [ab [.pt L.c 0],aa [.str AAu,.fs [[.str x],[.str u1],[.str u2],[.str y]],.fs [[I z0],[I a],[I b],[I z1]]]];unfold dC at hc;dsimp only at hc;split at hc;·cases hc
 .rename_i f hf
  obtain⟨j,hj,hjf⟩:=eT hf;split at hc;·cases hc
  .rename_i hle
   have hle:=N9.1 hle;have hww:∀ i q,bR (s.wagons.map (·.1)) x=some i->(s.wagons.map (·.2))[i]?=some q->q-500<=b/\b<=q+500:=by
    intro i q hi hq;have:dW s.wagons x=some q:=by
     unfold dW
     grind
    grind
   obtain⟨fe,hfe,q0⟩:=w90 (f:=AAu) (name:=x) (t1:=u1) (t2:=u2) (z:=z0) (z2:=z1) ly2 hj hle hww gs.bw;have ly3:=ly2.ext (lN L.c AAu x u1 u2 y z0 a b z1 [ab [.pt fe 0]]);have hfb:=gs.bf _ (B3 hjf);simp only at hfb;obtain⟨h2,L2,q1,q2,q3,q4,q5⟩:=bCv (j:=j) (fe:=fe) (v:=f) (name:=x) (owner:=y) (full:=a) (empty:=b) ly3 (aBa ly2 (by grind)) (cC 0 rfl) (cC 2 rfl) (cC 4 rfl) (cC 6 rfl) (cC 3 rfl) (cC 5 rfl) hfe hj hjf AS (by have:=gs.lw;omega) (by have:=gs.lt;omega);exact⟨108,_,_,aOm q0 (yC 0 rfl) (yC 1 rfl),by decide,(Fr.app h _).add _,h2,L2,q1,q2,q3,q4,q5⟩
theorem aUy{x:ByteArray}{a b:Int}(ly:Lays h L s)(gs:cY s)(hw:IsW (.pan x a b) v)(hc:dC s (.pan x a b)=none):zW h L s v (fL s (.pan x a b)):=by
 have lbk:=gs.book;obtain⟨hb,u1,u2,z0,rfl⟩:=hw;have ly2:=ly.ext [ab [.pt L.c 0],aa [.str AAy,.fs [[.str x],[.str u1],[.str u2]],.fs [[I z0],[I a],[I b]]]];unfold dC at hc;dsimp only at hc;split at hc;·cases hc
 .rename_i hle
  have hle:=N9.1 hle;split at hc;·cases hc
  .rename_i hn
   have ly3:=ly2.ext (aAv L.c x a b);obtain⟨h2,L2,q1,q2,q3,q4,q5⟩:=bCs ly3 (b0:=_+0) (b1:=_+1) (b2:=_+2) (b3:=_+3) (a:=a) (b:=b) (x:=x) (aBa ly2 (by grind)) (cC 0 rfl) (cC 1 rfl) (cC 2 rfl) (cC 3 rfl) AS (λp hp=>by have:=gs.bp p hp;omega) (by have:=gs.lp;omega);exact⟨115,_,_,aWr (w94 ly2 hle (aLS hn)) (yC 0 rfl) (yC 1 rfl),by decide,(Fr.app h _).add _,h2,L2,q1,q2,q3,q4,q5⟩
theorem aRn{i:Nat}(ly:Lays h L s)(gs:cY s)(hw:IsW (.void i) v)(hc:dC s (.void i)=none):zW h L s v (fL s (.void i)):=by
 have lbk:=gs.book;obtain⟨u1,rfl⟩:=hw;have ly2:=ly.ext [ab [.pt L.c 0],aa [.str AAv,.fs [[.str u1]],.fs [[I (i:Nat)]]]];unfold dC at hc;dsimp only at hc;split at hc;·cases hc
 .rename_i k hk
  split at hc;·cases hc
  .rename_i hv
   split at hc;·cases hc
   .rename_i hcl
    obtain⟨e,he,q0⟩:=w91 ly2 hk (aE5.2 hv) AS;have ly3:=ly2.ext (aKT L.c e);obtain⟨hk1,hk2,hk3,_⟩:=gs.bt k (B3 hk);obtain⟨j,hj⟩:=yM hk3;obtain⟨f,hjf⟩:=rF hj;have hfb:=gs.bf _ (B3 hjf);simp only at hfb;obtain⟨h2,q1,q2,q4⟩:=bCu ly3 (b0:=_+1) (b1:=_+0) (aBa ly2 (by grind)) (cC 1 rfl) (cC 0 rfl) hk he hj hjf AS;have hd:fL s (.void i)={ s with tickets:=s.tickets.set i { k with void:=true },farmers:=iE s.farmers k.farmer (-k.net) }:=by
     unfold fL;grind
    exact⟨110,_,_,aSR q0 (yC 0 rfl) (yC 1 rfl),by decide,(Fr.app h _).add _,h2,L,q1,by grind,rfl,q4,by
     rw[hd];exact .of rfl (aDr (by grind)) (wO rfl) (dE (by rw[gX hj (by rw[C3,hjf];rfl),G6])) (dE rfl) (dE rfl) (dE rfl)⟩
theorem aNv(ly:Lays h L s)(gs:cY s)(hw:IsW (.close) v)(hc:dC s (.close)=none):zW h L s v (fL s (.close)):=by
 have lbk:=gs.book;cases hw;unfold dC at hc;dsimp only at hc;split at hc
 .rename_i hn
  have ly1:=ly.ext [ab [.pt L.c 0],aa [.str AAw,.fs [],.fs []]];obtain⟨h2,q1,q2,q4⟩:=w92 ly1 (b0:=h.length+0) (cC 0 rfl) AS;exact⟨69,_,_,aOq ly hn,by decide,Fr.app h _,h2,L,q1,q2,rfl,q4,.of rfl (aDr rfl) (wO rfl) (dE rfl) (dE rfl) (dE rfl) (dE rfl)⟩
 .cases hc
theorem aNu{x:ByteArray}{n:Int}(ly:Lays h L s)(gs:cY s)(hw:IsW (.meter x n) v)(hc:dC s (.meter x n)=none):zW h L s v (fL s (.meter x n)):=by
 have lbk:=gs.book;obtain⟨hb,u1,z0,rfl⟩:=hw;have ly2:=ly.ext [ab [.pt L.c 0],aa [.str AAx,.fs [[.str x],[.str u1]],.fs [[I z0],[I n]]]];unfold dC at hc;dsimp only at hc;split at hc;·cases hc
 .rename_i hn
  have ly3:=ly2.ext (aHP L.c x n);obtain⟨h2,L2,q1,q2,q3,q4,q5⟩:=bCt ly3 (b0:=_+0) (b1:=_+1) (b2:=_+2) (n:=n) (x:=x) (aBa ly2 (by grind)) (cC 0 rfl) (cC 1 rfl) (cC 2 rfl) hb (λp hp=>by have:=gs.bm p hp;omega) (by have:=gs.lm;omega);exact⟨112,_,_,aOp (w93 ly2 (aLS hn)) (yC 0 rfl) (yC 1 rfl),by decide,(Fr.app h _).add _,h2,L2,q1,q2,q3,q4,q5⟩
theorem aRo(ly:Lays h L s)(gs:cY s)(hw:IsW w v)(ha:w.asks=false)(hc:dC s w=none):zW h L s v (fL s w):=by
 cases w with
 | farmer x=>grind [aKO]
 | wagon x y a b=>grind [aNt]
 | void i=>grind [aRn]
 | close=>grind [aNv]
 | meter x n=>grind [aNu]
 | pan x a b=>grind [aUy]
 | _=>cases ha
end Go.Proofs.YtfcdcgplogojbaaGreatDoor
namespace Go.Proofs.YtfcdcgplogojbaaGreatDoor
open Go Go.DL Go.Proofs.Tryz
section
variable{B:Base}{D:Nat->Option XFn}{Y:Nat->Option YI}{r:Nat->Option Nat}{h:XH}{H:Hp}{F:Nat->Prop}{w:World}
theorem aAR(ok:XOk prog D)(B:Base)(Y:Nat->Option YI)(hY:YOk prog B D Y):Go.DL.FnS prog B D Y (runW D)/\YS prog B D Y (runYW D):=by
 refine⟨λr h H K xs as' v h' sh hA hx=>?_,λr h H fv fv' xs as' v h' sh hfv hA hx=>?_⟩
 .obtain⟨n,hn⟩:=bU.1 hx
  exact(oP ok n B Y hY).1 r h H K xs as' v h' sh hA hn
 .obtain⟨n,hn⟩:=yG.1 hx
  exact(oP ok n B Y hY).2 r h H fv fv' xs as' v h' sh hfv hA hn
theorem aQV{i:aSb}(sh:SH D Y r h H){r1:Nat->Option Nat}{e1 env1:aJ}{h1:XH}{H1:Hp}(ha:Agree h.length r r1)(sr:SR D Y r1 e1 h1 env1 H1){v:AV}(hx:kD i.res e1 (aH h1)=some v) :
 ∃ v1,kD i.res env1 H1=some v1/\∃ v' H'',Shift (upd anyE 0 v1) H1 (upd anyE 0 v') H''/\fO D Y r v h1 v' H'':=by
 obtain⟨v0',k1,k2⟩:=aHg sr hx;exact⟨v0',k1,v0',H1,λF w a st re=>⟨F,Ext.refl _ _ _,st,re⟩,r1,λb c hb=>ha b c (sh.dom b c hb) hb,sr.sh,k2⟩
def aSe(D:Nat->Option XFn)(d:XFn)(c o k:Nat)(e:aJ)(h1 h3:XH)(v:AV):Prop :=
 (∃ x e2 h2,(∀ id,x ≠ .exit id)/\execW D 8 k none b21 e h1=some (x,e2,h2)/\zR saySay (runW D) (runYW D) (.pt c o) saySay.zero false h2=some h3/\kD saySay.res e2 (aH h3)=some v) \/
 (∃ v0 e2 h2,PanX prog D d k b21 e h1 (.ifc 48 v0) e2 h2/\zR saySay (runW D) (runYW D) (.pt c o) v0 true h2=some h3/\kD saySay.res e2 (aH h3)=some v)
theorem aLp(ok:XOk prog D){d21:XFn}(hD:D 8=some d21)(hN:d21.N=41){xs as':List AV}{v:AV}{h1 h3:XH}{e1:aJ}{c o:Nat}(hlen:xs.length<=41)
 (hx1:fP (runW D) (runYW D) saySay.pre (aX (kI xs)) h=some (e1,h1)) (he1:e1 4 = .pt c o) (hc:c<h1.length) (hbody:aSe D d21 c o h1.length (upd e1 7 .any) h1 h3 v) (hY:YOk prog B D Y) (sh:SH D Y r h H) (hA:RnL D Y r xs as'):FnW B prog 8 as' H (fO D Y r v h3):=by
 have hm:=ok.mixed;obtain⟨hf,hy⟩:=aAR ok B Y hY;have hA1:=hA.nz;refine FnW.nz (FnW.shift ⟨λvs w=>call8 vs w,λF w vs hB st hAr=>?_⟩);have hsz:(vs++Array.replicate (f8.ntmps-vs.size) undef).size=41:=by
  have h1:=hAr.1;have h2:=hA1.1
  grind [mU,aZN]
 have hre:=aDd (N:=41) (nt:=f8.ntmps-vs.size) hB hAr;have RS0:=lW (P:=prog) (B:=B) hf hy saySay.pre r _ h _ H e1 h1 (λenv' H'=>∃ r',DL.Sub r r'/\SR D Y r' e1 h1 env' H') rfl ⟨sh,tN hA1⟩ hx1 (λr' env' H' hs sr'=>⟨r',hs,sr'⟩);refine callsIn_of_wp_marks func8 aXY trivial (wpIn_seq (oZ (B:=B) (r:=none) (N:=41) (draw:=false) hm aZz hsz hB st hre RS0 ?_));rintro a1 F1 w1 env1 H1 p1 p2 p3 p4 p5 ⟨r1,p6,p7⟩;show (Code.seq (.region 1 r21_1 false) code21).wpIn Fence.wide 0 prog _ a1 w1;have hB1:=hB.step st p3;have h4:=p7.re 4;have he1':e1 4 = .pt c o:=he1;rw[he1']at h4;obtain⟨b,hrb,henv4⟩:∃ b,r1 c=some b/\env1 4 = .pt b o:=by
  generalize env1 4=z at h4;cases h4 with
  | pt _ b _ hb=>grind
 refine wpIn_seq (wpIn_region ?_);rw[bCz,show List.range 2=[0,1] from rfl,wpOpsIn_cons];obtain⟨o0,g1,g2⟩:=aZP;obtain⟨o1,k1,k2,k3,k4⟩:=bEY;refine aDo (r:=none) (B:=B) (N:=41) (K:=λenv' H'=>env'=bD env1 (some 7) (.fn (.func 22) [] [.pt b o])/\H'=H1) (qO g1 g2) rfl (λk hk=>by grind) p1 hB1 p4 p5 ?_ ?_
 .rw[aQb,uX rfl]
  simp only[aD,aA8,E7,aK,henv4,optW_some,gY]
  grind
 rintro a2 F2 w2 env2 H2 s1 s2 s3 s4 s5 ⟨rfl,rfl⟩;rw[wpOpsIn_cons];unfold wpOpIn;simp only[k1];have hw:Region.wanted o1 (yielded r21_1 a2.tmps)=true:=by unfold Region.wanted;rw[k3]
 rw[if_pos hw];have h7:a2.eval (.tmp 7) = .func (.func 22) #[] #[.pointer (some ⟨b,o,none⟩)]:=by
  have:=s5.rv 7;simp only[bD,upd,AAe]at this;show a2.tmps.getD 7 undef=_;generalize a2.tmps.getD 7 undef=z at this;cases this with
  | fn _ _ _ fv cv hl1 hl2 q1 q2 =>
    have e1:fv = #[]:=by
     grind
    have e2:cv = #[.pointer (some ⟨b,o,none⟩)]:=by
     rcases cv with ⟨_|⟨a,_|⟨a',l⟩⟩⟩;·simp at hl2
     .have:=q2 0 _ a rfl rfl
      cases this;rfl
     grind
    rw[e1,e2]
 refine⟨λ_ _=>trivial,?_⟩;have hsem:(o1.semAt Fence.wide.round a2.eval).run prog w2 = .ok (.defer { target:=.fn (.func 22) #[.pointer (some ⟨b,o,none⟩)],args := #[] }) w2:=by
  have:Fence.wide.round=none:=rfl;rw[this,Oper.semAt_none];simp[execOp,resolve,k4,h7,Deferred.ofValue]
 rw[hsem,Oper.uponIn_defer,k2];have hdf:a2.defers=[]:=by rw[s2,p2]
 obtain⟨T,hT⟩:∃ T:List Deferred,T=[{ target:=.fn (.func 22) #[.pointer (some ⟨b,o,none⟩)],args := #[] }]:=⟨_,rfl⟩;have hact:Act.put { a2 with defers:={ target:=.fn (.func 22) #[.pointer (some ⟨b,o,none⟩)],args := #[] }::a2.defers } none undef={ tmps:=a2.tmps,defers:=T }:=by
  rw[hdf,hT];rfl
 rw[hact];show code21.wpIn Fence.wide 0 prog _ { tmps:=a2.tmps,defers:=T } w2;have hB2:=hB1.step p4 s3;have E2:=p3.trans s3;have sr2:SR D Y r1 (upd e1 7 .any) h1 (bD env1 (some 7) (.fn (.func 22) [] [.pt b o])) H2:=⟨p7.sh,λj=>by
  simp only[upd,bD];split;·exact .any _
  .exact p7.re j⟩
 have ag1:Agree h.length r r1:=p6.agree _
 have out:∀(F':Nat->Prop)(w':World)(H':Hp)(env':aJ)(tmps:Array Value)(ds:List Deferred)(r3:Nat->Option Nat)(e2:aJ)(h2:XH)(u:FrameMode)(v0 v0':AV)(t:Bool)(cval:Value),u ≠ .run->Ext F w H F' w' H'->St F' w' H'->RE F' w' env' { tmps:=tmps,defers:=[] } ->
  Mk w2.heap.size T F' H' w' ds->Agree h1.length r1 r3->SR D Y r3 e2 h2 env' H'->Rn D Y r3 v0 v0'->zR saySay (runW D) (runYW D) (.pt c o) v0 t h2=some h3->kD saySay.res e2 (aH h3)=some v ->
  ((t=true/\u = .panicking (pnc cval)/\Rv F' w' (.ifc 48 v0') cval)\/(t=false/\u = .returning/\v0' = .agg [.int .i64 0])) ->
  LeavesInM Fence.wide 0 prog f8 tmps (yD F w H λv1 H1=>∃ v' H'',Shift (upd anyE 0 v1) H1 (upd anyE 0 v') H''/\fO D Y r v h3 v' H'') ds u w':=by
  intro F' w' H' env' tmps ds r3 e2 h2 u v0 v0' t cval hu he st' re' mk ag sr3 hv0 hh hret hcase;obtain⟨ms,q1,q2,q3⟩:=mk.ex;rw[q1];refine aFo (env:=env') (S:=λw'=>(t=true/\u = .panicking (pnc cval)/\Rv F' w' (.ifc 48 v0') cval)\/(t=false/\u = .returning/\v0' = .agg [.int .i64 0])) (λw w' hu hs=>?_) hu E2.le (λw'' hs'' he' st'' re''=>?_) ms w' hcase he st' re' q2 q3
  .rcases hs with ⟨a1,a2,a3⟩|hs
   .exact .inl ⟨a1,a2,a3.up hu⟩
   grind
  rw[hT];refine⟨hu,.inr ⟨λhd=>by simp[Fence.wide]at hd,_,_,22,#[.pointer (some ⟨b,o,none⟩)],rfl,?_,λ_ _=>trivial,?_⟩⟩;·rfl
  .refine aXt hf hy hm (hB.step st he') st'' sr3.sh (ag c b hc hrb) rfl rfl rfl hv0 hh hs'' ?_
   intro F4 w4 H4 r4 u' hset t2 t3 t4 t5;show LeavesInM Fence.wide 0 prog f8 tmps _ [] (settle u') w4;rw[hset];have re4:RE F4 w4 env' { tmps:=tmps,defers:=[] }:=re''.up (t2.up st'');have sr4:SR D Y r4 e2 h3 env' H4:=⟨t5,λj=>(sr3.re j).mono t4⟩;have ag4:Agree h.length r r4:=λb1 c1 hb1 hr1=>t4 _ _ (ag b1 c1 (p7.sh.dom b1 c1 (p6 b1 c1 hr1)) (p6 b1 c1 hr1));obtain⟨v1,x1,x2⟩:=aQV sh ag4 sr4 hret;obtain⟨cv,y1,y2⟩:=aCk t3 re4 aZp x1;exact⟨cv,y1,cv,v1,F4,H4,rfl,he'.trans t2,t3,y2,x2⟩
 rcases hbody with ⟨x,e2,h2,hne,hex,hh,hret⟩|⟨v0,e2,h2,hpan,hh,hret⟩
 .have hWD:=xO (Q:=λx' env3 H3=>x'=x/\∃ r3,Agree h1.length r1 r3/\SR D Y r3 e2 h2 env3 H3) ok hD hex hY aZK (bB aZO) sr2 (λr' env' H' ha sr'=>⟨rfl,r',ha,sr'⟩)
  have hW:=hWD code21 (by grind [aGn]) F2 w2 { tmps:=a2.tmps,defers:=T } w2.heap.size T hB2 (B5 _) (by grind) s4 s5 Mk.nil;refine wpIn_mono hW ?_;rintro e a' w' ⟨x',env',F',H',z1,z2,z3,z4,z5,z6,rfl,r3,z7,z8⟩;have fin:=λ(hu:True)=>out F' w' H' env' a'.tmps a'.defers r3 e2 h2 .returning _ _ false undef (by simp) (E2.trans z3) z4 z5 z6 z7 z8 ((aDZ saySay.zero rfl)) hh hret (.inr ⟨rfl,rfl,rfl⟩);cases e with
  | normal=>exact fin trivial
  | ret=>exact fin trivial
  | exit id=>grind
  | goto l=>grind
  | panic c=>grind
  | outgrown=>grind
 .have hWD:=hpan aZK (bB aZO) B Y r1 _ _ (λv' env3 H3=>∃ r3,Agree h1.length r1 r3/\SR D Y r3 e2 h2 env3 H3/\Rn D Y r3 (.ifc 48 v0) v') hY sr2 (λr' v' env' H' ha sr' hv'=>⟨r',ha,sr',hv'⟩)
  have hW:=hWD code21 (by grind [aGn]) F2 w2 { tmps:=a2.tmps,defers:=T } w2.heap.size T hB2 (B5 _) (by grind) s4 s5 Mk.nil;refine wpIn_mono hW ?_;rintro e a' w' ⟨cv,vv,env',F',H',rfl,z3,z4,z5,z9,z6,r3,z7,z8,z10⟩;cases z10 with
  | ifc _ _ v0' hv0' =>
  exact out F' w' H' env' a'.tmps a'.defers r3 e2 h2 (.panicking (pnc cv)) v0 v0' true cv (by simp) (E2.trans z3) z4 z5 z6 z7 z8 hv0' hh hret (.inl ⟨rfl,rfl,z9⟩)
end
end Go.Proofs.YtfcdcgplogojbaaGreatDoor
namespace Go.Proofs.YtfcdcgplogojbaaGreatDoor
open Go Go.DL
variable{h h' h1 h2:XH}{L:CL}{s:CSt}{x line:ByteArray}{w:Wd}{v:AV}
theorem w59(ly:Lays h L s):runW aB 25 [.pt L.c 0] h=some (.bool false,h):=by
 obtain⟨g,hc⟩:=aC ly.hc;unfold cL at hc;rw[qY 25 x25 rfl];unfold x25;dsimp only;(exact cI hc)
theorem aGz(run:fC)(runY:gR)(ops:List DOper)(e:aJ)(h:XH):fP run runY ops e h=xo none run runY ops e h:=rfl
theorem aLO{n:Nat}:zR saySay (runW aB) (runYW aB) (.pt n 0) saySay.zero false h=some (h++[aa [I 0]]):=by
 unfold zR saySay pN aAl aCq;dsimp only;rw[aGz];obtain⟨k,hk⟩:∃ n,h.length=n:=⟨_,rfl⟩;(exact cI hk)
def lV:List Int:=[2,4,5,6,8,9,10,13,14,15,22,23]
def wC(e:Int):ByteArray:=(AAF:ByteArray)++⟨⟨Lib.itoa e⟩⟩
theorem aTS{e:Int}(he:e∈lV):aN .add AAF ⟨⟨Lib.itoa e⟩⟩=some (.str (wC e))/\(-9223372036854775808<=e/\e<=9223372036854775807):=by
 have h0:e=2\/e=4\/e=5\/e=6\/e=8\/e=9\/e=10\/e=13\/e=14\/e=15\/e=22\/e=23:=by simp_all [lV]
 rcases h0 with rfl|rfl|rfl|rfl|rfl|rfl|rfl|rfl|rfl|rfl|rfl|rfl;all_goals exact⟨by kernel_rfl,by decide⟩
theorem aIZ{n:Nat}{g:Bool}{a:ByteArray}{e:Int}(hn:hat h n=some (.blk g (.cells true [.str a])))(he:e∈lV):zR saySay (runW aB) (runYW aB) (.pt n 0) (.agg [I e]) true h=some ((h.set n (some (.blk g (.cells true [.str (wC e)]))))++[aa [I e]]):=by
 unfold zR saySay pN aAl yS aCq;dsimp only;rw[aGz];obtain⟨k,hk⟩:∃ n,h.length=n:=⟨_,rfl⟩;obtain⟨sa,hbe⟩:=aTS he;have c57:=aEX (n:=e) hbe;have nk:(n<k)=True:=AAn (by rw[<-hk];exact aI (aQK hn));(exact iS hk hn nk c57 aGz sa aF)
def aDq(c n:Nat)(line:ByteArray):aJ:=upd (upd (aX [.pt c 0,.str line]) 4 (.pt n 0)) 7 .any
def ansB:XH:=[aa [.str ⟨⟨[]⟩⟩]]
def Prs(line:ByteArray)(r:Int ⊕ Wd):Prop:=match r with
 | .inl e=>CalP Tryz.prog aB 26 [.str line] [] (.ifc 48 (.agg [I e])) []
 | .inr w=>∃ v,runW aB 26 [.str line] []=some (v,[])/\IsW w v/\gdA v=true
theorem IsW.shape(hw:IsW w v):∃ f r1 r2,v = .agg [.str f,.fs r1,.fs r2]:=by
 cases w with
 | farmer x=>grind [IsW]
 | wagon x y a b=>grind [IsW]
 | void i=>grind [IsW]
 | close=>grind [IsW]
 | meter x n=>grind [IsW]
 | pan x a b=>grind [IsW]
 | net x=>grind [IsW]
 | total=>grind [IsW]
 | ticket i=>grind [IsW]
 | used x=>grind [IsW]
 | loss x=>grind [IsW]
 | power x=>grind [IsW]
def wB(f:ByteArray)(r1 r2:List (List AV)):XH:=[aa [.str ⟨⟨[]⟩⟩],aa [.str f,.fs r1,.fs r2]]
theorem Lays.bookNew(ly:Lays h L s){n m:Nat}{line a:ByteArray}{g g1 g2 g3:Bool}{cs:List AV}(hm:h.length=m)(hn:n∉zF L s)(hnl:n<m)(hcs:cs=cL { L with kb:=m+1 } { s with book:=s.book++[line] })(hh:h'=((sR h L.kb s.book.length).set L.c (some (.blk g (.cells true cs)))).set n (some (.blk g3 (.cells true [.str a])))++[some (.blk g1 (.cells true [.str line])),some (.blk g2 (.cells true (s.book.map .str++[.str line])))]) :
 Lays h' { L with kb:=m+1 } { s with book:=s.book++[line] }/\aH h' n=some (.cells true [.str a]):=by
 subst hm hcs;have cl:=aI ly.hc;have cn:L.c≠n:=λq=>hn (bI.2 ⟨0,by simp[px,q]⟩);have hl:(((sR h L.kb s.book.length).set L.c (some (.blk g (.cells true (cL { L with kb:=h.length+1 } { s with book:=s.book++[line] }))))).set n (some (.blk g3 (.cells true [.str a])))).length=h.length:=by grind [xC]
 have l1:Lays (h.set n (some (.blk g3 (.cells true [.str a])))) L s:=ly.fr ((Fr.refl [n] h).set (by simp) _) λj b hb hm=>hn (by grind [bI]);have fr:Fr (L.c::pL L.kb s.book.length) (h.set n (some (.blk g3 (.cells true [.str a])))) h':=by
  refine⟨λb hb hnm=>?_,?_⟩
  .rw[G6]at hb
   rw[hh,fZ,hl,if_pos hb,cR,cR];rw[C4,not_or]at hnm;by_cases hbn:b=n;·rw[if_pos hbn,if_pos (by grind),cR,if_pos hbn,if_pos hnl]
   .rw[if_neg hbn,if_neg hnm.1,aTQ hnm.2,cR,if_neg hbn]
  grind
 refine⟨l1.bookApp (kb':=h.length+1) (by grind) ?_ ?_ fr,?_⟩;·rw[hh,fZ,hl,if_pos cl,cR,if_neg cn,cR,if_pos rfl,if_pos (by grind)]
 .rw[hh,fZ,hl,if_neg AS,show h.length+1-h.length=1 by omega];rfl
 .rw[hh,fZ,hl,if_pos hnl,cR,if_pos rfl,if_pos (by grind)]
theorem aJp{L:List Nat}{r:Option (DX×aJ×XH)}{x:DX}{vs:List AV}{h:XH}(hx:uW L r=some (x,vs,h)):∃ e,r=some (x,e,h)/\L.map e=vs:=by
 unfold uW at hx
 grind [Option.map_eq_some_iff]
theorem aTs{n m:Nat}{f:ByteArray}{r1 r2:List (List AV)}{L3:CL}{s3:CSt}(ly:Lays h L s)(hn:h.length=n)(hp:runW aB 26 [.str line] []=some (.agg [.str f,.fs r1,.fs r2],[])){g:Nat}{caps:List AV}{hc h3:XH}(call:runW aB 27 [.pt L.c 0,.agg [.str f,.fs r1,.fs r2]] (h++wB f r1 r2)=some (.fn (.func g) [] caps,hc))(hg:aUW g)(call2:runW aB g caps hc=some (.tup [],h3))(hlt:s.book.length<300)
 (lyc:Lays hc L s) (ly3:Lays h3 L3 s3) (hL:L3.c=L.c) (hb:s3.book.length=s.book.length) (h3n:aH h3 n=some (.cells true [.str ⟨⟨[]⟩⟩])) (hm:h3.length=m) (nn:n∉zF L3 s3) (hk:s.book.length=0) :
 ∃ h4,uW [0,1,4] (execW aB 8 (n+1) none b21 (aDq L.c n line) (h++ansB))=some (.ret,[.pt L.c 0,.str line,.pt n 0],h4)/\Lays h4 { L3 with kb:=m+1 } { s3 with book:=s3.book++[line] }/\aH h4 n=some (.cells true [.str ⟨⟨[111,107]⟩⟩]):=by
 have c59:=w59 (ly.ext ansB);have m1:=zC 9;have m2:=zC 15;obtain⟨gc,hcc⟩:=aC lyc.hc;obtain⟨g3,h3c⟩:=aC ly3.hc;obtain⟨gn,h3n'⟩:=aC h3n;rw[hL]at h3c;unfold cL at hcc h3c;have cm:(L.c<m)=True:=AAn (by rw[<-hm,<-hL];exact aI ly3.hc);have nm0:n<m:=by rw[<-hm];exact aI h3n
 have nm:(n<m)=True:=AAn nm0;have cn:(L.c=n)=False:=AAo λq=>nn (bI.2 ⟨0,by grind⟩);have nc:(n=L.c)=False:=AAo λq=>nn (bI.2 ⟨0,by grind⟩);have hv:iX L.kb s.book.length = .nilsl:=by rw[hk];rfl
 have hv3:iX L3.kb s3.book.length = .nilsl:=by rw[hb,hk];rfl
 rw[hv]at hcc;rw[hv3]at h3c;refine⟨(h3.set L.c (ab [.pt L3.f.o 0,.pt L3.m.o 0,.pt L3.p.o 0,.pt L3.w.o 0,iX L3.tb s3.tickets.length,I s3.closed,.sl (m+1) 0 1 1])).set n (some (.blk gn (.cells true [.str ⟨⟨[111,107]⟩⟩])))++[aa [.str line],aa [.str line]],?_,ly3.bookNew (g:=false) (g1:=true) (g2:=true) (g3:=gn) (cs:=_) hm nn nm0 rfl ?_⟩
 .unfold b21 aDq ansB wB at *
  rcases hg with rfl|rfl|rfl|rfl|rfl|rfl;all_goals (exact eD hn c59 m1 hp call call2 m2 hcc h3c h3n' hm cm nm cn nc aF aF aF aF aF)
 .rw[hL]
  have hb0:s3.book=[]:=D0 AS;simp[sR,cL,iX,hb0]
theorem aTt{n m:Nat}{f:ByteArray}{r1 r2:List (List AV)}{L3:CL}{s3:CSt}(ly:Lays h L s)(hn:h.length=n)(hp:runW aB 26 [.str line] []=some (.agg [.str f,.fs r1,.fs r2],[])){g:Nat}{caps:List AV}{hc h3:XH}(call:runW aB 27 [.pt L.c 0,.agg [.str f,.fs r1,.fs r2]] (h++wB f r1 r2)=some (.fn (.func g) [] caps,hc))(hg:aUW g)(call2:runW aB g caps hc=some (.tup [],h3))(hlt:s.book.length<300)
 (lyc:Lays hc L s) (ly3:Lays h3 L3 s3) (hL:L3.c=L.c) (hb:s3.book.length=s.book.length) (h3n:aH h3 n=some (.cells true [.str ⟨⟨[]⟩⟩])) (hm:h3.length=m) (nn:n∉zF L3 s3) (hk:0<s.book.length) :
 ∃ h4,uW [0,1,4] (execW aB 8 (n+1) none b21 (aDq L.c n line) (h++ansB))=some (.ret,[.pt L.c 0,.str line,.pt n 0],h4)/\Lays h4 { L3 with kb:=m+1 } { s3 with book:=s3.book++[line] }/\aH h4 n=some (.cells true [.str ⟨⟨[111,107]⟩⟩]):=by
 have c59:=w59 (ly.ext ansB);have m1:=zC 9;have m2:=zC 15;obtain⟨gc,hcc⟩:=aC lyc.hc;obtain⟨g3,h3c⟩:=aC ly3.hc;obtain⟨gn,h3n'⟩:=aC h3n;rw[hL]at h3c;unfold cL at hcc h3c;have cm:(L.c<m)=True:=AAn (by rw[<-hm,<-hL];exact aI ly3.hc);have nm0:n<m:=by rw[<-hm];exact aI h3n
 have nm:(n<m)=True:=AAn nm0;have cn:(L.c=n)=False:=AAo λq=>nn (bI.2 ⟨0,by grind⟩);have nc:(n=L.c)=False:=AAo λq=>nn (bI.2 ⟨0,by grind⟩);have hk3:0<s3.book.length:=AS
 rw[fD hk]at hcc;rw[fD hk3]at h3c;have hbb:=ly3.bk hk3;obtain⟨gb,h3b⟩:=aC hbb;have bp:L3.kb∈px L3 s3 2:=cG.2 ⟨hk3,rfl⟩;have bm:(L3.kb<m)=True:=AAn (by rw[<-hm];exact aI hbb);have bn:(L3.kb=n)=False:=AAo λq=>nn (bI.2 ⟨2,q▸bp⟩);have nb:(n=L3.kb)=False:=AAo λq=>nn (bI.2 ⟨2,q▸bp⟩);have bc:(L3.kb=L.c)=False:=AAo λq=>ly3.off (i:=2) (j:=0) (by decide) bp (by simp[px,hL,q]);have cb:(L.c=L3.kb)=False:=AAo λq=>ly3.off (i:=2) (j:=0) (by decide) bp (by grind);have t1:((s.book.length:Int)<300)=True:=AAa;have z1:((s3.book.length+1)*16<=1099511627776)=True:=AAa;have z2:(s3.book.length+1<=1099511627776)=True:=AAa;refine⟨((h3.set L3.kb none).set L.c (ab [.pt L3.f.o 0,.pt L3.m.o 0,.pt L3.p.o 0,.pt L3.w.o 0,iX L3.tb s3.tickets.length,I s3.closed,.sl (m+1) 0 1 (s3.book.length+1)])).set n (some (.blk gn (.cells true [.str ⟨⟨[111,107]⟩⟩])))++[aa [.str line],some (.blk gb (.cells true (s3.book.map .str++[.str line])))],?_,ly3.bookNew (g:=false) (g1:=true) (g2:=gb) (g3:=gn) (cs:=_) hm nn nm0 rfl ?_⟩
 .unfold b21 aDq ansB wB at *
  rcases hg with rfl|rfl|rfl|rfl|rfl|rfl;all_goals (exact iW hn c59 m1 hp call call2 m2 hcc h3c h3n' hm cm nm cn nc h3b bm bn nb bc cb t1 z1 z2 aF aF)
 .rw[hL]
  simp[sR,cL,iX,Nat.ne_of_gt hk3]
def hdB:ByteArray:=AAG
def yL(B:List ByteArray):Nat:=(B.length+4)/5
def pgs(B:List ByteArray)(i:Nat):List ByteArray:=(B.drop (5*i)).take 5
def kP(B:List ByteArray):Nat->ByteArray
 | 0=>hdB
 | i+1=>kP B i++pgB (pgs B i) (6*i)
def kA(B:List ByteArray):ByteArray:=kP B (yL B)
theorem aHm(B:List ByteArray)(i:Nat):(pgs B i).length=min 5 (B.length-5*i):=by simp[pgs]
theorem aAX(ls:List ByteArray)(row:Nat):(pgB ls row).size=(ls.length+1)*45:=by
 unfold pgB;rw[J0,yZ,aAO (eN (by rw[mQ (B5 _)];omega) _ (B5 _))];omega
theorem aAC(B:List ByteArray):∀ i,kP B i=kP B i/\(kP B i).size<=9+i*270/\9<=(kP B i).size
 | 0=>⟨rfl,by simp only[kP,hdB];decide,by simp only[kP,hdB];decide⟩
 | i+1=>by
   obtain⟨_,h1,h2⟩:=aAC B i;have h3:=aAX (pgs B i) (6*i);have h4:=aHm B i;refine⟨rfl,?_,?_⟩;·rw[kP,J0,h3];omega
   .rw[kP,J0,h3];omega
abbrev lpB:Option XB:=some (.loop 10 0 [.bp 1] .ready)
abbrev hY(a:ByteArray)(B:List ByteArray):XH:=[lpB,some (.blk false (.cells true [.pt 1 0,.sb 2 a.size])),some (.blk true (.cells true (eE a))),zT B]
theorem y23{B ls:List ByteArray}{a p:ByteArray}{row o n z y:Nat}(hB:∀ i s,ls[i]?=some s->(bQ B)[o+i]?=some (.str s))(hn:ls.length=n)(h0:1<=n)(h1:n<=5)(hr:row<=10000)(ha:a.size<=100000)(hz:a.size=z)(hp:pgB ls row=p)(hy:z+p.size=y) :
 runYW aB (.fn (.yield 0) [] []) [I (row:Nat),.sl 3 o 1 n] (hY a B)=some (.bool true,[lpB,ab [.pt 1 0,.sb 4 y],none,zT B,aa (eE (a++p))]):=by
 have c38:=bBR (row:=row) hB AS AS hr;have c38:runW aB 37 [.sl 0 o 1 ls.length,I (row:Int)] [zT B]=some (.str (pgB ls row),[zT B]):=c38;have sz:=aAX ls row;rw[hn,hp]at c38;rw[hp,hn]at sz;have c69:=aWo (s:=p) (a:=a) AS AS ha;rw[hz,hy]at c69;have gB:=bP B;have gA:=fR a;have gP:=fR (a++p);rw[aDF (K:=10) (d:=x10) (site:=0) (vs:=[.bp 1]) rfl rfl (by rfl) rfl];(exact eK c38 c69 hz hy gB gA gP eL eW eX aU aR aT)
section
variable{B:List ByteArray}
abbrev ckB(n:Nat):Option XB:=some (.blk false (.cells false [.any,.any,.any,.any,.any,.any,.sl 5 0 1 n]))
def aEv(B:List ByteArray)(i:Nat):XH:=if i=0 then [lpB,ab [.pt 1 0,.sb 2 9],aa (eE hdB),ab [.pt 4 0],ckB B.length,zT B]
 else [lpB,ab [.pt 1 0,.sb 6 (kP B i).size],none,ab [.pt 4 0],ckB B.length,zT B,aa (eE (kP B i))]
def aFk(B:List ByteArray)(i:Nat):AV:=if i=yL B then .fs [] else .sl 5 (5*i) 1 (B.length-5*i)
def qK(B:List ByteArray)(i:Nat):Nat:=if i=yL B then B.length+yL B else 6*i
theorem aXb{i:Nat}:∀(k:Nat)(s:ByteArray),(pgs B i)[k]?=some s->(bQ B)[5*i+k]?=some (.str s):=λk s h=>by
 grind [bQ,pgs]
theorem bCx(h0:1<=B.length)(h1:B.length<=300):runW aB 93 [.fn (.yield 0) [] [],.pt 3 0] (aEv B 0)=some (.tup [],aEv B (yL B)):=by
 have np:yL B=(B.length+4)/5:=rfl;have g0:aEv B 0=[lpB,ab [.pt 1 0,.sb 2 9],aa (eE hdB),ab [.pt 4 0],ckB B.length,zT B]:=rfl;have gh:=fR hdB;have gB:=bP B;rw[g0,qX 93 x93 rfl];unfold x93;dsimp only;sym =>
  simp[Za,Zb,Zf,Zh,Zl,Zm,Zn,Zv,Z9,ZA,ZE,ZG,ZN,ZS,ZT,ZW,Yf,Yi,Ys,Yu,Yw,Yx,Y8,YK,YM,YN,YU,YX,Xg,Xi,Xm,Xz,XI,XN,XO,XW,XX,Wc,Wg,Wv,Ww,Wz,W3,W4,W5,WA,WE,WJ,Vf,Vi,Vm,V5,V6,V7,V8,VF,VH,VI,VJ,VK,VL,VN,VO,VP,VQ,VV,VW,VX,VY,VZ,Ua,Ub,Uc,Ud,Ue,Uf,Ug,Uh,Ui,Uj,Uk,Ul,Um,Un,Uo,Ur,Us,Ut,Uu,Uv,Uw,UC,UQ,US,UU,UV,UW,UX,UZ,Tb,Tg,Th,Ti,Tj,Tl,Tm,Tn,Tp,Tr,Ts,Tt,Tu,Tv,Tw,Tx,Ty,Tz,T2,T5,TB,TF,TH,TI,TJ,TK,TN,TO,TP,TQ,TR,TU,TZ,Sa,Sg,Si,Sj,SA,SC,SG,SV,SX,SZ,Ra,Rb,Rc,Re,Rg,Ri,Rj,Rk,Rl,Rx,Rz,RG,RH,Qb,Qe,QB,QQ,Pv,Px,P0,P8,PV,gh,gB,eL,eW,eX,aU,aR,aT]
  tactic =>
   unfold aNP;rw[aG (yL B) (λi=>[.fn (.yield 0) [] [],I (qK B i:Nat),aFk B i]) (λi=>aEv B i)]
   .have s0:aFk B (yL B) = .fs []:=if_pos rfl
    have g1:aEv B (yL B)=[lpB,ab [.pt 1 0,.sb 6 (kP B (yL B)).size],none,ab [.pt 4 0],ckB B.length,zT B,aa (eE (kP B (yL B)))]:=if_neg AS;have gP:=fR (kP B (yL B));(exact gZ s0 g1 gP gB eL eW eX aU aR aT)
   .have s0:aFk B 0 = .sl 5 0 1 B.length:=if_neg AS
    have r0:qK B 0=0:=if_neg AS;(exact eK s0 r0 g0 gh gB eL eW eX aU aR aT aF aF)
   .intro i hi
    obtain⟨_,z1,z2⟩:=aAC B i;have pl:=aHm B i;have ps:=aAX (pgs B i) (6*i);have sv:kP B (i+1)=kP B i++pgB (pgs B i) (6*i):=rfl;have ss:(kP B i).size+(pgB (pgs B i) (6*i)).size=(kP B (i+1)).size:=by grind
    have y:=λz (hz:(kP B i).size=z)=>y23 (B:=B) (ls:=pgs B i) (a:=kP B i) (row:=6*i) (o:=5*i) (y:=(kP B (i+1)).size) aXb rfl AS AS AS AS hz rfl AS;have ri:qK B i=6*i:=if_neg AS;have gi:aFk B i = .sl 5 (5*i) 1 (B.length-5*i):=if_neg AS;have g1:aEv B (i+1)=[lpB,ab [.pt 1 0,.sb 6 (kP B (i+1)).size],none,ab [.pt 4 0],ckB B.length,zT B,aa (eE (kP B (i+1)))]:=if_neg AS;rw[<-sv]at y;have gP:=fR (kP B (i+1));have gA:=fR (kP B i);have d1:(((B.length-5*i:Nat):Int)>0)=True:=AAa;have d2:(0<((B.length-5*i:Nat):Int))=True:=AAa;by_cases hl:i+1=yL B
    .skip
     have n1:(pgs B i).length=B.length-5*i:=AS
     have d3:(5<((B.length-5*i:Nat):Int))=False:=AAb;have sn:aFk B (i+1) = .fs []:=if_pos hl;have rn:IntKind.i64.wrap (((6*i:Nat):Int)+(((B.length-5*i:Nat):Int)+1))=((qK B (i+1):Nat):Int):=by rw[aE AS AS];unfold qK;grind
     have rm:IntKind.i64.wrap (((B.length-5*i:Nat):Int)+1)=((B.length-5*i:Nat):Int)+1:=aE AS AS;have d5:(B.length-5*i=0)=False:=AAb;have d7:(((B.length-5*i:Nat):Int)<=((B.length-5*i:Nat):Int))=True:=AAa;have d8:(B.length-5*i<B.length-5*i)=False:=AAb;have d6:(0<B.length-5*i)=True:=AAa;rw[n1]at y;by_cases hi0:i=0
     .subst hi0
      have y1:=y 9 rfl;have s0:aFk B 0 = .sl 5 0 1 B.length:=if_neg AS;have r0:qK B 0=0:=if_neg AS;have gA:lE (eE hdB)=true:=fR hdB;have sv0:kP B 0=hdB:=rfl;rw[sv0]at y1;rw[Nat.mul_zero]at *;rw[aF3]at *;have rn:IntKind.i64.wrap (0+((B.length:Nat)+1:Int))=((qK B (0+1):Nat):Int):=rn;have y1:runYW aB (.fn (.yield 0) [] []) [I 0,.sl 3 0 1 (B.length)] [lpB,ab [.pt 1 0,.sb 2 9],aa (eE hdB),zT B]=_:=y1;rw[s0,r0,sn,g1,g0];clear y ss ps z1 z2 sv pl hl np;generalize kP B (0+1)=A' at *;generalize qK B (0+1)=R at *;(exact eD d1 d2 d3 d5 d6 d7 d8 y1 rn rm gP gA gB eL eW eX aU aR aT aF)
     .have y1:=y _ rfl
      have gg:aEv B i=[lpB,ab [.pt 1 0,.sb 6 (kP B i).size],none,ab [.pt 4 0],ckB B.length,zT B,aa (eE (kP B i))]:=if_neg hi0;rw[gi,ri,sn,g1,gg];clear y ss ps z1 z2 sv pl hl np;generalize kP B (i+1)=A' at *;generalize kP B i=A at *;generalize qK B (i+1)=R at *;generalize B.length-5*i=m at *;generalize 6*i=r at *;generalize 5*i=o at *;(exact eD d1 d2 d3 d5 d6 d7 d8 y1 rn rm gP gA gB eL eW eX aU aR aT aF)
    .skip
     have n1:(pgs B i).length=5:=AS
     have d3:(5<((B.length-5*i:Nat):Int))=True:=AAa;have sn:aFk B (i+1) = .sl 5 (5*i+5) 1 (B.length-5*i-5):=by
      unfold aFk
      grind
     have rn:IntKind.i64.wrap (((6*i:Nat):Int)+6)=((qK B (i+1):Nat):Int):=by rw[aE AS AS];unfold qK;grind
     have d5:(5<B.length-5*i)=True:=AAa;have d7:(5<=((B.length-5*i:Nat):Int))=True:=AAa;have d8:(0<B.length-5*i)=True:=AAa;have d6:(5<=B.length-5*i)=True:=AAa;rw[n1]at y;by_cases hi0:i=0
     .subst hi0
      have y1:=y 9 rfl;have s0:aFk B 0 = .sl 5 0 1 B.length:=if_neg AS;have r0:qK B 0=0:=if_neg AS;have gA:lE (eE hdB)=true:=fR hdB;have sv0:kP B 0=hdB:=rfl;rw[sv0]at y1;rw[Nat.mul_zero]at *;rw[aF3]at *;have r6:qK B (0+1)=6:=if_neg AS;rw[r6];have y1:runYW aB (.fn (.yield 0) [] []) [I 0,.sl 3 0 1 (5)] [lpB,ab [.pt 1 0,.sb 2 9],aa (eE hdB),zT B]=_:=y1;rw[s0,r0,sn,g1,g0];clear y ss ps z1 z2 sv pl hl np;generalize kP B (0+1)=A' at *;(exact eD d1 d2 d3 d5 d6 d7 d8 y1 rn gP gA gB eL eW eX aU aR aT aF aF)
     .have y1:=y _ rfl
      have gg:aEv B i=[lpB,ab [.pt 1 0,.sb 6 (kP B i).size],none,ab [.pt 4 0],ckB B.length,zT B,aa (eE (kP B i))]:=if_neg hi0;rw[gi,ri,sn,g1,gg];clear y ss ps z1 z2 sv pl hl np;generalize kP B (i+1)=A' at *;generalize kP B i=A at *;generalize qK B (i+1)=R at *;generalize B.length-5*i=m at *;generalize 6*i=r at *;generalize 5*i=o at *;(exact eD d1 d2 d3 d5 d6 d7 d8 y1 rn gP gA gB eL eW eX aU aR aT aF aF)
   .have s0:aFk B (yL B) = .fs []:=if_pos rfl
    have g1:aEv B (yL B)=[lpB,ab [.pt 1 0,.sb 6 (kP B (yL B)).size],none,ab [.pt 4 0],ckB B.length,zT B,aa (eE (kP B (yL B)))]:=if_neg AS;(exact kJ s0 g1)
abbrev cr0(k:AV):Option XB:=some (.blk false (.cells false [.pt 1 0,.any,.any,.any,.any,.any,k]))
abbrev cr1(k:AV):Option XB:=some (.blk false (.cells false [.any,.any,.any,.any,.any,.any,k]))
theorem w70{n:Nat}:runW aB 36 [.pt 0 0] [cr1 (.sl 1 0 1 n),zT B]=some (.fn (.func 93) [] [.pt 2 0],[cr1 (.sl 1 0 1 n),zT B,ab [.pt 0 0]]):=by
 have gB:=bP B;rw[qX 36 x36 rfl];unfold x36;dsimp only;(exact rR gB aU aR aT)
theorem w23(h0:1<=B.length)(h1:B.length<=300):runW aB 10 [.pt 0 0] [cr0 (.sl 2 0 1 B.length),none,zT B]=some (.str (kA B),[cr1 (.sl 2 0 1 B.length),none,zT B]):=by
 have gB:=bP B;have np:yL B=(B.length+4)/5:=rfl;have c59:runW aB 25 [.pt 0 0] [cr0 (.sl 2 0 1 B.length),none,zT B]=some (.bool false,[cr0 (.sl 2 0 1 B.length),none,zT B]):=by
  rw[qY 25 x25 rfl];unfold x25;dsimp only;(exact RT0)
 have c69:runW aB 35 [.bp 0,.str ⟨#[122,97,102,114,97,32,49,52,10]⟩] [aa [.nilpt,.nilsl]] =
  some (.tup [I 9,.nilifc],[ab [.pt 0 0,.sb 1 9],aa (eE hdB)]):=aWp (s:=hdB) (by decide) (by decide)
 have c70:=w70 (B:=B) (n:=B.length);have c116:runW aB 93 [.fn (.yield 0) [] [],.pt 3 0] [lpB,ab [.pt 1 0,.sb 2 9],aa (eE hdB),ab [.pt 4 0],ckB B.length,zT B]=some (.tup [],aEv B (yL B)):=bCx h0 h1;have g1:aEv B (yL B)=[lpB,ab [.pt 1 0,.sb 6 (kP B (yL B)).size],none,ab [.pt 4 0],ckB B.length,zT B,aa (eE (kP B (yL B)))]:=if_neg AS;rw[g1]at c116;obtain⟨_,z1,z2⟩:=aAC B (yL B);have c71:=w71 (a:=kP B (yL B)) AS AS;have gh:=fR hdB;have gP:=fR (kP B (yL B));have e:kA B=kP B (yL B):=rfl;rw[e,qX 10 x10 rfl];unfold x10;dsimp only;generalize kP B (yL B)=A at *;generalize hdB=Hd at *;(exact eD c59 c69 c70 c116 c71 gh gP gB eL eW eX aU aR aT aF aF aF aF aF aF)
theorem bBW:runW aB 10 [.pt 0 0] [cr0 .nilsl,none]=some (.str hdB,[cr1 .nilsl,none]):=by
 have c59:runW aB 25 [.pt 0 0] [cr0 .nilsl,none]=some (.bool false,[cr0 .nilsl,none]):=by
  rw[qY 25 x25 rfl];unfold x25;dsimp only;(exact RT0)
 have c69:runW aB 35 [.bp 0,.str ⟨#[122,97,102,114,97,32,49,52,10]⟩] [aa [.nilpt,.nilsl]] =
  some (.tup [I 9,.nilifc],[ab [.pt 0 0,.sb 1 9],aa (eE hdB)]):=aWp (s:=hdB) (by decide) (by decide)
 have c70:runW aB 36 [.pt 0 0] [cr1 .nilsl]=some (.fn (.func 93) [] [.pt 1 0],[cr1 .nilsl,ab [.pt 0 0]]):=by
  rw[qX 36 x36 rfl];unfold x36;dsimp only;(exact RT0)
 have gh:=fR hdB;have c116:runW aB 93 [.fn (.yield 0) [] [],.pt 3 0] [lpB,ab [.pt 1 0,.sb 2 9],aa (eE hdB),ab [.pt 4 0],cr1 .nilsl]=some (.tup [],[lpB,ab [.pt 1 0,.sb 2 9],aa (eE hdB),ab [.pt 4 0],cr1 .nilsl]):=by
  rw[qX 93 x93 rfl];unfold x93;dsimp only;sym =>
   simp[Za,Zb,Zf,Zg,Zh,Zj,Zl,Zm,Zo,Zp,Zr,Zv,Zx,Zy,Zz,Z9,ZA,ZD,ZG,ZS,ZW,Yf,Yi,Yn,Yo,Yq,Yu,Yy,YK,Xp,Xz,XL,XN,XX,XZ,Wb,Wc,Wg,Wn,Wv,Wx,Wz,W5,W7,W9,WA,WC,WE,WH,WJ,WM,WP,Vd,Vf,Vi,Vl,Vm,Vv,V5,V6,V7,V8,VF,VG,VH,VI,VJ,VK,VL,VM,VN,VO,VP,VQ,VU,VV,VW,VX,VY,VZ,Ua,Ub,Uc,Ud,Ue,Uf,Ug,Uh,Ui,Uj,Uk,Ul,Um,Un,Uo,Ur,Us,Ut,Uu,Uv,Uw,UC,UE,UF,UG,UQ,UR,US,UU,UV,UW,UX,UY,UZ,Tb,Tc,Td,Te,Tg,Th,Tl,Tn,Tp,Tr,Ts,Tt,Tu,Tv,Tw,Tx,Ty,Tz,T2,T5,T6,T8,TH,TI,TK,TN,TO,TP,TQ,TR,TU,TZ,Sa,Sn,Sp,SA,SC,SG,SN,SV,SX,SY,SZ,Ra,Rb,Rc,Re,Rg,Ri,Rk,Rl,Rq,Qr,Qs,Qw,Qx,Qy,Qz,Q0,QA,QQ,Pj,Pk,Pm,Pn,Po,Pp,Pq,Pv,Px,P0,P8,P9,PB,PH,PI,PJ,PK,PL,Oa,Ob,gh,eL,eW,eX]
   tactic =>
    unfold aNP;rw[aG 0 (λi=>[.fn (.yield 0) [] [],I 0,.nilsl]) (λi=>[lpB,ab [.pt 1 0,.sb 2 9],aa (eE hdB),ab [.pt 4 0],cr1 .nilsl])];·(exact rR gh eL eW eX)
    .rfl
    .omega
    ·(exact rR gh eL eW eX)
 have c71:=w71 (a:=hdB) (by decide) (by decide);have c71:runW aB 38 [.bp 0] [ab [.pt 0 0,.sb 1 9],aa (eE hdB)]=some (.str hdB,[ab [.pt 0 0,.sb 1 9],none]):=c71;rw[qX 10 x10 rfl];unfold x10;dsimp only;generalize hdB=Hd at *;(exact eK c59 c69 c70 c116 c71 gh eL eW eX aU aR aT aF)
end
def d21:XFn:=aZA 41
theorem aBR:aB 8=some d21:=rfl
theorem aCR{e:aJ}{n:Nat}{a:ByteArray}(he:e 4 = .pt n 0)(hn:aH h n=some (.cells true [.str a])):kD saySay.res e (aH h)=some (.str a):=by
 obtain⟨g,hg⟩:=aC hn;unfold saySay;dsimp only;(exact kJ he hg)
def aFt(h:XH)(L:CL)(line:ByteArray)(s':CSt)(a:ByteArray):Prop:=∃ h3 L3,aSe aB d21 h.length 0 (h.length+1) (aDq L.c h.length line) (h++ansB) h3 (.str a)/\Lays h3 L3 s'/\L3.c=L.c
theorem Lays.nlt(ly:Lays h L s):h.length∉zF L s:=λhm=>by
 obtain⟨j,hj⟩:=bI.1 hm;have:=ly.lt j _ hj;omega
theorem aPi(ly:Lays h L s)(hp:runW aB 26 [.str line] []=some (v,[]))(hw:IsW w v)(hlt:s.book.length<300)(co:∀ k:XH,zW (h++k) L s v (fL s w)):aFt h L line { fL s w with book:=s.book++[line] } ⟨⟨[111,107]⟩⟩:=by
 obtain⟨f,r1,r2,rfl⟩:=hw.shape;obtain⟨n,hn⟩:∃ n,h.length=n:=⟨_,rfl⟩;have lyw:=ly.ext (wB f r1 r2);obtain⟨g,caps,hcc,h3,call,hg,fr1,q1,L3,call2,ly3,hL,fr2,sb⟩:∃(g:Nat)(caps:List AV)(hc h3:XH),runW aB 27 [.pt L.c 0,.agg [.str f,.fs r1,.fs r2]] (h++wB f r1 r2)=some (.fn (.func g) [] caps,hc)/\aUW g/\Fr [] (h++wB f r1 r2) hc/\True/\∃ L3,runW aB g caps hc=some (.tup [],h3)/\Lays h3 L3 (fL s w)/\L3.c=L.c/\Fr (zF L s) hc h3/\Sb hc.length L s L3 (fL s w):=by
  obtain⟨g,caps,hc1,a1,a2,a3,h3,L3,a4,a5,a6,a7,a8⟩:=co (wB f r1 r2)
  grind
 have lyc:Lays hcc L s:=lyw.fr fr1 λ_ _ _ hb=>by cases hb
 have n0:aH (h++wB f r1 r2) n=some (.cells true [.str ⟨⟨[]⟩⟩]):=by
  have:=cC (h:=h) (k:=wB f r1 r2) 0 (g:=true) (c:=.cells true [.str ⟨⟨[]⟩⟩]) rfl
  grind
 have nl:=ly.nlt;rw[hn]at nl;have n1:aH hcc n=some (.cells true [.str ⟨⟨[]⟩⟩]):=fr1.keepS n0 (by simp);have n3:aH h3 n=some (.cells true [.str ⟨⟨[]⟩⟩]):=fr2.keepS n1 nl;have nn:n∉zF L3 (fL s w):=λhm=>by
  rcases sb n hm with hm|hm;·exact nl hm
  .have:=aI n1;omega
 have hbk:(fL s w).book=s.book:=by
  cases w<;>first|rfl|(unfold fL;grind)
 obtain⟨h4,k1,k2,k3⟩:∃ h4,uW [0,1,4] (execW aB 8 (n+1) none b21 (aDq L.c n line) (h++ansB))=some (.ret,[.pt L.c 0,.str line,.pt n 0],h4)/\Lays h4 { L3 with kb:=h3.length+1 } { fL s w with book:=(fL s w).book++[line] }/\aH h4 n=some (.cells true [.str ⟨⟨[111,107]⟩⟩]):=by
  by_cases hk:s.book.length=0;·exact aTs ly hn hp call hg call2 hlt lyc ly3 hL (by rw[hbk]) n3 rfl nn hk
  .exact aTt ly hn hp call hg call2 hlt lyc ly3 hL (by rw[hbk]) n3 rfl nn AS
 obtain⟨e,k4,k5⟩:=aJp k1;have he:e 4 = .pt n 0:=by
  grind
 rw[hbk]at k2;refine⟨h4++[aa [I 0]],_,.inl ⟨.ret,e,h4,(λ_ q=>by cases q),?_,?_,?_⟩,k2.ext _,hL⟩;·grind
 .grind [aLO]
 .exact aCR he ((Fr.app h4 _).keepS k3 (by simp))
theorem aCO(ly:Lays h L s){e:Int}(he:e∈lV)(hp:PanX Tryz.prog aB d21 (h.length+1) b21 (aDq L.c h.length line) (h++ansB) (.ifc 48 (.agg [I e])) (aY [4] [.pt h.length 0]) h2)(ly2:Lays h2 L s)(n2:aH h2 h.length=some (.cells true [.str ⟨⟨[]⟩⟩])):aFt h L line s (wC e):=by
 obtain⟨g,hg⟩:=aC n2;refine⟨_,L,.inr ⟨.agg [I e],_,h2,hp,aIZ hg he,?_⟩,?_,rfl⟩
 .refine aCR rfl ?_
  rw[fZ,if_pos (by rw[G6];exact aI n2),cR,if_pos rfl,if_pos (aI n2)]
 .refine Lays.ext (ly2.fr ((Fr.refl [h.length] h2).set (by simp) _) λj b hb hm=>?_) _
  rw[D2]at hm;have:=ly.lt j b hb;omega
theorem bBw:aH (h++ansB) h.length=some (.cells true [.str ⟨⟨[]⟩⟩]):=cC (h:=h) (k:=ansB) 0 (g:=true) rfl
theorem aSO{f:ByteArray}{r1 r2:List (List AV)}:aH (h++wB f r1 r2) h.length=some (.cells true [.str ⟨⟨[]⟩⟩]):=cC (h:=h) (k:=wB f r1 r2) 0 (g:=true) rfl
theorem aGQ(ly:Lays h L s):uW [0,1,4] (execW aB 8 (h.length+1) none (match b21 with | .seq a _=>a|c=>c) (aDq L.c h.length line) (h++ansB))=some (.normal,[.pt L.c 0,.str line,.pt h.length 0],h++ansB):=by
 have c59:=w59 (ly.ext ansB);have m1:=zC 9;obtain⟨n,hn⟩:∃ n,h.length=n:=⟨_,rfl⟩;rw[hn];unfold b21 aDq ansB at *;(exact vC hn c59 m1)
theorem aPf(ly:Lays h L s){e:Int}(he:e∈lV)(hp:CalP Tryz.prog aB 26 [.str line] [] (.ifc 48 (.agg [I e])) []):aFt h L line s (wC e):=by
 refine aCO ly he ?_ (ly.ext ansB) bBw;have r1:=aGQ (line:=line) ly;unfold b21 at r1 ⊢;refine PanX.seqR (K:=8) aA aBR [0,1,4] r1 ?_;refine PanX.seqL ?_;refine PanX.reg (p:=[⟨0,some 12,.mv (.t 1),none⟩]) (post:=[⟨0,some 5,.alloc [.str ⟨⟨[]⟩⟩,.nilsl,.nilsl],none⟩,⟨0,none,.store 3 (.t 5) (.t 13) [],none⟩]) aA [4] (g:=26) (first:=[]) (cap:=[]) (args:=[.str line]) (vs:=[.pt h.length 0]) (h1:=h++ansB) rfl rfl ?_ (CalP.pure hp (λa ha=>by rw[D2.1 ha];exact .str _) (.ifc _ _ (.agg _ λa ha=>by rw[D2.1 ha];exact .int _ _)) _);rfl
theorem aJS(f:ByteArray)(r1 r2:List (List AV)){c:Nat}(hp:runW aB 26 [.str line] []=some (.agg [.str f,.fs r1,.fs r2],[])):uW [0,1,4,5] (execW aB 8 (h.length+1) none (match b21 with | .seq _ (.seq a _)=>a|c=>c) (aY [0,1,4] [.pt c 0,.str line,.pt h.length 0]) (h++ansB))=some (.normal,[.pt c 0,.str line,.pt h.length 0,.pt (h.length+1) 0],h++wB f r1 r2):=by
 obtain⟨n,hn⟩:∃ n,h.length=n:=⟨_,rfl⟩;rw[hn];unfold b21 ansB wB at *;(exact kJ hn hp)
theorem aPj(ly:Lays h L s){e:Int}(he:e∈lV)(hp:runW aB 26 [.str line] []=some (v,[]))(hw:IsW w v)(hc:∀ k:XH,∃ h1,CalP Tryz.prog aB 27 [.pt L.c 0,v] (h++k) (.ifc 48 (.agg [I e])) h1/\Fr [] (h++k) h1):aFt h L line s (wC e):=by
 obtain⟨f,r1,r2,rfl⟩:=hw.shape;obtain⟨h1,hcal,fr⟩:=hc (wB f r1 r2);refine aCO (h2:=h1) ly he ?_ ((ly.ext (wB f r1 r2)).fr fr λ_ _ _ hb=>by cases hb) (fr.keepS aSO (by simp));have r1':=aGQ (line:=line) ly;have r2':=aJS (h:=h) f r1 r2 (c:=L.c) hp;unfold b21 at r1' r2' ⊢;refine PanX.seqR (K:=8) aA aBR [0,1,4] r1' ?_;refine PanX.seqR (K:=8) aA aBR [0,1,4,5] r2' ?_;refine PanX.seqL ?_;refine PanX.reg (p:=[⟨0,some 14,.mv (.t 0),none⟩,⟨0,some 15,.load true 3 (.t 5),none⟩]) (post:=[⟨0,some 6,.mv (.t 16),none⟩]) aA [4] (g:=27) (first:=[]) (cap:=[]) (args:=[.pt L.c 0,.agg [.str f,.fs r1,.fs r2]]) (vs:=[.pt h.length 0]) (h1:=h++wB f r1 r2) rfl rfl ?_ hcal;obtain⟨n,hn⟩:∃ n,h.length=n:=⟨_,rfl⟩;rw[hn];unfold wB;(exact cI hn)
theorem aPe(f:ByteArray)(r1 r2:List (List AV)){c:Nat}{k:AV}{hh:XH}(call:runW aB 27 [.pt c 0,.agg [.str f,.fs r1,.fs r2]] (h++wB f r1 r2)=some (k,hh)):uW [0,1,4,5,6] (execW aB 8 (h.length+1) none (match b21 with | .seq _ (.seq _ (.seq a _))=>a|c=>c) (aY [0,1,4,5] [.pt c 0,.str line,.pt h.length 0,.pt (h.length+1) 0]) (h++wB f r1 r2))=some (.normal,[.pt c 0,.str line,.pt h.length 0,.pt (h.length+1) 0,k],hh):=by
 obtain⟨n,hn⟩:∃ n,h.length=n:=⟨_,rfl⟩;rw[hn];unfold b21 wB at *;(exact kJ hn call)
theorem aPh{s0:CSt}(ly:Lays h L s)(hp:runW aB 26 [.str line] []=some (v,[]))(hw:IsW w v)(co:∀ k:XH,zW (h++k) L s v s0)(hlt:s.book.length=300):aFt h L line s (wC 15):=by
 obtain⟨f,r1,r2,rfl⟩:=hw.shape;have lyw:=ly.ext (wB f r1 r2);obtain⟨g,caps,hcc,call,hg,fr1,_⟩:=co (wB f r1 r2);have lyc:Lays hcc L s:=lyw.fr fr1 λ_ _ _ hb=>by cases hb
 refine aCO (h2:=hcc) ly (by decide) ?_ lyc (fr1.keepS aSO (by simp));have r1':=aGQ (line:=line) ly;have r2':=aJS (h:=h) f r1 r2 (c:=L.c) hp;have r3':=aPe (line:=line) f r1 r2 call;obtain⟨gc,hcx⟩:=aC lyc.hc;unfold cL at hcx;rw[fD (b:=L.kb) AS]at hcx;unfold b21 at r1' r2' r3' ⊢;refine PanX.seqR (K:=8) aA aBR [0,1,4] r1' ?_;refine PanX.seqR (K:=8) aA aBR [0,1,4,5] r2' ?_;refine PanX.seqR (K:=8) aA aBR [0,1,4,5,6] r3' ?_;refine PanX.seqR (K:=8) aA aBR [0,1,4,5,6] (vs:=[.pt L.c 0,.str line,.pt h.length 0,.pt (h.length+1) 0,.fn (.func g) [] caps]) (h1:=hcc) (by (exact RT0)) ?_;refine PanX.seqL ?_;have t1:((s.book.length:Int)<300)=False:=AAb;exact PanX.reg (p:=[⟨0,some 22,.mv (.t 0),none⟩,⟨0,some 23,.nilck (.t 22),none⟩,⟨0,some 24,.fld 6 (.t 23),none⟩,⟨0,some 25,.load false 1 (.t 24),none⟩,⟨0,some 26,.len false (.t 25),none⟩,⟨0,some 27,.bin .lss (.t 26) (.c (.int .i64 300)),none⟩]) (post:=[]) aA [4] (g:=24) (first:=[]) (cap:=[]) (args:=[.bool false,I 15]) (vs:=[.pt h.length 0]) (h1:=hcc) rfl rfl (by (exact kJ hcx t1)) (c58 15 _)
theorem wN(ly:Lays h L s){e:Int}(he:e∈lV)(hp:runW aB 26 [.str line] []=some (v,[]))(hw:IsW w v)(call:∀ k:XH,∃ hh,runW aB 27 [.pt L.c 0,v] (h++k)=some (.nilfn,hh)/\Fr [] (h++k) hh)(hc:∀ hh:XH,Lays hh L s->∃ h1,CalP Tryz.prog aB 28 [.pt L.c 0,v] hh (.ifc 48 (.agg [I e])) h1/\Frz hh.length hh h1):aFt h L line s (wC e):=by
 obtain⟨f,r1,r2,rfl⟩:=hw.shape;obtain⟨hq,c61,fr1⟩:=call (wB f r1 r2);have lyw:=ly.ext (wB f r1 r2);have lyq:Lays hq L s:=lyw.fr fr1 λ_ _ _ hb=>by cases hb
 obtain⟨h3,hcal,fz⟩:=hc hq lyq;have nq:aH hq h.length=some (.cells true [.str ⟨⟨[]⟩⟩]):=fr1.keepS aSO (by simp);have sq:(hat hq (h.length+1)).isSome=true:=by
  have:aH (h++wB f r1 r2) (h.length+1)=some (.cells true [.str f,.fs r1,.fs r2]):=cC 1 (g:=true) rfl;obtain⟨g,hg⟩:=aC (fr1.keepS this (by simp));rw[hg];rfl
 have q1:aH hq (h.length+1)=some (.cells true [.str f,.fs r1,.fs r2]):=fr1.keepS (cC 1 (g:=true) rfl) (by simp);obtain⟨g1,q2⟩:=aC q1;refine aCO (h2:=h3) ly he ?_ (lyq.frz fz) (fz _ _ nq λ_ _ _=>rfl);have r1':=aGQ (line:=line) ly;have r2':=aJS (h:=h) f r1 r2 (c:=L.c) hp;have r3':=aPe (line:=line) f r1 r2 c61;unfold b21 at r1' r2' r3' ⊢;refine PanX.seqR (K:=8) aA aBR [0,1,4] r1' ?_;refine PanX.seqR (K:=8) aA aBR [0,1,4,5] r2' ?_;refine PanX.seqR (K:=8) aA aBR [0,1,4,5,6] r3' ?_;refine PanX.seqL ?_;refine PanX.seqR (K:=8) aA aBR [0,4,5,18] (vs:=[.pt L.c 0,.pt h.length 0,.pt (h.length+1) 0,.bool true]) (h1:=hq) (by (exact RT0)) ?_;refine PanX.condT rfl ?_;refine PanX.seqL ?_;refine PanX.reg (p:=[⟨0,some 19,.mv (.t 0),none⟩,⟨0,some 20,.load true 3 (.t 5),none⟩]) (post:=[⟨0,none,.store 1 (.t 4) (.t 21) [],none⟩]) aA [4] (g:=28) (first:=[]) (cap:=[]) (args:=[.pt L.c 0,.agg [.str f,.fs r1,.fs r2]]) (vs:=[.pt h.length 0]) (h1:=hq) rfl rfl ?_ hcal;obtain⟨n,hn⟩:∃ n,h.length=n:=⟨_,rfl⟩;rw[hn]at q2 ⊢;cases g1;all_goals (exact kJ hn q2)
theorem aKR{h k:XH}(cd:Cd h)(hk:∀ x∈k,∀ b∈nmO x,b<h.length):Cd (h++k):=λx hx b hb=>by
 rw[E6];rcases C8.1 hx with hx|hx;·have:=cd x hx b hb;omega
 grind
def bBG(h:XH)(c:Nat)(v:AV):Prop:=∀ k:XH,∃ bx,runW aB 27 [.pt c 0,v] (h++k)=some (.nilfn,(h++k)++bx)/\∀ x∈bx,∀ b∈nmO x,b=c
theorem aCy(ha:w.asks=true)(hw:IsW w v)(h:XH)(c:Nat):bBG h c v:=by
 have bxs:∀ cs:List AV,∀ x∈[some (XB.blk false (.cells true [.pt c 0])),aa cs],∀ b∈nmO x,b=c:=λcs x hx b hb=>by
  simp only[C4,H6,AAh]at hx;rcases hx with rfl|rfl;·simpa [nmO,nmB,mI,kK]using hb
  .simp[nmO,nmB]at hb
 intro k;cases w with
 | net x=>obtain⟨_,rfl⟩:=hw;exact⟨_,aWs,bxs _⟩
 | total=>cases hw;exact⟨_,aOn,bxs _⟩
 | ticket i=>obtain⟨_,rfl⟩:=hw;exact⟨_,aMA,bxs _⟩
 | used x=>obtain⟨_,rfl⟩:=hw;exact⟨_,aSS,bxs _⟩
 | loss x=>obtain⟨_,rfl⟩:=hw;exact⟨_,aST,bxs _⟩
 | power x=>obtain⟨_,rfl⟩:=hw;exact⟨_,aOo,bxs _⟩
 | _=>cases ha
theorem tV(ly:Lays h L s)(cd:Cd h){a:ByteArray}(hp:runW aB 26 [.str line] []=some (v,[]))(hw:IsW w v)(ask:bBG h L.c v)(hc:∀ hh:XH,Lays hh L s->Cd hh->∃ h1,runW aB 28 [.pt L.c 0,v] hh=some (.str a,h1)/\Frz hh.length hh h1):aFt h L line s a:=by
 obtain⟨f,r1,r2,rfl⟩:=hw.shape;obtain⟨bx,c61,hbx⟩:=ask (wB f r1 r2);obtain⟨hq,hqe⟩:∃ hq,hq=(h++wB f r1 r2)++bx:=⟨_,rfl⟩;rw[<-hqe]at c61;have lyw:=ly.ext (wB f r1 r2);have lyq:Lays hq L s:=by rw[hqe];exact lyw.ext bx
 have lc:=aI ly.hc;have cdq:Cd hq:=by
  rw[hqe];refine aKR (aKR cd λx hx b hb=>?_) λx hx b hb=>?_
  .simp only[wB,C4,H6,AAh]at hx
   rcases hx with rfl|rfl;·simp[nmO,nmB]at hb
   .simp[nmO,nmB]at hb
  grind
 obtain⟨h3,c62,fz⟩:=hc hq lyq cdq;have fr1:Fr [] (h++wB f r1 r2) hq:=by grind [Fr.app]
 have nq:aH hq h.length=some (.cells true [.str ⟨⟨[]⟩⟩]):=fr1.keepS aSO (by simp);have q1:aH hq (h.length+1)=some (.cells true [.str f,.fs r1,.fs r2]):=fr1.keepS (cC 1 (g:=true) rfl) (by simp);obtain⟨g1,q2⟩:=aC q1;have n3:=fz _ _ nq λ_ _ _=>rfl;obtain⟨g3,n3'⟩:=aC n3;have c59:=w59 (ly.ext ansB);have m1:=zC 9;obtain⟨n,hn⟩:∃ n,h.length=n:=⟨_,rfl⟩;have key:uW [0,1,4] (execW aB 8 (n+1) none b21 (aDq L.c n line) (h++ansB))=some (.ret,[.pt L.c 0,.str line,.pt n 0],h3.set n (some (.blk g3 (.cells true [.str a])))):=by
  rw[hn]at q2 n3';unfold b21 aDq ansB wB at *;cases g1;all_goals (exact kN hn c59 m1 hp c61 c62 q2 n3' aF)
 obtain⟨e,k4,k5⟩:=aJp key;have he:e 4 = .pt n 0:=by
  grind
 rw[hn]at n3;have ly3:Lays (h3.set n (some (.blk g3 (.cells true [.str a])))) L s:=(lyq.frz fz).fr ((Fr.refl [n] h3).set (by simp) _) λj b hb hm=>by
  rw[D2]at hm;have:=ly.lt j b hb;omega
 refine⟨_,L,.inl ⟨.ret,e,h3.set n (some (.blk g3 (.cells true [.str a]))),(λ_ q=>by cases q),?_,?_,?_⟩,ly3.ext [aa [I 0]],rfl⟩;·grind
 .grind [aLO]
 .refine aCR he ((Fr.app _ _).keepS (?_:aH (h3.set n (some (.blk g3 (.cells true [.str a])))) n=some (.cells true [.str a])) (by simp))
  rw[cR,if_pos rfl,if_pos (aI n3)]
def tkL(k:zH):List ByteArray:=if k.void then [k.wagon,k.farmer,⟨⟨Lib.itoa k.net⟩⟩,AAv] else [k.wagon,k.farmer,⟨⟨Lib.itoa k.net⟩⟩]
def tkT(k:zH):ByteArray:=⟨⟨Lib.join ((tkL k).map (·.data.toList)) [32]⟩⟩
def pJ(n:Int):ByteArray:=⟨⟨Lib.itoa n⟩⟩
def aAw(P:CSt->ByteArray->Int)(s:CSt):Wd->Int ⊕ ByteArray
 | .net x=>match dW s.farmers x with|none=>.inl 5|some v=>.inr (pJ v)
 | .total=>.inr (pJ (aAa s))
 | .ticket i=>match s.tickets[i]? with|none=>.inl 5|some k=>.inr (tkT k)
 | .used x=>match dW s.meters x with|none=>.inl 5|some v=>.inr (pJ v.2)
 | .loss x=>match dW s.pans x with|none=>.inl 5|some v=>.inr (pJ v)
 | .power x=>match dW s.farmers x with|none=>.inl 5|some _=>.inr (pJ (P s x))
 | _=>.inl 0
def qZ(P:CSt->ByteArray->Int)(s:CSt)(line:ByteArray):Int ⊕ Wd->ByteArray×CSt
 | .inl e=>(wC e,s)
 | .inr w=>if w.asks then (match aAw P s w with | .inl e=>(wC e,s) | .inr a=>(a,s)) else
   match dC s w with
   | some e=>(wC e,s)
   | none=>if s.book.length=300 then (wC 15,s) else (⟨⟨[111,107]⟩⟩,{ fL s w with book:=s.book++[line] })
def aMp(P:CSt->ByteArray->Int):Prop:=∀(h:XH)(L:CL)(s:CSt)(x:ByteArray),Lays h L s->cY s->match dW s.farmers x with
 | none=>∃ h1,CalP Tryz.prog aB 75 [.pt L.c 0,.str x] h (.ifc 48 (.agg [I 5])) h1/\Frz h.length h h1
 | some _=>(-1000000<=P s x/\P s x<=1000000)/\(Cd h->∃ h1,runW aB 75 [.pt L.c 0,.str x] h=some (I (P s x),h1)/\Frz h.length h h1)
theorem aEI{e:Int}(hc:dC s w=some e):e∈lV:=by
 cases w<;>unfold dC at hc<;>dsimp only at hc
 all_goals (repeat' split at hc)
 all_goals first|(cases hc;decide)|cases hc
theorem p99{xs:List AV}{h:XH}:runW aB 76 xs h=aDS xs h:=cM rfl rfl xs h
theorem Frz.of{hh:XH}{n:Nat}(h0:Fr [] h hh):Frz n h hh:=h0.frz
theorem aQB{n:Int}(h0:0<=n)(h1:n<=99999):(Lib.itoa n).length<=20:=by
 unfold Lib.itoa;rw[if_neg AS,Lib.decDigits_length]
 grind [Lib.nDigits_small,Lib.nDigits_big]
theorem aSV{k:zH}(hb:0<=k.net/\k.net<=99999)(hs:k.wagon.size<=10/\k.farmer.size<=10):runW aB 76 [.fs (if k.void then [[.str k.wagon],[.str k.farmer],[.str ⟨⟨Lib.itoa k.net⟩⟩],[.str AAv]] else [[.str k.wagon],[.str k.farmer],[.str ⟨⟨Lib.itoa k.net⟩⟩]]),.str ⟨⟨[32]⟩⟩] []=some (.str (tkT k),[]):=by
 have il:=aQB hb.1 hb.2;have s1:k.wagon.data.toList.length<=10:=by simp_all
 have s2:k.farmer.data.toList.length<=10:=by simp_all
 rw[p99];unfold aDS;cases hv:k.void with
 | true =>
   have e:wI [[AV.str k.wagon],[.str k.farmer],[.str ⟨⟨Lib.itoa k.net⟩⟩],[.str AAv]]=some (tkL k):=by unfold tkL;rw[hv];rfl
   simp only[AAe];rw[e];dsimp only;refine if_pos ⟨by unfold tkL;grind,?_⟩;unfold tkL;rw[hv];have:=Lib.join_length k.wagon.data.toList [k.farmer.data.toList,Lib.itoa k.net,[118,111,105,100]] [32];simp[Lib.lens]at this ⊢;omega
 | false =>
   have e:wI [[AV.str k.wagon],[.str k.farmer],[.str ⟨⟨Lib.itoa k.net⟩⟩]]=some (tkL k):=by unfold tkL;rw[hv];rfl
   simp only[C6,AAd];rw[e];dsimp only;refine if_pos ⟨by unfold tkL;grind,?_⟩;unfold tkL;rw[hv];have:=Lib.join_length k.wagon.data.toList [k.farmer.data.toList,Lib.itoa k.net] [32];simp[Lib.lens]at this ⊢;omega
theorem aTr{P:CSt->ByteArray->Int}(pok:aMp P)(ly:Lays h L s)(cd:Cd h)(gs:cY s)(hp:runW aB 26 [.str line] []=some (v,[]))(hw:IsW w v)(hno:∀ e,w.asks=false->dC s w=some e->∀ k:XH,∃ h1,CalP Tryz.prog aB 27 [.pt L.c 0,v] (h++k) (.ifc 48 (.agg [I e])) h1/\Fr [] (h++k) h1)
 (hok:w.asks=false->dC s w=none->s.book.length≠300/\∀ k:XH,zW (h++k) L s v (fL s w)):aFt h L line (qZ P s line (.inr w)).2 (qZ P s line (.inr w)).1:=by
 have hbk:=gs.book;unfold qZ;dsimp only;cases ha:w.asks with
 | false =>
   simp only[C6,AAd];cases hc:dC s w with
   | some e=>exact aPj ly (aEI hc) hp hw (hno e ha hc)
   | none =>
     obtain⟨hl,co⟩:=hok ha hc;dsimp only;rw[if_neg hl];grind [aPi]
 | true =>
   simp only[AAe];have ask:=λk:XH=>aCy ha hw h L.c k;have c61:∀ k:XH,∃ hh,runW aB 27 [.pt L.c 0,v] (h++k)=some (.nilfn,hh)/\Fr [] (h++k) hh:=λk=>by
    obtain⟨bx,q1,_⟩:=ask k
    grind [Fr.app]
   cases w with
   | net x =>
     obtain⟨z0,rfl⟩:=id hw;unfold aAw;dsimp only;cases hv:dW s.farmers x with
     | none=>exact wN ly (by decide) hp hw c61 (λhh lyh=>⟨_,aXR lyh (cQ.1 hv),(Fr.app hh _).frz⟩)
     | some y =>
       obtain⟨i,hi,hy⟩:=eT hv;have:=gs.bf _ (B3 hy);exact tV ly cd hp hw (aCy ha hw h L.c) λhh lyh _=>⟨_,aWq lyh hi hy AS,(Fr.app hh _).frz⟩
   | total =>
     obtain rfl:=id hw;unfold aAw;dsimp only;by_cases hk:s.farmers.length=0;·exact tV ly cd hp hw (aCy ha hw h L.c) λhh lyh cdh=>⟨_,aMy lyh cdh hk,(Fr.refl [] hh).frz⟩
     .exact tV ly cd hp hw (aCy ha hw h L.c) λhh lyh cdh=>⟨_,aOk lyh cdh AS gs.lf gs.nf (λp hp=>by have:=gs.bf p hp;omega),(Fr.refl [] hh).frz⟩
   | ticket i =>
     obtain⟨u1,rfl⟩:=id hw;unfold aAw;dsimp only;cases hk:s.tickets[i]? with
     | none=>exact wN ly (by decide) hp hw c61 (λhh lyh=>⟨_,aNz lyh (N7.1 hk),(Fr.app hh _).frz⟩)
     | some k =>
       obtain⟨b1,b2,b3,b4⟩:=gs.bt k (B3 hk);exact tV ly cd hp hw (aCy ha hw h L.c) λhh lyh _=>aMz lyh hk ⟨b1,b2⟩ (aSV ⟨b1,b2⟩ b4)
   | used x =>
     obtain⟨z0,rfl⟩:=id hw;unfold aAw;dsimp only;cases hv:dW s.meters x with
     | none=>exact wN ly (by decide) hp hw c61 (λhh lyh=>⟨_,aUz lyh (cQ.1 hv),(Fr.app hh _).frz⟩)
     | some y =>
       obtain⟨i,hi,hy⟩:=eT hv;have:=gs.bm _ (B3 hy);exact tV ly cd hp hw (aCy ha hw h L.c) λhh lyh _=>⟨_,aSP lyh hi hy (by grind),(Fr.app hh _).frz⟩
   | loss x =>
     obtain⟨z0,rfl⟩:=id hw;unfold aAw;dsimp only;cases hv:dW s.pans x with
     | none=>exact wN ly (by decide) hp hw c61 (λhh lyh=>⟨_,aUA lyh (cQ.1 hv),(Fr.app hh _).frz⟩)
     | some y =>
       obtain⟨i,hi,hy⟩:=eT hv;have:=gs.bp _ (B3 hy);exact tV ly cd hp hw (aCy ha hw h L.c) λhh lyh _=>⟨_,aSQ lyh hi hy AS,(Fr.app hh _).frz⟩
   | power x =>
     obtain⟨z0,rfl⟩:=id hw;unfold aAw;dsimp only;cases hv:dW s.farmers x with
     | none =>
       exact wN ly (by decide) hp hw c61 (λhh lyh=>by
        have q:=pok _ L s x (lyh.ext [aa [.str AAE,.fs [[.str x]],.fs [[I z0]]]]) gs;rw[hv]at q;obtain⟨h1,q1,q2⟩:=q;exact⟨h1,aRt q1,(Fr.app hh _).frz.trans λj c hc hn=>q2 j c hc (hn.mono (by simp))⟩)
     | some y =>
       exact tV ly cd hp hw (aCy ha hw h L.c) λhh lyh cdh=>by
        have q:=pok _ L s x (lyh.ext [aa [.str AAE,.fs [[.str x]],.fs [[I z0]]]]) gs;rw[hv]at q;obtain⟨b,q⟩:=q;obtain⟨h1,q1,q2⟩:=q (aKR cdh λx hx b hb=>by
         rw[D2]at hx;subst hx;simp[nmO,nmB]at hb)
        exact⟨h1,aOl q1 AS,(Fr.app hh _).frz.trans λj c hc hn=>q2 j c hc (hn.mono (by simp))⟩
   | _=>cases ha
theorem aTu{P:CSt->ByteArray->Int}(pok:aMp P)(ly:Lays h L s)(cd:Cd h)(gs:cY s){r:Int ⊕ Wd}(hr:Prs line r)(hcode:∀ e,r = .inl e->e∈lV):aFt h L line (qZ P s line r).2 (qZ P s line r).1:=by
 cases r with
 | inl e=>exact aPf ly (hcode e rfl) hr
 | inr w =>
   obtain⟨v,hp,hw,_⟩:=hr;by_cases hf:w.asks=false/\dC s w=none/\s.book.length=300
   .obtain⟨ha,hc,hl⟩:=hf
    have e:qZ P s line (.inr w)=(wC 15,s):=by unfold qZ;grind
    rw[e];exact aPh ly hp hw (λk=>aRo (ly.ext k) gs hw ha hc) hl
   .exact aTr pok ly cd gs hp hw (λe ha hc k=>aXQ (ly.ext k) gs hw ha hc) λha hc=>⟨λq=>hf ⟨ha,hc,q⟩,λk=>aRo (ly.ext k) gs hw ha hc⟩
end Go.Proofs.YtfcdcgplogojbaaGreatDoor
