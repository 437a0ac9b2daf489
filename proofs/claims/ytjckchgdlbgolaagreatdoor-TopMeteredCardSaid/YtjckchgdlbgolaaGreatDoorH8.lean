/- Parts of a proof, joined: Q6 Q7 Q8 Q9 Q10 Q11 Q12 Q13 Q14 Q15 Q16 Q17 Q18 Q19 Q20 Q21 Q22 Y2 Q23 U2 U3 U4 Q24 Q25 Q26 Q27 Q28. No statement of the seed is proved here. -/
import Derived.Test.YtjckchgdlbgolaaGreatDoorH7
set_option linter.unusedSimpArgs false
set_option linter.unusedVariables false
set_option linter.unusedSectionVars false
set_option maxRecDepth 100000
set_option maxHeartbeats 4000000
namespace Go.Proofs.YtjckchgdlbgolaaGreatDoor
open Go Go.DL
section
structure CL where
 c:Nat
 tb:Nat
 kb:Nat
 te:List Nat
 f:OL
 m:OL
 p:OL
 w:OL
def tkC(k:CTk):List AV:=[.str k.wagon,.str k.farmer,I k.net,.bool k.void,.bool false]
def cB(L:CL)(s:dU):List AV:=[.pt L.f.o 0,.pt L.m.o 0,.pt L.p.o 0,.pt L.w.o 0,iL L.tb s.tickets.length,I s.closed,iL L.kb s.book.length]
def nO(b n:Nat):List Nat:=if n=0 then [] else [b]
def px(L:CL)(s:dU):Nat→List Nat
 | 0=>[L.c]
 | 1=>nO L.tb s.tickets.length++L.te
 | 2=>nO L.kb s.book.length
 | 3=>idx L.f s.farmers.length
 | 4=>idx L.m s.meters.length
 | 5=>idx L.p s.pans.length
 | 6=>idx L.w s.wagons.length
 | _=>[]
structure Tk(h:XH)(tb:Nat)(te:List Nat)(ks:List CTk):Prop where
 el:te.length=ks.length
 hb:0<ks.length→aI h tb=some (.cells true (te.map fun e=>.pt e 0))
 he:∀(i e:Nat)(k:CTk),te[i]?=some e→ks[i]?=some k→aI h e=some (.cells true (tkC k))
 nd:te.Nodup
 nb:0<ks.length→tb∉te
structure Lays(h:XH)(L:CL)(s:dU):Prop where
 hc:aI h L.c=some (.cells true (cB L s))
 tk:Tk h L.tb L.te s.tickets
 bk:0<s.book.length→aI h L.kb=some (.cells true (s.book.map .str))
 f:Od h L.f (s.farmers.map (·.1)) (s.farmers.map fun p=>[I p.2]) 9
 m:Od h L.m (s.meters.map (·.1)) (s.meters.map fun p=>[I p.2.1,I p.2.2]) 5
 p:Od h L.p (s.pans.map (·.1)) (s.pans.map fun p=>[I p.2]) 5
 w:Od h L.w (s.wagons.map (·.1)) (s.wagons.map fun p=>[I p.2]) 300
 dj:∀ i j b,b∈px L s i→b∈px L s j→i=j
variable{h h':XH}{L:CL}{s:dU}
theorem bY{b n x:Nat}:x∈nO b n↔0<n∧x=b:=by
 grind [nO]
theorem aAo{P P':Nat→List Nat}(J:Nat→Prop)[DecidablePred J]{n:Nat}(dj:∀ i j b,b∈P i→b∈P j→i=j)(lt:∀ j b,b∈P j→b<n)(same:∀ j,¬J j→P' j=P j)(sub:∀ j b,J j→b∈P' j→b∈P j∨n≤b)(own:∀ i j b,J i→J j→b∈P' i→b∈P' j→n≤b→i=j):∀ i j b,b∈P' i→b∈P' j→i=j:=by
 intro i j b hi hj;by_cases ii:J i;all_goals grind
namespace Tk
variable{tb:Nat}{te:List Nat}{ks:List CTk}
theorem lts(t:Tk h tb te ks):(0<ks.length→tb<h.length)∧∀ e∈te,e<h.length:=by
 refine⟨fun hk=>aJ (t.hb hk),fun e he=>?_⟩;obtain⟨i,hi⟩:=E9 he;have h2:i<ks.length:=by rw[←t.el];grind
 exact aJ (t.he i e _ hi (A8 h2))
theorem lt(t:Tk h tb te ks){b:Nat}(hb:b∈nO tb ks.length++te):b<h.length:=by
 rw[B7,bY]at hb;rcases hb with ⟨hk,rfl⟩|hb;·exact t.lts.1 hk
 ·exact t.lts.2 b hb
theorem fr(t:Tk h tb te ks){J:List Nat}(f:Fr J h h')(hd:∀ b,b∈nO tb ks.length++te→b∉J):Tk h' tb te ks:=by
 refine⟨t.el,fun hk=>?_,fun i e k hi hk=>?_,t.nd,t.nb⟩;·rw[f.keep tb (t.lts.1 hk) (hd tb (by grind [bY]))];exact t.hb hk
 ·have he:=A5 hi
  rw[f.keep e (t.lts.2 e he) (hd e (G9 _ he))];exact t.he i e k hi hk
end Tk
namespace Lays
theorem lt(ly:Lays h L s):∀ j b,b∈px L s j→b<h.length:=by
 intro j b hb;unfold px at hb;split at hb;·rw[C6]at hb;subst hb;exact aJ ly.hc
 ·exact ly.tk.lt hb
 ·rw[bY]at hb;obtain⟨hk,rfl⟩:=hb;exact aJ (ly.bk hk)
 ·exact ly.f.lt (by grind)
 ·exact ly.m.lt (by grind)
 ·exact ly.p.lt (by grind)
 ·exact ly.w.lt (by grind)
 ·cases hb
theorem live(ly:Lays h L s):∀ j b,b∈px L s j→∃ x,aI h b=some x:=by
 have od:∀{l:OL}{ks:List ByteArray}{vs:List (List AV)}{t:Int}{b:Nat},Od h l ks vs t→b∈idx l ks.length→∃ x,aI h b=some x:=fun {l ks vs t b} od hb=>by
  rw[←pS (ks:=ks) (t:=t) (od.ek.trans od.vk.symm)]at hb;obtain⟨p,hp,rfl⟩:=G1.1 hb;exact⟨_,od.hd.1 p hp⟩
 intro j b hb;unfold px at hb;split at hb;·rw[C6]at hb;subst hb;exact⟨_,ly.hc⟩
 ·rw[B7,bY]at hb
  rcases hb with ⟨hk,rfl⟩|hb;·exact⟨_,ly.tk.hb hk⟩
  ·obtain⟨i,hi⟩:=E9 hb
   have h2:i<s.tickets.length:=by rw[←ly.tk.el];grind
   exact⟨_,ly.tk.he i b _ hi (A8 h2)⟩
 ·rw[bY]at hb;obtain⟨hk,rfl⟩:=hb;exact⟨_,ly.bk hk⟩
 ·exact od ly.f (by grind)
 ·exact od ly.m (by grind)
 ·exact od ly.p (by grind)
 ·exact od ly.w (by grind)
 ·cases hb
theorem off(ly:Lays h L s){i j:Nat}(hne:i≠j){b:Nat}(hi:b∈px L s i):b∉px L s j:=fun hj=>hne (ly.dj i j b hi hj)
theorem fr(ly:Lays h L s){J:List Nat}(f:Fr J h h')(hd:∀ j b,b∈px L s j→b∉J):Lays h' L s where
 hc:=by rw[f.keep L.c (aJ ly.hc) (hd 0 L.c (by simp[px]))];exact ly.hc
 tk:=ly.tk.fr f fun b hb=>hd 1 b hb
 bk hk:=by rw[f.keep L.kb (aJ (ly.bk hk)) (hd 2 L.kb (bY.2 ⟨hk,rfl⟩))];exact ly.bk hk
 f:=ly.f.fr f fun b hb=>hd 3 b (by rw[A9]at hb;exact hb)
 m:=ly.m.fr f fun b hb=>hd 4 b (by rw[A9]at hb;exact hb)
 p:=ly.p.fr f fun b hb=>hd 5 b (by rw[A9]at hb;exact hb)
 w:=ly.w.fr f fun b hb=>hd 6 b (by rw[A9]at hb;exact hb)
 dj:=ly.dj
theorem ext(ly:Lays h L s)(k:XH):Lays (h++k) L s:=ly.fr (Fr.app h k) fun _ _ _ hb=>by cases hb
theorem setf(ly:Lays h L s){l':OL}{xs:List (ByteArray×Int)}(od:Od h' l' (xs.map (·.1)) (xs.map fun p=>[I p.2]) 9)(fr:Fr (idx L.f s.farmers.length) h h')(sub:∀ b,b∈idx l' xs.length→b∈idx L.f s.farmers.length∨h.length≤b)(ho:l'.o=L.f.o):Lays h' { L with f:=l' } { s with farmers:=xs } where
 hc:=by rw[fr.keep L.c (aJ ly.hc) (ly.off (i:=0) (j:=3) (by decide) (by simp[px]))];rw[ly.hc];unfold cB;grind
 tk:=ly.tk.fr fr fun b hb=>ly.off (i:=1) (j:=3) (by decide) hb
 bk hk:=by rw[fr.keep L.kb (aJ (ly.bk hk)) (ly.off (i:=2) (j:=3) (by decide) (bY.2 ⟨hk,rfl⟩))];exact ly.bk hk
 f:=od
 m:=ly.m.fr fr fun b hb=>by rw[A9]at hb;exact ly.off (i:=4) (j:=3) (by decide) hb
 p:=ly.p.fr fr fun b hb=>by rw[A9]at hb;exact ly.off (i:=5) (j:=3) (by decide) hb
 w:=ly.w.fr fr fun b hb=>by rw[A9]at hb;exact ly.off (i:=6) (j:=3) (by decide) hb
 dj:=aAo (· = 3) ly.dj ly.lt (fun j hj=>by
  unfold px
  grind) (fun j b hj hb=>by subst hj;exact sub b hb) (fun i j b hi hj _ _ _=>hi.trans hj.symm)
theorem setm(ly:Lays h L s){l':OL}{xs:List (ByteArray×Int×Int)}(od:Od h' l' (xs.map (·.1)) (xs.map fun p=>[I p.2.1,I p.2.2]) 5)(fr:Fr (idx L.m s.meters.length) h h')(sub:∀ b,b∈idx l' xs.length→b∈idx L.m s.meters.length∨h.length≤b)(ho:l'.o=L.m.o):Lays h' { L with m:=l' } { s with meters:=xs } where
 hc:=by rw[fr.keep L.c (aJ ly.hc) (ly.off (i:=0) (j:=4) (by decide) (by simp[px]))];rw[ly.hc];unfold cB;grind
 tk:=ly.tk.fr fr fun b hb=>ly.off (i:=1) (j:=4) (by decide) hb
 bk hk:=by rw[fr.keep L.kb (aJ (ly.bk hk)) (ly.off (i:=2) (j:=4) (by decide) (bY.2 ⟨hk,rfl⟩))];exact ly.bk hk
 f:=ly.f.fr fr fun b hb=>by rw[A9]at hb;exact ly.off (i:=3) (j:=4) (by decide) hb
 m:=od
 p:=ly.p.fr fr fun b hb=>by rw[A9]at hb;exact ly.off (i:=5) (j:=4) (by decide) hb
 w:=ly.w.fr fr fun b hb=>by rw[A9]at hb;exact ly.off (i:=6) (j:=4) (by decide) hb
 dj:=aAo (· = 4) ly.dj ly.lt (fun j hj=>by
  unfold px
  grind) (fun j b hj hb=>by subst hj;exact sub b hb) (fun i j b hi hj _ _ _=>hi.trans hj.symm)
theorem setp(ly:Lays h L s){l':OL}{xs:List (ByteArray×Int)}(od:Od h' l' (xs.map (·.1)) (xs.map fun p=>[I p.2]) 5)(fr:Fr (idx L.p s.pans.length) h h')(sub:∀ b,b∈idx l' xs.length→b∈idx L.p s.pans.length∨h.length≤b)(ho:l'.o=L.p.o):Lays h' { L with p:=l' } { s with pans:=xs } where
 hc:=by rw[fr.keep L.c (aJ ly.hc) (ly.off (i:=0) (j:=5) (by decide) (by simp[px]))];rw[ly.hc];unfold cB;grind
 tk:=ly.tk.fr fr fun b hb=>ly.off (i:=1) (j:=5) (by decide) hb
 bk hk:=by rw[fr.keep L.kb (aJ (ly.bk hk)) (ly.off (i:=2) (j:=5) (by decide) (bY.2 ⟨hk,rfl⟩))];exact ly.bk hk
 f:=ly.f.fr fr fun b hb=>by rw[A9]at hb;exact ly.off (i:=3) (j:=5) (by decide) hb
 m:=ly.m.fr fr fun b hb=>by rw[A9]at hb;exact ly.off (i:=4) (j:=5) (by decide) hb
 p:=od
 w:=ly.w.fr fr fun b hb=>by rw[A9]at hb;exact ly.off (i:=6) (j:=5) (by decide) hb
 dj:=aAo (· = 5) ly.dj ly.lt (fun j hj=>by
  unfold px
  grind) (fun j b hj hb=>by subst hj;exact sub b hb) (fun i j b hi hj _ _ _=>hi.trans hj.symm)
theorem setw(ly:Lays h L s){l':OL}{xs:List (ByteArray×Int)}(od:Od h' l' (xs.map (·.1)) (xs.map fun p=>[I p.2]) 300)(fr:Fr (idx L.w s.wagons.length) h h')(sub:∀ b,b∈idx l' xs.length→b∈idx L.w s.wagons.length∨h.length≤b)(ho:l'.o=L.w.o):Lays h' { L with w:=l' } { s with wagons:=xs } where
 hc:=by rw[fr.keep L.c (aJ ly.hc) (ly.off (i:=0) (j:=6) (by decide) (by simp[px]))];rw[ly.hc];unfold cB;grind
 tk:=ly.tk.fr fr fun b hb=>ly.off (i:=1) (j:=6) (by decide) hb
 bk hk:=by rw[fr.keep L.kb (aJ (ly.bk hk)) (ly.off (i:=2) (j:=6) (by decide) (bY.2 ⟨hk,rfl⟩))];exact ly.bk hk
 f:=ly.f.fr fr fun b hb=>by rw[A9]at hb;exact ly.off (i:=3) (j:=6) (by decide) hb
 m:=ly.m.fr fr fun b hb=>by rw[A9]at hb;exact ly.off (i:=4) (j:=6) (by decide) hb
 p:=ly.p.fr fr fun b hb=>by rw[A9]at hb;exact ly.off (i:=5) (j:=6) (by decide) hb
 w:=od
 dj:=aAo (· = 6) ly.dj ly.lt (fun j hj=>by
  unfold px
  grind) (fun j b hj hb=>by subst hj;exact sub b hb) (fun i j b hi hj _ _ _=>hi.trans hj.symm)
end Lays
end
section
variable{h h' h1:XH}{L:CL}{s:dU}
theorem Fr.set{J:List Nat}(f:Fr J h h1){b:Nat}(hb:b∈J)(x:Option XB):Fr J h (h1.set b x):=⟨fun j hj hn=>by
 have hne:j≠b:=fun q=>hn (q▸hb);have:aI (h1.set b x) j=aI h1 j:=by simp only[aI,PK,if_neg hne]
 rw[this];exact f.keep j hj hn,by rw[D6];exact f.len⟩
theorem Fr.add{J:List Nat}(f:Fr J h h1)(k:XH):Fr J h (h1++k):=f.trans ((Fr.app h1 k).mono fun _ hb=>by cases hb)
namespace Lays
theorem setC(ly:Lays h L s){tb' kb' cl:Nat}{te':List Nat}{ks:List CTk}{bk:List ByteArray}(hc':aI h' L.c=some (.cells true [.pt L.f.o 0,.pt L.m.o 0,.pt L.p.o 0,.pt L.w.o 0,iL tb' ks.length,I cl,iL kb' bk.length]))(tk':Tk h' tb' te' ks)(bk':0<bk.length→aI h' kb'=some (.cells true (bk.map .str)))
 (fr:Fr (L.c::((nO L.tb s.tickets.length++L.te)++nO L.kb s.book.length)) h h') (s1:∀ b,b∈nO tb' ks.length++te'→b∈nO L.tb s.tickets.length++L.te∨h.length≤b) (s2:∀ b,b∈nO kb' bk.length→b∈nO L.kb s.book.length∨h.length≤b) (s12:∀ b,b∈nO tb' ks.length++te'→b∈nO kb' bk.length→b<h.length) :
 Lays h' { L with tb:=tb',te:=te',kb:=kb' } { s with tickets:=ks,closed:=cl,book:=bk }:=by
 have aBa:∀ j b,3≤j→b∈px L s j→b∉L.c::((nO L.tb s.tickets.length++L.te)++nO L.kb s.book.length):=fun j b hj hb hm=>by
  rw[B5,B7]at hm;rcases hm with rfl|hm|hm;·exact ly.off (i:=j) (j:=0) AM hb (by simp[px])
  ·exact ly.off (i:=j) (j:=1) AM hb hm
  ·exact ly.off (i:=j) (j:=2) AM hb hm
 refine⟨hc',tk',bk',ly.f.fr fr fun b hb=>aBa 3 b (by decide) (by rw[A9]at hb;exact hb),ly.m.fr fr fun b hb=>aBa 4 b (by decide) (by rw[A9]at hb;exact hb),ly.p.fr fr fun b hb=>aBa 5 b (by decide) (by rw[A9]at hb;exact hb),ly.w.fr fr fun b hb=>aBa 6 b (by decide) (by rw[A9]at hb;exact hb),?_⟩;refine aAo (· < 3) ly.dj ly.lt (fun j hj=>?_) (fun j b hj hb=>?_) (fun i j b hi hj h1 h2 hn=>?_)
 ·unfold px
  grind
 ·match j,hj with
  | 0,_=>exact .inl hb
  | 1,_=>exact s1 b hb
  | 2,_=>exact s2 b hb
 ·have c0:∀ b,b∈px { L with tb:=tb',te:=te',kb:=kb' } { s with tickets:=ks,closed:=cl,book:=bk } 0→b<h.length:=fun b hb=>by
   have hb:b=L.c:=by simpa [px]using hb
   subst hb;exact aJ ly.hc
  match i,hi,j,hj with
  | 0,_,0,_=>rfl
  | 1,_,1,_=>rfl
  | 2,_,2,_=>rfl
  | 0,_,1,_=>grind
  | 0,_,2,_=>grind
  | 1,_,0,_=>grind
  | 2,_,0,_=>grind
  | 1,_,2,_=>have:=s12 b h1 h2;omega
  | 2,_,1,_=>have:=s12 b h2 h1;omega
theorem cNe(ly:Lays h L s):(∀ b∈nO L.tb s.tickets.length++L.te,b≠L.c)∧(∀ b∈nO L.kb s.book.length,b≠L.c)∧∀ b,b∈nO L.tb s.tickets.length++L.te→b∉nO L.kb s.book.length :=
 ⟨fun b hb q=>ly.off (i:=1) (j:=0) (by decide) hb (by simp[px,q]),fun b hb q=>ly.off (i:=2) (j:=0) (by decide) hb (by simp[px,q]),fun b hb=>ly.off (i:=1) (j:=2) (by decide) hb⟩
theorem bookApp(ly:Lays h L s){kb':Nat}{line:ByteArray}(hn:h.length≤kb')(hc':aI h' L.c=some (.cells true (cB { L with kb:=kb' } { s with book:=s.book++[line] })))(hb':aI h' kb'=some (.cells true (s.book.map .str++[.str line])))(fr:Fr (L.c::nO L.kb s.book.length) h h') :
 Lays h' { L with kb:=kb' } { s with book:=s.book++[line] }:=by
 have fr2:Fr (L.c::((nO L.tb s.tickets.length++L.te)++nO L.kb s.book.length)) h h':=fr.mono fun b hb=>by
  grind
 refine ly.setC (tb':=L.tb) (te':=L.te) (ks:=s.tickets) (cl:=s.closed) hc' (ly.tk.fr fr fun b hb hm=>?_) (fun _=>by grind) fr2 (fun b hb=>.inl hb) (fun b hb=>.inr ?_) (fun b hb hb2=>ly.tk.lt hb)
 ·rw[B5]at hm
  rcases hm with hm|hm;·exact ly.cNe.1 b hb hm
  ·exact ly.cNe.2.2 b hb hm
 grind [bY]
theorem tickApp(ly:Lays h L s){tb' e:Nat}{k:CTk}(he:h.length≤e)(hn:h.length≤tb')(hne:tb'≠e)(hc':aI h' L.c=some (.cells true (cB { L with tb:=tb' } { s with tickets:=s.tickets++[k] })))(hb':aI h' tb'=some (.cells true (L.te.map (fun e=>.pt e 0)++[.pt e 0])))(hk':aI h' e=some (.cells true (tkC k)))(fr:Fr (L.c::nO L.tb s.tickets.length) h h') :
 Lays h' { L with tb:=tb',te:=L.te++[e] } { s with tickets:=s.tickets++[k] }:=by
 have fr2:Fr (L.c::((nO L.tb s.tickets.length++L.te)++nO L.kb s.book.length)) h h':=fr.mono fun b hb=>by
  grind
 have tl:=ly.tk.lts.2;have tkeep:∀ b∈L.te,aI h' b=aI h b:=fun b hb=>fr.keep b (tl b hb) fun hm=>by
  rw[B5,bY]at hm;rcases hm with hm|⟨hk,hm⟩;·exact ly.cNe.1 b (G9 _ hb) hm
  ·exact ly.tk.nb hk (hm▸hb)
 refine ly.setC (kb':=L.kb) (cl:=s.closed) (bk:=s.book) hc' ⟨by simp[ly.tk.el],fun _=>by grind,fun i e' k' hi hk=>?_,?_,fun _ hm=>?_⟩ (fun hk=>?_) fr2 (fun b hb=>?_) (fun b hb=>.inl hb) (fun b hb hb2=>?_)
 ·by_cases hl:i<L.te.length
  ·rw[I5 hl]at hi
   rw[I5 (by rw[←ly.tk.el];exact hl)]at hk;rw[tkeep e' (A5 hi)];exact ly.tk.he i e' k' hi hk
  ·rw[G5 AM]at hi
   rw[G5 (by rw[←ly.tk.el];omega),←ly.tk.el]at hk
   grind
 ·rw[aF8]
  refine⟨ly.tk.nd,by simp,fun a ha b hb=>?_⟩
  grind
 ·grind
 ·have hl:=aJ (ly.bk hk)
  rw[fr.keep L.kb hl fun hm=>?_];·exact ly.bk hk
  ·rw[B5]at hm
   rcases hm with hm|hm;·exact ly.cNe.2.1 _ (bY.2 ⟨hk,rfl⟩) hm
   ·exact ly.cNe.2.2 _ (F7 _ hm) (bY.2 ⟨hk,rfl⟩)
 ·grind [bY]
 ·rw[bY]at hb2
  obtain⟨hk,rfl⟩:=hb2;exact aJ (ly.bk hk)
theorem close(ly:Lays h L s){cl:Nat}(hc':aI h' L.c=some (.cells true (cB L { s with closed:=cl })))(fr:Fr [L.c] h h'):Lays h' L { s with closed:=cl }:=by
 have fr2:Fr (L.c::((nO L.tb s.tickets.length++L.te)++nO L.kb s.book.length)) h h':=fr.mono fun b hb=>by
  grind
 refine ly.setC (tb':=L.tb) (te':=L.te) (kb':=L.kb) (ks:=s.tickets) (bk:=s.book) hc' (ly.tk.fr fr fun b hb hm=>?_) (fun hk=>?_) fr2 (fun b hb=>.inl hb) (fun b hb=>.inl hb) (fun b hb hb2=>ly.tk.lt hb);·rw[C6]at hm;exact ly.cNe.1 b hb hm
 ·rw[fr.keep L.kb (aJ (ly.bk hk)) fun hm=>ly.cNe.2.1 _ (bY.2 ⟨hk,rfl⟩) (by grind)];exact ly.bk hk
theorem tickSet(ly:Lays h L s){i e:Nat}{k:CTk}{g:Bool}(he:L.te[i]?=some e):Lays (h.set e (some (.blk g (.cells true (tkC k))))) L { s with tickets:=s.tickets.set i k }:=by
 have hm:=A5 he;have el:=ly.tk.lts.2 e hm;have fr0:Fr [e] h (h.set e (some (.blk g (.cells true (tkC k))))):=(Fr.refl [e] h).set (by simp) _;have fr2:Fr (L.c::((nO L.tb s.tickets.length++L.te)++nO L.kb s.book.length)) h (h.set e (some (.blk g (.cells true (tkC k))))):=fr0.mono fun b hb=>by
  grind
 have hne:∀ b,b≠e→aI (h.set e (some (.blk g (.cells true (tkC k))))) b=aI h b:=fun b hb=>by rw[cO,if_neg hb]
 have hll:(s.tickets.set i k).length=s.tickets.length:=D6;refine ly.setC (tb':=L.tb) (te':=L.te) (kb':=L.kb) (ks:=s.tickets.set i k) (cl:=s.closed) (bk:=s.book) ?_ ⟨by rw[hll];exact ly.tk.el,fun hk=>?_,fun j e' k' hj hk=>?_,ly.tk.nd,fun hk=>ly.tk.nb AM⟩ (fun hk=>?_) fr2 (fun b hb=>.inl (by grind)) (fun b hb=>.inl hb) (fun b hb hb2=>ly.tk.lt (by grind));·rw[hne L.c (Ne.symm (ly.cNe.1 e (G9 _ hm))),hll];exact ly.hc
 ·rw[hll]at hk
  rw[hne L.tb fun q=>ly.tk.nb hk (q▸hm)];exact ly.tk.hb hk
 ·by_cases hij:j=i
  ·subst hij
   rw[he]at hj;cases hj;have hl:j<s.tickets.length:=by grind
   rw[aC4 hl]at hk;cases hk;rw[cO,if_pos rfl,if_pos el]
  ·rw[aA6 (fun q=>hij q.symm)]at hk
   rw[hne e' fun q=>hij ((aF7 (D0.1 hj).1 ly.tk.nd).1 (hj.trans (q▸he.symm)))];exact ly.tk.he j e' k' hj hk
 ·rw[hne L.kb fun q=>ly.cNe.2.2 e (G9 _ hm) (bY.2 ⟨hk,q.symm⟩)];exact ly.bk hk
end Lays
end
section
variable{h h' h1:XH}{L:CL}{s:dU}{x:ByteArray}
def iY:List (ByteArray×Int)→ByteArray→Int→List (ByteArray×Int)
 | [],x,d=>[(x,d)]
 | (k,v)::r,x,d=>if k=x then (k,v+d)::r else (k,v)::iY r x d
theorem iG{d v:Int}:∀{l:List (ByteArray×Int)}{i:Nat},dV (l.map (·.1)) x=some i→(l.map (·.2))[i]?=some v→iY l x d=l.set i (x,v+d)
 | [],i,h,_=>by cases h
 | (k,w)::r,i,h,hv=>by
   have h2:(if k=x then some 0 else (dV (r.map (·.1)) x).map (· + 1))=some i:=h;unfold iY;by_cases e:k=x;·grind
   ·rw[if_neg e]at h2 ⊢
    rw[A3]at h2;obtain⟨j,hj,rfl⟩:=h2;rw[iG (l:=r) hj (by simpa using hv)];rfl
theorem aFH{d:Int}:∀{l:List (ByteArray×Int)},dV (l.map (·.1)) x=none→iY l x d=l++[(x,d)]
 | [],_=>rfl
 | (k,w)::r,h=>by
   have h2:(if k=x then some 0 else (dV (r.map (·.1)) x).map (· + 1))=none:=h;unfold iY;by_cases e:k=x;·grind
   ·rw[if_neg e]at h2 ⊢
    rw[aA0]at h2;rw[aFH h2];rfl
theorem mU{α β:Type}{f:α→β}{l:List α}{i:Nat}{a:α}{b:β}(h:(l.map f)[i]?=some b)(hf:f a=b):(l.set i a).map f=l.map f:=by
 grind [List.map_set,List.set_getElem_self]
def wJ(L:CL)(s:dU):List Nat:=px L s 0++(px L s 1++(px L s 2++(px L s 3++(px L s 4++(px L s 5++px L s 6)))))
theorem bF{b:Nat}:b∈wJ L s↔∃ j,b∈px L s j:=by
 unfold wJ;simp only[B7];constructor;·grind
 ·rintro ⟨j,h⟩
  match j with
  | 0=>exact .inl h
  | 1=>grind
  | 2=>grind
  | 3=>grind
  | 4=>grind
  | 5=>grind
  | 6=>grind
  | _+7=>cases h
theorem aAh{l:OL}{n b:Nat}:b∈idx l n↔b=l.o∨b=l.m∨(0<n∧b=l.b)∨b∈l.es:=by
 unfold idx
 grind
theorem oM{l:OL}{n k:Nat}{b:Nat}(hb:b∈idx ⟨l.o,l.m,k+1,l.es++[k+2]⟩ n){m:Nat}:b∈idx l m∨k≤b:=by
 grind [aAh]
def Sb(N:Nat)(L:CL)(s:dU)(L':CL)(s':dU):Prop:=∀ b,b∈wJ L' s'→b∈wJ L s∨N≤b
theorem Sb.of{N:Nat}{L L':CL}{s s':dU}(h0:L'.c=L.c)(h1:∀ b,b∈nO L'.tb s'.tickets.length++L'.te→b∈nO L.tb s.tickets.length++L.te∨N≤b)(h2:∀ b,b∈nO L'.kb s'.book.length→b∈nO L.kb s.book.length∨N≤b)
 (h3:∀ b,b∈idx L'.f s'.farmers.length→b∈idx L.f s.farmers.length∨N≤b) (h4:∀ b,b∈idx L'.m s'.meters.length→b∈idx L.m s.meters.length∨N≤b) (h5:∀ b,b∈idx L'.p s'.pans.length→b∈idx L.p s.pans.length∨N≤b) (h6:∀ b,b∈idx L'.w s'.wagons.length→b∈idx L.w s.wagons.length∨N≤b):Sb N L s L' s':=fun b hb=>by
 obtain⟨j,hj⟩:=bF.1 hb;match j,hj with
 | 0,hj=>exact .inl (bF.2 ⟨0,by simpa [px,h0]using hj⟩)
 | 1,hj=>exact(h1 b hj).imp (fun q=>bF.2 ⟨1,q⟩) id
 | 2,hj=>exact(h2 b hj).imp (fun q=>bF.2 ⟨2,q⟩) id
 | 3,hj=>exact(h3 b hj).imp (fun q=>bF.2 ⟨3,q⟩) id
 | 4,hj=>exact(h4 b hj).imp (fun q=>bF.2 ⟨4,q⟩) id
 | 5,hj=>exact(h5 b hj).imp (fun q=>bF.2 ⟨5,q⟩) id
 | 6,hj=>exact(h6 b hj).imp (fun q=>bF.2 ⟨6,q⟩) id
 | _+7,hj=>cases hj
theorem cV{l:OL}{n n' N:Nat}(h:n'=n):∀ b,b∈idx l n'→b∈idx l n∨N≤b:=by grind
theorem aCn{t n n' N:Nat}{te:List Nat}(h:n'=n):∀ b,b∈nO t n'++te→b∈nO t n++te∨N≤b:=by grind
theorem tL{t n n' N:Nat}(h:n'=n):∀ b,b∈nO t n'→b∈nO t n∨N≤b:=by grind
theorem Fr.keepS{J:List Nat}(f:Fr J h h1){b:Nat}{c:ABlk}(hb:aI h b=some c)(hn:b∉J):aI h1 b=some c:=by
 rw[f.keep b (aJ hb) hn];exact hb
def yI(c:Nat)(x:ByteArray)(a b:Int):XH:=[some (.blk false (.cells true [.pt c 0])),some (.blk true (.cells true [.str x])),some (.blk true (.cells true [I a])),some (.blk true (.cells true [I b]))]
theorem w94(ly:Lays h L s){a b:Int}(hab:b≤a)(hf:(decide (dV (s.pans.map (·.1)) x=none)&&decide (((s.pans.map (·.1)).length:Int)=5))=false) :
 runW aB 62 [.pt L.c 0,.str x,I a,I b] h=some (.fn (.func 103) [] [.pt h.length 0,.pt (h.length+1) 0,.pt (h.length+2) 0,.pt (h.length+3) 0],h++yI L.c x a b):=by
 obtain⟨n,hn⟩:∃ n,h.length=n:=⟨_,rfl⟩;obtain⟨g,hc⟩:=aC ly.hc;unfold cB at hc;have cn:(L.c<n)=True:=AAk (by rw[←hn];exact aJ ly.hc);have f1:=(ly.p.fr (Fr.app h (yI L.c x a b)) (fun _ _ hb=>by cases hb)).fullp (x:=x) (by decide);rw[hf]at f1;have m1:=wH 10;have m2:=wH 15;have t1:(b≤a)=True:=AAk hab;rw[qY 62 x62 rfl,hn];unfold x62;dsimp only;unfold yI at f1 ⊢;(exact RS7 hc hn cn f1 m1 m2 t1)
theorem bIp(ly:Lays h L s){a b:Int}(hab:¬b≤a):CalP Tryz.prog aB 62 [.pt L.c 0,.str x,I a,I b] h (.ifc 84 (.agg [I 10])) (h++yI L.c x a b):=by
 refine CalP.of (d:=x62) (e':=aZ [] []) aA rfl (by simp[x62]) rfl ?_;unfold x62;dsimp only;obtain⟨n,hn⟩:∃ n,h.length=n:=⟨_,rfl⟩;have t1:(b≤a)=False:=AAl hab;refine PanX.seqR (K:=62) aA rfl [4,5,6,7] (vs:=[.pt n 0,.pt (n+1) 0,.pt (n+2) 0,.pt (n+3) 0]) (h1:=h++yI L.c x a b) (by rw[hn];unfold yI; (exact dG hn)) ?_;refine PanX.seqL ?_;exact PanX.reg (p:=[⟨0,some 9,.load false 1 (.t 7),none⟩,⟨0,some 10,.load false 1 (.t 6),none⟩,⟨0,some 11,.bin .leq (.t 9) (.t 10),none⟩]) (post:=[]) aA [] (g:=24) (first:=[]) (cap:=[]) (args:=[.bool false,I 10]) (vs:=[]) rfl rfl (by unfold yI; (exact RS2 hn t1)) (c58 10 _)
theorem bIo(ly:Lays h L s){a b:Int}(hab:b≤a)(hf:(decide (dV (s.pans.map (·.1)) x=none)&&decide (((s.pans.map (·.1)).length:Int)=5))=true):CalP Tryz.prog aB 62 [.pt L.c 0,.str x,I a,I b] h (.ifc 84 (.agg [I 15])) (h++yI L.c x a b):=by
 refine CalP.of (d:=x62) (e':=aZ [] []) aA rfl (by simp[x62]) rfl ?_;unfold x62;dsimp only;obtain⟨n,hn⟩:∃ n,h.length=n:=⟨_,rfl⟩;obtain⟨g,hc⟩:=aC ly.hc;unfold cB at hc;have cn:(L.c<n)=True:=AAk (by rw[←hn];exact aJ ly.hc);have f1:=(ly.p.fr (Fr.app h (yI L.c x a b)) (fun _ _ hb=>by cases hb)).fullp (x:=x) (by decide);rw[hf]at f1;have m1:=wH 10;have t1:(b≤a)=True:=AAk hab;refine PanX.seqR (K:=62) aA rfl [4,5,6,7] (vs:=[.pt n 0,.pt (n+1) 0,.pt (n+2) 0,.pt (n+3) 0]) (h1:=h++yI L.c x a b) (by rw[hn];unfold yI; (exact dG hn)) ?_;refine PanX.seqR (K:=62) aA rfl [4,5,6,7] (vs:=[.pt n 0,.pt (n+1) 0,.pt (n+2) 0,.pt (n+3) 0]) (h1:=h++yI L.c x a b) (by unfold yI; (exact RS3 hn t1 m1)) ?_;refine PanX.seqL ?_;exact PanX.regU (fr:=[]) (p:=[⟨0,some 13,.load false 1 (.t 4),none⟩,⟨1,some 14,.nilck (.t 13),none⟩,⟨2,some 15,.fld 2 (.t 14),none⟩,⟨3,some 16,.load false 1 (.t 15),none⟩,⟨4,some 17,.load false 1 (.t 5),none⟩,⟨5,some 18,.callf false (.c (.fn (.func 102) [] [])) [(.t 16),(.t 17)] [],none⟩,⟨6,some 19,.not (.t 18),none⟩]) (post:=[]) aA [] (g:=24) (first:=[]) (cap:=[]) (args:=[.bool false,I 15]) (vs:=[]) rfl rfl rfl (by unfold yI at f1 ⊢; (exact RS4 hc hn cn f1)) (c58 15 _)
def Out(L:CL)(s:dU)(bs:List Nat):Prop:=∀ b∈bs,b∉wJ L s
theorem Lays.px_out(ly:Lays h L s){bs:List Nat}(o:Out L s bs){j b:Nat}(hb:b∈bs):b∉px L s j:=fun hm=>o b hb (bF.2 ⟨j,hm⟩)
theorem Fr.px{j:Nat}(f:Fr (px L s j) h h'):Fr (wJ L s) h h':=f.mono fun b hb=>bF.2 ⟨j,hb⟩
theorem Lays.oldP(ly:Lays h L s){i e:Nat}{v d:Int}{g:Bool}(hx:dV (s.pans.map (·.1)) x=some i)(hv:(s.pans.map (·.2))[i]?=some v)(he:L.p.es[i]?=some e):Lays (h.set e (some (.blk g (.cells true [I (v+d)])))) L { s with pans:=iY s.pans x d }:=by
 obtain⟨u1,u2⟩:=ly.p.upd (v:=[I (v+d)]) (g:=g) he;have hm:e∈idx L.p s.pans.length:=aAh.2 (.inr (.inr (.inr (A5 he))));have ha:=iG (d:=d) hx hv;have hk:(s.pans.set i (x,v+d)).map (·.1)=s.pans.map (·.1):=mU (hO hx) rfl;rw[ha];refine ly.setp (l':=L.p) (xs:=s.pans.set i (x,v+d)) ?_ (u2.mono fun b hb=>by grind) (fun b hb=>.inl (by grind)) rfl
 simp_all
theorem Fr.setNew{J:List Nat}(f:Fr J h h1){b:Nat}(hb:h.length≤b)(y:Option XB):Fr J h (h1.set b y):=⟨fun j hj hn=>by
 have hne:j≠b:=AM
 have:aI (h1.set b y) j=aI h1 j:=by simp only[aI,PK,if_neg hne]
 rw[this];exact f.keep j hj hn,by rw[D6];exact f.len⟩
theorem Lays.newP(ly:Lays h L s){d:Int}{g:Bool}(hx:dV (s.pans.map (·.1)) x=none)(od:Od h1 ⟨L.p.o,L.p.m,h.length+1,L.p.es++[h.length+2]⟩ (s.pans.map (·.1)++[x]) (s.pans.map (fun p=>[I p.2])++[[I 0]]) 5)(fr:Fr (idx L.p s.pans.length) h h1) :
 Lays (h1.set (h.length+2) (some (.blk g (.cells true [I d])))) { L with p:=⟨L.p.o,L.p.m,h.length+1,L.p.es++[h.length+2]⟩ } { s with pans:=iY s.pans x d }∧Fr (idx L.p s.pans.length) h (h1.set (h.length+2) (some (.blk g (.cells true [I d])))):=by
 have fr2:Fr (idx L.p s.pans.length) h (h1.set (h.length+2) (some (.blk g (.cells true [I d])))):=fr.setNew AM _;refine⟨?_,fr2⟩;have hl:L.p.es.length=s.pans.length:=by rw[ly.p.ek,A9]
 have he:(L.p.es++[h.length+2])[s.pans.length]?=some (h.length+2):=by
  grind
 obtain⟨u1,u2⟩:=od.upd (v:=[I d]) (g:=g) he;rw[aFH (d:=d) hx];refine ly.setp (l':=⟨L.p.o,L.p.m,h.length+1,L.p.es++[h.length+2]⟩) (xs:=s.pans++[(x,d)]) ?_ fr2 (fun b hb=>?_) rfl;all_goals grind [aAh]
theorem bEo(ly:Lays h L s){b0 b1 b2 b3:Nat}{a b:Int}(o:Out L s [b0,b1,b2,b3])(k0:aI h b0=some (.cells true [.pt L.c 0]))(k1:aI h b1=some (.cells true [.str x]))(k2:aI h b2=some (.cells true [I a]))(k3:aI h b3=some (.cells true [I b]))(hab:0≤b∧b≤a∧a≤99999)(sm:∀ p∈s.pans,0≤p.2∧p.2≤1000000000)(hl:s.pans.length≤1000) :
 ∃ h' L',runW aB 103 [.pt b0 0,.pt b1 0,.pt b2 0,.pt b3 0] h=some (.tup [],h')∧Lays h' L' { s with pans:=iY s.pans x (a-b) }∧L'.c=L.c∧Fr (wJ L s) h h'∧Sb h.length L s L' { s with pans:=iY s.pans x (a-b) }:=by
 obtain⟨g0,j0⟩:=aC k0;obtain⟨g1,j1⟩:=aC k1;obtain⟨g4,hc⟩:=aC ly.hc;unfold cB at hc;have a1:IntKind.i64.wrap (a-b)=a-b:=aE AM AM;cases hx:dV (s.pans.map (·.1)) x with
 | some i =>
   obtain⟨e,v,he,hv,hev,call⟩:=ly.p.oldp hx;have hv2:∃ v0,(s.pans.map (·.2))[i]?=some v0∧v=[I v0]:=by
    grind
   obtain⟨v0,hv0,rfl⟩:=hv2;have hb:0≤v0∧v0≤1000000000:=by
    grind
   obtain⟨g5,he5⟩:=aC hev;obtain⟨g2,j2⟩:=aC k2;obtain⟨g3,j3⟩:=aC k3;have a2:IntKind.i64.wrap (v0+(a-b))=v0+(a-b):=aE AM AM;refine⟨_,L,?_,ly.oldP (g:=g5) (d:=a-b) hx hv0 he,rfl,Fr.px (j:=5) ((Fr.refl _ h).set (aAh.2 (.inr (.inr (.inr (A5 he))))) _),.of rfl (aCn rfl) (tL rfl) (cV rfl) (cV rfl) (cV (by rw[iG hx hv0,D6])) (cV rfl)⟩;rw[qY 103 aLz rfl];unfold aLz;dsimp only;(exact RS9 j0 j1 j2 j3 hc call he5 a1 a2)
 | none =>
   obtain⟨h1,call,hl1,od1,fr1⟩:=ly.p.newp hx (by grind);rw[A9]at fr1;obtain⟨g2,j2⟩:=aC (fr1.keepS k2 (ly.px_out (j:=5) o (by simp)));obtain⟨g3,j3⟩:=aC (fr1.keepS k3 (ly.px_out (j:=5) o (by simp)));obtain⟨g6,i0⟩:=aC (fr1.keepS k0 (ly.px_out (j:=5) o (by simp)));obtain⟨g7,i1⟩:=aC (fr1.keepS k1 (ly.px_out (j:=5) o (by simp)));obtain⟨g8,ic⟩:=aC (fr1.keepS ly.hc (ly.off (i:=0) (j:=5) (by decide) (by simp[px])));have hll:L.p.es.length=s.pans.length:=by rw[ly.p.ek,A9]
   have he1:(L.p.es++[h.length+2])[s.pans.length]?=some (h.length+2):=by
    grind
   obtain⟨g5,he5⟩:=aC (od1.he (i:=s.pans.length) (v:=[I 0]) he1 (by grind));have a2:IntKind.i64.wrap (0+(a-b))=a-b:=by grind
   obtain⟨z1,z2⟩:=ly.newP (d:=a-b) (g:=g5) hx od1 fr1;refine⟨_,_,?_,z1,rfl,Fr.px (j:=5) z2,.of rfl (aCn rfl) (tL rfl) (cV rfl) (cV rfl) (fun b hb=>oM hb) (cV rfl)⟩;rw[qY 103 aLz rfl];unfold aLz;dsimp only;(exact oI j0 j1 j2 j3 i0 i1 ic hc call he5 a1 a2 aG)
theorem aAi{l:OL}{n i e:Nat}(he:l.es[i]?=some e):e∈idx l n:=aAh.2 (.inr (.inr (.inr (A5 he))))
theorem uI{α:Type}{l:List (ByteArray×α)}{i:Nat}(h:dV (l.map (·.1)) x=some i):∃ y,l[i]?=some (x,y):=by
 have h1:=hO h
 grind
theorem Lays.oldF(ly:Lays h L s){i e:Nat}{y:Int}{g:Bool}(hx:dV (s.farmers.map (·.1)) x=some i)(he:L.f.es[i]?=some e):Lays (h.set e (some (.blk g (.cells true [I y])))) L { s with farmers:=s.farmers.set i (x,y) }:=by
 obtain⟨u1,u2⟩:=ly.f.upd (v:=[I y]) (g:=g) he;have hk:(s.farmers.set i (x,y)).map (·.1)=s.farmers.map (·.1):=mU (hO hx) rfl;refine ly.setf (l':=L.f) (xs:=s.farmers.set i (x,y)) ?_ (u2.mono fun b hb=>by grind [aAi]) (fun b hb=>.inl (by grind)) rfl
 simp_all
theorem Lays.addF(ly:Lays h L s)(od:Od h1 ⟨L.f.o,L.f.m,h.length+1,L.f.es++[h.length+2]⟩ (s.farmers.map (·.1)++[x]) (s.farmers.map (fun p=>[I p.2])++[[I 0]]) 9)(fr:Fr (idx L.f s.farmers.length) h h1) :
 Lays h1 { L with f:=⟨L.f.o,L.f.m,h.length+1,L.f.es++[h.length+2]⟩ } { s with farmers:=s.farmers++[(x,(0:Int))] }:=by
 refine ly.setf (l':=⟨L.f.o,L.f.m,h.length+1,L.f.es++[h.length+2]⟩) (xs:=s.farmers++[(x,(0:Int))]) ?_ fr (fun b hb=>oM hb) rfl
 grind
theorem Lays.oldM(ly:Lays h L s){i e:Nat}{y:Int×Int}{g:Bool}(hx:dV (s.meters.map (·.1)) x=some i)(he:L.m.es[i]?=some e):Lays (h.set e (some (.blk g (.cells true [I y.1,I y.2])))) L { s with meters:=s.meters.set i (x,y) }:=by
 obtain⟨u1,u2⟩:=ly.m.upd (v:=[I y.1,I y.2]) (g:=g) he;have hk:(s.meters.set i (x,y)).map (·.1)=s.meters.map (·.1):=mU (hO hx) rfl;refine ly.setm (l':=L.m) (xs:=s.meters.set i (x,y)) ?_ (u2.mono fun b hb=>by grind [aAi]) (fun b hb=>.inl (by grind)) rfl
 simp_all
theorem Lays.newM(ly:Lays h L s){y:Int×Int}{g:Bool}(od:Od h1 ⟨L.m.o,L.m.m,h.length+1,L.m.es++[h.length+2]⟩ (s.meters.map (·.1)++[x]) (s.meters.map (fun p=>[I p.2.1,I p.2.2])++[[I 0,I 0]]) 5)(fr:Fr (idx L.m s.meters.length) h h1) :
 Lays (h1.set (h.length+2) (some (.blk g (.cells true [I y.1,I y.2])))) { L with m:=⟨L.m.o,L.m.m,h.length+1,L.m.es++[h.length+2]⟩ } { s with meters:=s.meters++[(x,y)] }∧Fr (idx L.m s.meters.length) h (h1.set (h.length+2) (some (.blk g (.cells true [I y.1,I y.2])))):=by
 have fr2:Fr (idx L.m s.meters.length) h (h1.set (h.length+2) (some (.blk g (.cells true [I y.1,I y.2])))):=fr.setNew AM _;refine⟨?_,fr2⟩;have hl:L.m.es.length=s.meters.length:=by rw[ly.m.ek,A9]
 have he:(L.m.es++[h.length+2])[s.meters.length]?=some (h.length+2):=by
  grind
 obtain⟨u1,u2⟩:=od.upd (v:=[I y.1,I y.2]) (g:=g) he;refine ly.setm (l':=⟨L.m.o,L.m.m,h.length+1,L.m.es++[h.length+2]⟩) (xs:=s.meters++[(x,y)]) ?_ fr2 (fun b hb=>oM hb) rfl
 grind
theorem Lays.newW(ly:Lays h L s){y:Int}{g:Bool}(od:Od h1 ⟨L.w.o,L.w.m,h.length+1,L.w.es++[h.length+2]⟩ (s.wagons.map (·.1)++[x]) (s.wagons.map (fun p=>[I p.2])++[[I 0]]) 300)(fr:Fr (idx L.w s.wagons.length) h h1) :
 Lays (h1.set (h.length+2) (some (.blk g (.cells true [I y])))) { L with w:=⟨L.w.o,L.w.m,h.length+1,L.w.es++[h.length+2]⟩ } { s with wagons:=s.wagons++[(x,y)] }∧Fr (idx L.w s.wagons.length) h (h1.set (h.length+2) (some (.blk g (.cells true [I y])))):=by
 have fr2:Fr (idx L.w s.wagons.length) h (h1.set (h.length+2) (some (.blk g (.cells true [I y])))):=fr.setNew AM _;refine⟨?_,fr2⟩;have hl:L.w.es.length=s.wagons.length:=by rw[ly.w.ek,A9]
 have he:(L.w.es++[h.length+2])[s.wagons.length]?=some (h.length+2):=by
  grind
 obtain⟨u1,u2⟩:=od.upd (v:=[I y]) (g:=g) he;refine ly.setw (l':=⟨L.w.o,L.w.m,h.length+1,L.w.es++[h.length+2]⟩) (xs:=s.wagons++[(x,y)]) ?_ fr2 (fun b hb=>oM hb) rfl
 grind
def oG{α:Type}(f:α→α)(z:α)(x:ByteArray):List (ByteArray×α)→List (ByteArray×α)
 | []=>[(x,z)]
 | (k,v)::r=>if k=x then (k,f v)::r else (k,v)::oG f z x r
theorem pX{α:Type}{f:α→α}{z v:α}:∀{l:List (ByteArray×α)}{i:Nat},dV (l.map (·.1)) x=some i→l[i]?=some (x,v)→oG f z x l=l.set i (x,f v)
 | [],i,h,_=>by cases h
 | (k,w)::r,i,h,hv=>by
   have h2:(if k=x then some 0 else (dV (r.map (·.1)) x).map (· + 1))=some i:=h;unfold oG;by_cases e:k=x;·grind
   ·rw[if_neg e]at h2 ⊢
    rw[A3]at h2;obtain⟨j,hj,rfl⟩:=h2;rw[pX (l:=r) hj hv];rfl
theorem vU{α:Type}{f:α→α}{z:α}:∀{l:List (ByteArray×α)},dV (l.map (·.1)) x=none→oG f z x l=l++[(x,z)]
 | [],_=>rfl
 | (k,w)::r,h=>by
   have h2:(if k=x then some 0 else (dV (r.map (·.1)) x).map (· + 1))=none:=h;unfold oG;by_cases e:k=x;·grind
   ·rw[if_neg e]at h2 ⊢
    rw[aA0]at h2;rw[vU h2];rfl
def mtr(n:Int)(y:Int×Int):Int×Int:=(n,y.2+(n-y.1+100000)%100000)
def aHa(c:Nat)(x:ByteArray)(a:Int):XH:=[some (.blk false (.cells true [.pt c 0])),some (.blk true (.cells true [.str x])),some (.blk true (.cells true [I a]))]
theorem w93(ly:Lays h L s){a:Int}(hf:(decide (dV (s.meters.map (·.1)) x=none)&&decide (((s.meters.map (·.1)).length:Int)=5))=false) :
 runW aB 61 [.pt L.c 0,.str x,I a] h=some (.fn (.func 100) [] [.pt h.length 0,.pt (h.length+1) 0,.pt (h.length+2) 0],h++aHa L.c x a):=by
 obtain⟨n,hn⟩:∃ n,h.length=n:=⟨_,rfl⟩;obtain⟨g,hc⟩:=aC ly.hc;unfold cB at hc;have cn:(L.c<n)=True:=AAk (by rw[←hn];exact aJ ly.hc);have f1:=(ly.m.fr (Fr.app h (aHa L.c x a)) (fun _ _ hb=>by cases hb)).fullm (x:=x) (by decide);rw[hf]at f1;have m2:=wH 15;rw[qY 61 x61 rfl,hn];unfold x61;dsimp only;unfold aHa at f1 ⊢;(exact RS5 hc hn cn f1 m2)
theorem c93(ly:Lays h L s){a:Int}(hf:(decide (dV (s.meters.map (·.1)) x=none)&&decide (((s.meters.map (·.1)).length:Int)=5))=true):CalP Tryz.prog aB 61 [.pt L.c 0,.str x,I a] h (.ifc 84 (.agg [I 15])) (h++aHa L.c x a):=by
 refine CalP.of (d:=x61) (e':=aZ [] []) aA rfl (by simp[x61]) rfl ?_;unfold x61;dsimp only;obtain⟨n,hn⟩:∃ n,h.length=n:=⟨_,rfl⟩;obtain⟨g,hc⟩:=aC ly.hc;unfold cB at hc;have cn:(L.c<n)=True:=AAk (by rw[←hn];exact aJ ly.hc);have f1:=(ly.m.fr (Fr.app h (aHa L.c x a)) (fun _ _ hb=>by cases hb)).fullm (x:=x) (by decide);rw[hf]at f1;refine PanX.seqR (K:=61) aA rfl [3,4,5] (vs:=[.pt n 0,.pt (n+1) 0,.pt (n+2) 0]) (h1:=h++aHa L.c x a) (by rw[hn];unfold aHa; (exact dG hn)) ?_;refine PanX.seqL ?_;exact PanX.regU (fr:=[]) (p:=[⟨0,some 7,.load false 1 (.t 3),none⟩,⟨1,some 8,.nilck (.t 7),none⟩,⟨2,some 9,.fld 1 (.t 8),none⟩,⟨3,some 10,.load false 1 (.t 9),none⟩,⟨4,some 11,.load false 1 (.t 4),none⟩,⟨5,some 12,.callf false (.c (.fn (.func 99) [] [])) [(.t 10),(.t 11)] [],none⟩,⟨6,some 13,.not (.t 12),none⟩]) (post:=[]) aA [] (g:=24) (first:=[]) (cap:=[]) (args:=[.bool false,I 15]) (vs:=[]) rfl rfl rfl (by unfold aHa at f1 ⊢; (exact RS4 hc hn cn f1)) (c58 15 _)
theorem bEp(ly:Lays h L s){b0 b1 b2:Nat}{n:Int}(o:Out L s [b0,b1,b2])(k0:aI h b0=some (.cells true [.pt L.c 0]))(k1:aI h b1=some (.cells true [.str x]))(k2:aI h b2=some (.cells true [I n]))(hn:0≤n∧n≤99999)(sm:∀ p∈s.meters,0≤p.2.1∧p.2.1≤99999∧0≤p.2.2∧p.2.2≤1000000000)(hl:s.meters.length≤1000) :
 ∃ h' L',runW aB 100 [.pt b0 0,.pt b1 0,.pt b2 0] h=some (.tup [],h')∧Lays h' L' { s with meters:=oG (mtr n) (n,0) x s.meters }∧L'.c=L.c∧Fr (wJ L s) h h'∧Sb h.length L s L' { s with meters:=oG (mtr n) (n,0) x s.meters }:=by
 obtain⟨g0,j0⟩:=aC k0;obtain⟨g1,j1⟩:=aC k1;obtain⟨g4,hc⟩:=aC ly.hc;unfold cB at hc;rcases hx:dV (s.meters.map (·.1)) x with _|i
 case' some =>
  obtain⟨e,v,he,hv,hev,call⟩:=ly.m.oldm hx;obtain⟨⟨a,b⟩,hy⟩:=uI hx;rw[C4,hy]at hv;cases hv;have hb:=sm _ (A5 hy);simp only at hb;have hev:aI h e=some (.cells true [I a,I b]):=hev;obtain⟨g5,he5⟩:=aC hev;obtain⟨g2,j2⟩:=aC k2;have be:(b2=e)=False:=AAl fun q=>ly.px_out (j:=4) o (b:=b2) (by simp) (q▸aAi he);have a1:IntKind.i64.wrap (n-a)=n-a:=aE AM AM;have a2:IntKind.i64.wrap (n-a+99999)=n-a+99999:=aE AM AM;have a3:IntKind.i64.wrap (n-a+99999+1)=n-a+100000:=by grind [aE]
  have a4:IntKind.i64.wrap ((n-a+100000)%100000)=(n-a+100000)%100000:=aE AM AM;have a5:IntKind.i64.wrap (b+(n-a+100000)%100000)=b+(n-a+100000)%100000:=aE AM AM;have a6:(n-a+100000).tmod 100000=(n-a+100000)%100000:=J7 AM;have el:e<h.length:=aJ hev;have et:(e<h.length)=True:=AAk el;rw[pX (f:=mtr n) (z:=(n,0)) hx hy];refine⟨_,L,?_,ly.oldM (g:=g5) (y:=mtr n (a,b)) hx he,rfl,Fr.px (j:=4) ((Fr.refl _ h).set (aAi he) _),.of rfl (aCn rfl) (tL rfl) (cV rfl) (cV (by grind)) (cV rfl) (cV rfl)⟩;rw[qY 100 aLA rfl];unfold aLA mtr;dsimp only;sym =>
   simp[Za,Zb,Zc,Ze,Zf,Zh,Zi,Zl,Zm,Zv,Z9,ZA,ZD,ZF,ZP,ZU,ZV,ZX,ZY,ZZ,Ya,Yb,Yh,Yi,Yl,Yp,Yr,Y4,Y5,Y6,Y8,Xx,Wf,Vi,Vp,V1,V4,V5,V7,V9,VA,VB,VC,Um,Uo,Ur,UM,UO,UQ,UV,UZ,Ta,Tb,Te,Tf,Tg,Th,Ti,Tj,Tn,Tp,Tv,Ty,Tz,T0,T2,T9,TR,TX,TY,Se,Sf,Sg,SF,SG,SL,SM,SN,SY,Ra,Rc,Rg,Ro,Rp,QL,PB,PD,PG,PK,PT,PV,j0,j1,j2,hc,call,he5,a1,a2,a3,et,be,List.set_set]
   tactic =>
    grind
 case' none =>
  obtain⟨h1,call,hl1,od1,fr1⟩:=ly.m.newm hx (by grind);rw[A9]at fr1;obtain⟨g2,j2⟩:=aC (fr1.keepS k2 (ly.px_out (j:=4) o (by simp)));obtain⟨g6,i0⟩:=aC (fr1.keepS k0 (ly.px_out (j:=4) o (by simp)));obtain⟨g7,i1⟩:=aC (fr1.keepS k1 (ly.px_out (j:=4) o (by simp)));obtain⟨g8,ic⟩:=aC (fr1.keepS ly.hc (ly.off (i:=0) (j:=4) (by decide) (by simp[px])));have hll:L.m.es.length=s.meters.length:=by rw[ly.m.ek,A9]
  have he1:(L.m.es++[h.length+2])[s.meters.length]?=some (h.length+2):=by
   grind
  obtain⟨g5,he5⟩:=aC (od1.he (i:=s.meters.length) (v:=[I 0,I 0]) he1 (by grind));rw[vU (f:=mtr n) (z:=(n,0)) hx];obtain⟨z1,z2⟩:=ly.newM (y:=(n,0)) (g:=g5) od1 fr1;refine⟨_,_,?_,z1,rfl,Fr.px (j:=4) z2,.of rfl (aCn rfl) (tL rfl) (cV rfl) (fun b hb=>oM hb) (cV rfl) (cV rfl)⟩;rw[qY 100 aLA rfl];unfold aLA;dsimp only;(exact RS9 j0 j1 j2 i0 i1 ic hc call he5)
theorem w88(ly:Lays h L s){b0 b1:Nat}{f z:AV}(o:Out L s [b0,b1])(k0:aI h b0=some (.cells true [.pt L.c 0]))(k1:aI h b1=some (.cells true [f,.fs [[.str x]],z]))(hx:dV (s.farmers.map (·.1)) x=none)(hl:s.farmers.length≤1000) :
 ∃ h' L',runW aB 56 [.pt b0 0,.pt b1 0] h=some (.tup [],h')∧Lays h' L' { s with farmers:=s.farmers++[(x,0)] }∧L'.c=L.c∧Fr (wJ L s) h h'∧Sb h.length L s L' { s with farmers:=s.farmers++[(x,0)] }:=by
 obtain⟨g0,j0⟩:=aC k0;obtain⟨g1,j1⟩:=aC k1;obtain⟨g4,hc⟩:=aC ly.hc;unfold cB at hc;obtain⟨h1,call,hl1,od1,fr1⟩:=ly.f.newf hx (by grind);rw[A9]at fr1;obtain⟨g6,i0⟩:=aC (fr1.keepS k0 (ly.px_out (j:=3) o (by simp)));obtain⟨g7,i1⟩:=aC (fr1.keepS k1 (ly.px_out (j:=3) o (by simp)));obtain⟨g8,ic⟩:=aC (fr1.keepS ly.hc (ly.off (i:=0) (j:=3) (by decide) (by simp[px])));refine⟨_,_,?_,ly.addF od1 fr1,rfl,Fr.px (j:=3) fr1,.of rfl (aCn rfl) (tL rfl) (fun b hb=>oM hb) (cV rfl) (cV rfl) (cV rfl)⟩;rw[qY 56 x56 rfl];unfold x56;dsimp only;(exact RS7 j0 j1 hc call i0 i1 ic)
theorem eY{b n:Nat}(h:0<n):iL b n = .sl b 0 1 n:=by
 grind [iL]
theorem w92(ly:Lays h L s){b0:Nat}(k0:aI h b0=some (.cells true [.pt L.c 0]))(hk:0<s.tickets.length) :
 ∃ h',runW aB 60 [.pt b0 0] h=some (.tup [],h')∧Lays h' L { s with closed:=s.tickets.length }∧Fr (wJ L s) h h':=by
 obtain⟨g0,j0⟩:=aC k0;obtain⟨g4,hc⟩:=aC ly.hc;unfold cB at hc;rw[eY hk]at hc;have cl:=aJ ly.hc;have fr:Fr [L.c] h (h.set L.c (some (.blk g4 (.cells true (cB L { s with closed:=s.tickets.length }))))):=(Fr.refl _ h).set (by simp) _;refine⟨_,?_,ly.close (cl:=s.tickets.length) (by rw[cO,if_pos rfl,if_pos cl]) fr,Fr.px (j:=0) fr⟩;rw[qY 60 x60 rfl];unfold x60 cB;dsimp only;have hv:=eY (b:=L.tb) hk;(exact RS3 j0 hc hv)
def aJY(c e:Nat):XH:=[some (.blk false (.cells true [.pt c 0])),some (.blk false (.cells true [.pt e 0]))]
theorem Tk.at{tb:Nat}{te:List Nat}{ks:List CTk}(t:Tk h tb te ks){i:Nat}{k:CTk}(hk:ks[i]?=some k):∃ e,te[i]?=some e∧aI h e=some (.cells true (tkC k))∧aI h tb=some (.cells true (te.map fun e=>.pt e 0))∧i<te.length:=by
 have hl:i<ks.length:=(D0.1 hk).1;have h2:i<te.length:=by rw[t.el];exact hl
 have he:=A8 h2;exact⟨_,he,t.he i _ k he hk,t.hb AM,h2⟩
theorem w91(ly:Lays h L s){i:Nat}{k:CTk}(hk:s.tickets[i]?=some k)(hv:k.void=false)(hcl:s.closed≤i) :
 ∃ e,L.te[i]?=some e∧runW aB 59 [.pt L.c 0,I i] h=some (.fn (.func 98) [] [.pt (h.length+1) 0,.pt h.length 0],h++aJY L.c e):=by
 obtain⟨n,hn⟩:∃ n,h.length=n:=⟨_,rfl⟩;obtain⟨e,he,hke,hb,hi⟩:=ly.tk.at hk;have hl:i<s.tickets.length:=by grind
 obtain⟨g,hc⟩:=aC ly.hc;unfold cB at hc;rw[eY AM]at hc;obtain⟨g1,hb1⟩:=aC hb;obtain⟨g2,hk2⟩:=aC hke;unfold tkC at hk2;rw[hv]at hk2;have cn:(L.c<n)=True:=AAk (by rw[←hn];exact aJ ly.hc);have bn:(L.tb<n)=True:=AAk (by rw[←hn];exact aJ hb);have en:(e<n)=True:=AAk (by rw[←hn];exact aJ hke);have t1:((i:Int)<(s.tickets.length:Int))=True:=AAa;have t2:((s.closed:Int)≤(i:Int))=True:=AAa;have m1:=wH 5;have m2:=wH 6;have m3:=wH 23;have mp:(some e).map (fun e=>AV.pt e 0)=some (.pt e 0):=rfl;refine⟨e,he,?_⟩;rw[qY 59 x59 rfl,hn];unfold x59 aJY;dsimp only;(exact lR hc hn cn bn en hb1 hk2 t1 t2 m1 m2 m3 he mp aG aG aG aG aG aG)
theorem bIs(ly:Lays h L s){i:Nat}(hi:s.tickets.length≤i):CalP Tryz.prog aB 59 [.pt L.c 0,I i] h (.ifc 84 (.agg [I 5])) (h++[some (.blk false (.cells true [.pt L.c 0]))]):=by
 refine CalP.of (d:=x59) (e':=aZ [] []) aA rfl (by simp[x59]) rfl ?_;unfold x59;dsimp only;obtain⟨n,hn⟩:∃ n,h.length=n:=⟨_,rfl⟩;obtain⟨g,hc⟩:=aC ly.hc;unfold cB at hc;have cn:(L.c<n)=True:=AAk (by rw[←hn];exact aJ ly.hc);refine PanX.seqR (K:=59) aA rfl [1,2] (vs:=[I i,.pt n 0]) (h1:=h++[some (.blk false (.cells true [.pt L.c 0]))]) (by rw[hn]; (exact dG hn)) ?_;refine PanX.seqL ?_;refine PanX.reg (p:=[⟨0,some 6,.mv (.t 1),none⟩,⟨0,some 7,.load false 1 (.t 2),none⟩,⟨0,some 8,.nilck (.t 7),none⟩,⟨0,some 9,.fld 4 (.t 8),none⟩,⟨0,some 10,.load false 1 (.t 9),none⟩,⟨0,some 11,.len false (.t 10),none⟩,⟨0,some 12,.bin .lss (.t 6) (.t 11),none⟩]) (post:=[]) aA [] (g:=24) (first:=[]) (cap:=[]) (args:=[.bool false,I 5]) (vs:=[]) rfl rfl ?_ (c58 5 _);by_cases hk:0<s.tickets.length
 ·rw[eY hk]at hc
  have t1:((i:Int)<(s.tickets.length:Int))=False:=AAb;(exact RS4 hc hn cn t1)
 ·have h0:s.tickets.length=0:=AM
  have hv:iL L.tb s.tickets.length = .nilsl:=by rw[h0];rfl
  rw[hv]at hc;have t1:((i:Int)<0)=False:=AAb;(exact RS4 hc hn cn t1)
theorem bIr(ly:Lays h L s){i:Nat}{k:CTk}(hk:s.tickets[i]?=some k)(hv:k.void=true):∃ e,CalP Tryz.prog aB 59 [.pt L.c 0,I i] h (.ifc 84 (.agg [I 6])) (h++aJY L.c e):=by
 obtain⟨n,hn⟩:∃ n,h.length=n:=⟨_,rfl⟩;obtain⟨e,he,hke,hb,hi⟩:=ly.tk.at hk;have hl:i<s.tickets.length:=by grind
 obtain⟨g,hc⟩:=aC ly.hc;unfold cB at hc;rw[eY AM]at hc;obtain⟨g1,hb1⟩:=aC hb;obtain⟨g2,hk2⟩:=aC hke;unfold tkC at hk2;rw[hv]at hk2;have cn:(L.c<n)=True:=AAk (by rw[←hn];exact aJ ly.hc);have bn:(L.tb<n)=True:=AAk (by rw[←hn];exact aJ hb);have en:(e<n)=True:=AAk (by rw[←hn];exact aJ hke);have t1:((i:Int)<(s.tickets.length:Int))=True:=AAa;have m1:=wH 5;have mp:(some e).map (fun e=>AV.pt e 0)=some (.pt e 0):=rfl;refine⟨e,CalP.of (d:=x59) (e':=aZ [] []) aA rfl (by simp[x59]) rfl ?_⟩;unfold x59 aJY;dsimp only;refine PanX.seqR (K:=59) aA rfl [1,2] (vs:=[I i,.pt n 0]) (h1:=h++[some (.blk false (.cells true [.pt L.c 0]))]) (by rw[hn]; (exact dG hn)) ?_;refine PanX.seqR (K:=59) aA rfl [1,2] (vs:=[I i,.pt n 0]) (h1:=h++[some (.blk false (.cells true [.pt L.c 0]))]) (by (exact RS5 hc hn cn t1 m1)) ?_;refine PanX.seqR (K:=59) aA rfl [1,2,5] (vs:=[I i,.pt n 0,.pt (n+1) 0]) (h1:=h++[some (.blk false (.cells true [.pt L.c 0])),some (.blk false (.cells true [.pt e 0]))]) (by (exact pE hc hn cn bn en hb1 hk2 t1 he mp)) ?_;refine PanX.seqL ?_;exact PanX.reg (p:=[⟨0,some 21,.load false 1 (.t 5),none⟩,⟨0,some 22,.nilck (.t 21),none⟩,⟨0,some 23,.fld 3 (.t 22),none⟩,⟨0,some 24,.load false 1 (.t 23),none⟩,⟨0,some 25,.not (.t 24),none⟩]) (post:=[]) aA [] (g:=24) (first:=[]) (cap:=[]) (args:=[.bool false,I 6]) (vs:=[]) rfl rfl (by (exact RS3 hn en hk2)) (c58 6 _)
theorem bIq(ly:Lays h L s){i:Nat}{k:CTk}(hk:s.tickets[i]?=some k)(hv:k.void=false)(hcl:i<s.closed):∃ e,CalP Tryz.prog aB 59 [.pt L.c 0,I i] h (.ifc 84 (.agg [I 23])) (h++aJY L.c e):=by
 obtain⟨n,hn⟩:∃ n,h.length=n:=⟨_,rfl⟩;obtain⟨e,he,hke,hb,hi⟩:=ly.tk.at hk;have hl:i<s.tickets.length:=by grind
 obtain⟨g,hc⟩:=aC ly.hc;unfold cB at hc;rw[eY AM]at hc;obtain⟨g1,hb1⟩:=aC hb;obtain⟨g2,hk2⟩:=aC hke;unfold tkC at hk2;rw[hv]at hk2;have cn:(L.c<n)=True:=AAk (by rw[←hn];exact aJ ly.hc);have bn:(L.tb<n)=True:=AAk (by rw[←hn];exact aJ hb);have en:(e<n)=True:=AAk (by rw[←hn];exact aJ hke);have t1:((i:Int)<(s.tickets.length:Int))=True:=AAa;have t2:((s.closed:Int)≤(i:Int))=False:=AAb;have m1:=wH 5;have m2:=wH 6;have mp:(some e).map (fun e=>AV.pt e 0)=some (.pt e 0):=rfl;refine⟨e,CalP.of (d:=x59) (e':=aZ [] []) aA rfl (by simp[x59]) rfl ?_⟩;unfold x59 aJY;dsimp only;refine PanX.seqR (K:=59) aA rfl [1,2] (vs:=[I i,.pt n 0]) (h1:=h++[some (.blk false (.cells true [.pt L.c 0]))]) (by rw[hn]; (exact dG hn)) ?_;refine PanX.seqR (K:=59) aA rfl [1,2] (vs:=[I i,.pt n 0]) (h1:=h++[some (.blk false (.cells true [.pt L.c 0]))]) (by (exact RS5 hc hn cn t1 m1)) ?_;refine PanX.seqR (K:=59) aA rfl [1,2,5] (vs:=[I i,.pt n 0,.pt (n+1) 0]) (h1:=h++[some (.blk false (.cells true [.pt L.c 0])),some (.blk false (.cells true [.pt e 0]))]) (by (exact pE hc hn cn bn en hb1 hk2 t1 he mp)) ?_;refine PanX.seqR (K:=59) aA rfl [1,2,5] (vs:=[I i,.pt n 0,.pt (n+1) 0]) (h1:=h++[some (.blk false (.cells true [.pt L.c 0])),some (.blk false (.cells true [.pt e 0]))]) (by (exact RS4 hn en hk2 m2)) ?_;refine PanX.seqL ?_;exact PanX.reg (p:=[⟨0,some 27,.mv (.t 1),none⟩,⟨0,some 28,.load false 1 (.t 2),none⟩,⟨0,some 29,.nilck (.t 28),none⟩,⟨0,some 30,.fld 5 (.t 29),none⟩,⟨0,some 31,.load false 1 (.t 30),none⟩,⟨0,some 32,.bin .geq (.t 27) (.t 31),none⟩]) (post:=[]) aA [] (g:=24) (first:=[]) (cap:=[]) (args:=[.bool false,I 23]) (vs:=[]) rfl rfl (by (exact RS4 hn cn hc t2)) (c58 23 _)
theorem bEq(ly:Lays h L s){b0 b1 i e j:Nat}{k:CTk}{v:Int}(o:Out L s [b0,b1])(k0:aI h b0=some (.cells true [.pt e 0]))(k1:aI h b1=some (.cells true [.pt L.c 0]))(hk:s.tickets[i]?=some k)(he:L.te[i]?=some e)(hx:dV (s.farmers.map (·.1)) k.farmer=some j)(hy:s.farmers[j]?=some (k.farmer,v))(hb : -1000000000≤v∧v≤1000000000∧0≤k.net∧k.net≤99999) :
 ∃ h',runW aB 98 [.pt b0 0,.pt b1 0] h=some (.tup [],h')∧Lays h' L { s with tickets:=s.tickets.set i { k with void:=true },farmers:=iY s.farmers k.farmer (-k.net) }∧Fr (wJ L s) h h':=by
 obtain⟨e',he',hke,hb1,hi⟩:=ly.tk.at hk;rw[he]at he';cases he';have em:=A5 he;obtain⟨g0,j0⟩:=aC k0;obtain⟨g1,j1⟩:=aC k1;obtain⟨g4,hc⟩:=aC ly.hc;obtain⟨g2,hk2⟩:=aC hke;have ly2:=ly.tickSet (k:={ k with void:=true }) (g:=g2) he;obtain⟨fe,v',hfe,hv',hfv,call⟩:=ly2.f.getf hx;rw[C4,hy]at hv';cases hv';have hfv:aI (h.set e (some (.blk g2 (.cells true (tkC { k with void:=true }))))) fe=some (.cells true [I v]):=hfv;obtain⟨g5,hf5⟩:=aC hfv;have el:(e<h.length)=True:=AAk (aJ hke);have ep:e∈px L s 1:=G9 _ em;have fp:fe∈px L s 3:=aAi hfe;have n1:(b0=e)=False:=AAl fun q=>ly.px_out (j:=1) o (b:=b0) (by simp) (q▸ep);have n2:(b1=e)=False:=AAl fun q=>ly.px_out (j:=1) o (b:=b1) (by simp) (q▸ep);have n3:(L.c=e)=False:=AAl fun q=>ly.off (i:=1) (j:=0) (by decide) ep (by simp[px,q]);have n4:(fe=e)=False:=AAl fun q=>ly.off (i:=1) (j:=3) (by decide) ep (q▸fp);have a1:IntKind.i64.wrap (v-k.net)=v + -k.net:=by grind [aE]
 have z:=ly2.oldF (g:=g5) (y:=v + -k.net) hx hfe;have ha:=iG (d := -k.net) hx (by rw[C4,hy];rfl);refine⟨_,?_,by rw[ha];exact z,((Fr.refl _ h).set (bF.2 ⟨1,ep⟩) _).set (bF.2 ⟨3,fp⟩) _⟩;rw[qY 98 x98 rfl];unfold x98;dsimp only;unfold cB at hc;unfold tkC at hk2 call hf5 ⊢;dsimp only at call hf5 ⊢;have so:∀ a:ByteArray,cD (.str a) (.str a)=true:=by intro a;simp[cD]
 have hf6:hat h fe=some (.blk g5 (.cells true [I v])):=by
  rw[PK,if_neg (by rw[n4];exact id)]at hf5;exact hf5
 (exact oI j0 j1 hc hk2 call hf6 el n1 n2 n3 n4 a1 so)
def pT(h:XH)(b n:Nat):XH:=if n=0 then h else h.set b none
theorem uF{b n:Nat}:(pT h b n).length=h.length:=by
 unfold pT;grind
theorem aSj{b n j:Nat}(hj:j∉nO b n):aI (pT h b n) j=aI h j:=by
 unfold pT
 grind [aFl,bY]
theorem Fr.off{J:List Nat}(f:Fr J h h1){b n:Nat}(hb:∀ j,j∈nO b n→j∈J):Fr J h (pT h1 b n):=by
 unfold pT;split;·exact f
 ·rename_i hn
  exact f.set (hb b (bY.2 ⟨by omega,rfl⟩)) _
theorem aWA{h k:XH}(i:Nat):hat (h++k) (h.length+i)=hat k i:=by
 rw[PL,if_neg AM];congr 1;omega
theorem Lays.tickNew(ly:Lays h L s){k:CTk}{g g1 g2 g3:Bool}{cs:List AV}(hcs:cs=cB { L with tb:=h.length+2 } { s with tickets:=s.tickets++[k] }) :
 Lays ((pT h L.tb s.tickets.length).set L.c (some (.blk g (.cells true cs)))++[some (.blk g1 (.cells true (tkC k))),some (.blk g2 (.cells true [.pt h.length 0])),some (.blk g3 (.cells true (L.te.map (fun e=>.pt e 0)++[.pt h.length 0])))]) { L with tb:=h.length+2,te:=L.te++[h.length] } { s with tickets:=s.tickets++[k] } ∧
  Fr (L.c::nO L.tb s.tickets.length) h ((pT h L.tb s.tickets.length).set L.c (some (.blk g (.cells true cs)))++[some (.blk g1 (.cells true (tkC k))),some (.blk g2 (.cells true [.pt h.length 0])),some (.blk g3 (.cells true (L.te.map (fun e=>.pt e 0)++[.pt h.length 0])))]):=by
 subst hcs;have cl:=aJ ly.hc
 have fr:Fr (L.c::nO L.tb s.tickets.length) h ((pT h L.tb s.tickets.length).set L.c (some (.blk g (.cells true (cB { L with tb:=h.length+2 } { s with tickets:=s.tickets++[k] }))))++[some (.blk g1 (.cells true (tkC k))),some (.blk g2 (.cells true [.pt h.length 0])),some (.blk g3 (.cells true (L.te.map (fun e=>.pt e 0)++[.pt h.length 0])))]) :=
  (((Fr.refl _ h).off fun j hj=>E7 _ hj).set J3 _).add _
 refine⟨ly.tickApp (k:=k) (A6 _) AM AM ?_ ?_ ?_ fr,fr⟩;·rw[gF,if_pos (by grind [uF]),cO,if_pos rfl,if_pos (by grind [uF])]
 ·have hl:((pT h L.tb s.tickets.length).set L.c (some (.blk g (.cells true (cB { L with tb:=h.length+2 } { s with tickets:=s.tickets++[k] }))))).length=h.length:=by grind [uF]
  rw[gF,hl,if_neg AM,show h.length+2-h.length=2 by omega];rfl
 ·have hl:((pT h L.tb s.tickets.length).set L.c (some (.blk g (.cells true (cB { L with tb:=h.length+2 } { s with tickets:=s.tickets++[k] }))))).length=h.length:=by grind [uF]
  rw[gF,hl,if_neg AM,show h.length-h.length=0 by omega];rfl
theorem Lays.tickNew2(ly:Lays h L s){k:CTk}{n:Nat}{g g1 g2 g3:Bool}{cs:List AV}(hn:h.length=n)(hcs:cs=cB { L with tb:=n+2 } { s with tickets:=s.tickets++[k] })(hh:h'=(pT h L.tb s.tickets.length).set L.c (some (.blk g (.cells true cs)))++[some (.blk g1 (.cells true (tkC k))),some (.blk g2 (.cells true [.pt n 0])),some (.blk g3 (.cells true (L.te.map (fun e=>.pt e 0)++[.pt n 0])))]) :
 Lays h' { L with tb:=n+2,te:=L.te++[n] } { s with tickets:=s.tickets++[k] }∧Fr (L.c::nO L.tb s.tickets.length) h h':=by
 subst hn hh;exact ly.tickNew hcs
def fN(s:dU)(name owner:ByteArray)(full empty:Int):dU :=
 { s with wagons:=oG id empty name s.wagons,farmers:=iY s.farmers owner (full-empty),tickets:=s.tickets++[⟨name,owner,full-empty,false⟩] }

theorem aNx(ly:Lays h L s){b0 b1 b2 b3 b4 b5 fe j i:Nat}{name owner:ByteArray}{full empty v:Int}(o:Out L s [b0,b1,b2,b3,b4,b5])(k0:aI h b0=some (.cells true [.pt L.c 0]))(k1:aI h b1=some (.cells true [.str name]))(k2:aI h b2=some (.cells true [I empty]))(k3:aI h b3=some (.cells true [.pt fe 0]))(k4:aI h b4=some (.cells true [I full]))(k5:aI h b5=some (.cells true [.str owner]))
 (hfe:L.f.es[j]?=some fe) (hj:dV (s.farmers.map (·.1)) owner=some j) (hy:s.farmers[j]?=some (owner,v)) (hb : -1000000000≤v∧v≤1000000000∧0≤empty∧empty≤full∧full≤99999) (hl:s.wagons.length≤1000) (hl2:s.tickets.length≤1000) (hx:dV (s.wagons.map (·.1)) name=some i) (ht:s.tickets.length=0) :
 ∃ h' L',runW aB 96 [.pt b0 0,.pt b1 0,.pt b2 0,.pt b3 0,.pt b4 0,.pt b5 0] h=some (.tup [],h')∧Lays h' L' (fN s name owner full empty)∧L'.c=L.c∧Fr (wJ L s) h h'∧Sb h.length L s L' (fN s name owner full empty):=by
 obtain⟨g0,j0⟩:=aC k0;obtain⟨g1,j1⟩:=aC k1;have a1:IntKind.i64.wrap (full-empty)=full-empty:=aE AM AM;have a2:IntKind.i64.wrap (v+(full-empty))=v+(full-empty):=aE AM AM;have fp:fe∈px L s 3:=aAi hfe;have hfv:aI h fe=some (.cells true [I v]):=ly.f.he hfe (by grind);obtain⟨e,v',he,hv,hev,call⟩:=ly.w.oldw hx;obtain⟨em,hy2⟩:=uI hx;have hm:oG id empty name s.wagons=s.wagons:=by
  rw[pX hx hy2];exact J1 fun q=>by
   grind
 obtain⟨g6,hc⟩:=aC ly.hc;unfold cB at hc;obtain⟨g2,j2⟩:=aC k2;obtain⟨g3,j3⟩:=aC k3;obtain⟨g4,j4⟩:=aC k4;obtain⟨g5,j5⟩:=aC k5;obtain⟨g7,hf5⟩:=aC hfv;obtain⟨n,hn⟩:∃ n,h.length=n:=⟨_,rfl⟩;have lyF:=ly.oldF (g:=g7) (y:=v+(full-empty)) hj hfe;have frF:Fr (wJ L s) h (h.set fe (some (.blk g7 (.cells true [I (v+(full-empty))])))):=(Fr.refl _ h).set (bF.2 ⟨3,fp⟩) _;have ha:=iG (d:=full-empty) hj (by rw[C4,hy];rfl);have b0f:(b0=fe)=False:=AAl fun q=>ly.px_out (j:=3) o (b:=b0) (by simp) (q▸fp);have b1f:(b1=fe)=False:=AAl fun q=>ly.px_out (j:=3) o (b:=b1) (by simp) (q▸fp);have b2f:(b2=fe)=False:=AAl fun q=>ly.px_out (j:=3) o (b:=b2) (by simp) (q▸fp);have b4f:(b4=fe)=False:=AAl fun q=>ly.px_out (j:=3) o (b:=b4) (by simp) (q▸fp);have b5f:(b5=fe)=False:=AAl fun q=>ly.px_out (j:=3) o (b:=b5) (by simp) (q▸fp);have cf:(L.c=fe)=False:=AAl fun q=>ly.off (i:=3) (j:=0) (by decide) fp (by simp[px,q]);have bl:∀ b c,aI h b=some c→(b<n)=True:=fun b c hb=>AAk (by have:=aJ hb;omega);have l0:=bl _ _ k0;have l1:=bl _ _ k1;have l2:=bl _ _ k2;have l4:=bl _ _ k4;have l5:=bl _ _ k5;have lf:=bl _ _ hfv;have lc:=bl _ _ ly.hc;have te0:L.te=[]:=D5 (by rw[ly.tk.el];exact ht);have hv:iL L.tb s.tickets.length = .nilsl:=by rw[ht];rfl
 rw[hv]at hc;have hbl:(h.set fe (some (.blk g7 (.cells true [I (v+(full-empty))])))).length=n:=(by grind);have walk:runW aB 96 [.pt b0 0,.pt b1 0,.pt b2 0,.pt b3 0,.pt b4 0,.pt b5 0] h=some (.tup [],(h.set fe (some (.blk g7 (.cells true [I (v+(full-empty))])))).set L.c (some (.blk false (.cells true [.pt L.f.o 0,.pt L.m.o 0,.pt L.p.o 0,.pt L.w.o 0,.sl (n+2) 0 1 1,I s.closed,iL L.kb s.book.length])))++[some (.blk true (.cells true [.str name,.str owner,I (full-empty),.bool false,.bool false])),some (.blk false (.cells true [.pt (n) 0])),some (.blk false (.cells true [.pt (n) 0]))]):=by
  rw[qY 96 x96 rfl,hn];unfold x96;dsimp only;(exact vG j0 j1 j2 j3 j4 j5 hc call hf5 a1 a2 hn l0 l1 l2 l4 l5 lf lc b0f b1f b2f b4f b5f cf aG)
 obtain⟨y1,y2⟩:=lyF.tickNew2 (h':=(h.set fe (some (.blk g7 (.cells true [I (v+(full-empty))])))).set L.c (some (.blk false (.cells true [.pt L.f.o 0,.pt L.m.o 0,.pt L.p.o 0,.pt L.w.o 0,.sl (n+2) 0 1 1,I s.closed,iL L.kb s.book.length])))++[some (.blk true (.cells true [.str name,.str owner,I (full-empty),.bool false,.bool false])),some (.blk false (.cells true [.pt (n) 0])),some (.blk false (.cells true [.pt (n) 0]))]) (k:=⟨name,owner,full-empty,false⟩) (n:=n) (g:=false) (g1:=true) (g2:=false) (g3:=false) (cs:=[.pt L.f.o 0,.pt L.m.o 0,.pt L.p.o 0,.pt L.w.o 0,.sl (n+2) 0 1 1,I s.closed,iL L.kb s.book.length]) hbl (by simp[cB,iL,ht]) (by simp[pT,tkC,ht,te0]);refine⟨_,{ L with tb:=n+2,te:=L.te++[n] },walk,by unfold fN;grind,rfl,frF.trans (y2.mono fun b hb=>?_),by
  unfold fN;rw[hm,ha];exact .of rfl (fun b hb=>by
   grind [bY]) (tL rfl) (cV (by grind)) (cV rfl) (cV rfl) (cV rfl)⟩
 rw[B5]at hb;rcases hb with rfl|hb;·exact bF.2 ⟨0,by simp[px]⟩
 ·exact bF.2 ⟨1,F7 _ hb⟩
theorem aNy(ly:Lays h L s){b0 b1 b2 b3 b4 b5 fe j i:Nat}{name owner:ByteArray}{full empty v:Int}(o:Out L s [b0,b1,b2,b3,b4,b5])(k0:aI h b0=some (.cells true [.pt L.c 0]))(k1:aI h b1=some (.cells true [.str name]))(k2:aI h b2=some (.cells true [I empty]))(k3:aI h b3=some (.cells true [.pt fe 0]))(k4:aI h b4=some (.cells true [I full]))(k5:aI h b5=some (.cells true [.str owner]))
 (hfe:L.f.es[j]?=some fe) (hj:dV (s.farmers.map (·.1)) owner=some j) (hy:s.farmers[j]?=some (owner,v)) (hb : -1000000000≤v∧v≤1000000000∧0≤empty∧empty≤full∧full≤99999) (hl:s.wagons.length≤1000) (hl2:s.tickets.length≤1000) (hx:dV (s.wagons.map (·.1)) name=some i) (ht:0<s.tickets.length) :
 ∃ h' L',runW aB 96 [.pt b0 0,.pt b1 0,.pt b2 0,.pt b3 0,.pt b4 0,.pt b5 0] h=some (.tup [],h')∧Lays h' L' (fN s name owner full empty)∧L'.c=L.c∧Fr (wJ L s) h h'∧Sb h.length L s L' (fN s name owner full empty):=by
 obtain⟨g0,j0⟩:=aC k0;obtain⟨g1,j1⟩:=aC k1;have a1:IntKind.i64.wrap (full-empty)=full-empty:=aE AM AM;have a2:IntKind.i64.wrap (v+(full-empty))=v+(full-empty):=aE AM AM;have fp:fe∈px L s 3:=aAi hfe;have hfv:aI h fe=some (.cells true [I v]):=ly.f.he hfe (by grind);obtain⟨e,v',he,hv,hev,call⟩:=ly.w.oldw hx;obtain⟨em,hy2⟩:=uI hx;have hm:oG id empty name s.wagons=s.wagons:=by
  rw[pX hx hy2];exact J1 fun q=>by
   grind
 obtain⟨g6,hc⟩:=aC ly.hc;unfold cB at hc;obtain⟨g2,j2⟩:=aC k2;obtain⟨g3,j3⟩:=aC k3;obtain⟨g4,j4⟩:=aC k4;obtain⟨g5,j5⟩:=aC k5;obtain⟨g7,hf5⟩:=aC hfv;obtain⟨n,hn⟩:∃ n,h.length=n:=⟨_,rfl⟩;have lyF:=ly.oldF (g:=g7) (y:=v+(full-empty)) hj hfe;have frF:Fr (wJ L s) h (h.set fe (some (.blk g7 (.cells true [I (v+(full-empty))])))):=(Fr.refl _ h).set (bF.2 ⟨3,fp⟩) _;have ha:=iG (d:=full-empty) hj (by rw[C4,hy];rfl);have b0f:(b0=fe)=False:=AAl fun q=>ly.px_out (j:=3) o (b:=b0) (by simp) (q▸fp);have b1f:(b1=fe)=False:=AAl fun q=>ly.px_out (j:=3) o (b:=b1) (by simp) (q▸fp);have b2f:(b2=fe)=False:=AAl fun q=>ly.px_out (j:=3) o (b:=b2) (by simp) (q▸fp);have b4f:(b4=fe)=False:=AAl fun q=>ly.px_out (j:=3) o (b:=b4) (by simp) (q▸fp);have b5f:(b5=fe)=False:=AAl fun q=>ly.px_out (j:=3) o (b:=b5) (by simp) (q▸fp);have cf:(L.c=fe)=False:=AAl fun q=>ly.off (i:=3) (j:=0) (by decide) fp (by simp[px,q]);have bl:∀ b c,aI h b=some c→(b<n)=True:=fun b c hb=>AAk (by have:=aJ hb;omega);have l0:=bl _ _ k0;have l1:=bl _ _ k1;have l2:=bl _ _ k2;have l4:=bl _ _ k4;have l5:=bl _ _ k5;have lf:=bl _ _ hfv;have lc:=bl _ _ ly.hc;obtain⟨tk0,tk1⟩:∃ k,s.tickets[0]?=some k:=⟨_,A8 ht⟩;obtain⟨te0,te1,te2,htb,te4⟩:=ly.tk.at tk1;have tp:L.tb∈px L s 1:=F7 _ (bY.2 ⟨ht,rfl⟩);have hv:=eY (b:=L.tb) ht;rw[hv]at hc;have lt:=bl _ _ htb;have tf:(L.tb=fe)=False:=AAl fun q=>ly.off (i:=3) (j:=1) (by decide) fp (q▸tp);have tc:(L.tb=L.c)=False:=AAl fun q=>ly.off (i:=0) (j:=1) (by decide) (by simp[px]) (q▸tp);have tb0:(b0=L.tb)=False:=AAl fun q=>ly.px_out (j:=1) o (b:=b0) (by simp) (q▸tp);have bt0:(L.tb=b0)=False:=AAl fun q=>ly.px_out (j:=1) o (b:=b0) (by simp) (q▸tp);have tb1:(b1=L.tb)=False:=AAl fun q=>ly.px_out (j:=1) o (b:=b1) (by simp) (q▸tp);have bt1:(L.tb=b1)=False:=AAl fun q=>ly.px_out (j:=1) o (b:=b1) (by simp) (q▸tp);have tb2:(b2=L.tb)=False:=AAl fun q=>ly.px_out (j:=1) o (b:=b2) (by simp) (q▸tp);have bt2:(L.tb=b2)=False:=AAl fun q=>ly.px_out (j:=1) o (b:=b2) (by simp) (q▸tp);have tb4:(b4=L.tb)=False:=AAl fun q=>ly.px_out (j:=1) o (b:=b4) (by simp) (q▸tp);have bt4:(L.tb=b4)=False:=AAl fun q=>ly.px_out (j:=1) o (b:=b4) (by simp) (q▸tp);have tb5:(b5=L.tb)=False:=AAl fun q=>ly.px_out (j:=1) o (b:=b5) (by simp) (q▸tp);have bt5:(L.tb=b5)=False:=AAl fun q=>ly.px_out (j:=1) o (b:=b5) (by simp) (q▸tp);have ct:(L.c=L.tb)=False:=AAl fun q=>ly.off (i:=0) (j:=1) (by decide) (by simp[px]) (q▸tp);have tl:(L.te.map fun e=>AV.pt e 0).length=s.tickets.length:=by rw[A9];exact ly.tk.el
 have z1:((s.tickets.length+1)*8≤1099511627776)=True:=AAa;have z2:(s.tickets.length+1≤1099511627776)=True:=AAa;have tel:L.te.length=s.tickets.length:=ly.tk.el;obtain⟨gt,hgt⟩:=aC htb;have hbl:(h.set fe (some (.blk g7 (.cells true [I (v+(full-empty))])))).length=n:=(by grind);have walk:runW aB 96 [.pt b0 0,.pt b1 0,.pt b2 0,.pt b3 0,.pt b4 0,.pt b5 0] h=some (.tup [],((h.set fe (some (.blk g7 (.cells true [I (v+(full-empty))])))).set L.tb none).set L.c (some (.blk false (.cells true [.pt L.f.o 0,.pt L.m.o 0,.pt L.p.o 0,.pt L.w.o 0,.sl (n+2) 0 1 (s.tickets.length+1),I s.closed,iL L.kb s.book.length])))++[some (.blk true (.cells true [.str name,.str owner,I (full-empty),.bool false,.bool false])),some (.blk false (.cells true [.pt (n) 0])),some (.blk false (.cells true (L.te.map (fun e=>.pt e 0)++[.pt (n) 0])))]):=by
  rw[qY 96 x96 rfl,hn];unfold x96;dsimp only;(sym=>(simp[Za,Zb,Zc,Zd,Ze,Zf,Zh,Zi,Zl,Zm,Zo,Zv,Zz,Z0,Z8,Z9,ZA,ZF,ZP,ZV,ZX,ZY,Ya,Yb,Yh,Yi,Yl,Yr,Y4,Y5,Y6,Xv,Xx,Wf,Wg,Wh,Wi,Wk,Wl,Wo,Vi,Vp,Vr,Vs,Vu,Vv,V0,V1,V3,V4,V5,V7,V8,V9,VA,VB,VC,Um,Uo,Ur,UM,UO,UQ,UV,UZ,Tb,Te,Tf,Tg,Th,Ti,Tj,Tn,Tp,Tq,Tv,Tx,Tz,T0,T2,T8,T9,TR,TX,TY,Se,Sf,Sg,Si,Sj,Sk,Sw,Sx,Sy,Sz,S2,S3,S8,S9,SA,SC,SD,SF,SG,SL,SM,SN,SQ,SS,SU,SV,SY,Ra,Rc,Rg,Ro,Rp,RX,RY,Qh,QJ,QL,PB,PD,PG,PK,PL,PM,PN,PO,PQ,PS,PT,PV,j0,j1,j2,j3,j4,j5,hc,call,hf5,a1,a2,hn,l0,l1,l2,l4,l5,lf,lc,b0f,b1f,b2f,b4f,b5f,cf,hgt,lt,tf,tc,ct,tel,z1,z2,tb0,tb1,tb2,tb4,tb5,bt0,bt1,bt2,bt4,bt5];all_goals tactic=>exact rfl))
 obtain⟨y1,y2⟩:=lyF.tickNew2 (h':=((h.set fe (some (.blk g7 (.cells true [I (v+(full-empty))])))).set L.tb none).set L.c (some (.blk false (.cells true [.pt L.f.o 0,.pt L.m.o 0,.pt L.p.o 0,.pt L.w.o 0,.sl (n+2) 0 1 (s.tickets.length+1),I s.closed,iL L.kb s.book.length])))++[some (.blk true (.cells true [.str name,.str owner,I (full-empty),.bool false,.bool false])),some (.blk false (.cells true [.pt (n) 0])),some (.blk false (.cells true (L.te.map (fun e=>.pt e 0)++[.pt (n) 0])))]) (k:=⟨name,owner,full-empty,false⟩) (n:=n) (g:=false) (g1:=true) (g2:=false) (g3:=false) (cs:=[.pt L.f.o 0,.pt L.m.o 0,.pt L.p.o 0,.pt L.w.o 0,.sl (n+2) 0 1 (s.tickets.length+1),I s.closed,iL L.kb s.book.length]) hbl (by simp[cB,iL]) (by simp[pT,tkC,Nat.ne_of_gt ht]);refine⟨_,{ L with tb:=n+2,te:=L.te++[n] },walk,by unfold fN;grind,rfl,frF.trans (y2.mono fun b hb=>?_),by
  unfold fN;rw[hm,ha];exact .of rfl (fun b hb=>by
   grind [bY]) (tL rfl) (cV (by grind)) (cV rfl) (cV rfl) (cV rfl)⟩
 rw[B5]at hb;rcases hb with rfl|hb;·exact bF.2 ⟨0,by simp[px]⟩
 ·exact bF.2 ⟨1,F7 _ hb⟩
theorem aNz(ly:Lays h L s){b0 b1 b2 b3 b4 b5 fe j:Nat}{name owner:ByteArray}{full empty v:Int}(o:Out L s [b0,b1,b2,b3,b4,b5])(k0:aI h b0=some (.cells true [.pt L.c 0]))(k1:aI h b1=some (.cells true [.str name]))(k2:aI h b2=some (.cells true [I empty]))(k3:aI h b3=some (.cells true [.pt fe 0]))(k4:aI h b4=some (.cells true [I full]))(k5:aI h b5=some (.cells true [.str owner]))
 (hfe:L.f.es[j]?=some fe) (hj:dV (s.farmers.map (·.1)) owner=some j) (hy:s.farmers[j]?=some (owner,v)) (hb : -1000000000≤v∧v≤1000000000∧0≤empty∧empty≤full∧full≤99999) (hl:s.wagons.length≤1000) (hl2:s.tickets.length≤1000) (hx:dV (s.wagons.map (·.1)) name=none) (ht:s.tickets.length=0) :
 ∃ h' L',runW aB 96 [.pt b0 0,.pt b1 0,.pt b2 0,.pt b3 0,.pt b4 0,.pt b5 0] h=some (.tup [],h')∧Lays h' L' (fN s name owner full empty)∧L'.c=L.c∧Fr (wJ L s) h h'∧Sb h.length L s L' (fN s name owner full empty):=by
 obtain⟨g0,j0⟩:=aC k0;obtain⟨g1,j1⟩:=aC k1;have a1:IntKind.i64.wrap (full-empty)=full-empty:=aE AM AM;have a2:IntKind.i64.wrap (v+(full-empty))=v+(full-empty):=aE AM AM;have fp:fe∈px L s 3:=aAi hfe;have hfv:aI h fe=some (.cells true [I v]):=ly.f.he hfe (by grind);obtain⟨h1,call,hl1,od1,fr1⟩:=ly.w.neww hx (by grind);rw[A9]at fr1;have hm:oG id empty name s.wagons=s.wagons++[(name,empty)]:=vU hx;obtain⟨g6,hc⟩:=aC ly.hc;unfold cB at hc;obtain⟨g9,he9⟩:=aC (od1.he (i:=s.wagons.length) (v:=[I 0]) (e:=h.length+2) (by have:=ly.w.ek;grind) (by grind));obtain⟨lyW,frW⟩:=ly.newW (y:=empty) (g:=g9) od1 fr1;obtain⟨g2,j2⟩:=aC (fr1.keepS k2 (ly.px_out (j:=6) o (by simp)));obtain⟨gc1,hc1⟩:=aC (fr1.keepS ly.hc (ly.off (i:=0) (j:=6) (by decide) (by simp[px])));unfold cB at hc1;obtain⟨gi0,i0⟩:=aC (fr1.keepS k0 (ly.px_out (j:=6) o (by simp)));obtain⟨gi1,i1⟩:=aC (fr1.keepS k1 (ly.px_out (j:=6) o (by simp)));obtain⟨g3,j3⟩:=aC (fr1.keepS k3 (ly.px_out (j:=6) o (by simp)));obtain⟨g4,j4⟩:=aC (fr1.keepS k4 (ly.px_out (j:=6) o (by simp)));obtain⟨g5,j5⟩:=aC (fr1.keepS k5 (ly.px_out (j:=6) o (by simp)));obtain⟨g7,hf5⟩:=aC (fr1.keepS hfv (ly.off (i:=3) (j:=6) (by decide) fp));obtain⟨n,hn⟩:∃ n,h.length=n:=⟨_,rfl⟩;rw[hn]at call hl1 he9 lyW frW;have lyF:=lyW.oldF (g:=g7) (y:=v+(full-empty)) hj hfe;have frF:Fr (wJ L s) h ((h1.set (n+2) (some (.blk g9 (.cells true [I empty])))).set fe (some (.blk g7 (.cells true [I (v+(full-empty))])))):=(Fr.px (j:=6) frW).set (bF.2 ⟨3,fp⟩) _;have b0n:(b0=n+2)=False:=AAl (by grind);have b1n:(b1=n+2)=False:=AAl (by grind);have b2n:(b2=n+2)=False:=AAl (by have:=aJ k2;omega);have b3n:(b3=n+2)=False:=AAl (by grind);have b4n:(b4=n+2)=False:=AAl (by have:=aJ k4;omega);have b5n:(b5=n+2)=False:=AAl (by grind);have fn:(fe=n+2)=False:=AAl (by have:=aJ hfv;omega);have cn2:(L.c=n+2)=False:=AAl (by grind);have nl:(n+2<n+3)=True:=AAa

 have ha:=iG (d:=full-empty) hj (by rw[C4,hy];rfl);have b0f:(b0=fe)=False:=AAl fun q=>ly.px_out (j:=3) o (b:=b0) (by simp) (q▸fp);have b1f:(b1=fe)=False:=AAl fun q=>ly.px_out (j:=3) o (b:=b1) (by simp) (q▸fp);have b2f:(b2=fe)=False:=AAl fun q=>ly.px_out (j:=3) o (b:=b2) (by simp) (q▸fp);have b4f:(b4=fe)=False:=AAl fun q=>ly.px_out (j:=3) o (b:=b4) (by simp) (q▸fp);have b5f:(b5=fe)=False:=AAl fun q=>ly.px_out (j:=3) o (b:=b5) (by simp) (q▸fp);have cf:(L.c=fe)=False:=AAl fun q=>ly.off (i:=3) (j:=0) (by decide) fp (by simp[px,q]);have bl:∀ b c,aI h b=some c→(b<n)=True:=fun b c hb=>AAk (by have:=aJ hb;omega);have l0:=bl _ _ k0;have l1:=bl _ _ k1;have l2:=bl _ _ k2;have l4:=bl _ _ k4;have l5:=bl _ _ k5;have lf:=bl _ _ hfv;have lc:=bl _ _ ly.hc;have up:∀ b,(b<n)=True→(b<n+3)=True:=fun b hb=>AAk (by grind);have u0:=up _ l0;have u1:=up _ l1;have u2:=up _ l2;have u4:=up _ l4;have u5:=up _ l5;have uf:=up _ lf;have uc:=up _ lc;have te0:L.te=[]:=D5 (by rw[ly.tk.el];exact ht);have hv:iL L.tb s.tickets.length = .nilsl:=by rw[ht];rfl
 rw[hv]at hc;rw[hv]at hc1;have hbl:((h1.set (n+2) (some (.blk g9 (.cells true [I empty])))).set fe (some (.blk g7 (.cells true [I (v+(full-empty))])))).length=n+3:=(by grind);have walk:runW aB 96 [.pt b0 0,.pt b1 0,.pt b2 0,.pt b3 0,.pt b4 0,.pt b5 0] h=some (.tup [],((h1.set (n+2) (some (.blk g9 (.cells true [I empty])))).set fe (some (.blk g7 (.cells true [I (v+(full-empty))])))).set L.c (some (.blk false (.cells true [.pt L.f.o 0,.pt L.m.o 0,.pt L.p.o 0,.pt L.w.o 0,.sl (n+5) 0 1 1,I s.closed,iL L.kb s.book.length])))++[some (.blk true (.cells true [.str name,.str owner,I (full-empty),.bool false,.bool false])),some (.blk false (.cells true [.pt (n+3) 0])),some (.blk false (.cells true [.pt (n+3) 0]))]):=by
  rw[qY 96 x96 rfl,hn];unfold x96;dsimp only;(sym=>(simp[Za,Zb,Zc,Zd,Ze,Zf,Zh,Zi,Zl,Zm,Zo,Zv,Zz,Z0,Z8,Z9,ZA,ZF,ZP,ZU,ZV,ZX,ZY,ZZ,Ya,Yb,Yh,Yi,Yl,Yr,Y4,Y5,Y6,Xv,Xx,Wf,Wg,Wh,Wi,Wk,Wl,Wo,Vi,Vp,Vr,Vs,Vu,Vv,V1,V2,V3,V4,V5,V7,V8,V9,VA,VB,VC,Um,Uo,Ur,UM,UO,UQ,UV,UZ,Ta,Te,Tf,Tg,Th,Ti,Tj,Tn,Tp,Tv,Tx,Tz,T0,T2,T9,TR,TX,TY,Se,Sf,Sg,Si,Sj,Sk,Sw,Sx,Sy,Sz,S2,S3,S8,S9,SA,SB,SF,SG,SL,SM,SN,SQ,SU,SV,SX,SY,Ra,Rg,Ro,Rp,RX,Qh,QJ,QK,QL,PB,PD,PG,PK,PL,PM,PN,PO,PQ,PS,PT,PV,j0,j1,j2,j3,j4,j5,hc,call,hf5,a1,a2,hn,l0,l1,l2,l4,l5,lf,lc,b0f,b1f,b2f,b4f,b5f,cf,hl1,b0n,b1n,b2n,b3n,b4n,b5n,fn,cn2,nl,he9,i0,i1,hc1,u0,u1,u2,u4,u5,uf,uc];all_goals tactic=>exact rfl))
 obtain⟨y1,y2⟩:=lyF.tickNew2 (h':=((h1.set (n+2) (some (.blk g9 (.cells true [I empty])))).set fe (some (.blk g7 (.cells true [I (v+(full-empty))])))).set L.c (some (.blk false (.cells true [.pt L.f.o 0,.pt L.m.o 0,.pt L.p.o 0,.pt L.w.o 0,.sl (n+5) 0 1 1,I s.closed,iL L.kb s.book.length])))++[some (.blk true (.cells true [.str name,.str owner,I (full-empty),.bool false,.bool false])),some (.blk false (.cells true [.pt (n+3) 0])),some (.blk false (.cells true [.pt (n+3) 0]))]) (k:=⟨name,owner,full-empty,false⟩) (n:=n+3) (g:=false) (g1:=true) (g2:=false) (g3:=false) (cs:=[.pt L.f.o 0,.pt L.m.o 0,.pt L.p.o 0,.pt L.w.o 0,.sl (n+5) 0 1 1,I s.closed,iL L.kb s.book.length]) hbl (by simp[cB,iL,ht]) (by simp[pT,tkC,ht,te0]);refine⟨_,{ ({ L with w:=⟨L.w.o,L.w.m,n+1,L.w.es++[n+2]⟩ }:CL)with tb:=n+5,te:=L.te++[n+3] },walk,by unfold fN;grind,rfl,frF.trans (y2.mono fun b hb=>?_),by
  unfold fN;rw[hm,ha];exact .of rfl (fun b hb=>by
   grind [bY]) (tL rfl) (cV (by grind)) (cV rfl) (cV rfl) (fun b hb=>by rw[←hn]at hb;exact oM hb)⟩
 rw[B5]at hb;rcases hb with rfl|hb;·exact bF.2 ⟨0,by simp[px]⟩
 ·exact bF.2 ⟨1,F7 _ hb⟩
theorem aNA(ly:Lays h L s){b0 b1 b2 b3 b4 b5 fe j:Nat}{name owner:ByteArray}{full empty v:Int}(o:Out L s [b0,b1,b2,b3,b4,b5])(k0:aI h b0=some (.cells true [.pt L.c 0]))(k1:aI h b1=some (.cells true [.str name]))(k2:aI h b2=some (.cells true [I empty]))(k3:aI h b3=some (.cells true [.pt fe 0]))(k4:aI h b4=some (.cells true [I full]))(k5:aI h b5=some (.cells true [.str owner]))
 (hfe:L.f.es[j]?=some fe) (hj:dV (s.farmers.map (·.1)) owner=some j) (hy:s.farmers[j]?=some (owner,v)) (hb : -1000000000≤v∧v≤1000000000∧0≤empty∧empty≤full∧full≤99999) (hl:s.wagons.length≤1000) (hl2:s.tickets.length≤1000) (hx:dV (s.wagons.map (·.1)) name=none) (ht:0<s.tickets.length) :
 ∃ h' L',runW aB 96 [.pt b0 0,.pt b1 0,.pt b2 0,.pt b3 0,.pt b4 0,.pt b5 0] h=some (.tup [],h')∧Lays h' L' (fN s name owner full empty)∧L'.c=L.c∧Fr (wJ L s) h h'∧Sb h.length L s L' (fN s name owner full empty):=by
 obtain⟨g0,j0⟩:=aC k0;obtain⟨g1,j1⟩:=aC k1;have a1:IntKind.i64.wrap (full-empty)=full-empty:=aE AM AM;have a2:IntKind.i64.wrap (v+(full-empty))=v+(full-empty):=aE AM AM;have fp:fe∈px L s 3:=aAi hfe;have hfv:aI h fe=some (.cells true [I v]):=ly.f.he hfe (by grind);obtain⟨h1,call,hl1,od1,fr1⟩:=ly.w.neww hx (by grind);rw[A9]at fr1;have hm:oG id empty name s.wagons=s.wagons++[(name,empty)]:=vU hx;obtain⟨g6,hc⟩:=aC ly.hc;unfold cB at hc;obtain⟨g9,he9⟩:=aC (od1.he (i:=s.wagons.length) (v:=[I 0]) (e:=h.length+2) (by have:=ly.w.ek;grind) (by grind));obtain⟨lyW,frW⟩:=ly.newW (y:=empty) (g:=g9) od1 fr1;obtain⟨g2,j2⟩:=aC (fr1.keepS k2 (ly.px_out (j:=6) o (by simp)));obtain⟨gc1,hc1⟩:=aC (fr1.keepS ly.hc (ly.off (i:=0) (j:=6) (by decide) (by simp[px])));unfold cB at hc1;obtain⟨gi0,i0⟩:=aC (fr1.keepS k0 (ly.px_out (j:=6) o (by simp)));obtain⟨gi1,i1⟩:=aC (fr1.keepS k1 (ly.px_out (j:=6) o (by simp)));obtain⟨g3,j3⟩:=aC (fr1.keepS k3 (ly.px_out (j:=6) o (by simp)));obtain⟨g4,j4⟩:=aC (fr1.keepS k4 (ly.px_out (j:=6) o (by simp)));obtain⟨g5,j5⟩:=aC (fr1.keepS k5 (ly.px_out (j:=6) o (by simp)));obtain⟨g7,hf5⟩:=aC (fr1.keepS hfv (ly.off (i:=3) (j:=6) (by decide) fp));obtain⟨n,hn⟩:∃ n,h.length=n:=⟨_,rfl⟩;rw[hn]at call hl1 he9 lyW frW;have lyF:=lyW.oldF (g:=g7) (y:=v+(full-empty)) hj hfe;have frF:Fr (wJ L s) h ((h1.set (n+2) (some (.blk g9 (.cells true [I empty])))).set fe (some (.blk g7 (.cells true [I (v+(full-empty))])))):=(Fr.px (j:=6) frW).set (bF.2 ⟨3,fp⟩) _;have b0n:(b0=n+2)=False:=AAl (by grind);have b1n:(b1=n+2)=False:=AAl (by grind);have b2n:(b2=n+2)=False:=AAl (by have:=aJ k2;omega);have b3n:(b3=n+2)=False:=AAl (by grind);have b4n:(b4=n+2)=False:=AAl (by have:=aJ k4;omega);have b5n:(b5=n+2)=False:=AAl (by grind);have fn:(fe=n+2)=False:=AAl (by have:=aJ hfv;omega);have cn2:(L.c=n+2)=False:=AAl (by grind);have nl:(n+2<n+3)=True:=AAa

 have ha:=iG (d:=full-empty) hj (by rw[C4,hy];rfl);have b0f:(b0=fe)=False:=AAl fun q=>ly.px_out (j:=3) o (b:=b0) (by simp) (q▸fp);have b1f:(b1=fe)=False:=AAl fun q=>ly.px_out (j:=3) o (b:=b1) (by simp) (q▸fp);have b2f:(b2=fe)=False:=AAl fun q=>ly.px_out (j:=3) o (b:=b2) (by simp) (q▸fp);have b4f:(b4=fe)=False:=AAl fun q=>ly.px_out (j:=3) o (b:=b4) (by simp) (q▸fp);have b5f:(b5=fe)=False:=AAl fun q=>ly.px_out (j:=3) o (b:=b5) (by simp) (q▸fp);have cf:(L.c=fe)=False:=AAl fun q=>ly.off (i:=3) (j:=0) (by decide) fp (by simp[px,q]);have bl:∀ b c,aI h b=some c→(b<n)=True:=fun b c hb=>AAk (by have:=aJ hb;omega);have l0:=bl _ _ k0;have l1:=bl _ _ k1;have l2:=bl _ _ k2;have l4:=bl _ _ k4;have l5:=bl _ _ k5;have lf:=bl _ _ hfv;have lc:=bl _ _ ly.hc;have up:∀ b,(b<n)=True→(b<n+3)=True:=fun b hb=>AAk (by grind);have u0:=up _ l0;have u1:=up _ l1;have u2:=up _ l2;have u4:=up _ l4;have u5:=up _ l5;have uf:=up _ lf;have uc:=up _ lc;obtain⟨tk0,tk1⟩:∃ k,s.tickets[0]?=some k:=⟨_,A8 ht⟩;obtain⟨te0,te1,te2,htb,te4⟩:=ly.tk.at tk1;have tp:L.tb∈px L s 1:=F7 _ (bY.2 ⟨ht,rfl⟩);have hv:=eY (b:=L.tb) ht;rw[hv]at hc;have lt:=bl _ _ htb;have tf:(L.tb=fe)=False:=AAl fun q=>ly.off (i:=3) (j:=1) (by decide) fp (q▸tp);have tc:(L.tb=L.c)=False:=AAl fun q=>ly.off (i:=0) (j:=1) (by decide) (by simp[px]) (q▸tp);have tb0:(b0=L.tb)=False:=AAl fun q=>ly.px_out (j:=1) o (b:=b0) (by simp) (q▸tp);have bt0:(L.tb=b0)=False:=AAl fun q=>ly.px_out (j:=1) o (b:=b0) (by simp) (q▸tp);have tb1:(b1=L.tb)=False:=AAl fun q=>ly.px_out (j:=1) o (b:=b1) (by simp) (q▸tp);have bt1:(L.tb=b1)=False:=AAl fun q=>ly.px_out (j:=1) o (b:=b1) (by simp) (q▸tp);have tb2:(b2=L.tb)=False:=AAl fun q=>ly.px_out (j:=1) o (b:=b2) (by simp) (q▸tp);have bt2:(L.tb=b2)=False:=AAl fun q=>ly.px_out (j:=1) o (b:=b2) (by simp) (q▸tp);have tb4:(b4=L.tb)=False:=AAl fun q=>ly.px_out (j:=1) o (b:=b4) (by simp) (q▸tp);have bt4:(L.tb=b4)=False:=AAl fun q=>ly.px_out (j:=1) o (b:=b4) (by simp) (q▸tp);have tb5:(b5=L.tb)=False:=AAl fun q=>ly.px_out (j:=1) o (b:=b5) (by simp) (q▸tp);have bt5:(L.tb=b5)=False:=AAl fun q=>ly.px_out (j:=1) o (b:=b5) (by simp) (q▸tp);have ct:(L.c=L.tb)=False:=AAl fun q=>ly.off (i:=0) (j:=1) (by decide) (by simp[px]) (q▸tp);have tl:(L.te.map fun e=>AV.pt e 0).length=s.tickets.length:=by rw[A9];exact ly.tk.el
 have z1:((s.tickets.length+1)*8≤1099511627776)=True:=AAa;have z2:(s.tickets.length+1≤1099511627776)=True:=AAa;have tel:L.te.length=s.tickets.length:=ly.tk.el;obtain⟨gt,hgt⟩:=aC (fr1.keepS htb (ly.off (i:=1) (j:=6) (by decide) tp));have tn:(L.tb=n+2)=False:=AAl (by grind);have ut:=up _ lt;rw[hv]at hc1;have hbl:((h1.set (n+2) (some (.blk g9 (.cells true [I empty])))).set fe (some (.blk g7 (.cells true [I (v+(full-empty))])))).length=n+3:=(by grind);have walk:runW aB 96 [.pt b0 0,.pt b1 0,.pt b2 0,.pt b3 0,.pt b4 0,.pt b5 0] h=some (.tup [],(((h1.set (n+2) (some (.blk g9 (.cells true [I empty])))).set fe (some (.blk g7 (.cells true [I (v+(full-empty))])))).set L.tb none).set L.c (some (.blk false (.cells true [.pt L.f.o 0,.pt L.m.o 0,.pt L.p.o 0,.pt L.w.o 0,.sl (n+5) 0 1 (s.tickets.length+1),I s.closed,iL L.kb s.book.length])))++[some (.blk true (.cells true [.str name,.str owner,I (full-empty),.bool false,.bool false])),some (.blk false (.cells true [.pt (n+3) 0])),some (.blk false (.cells true (L.te.map (fun e=>.pt e 0)++[.pt (n+3) 0])))]):=by
  rw[qY 96 x96 rfl,hn];unfold x96;dsimp only;(sym=>(simp[Za,Zb,Zc,Zd,Ze,Zf,Zh,Zi,Zl,Zm,Zo,Zv,Zz,Z0,Z8,Z9,ZA,ZF,ZP,ZU,ZV,ZX,ZY,ZZ,Ya,Yb,Yh,Yi,Yl,Yr,Y4,Y5,Y6,Xv,Xx,Wf,Wg,Wh,Wi,Wk,Wl,Wo,Vi,Vp,Vr,Vs,Vu,Vv,V0,V1,V3,V4,V5,V7,V8,V9,VA,VB,VC,Um,Uo,Ur,UM,UO,UQ,UV,UZ,Ta,Te,Tf,Tg,Th,Ti,Tj,Tn,Tp,Tq,Tv,Tx,Tz,T0,T2,T8,T9,TR,TX,TY,Se,Sf,Sg,Si,Sj,Sk,Sw,Sx,Sy,Sz,S2,S3,S8,S9,SA,SC,SD,SF,SG,SL,SM,SN,SQ,SS,SU,SV,SY,Ra,Rg,Ro,Rp,RX,RY,Qh,QJ,QL,PB,PD,PG,PK,PL,PM,PN,PO,PQ,PS,PT,PV,j0,j1,j2,j3,j4,j5,hc,call,hf5,a1,a2,hn,l0,l1,l2,l4,l5,lf,lc,b0f,b1f,b2f,b4f,b5f,cf,hl1,b0n,b1n,b2n,b3n,b4n,b5n,fn,cn2,nl,he9,i0,i1,hc1,u0,u1,u2,u4,u5,uf,uc,hgt,lt,tf,tc,ct,tel,z1,z2,tb0,tb1,tb2,tb4,tb5,bt0,bt1,bt2,bt4,bt5,tn,ut];all_goals tactic=>exact rfl))
 obtain⟨y1,y2⟩:=lyF.tickNew2 (h':=(((h1.set (n+2) (some (.blk g9 (.cells true [I empty])))).set fe (some (.blk g7 (.cells true [I (v+(full-empty))])))).set L.tb none).set L.c (some (.blk false (.cells true [.pt L.f.o 0,.pt L.m.o 0,.pt L.p.o 0,.pt L.w.o 0,.sl (n+5) 0 1 (s.tickets.length+1),I s.closed,iL L.kb s.book.length])))++[some (.blk true (.cells true [.str name,.str owner,I (full-empty),.bool false,.bool false])),some (.blk false (.cells true [.pt (n+3) 0])),some (.blk false (.cells true (L.te.map (fun e=>.pt e 0)++[.pt (n+3) 0])))]) (k:=⟨name,owner,full-empty,false⟩) (n:=n+3) (g:=false) (g1:=true) (g2:=false) (g3:=false) (cs:=[.pt L.f.o 0,.pt L.m.o 0,.pt L.p.o 0,.pt L.w.o 0,.sl (n+5) 0 1 (s.tickets.length+1),I s.closed,iL L.kb s.book.length]) hbl (by simp[cB,iL]) (by simp[pT,tkC,Nat.ne_of_gt ht]);refine⟨_,{ ({ L with w:=⟨L.w.o,L.w.m,n+1,L.w.es++[n+2]⟩ }:CL)with tb:=n+5,te:=L.te++[n+3] },walk,by unfold fN;grind,rfl,frF.trans (y2.mono fun b hb=>?_),by
  unfold fN;rw[hm,ha];exact .of rfl (fun b hb=>by
   grind [bY]) (tL rfl) (cV (by grind)) (cV rfl) (cV rfl) (fun b hb=>by rw[←hn]at hb;exact oM hb)⟩
 rw[B5]at hb;rcases hb with rfl|hb;·exact bF.2 ⟨0,by simp[px]⟩
 ·exact bF.2 ⟨1,F7 _ hb⟩
theorem bEr(ly:Lays h L s){b0 b1 b2 b3 b4 b5 fe j:Nat}{name owner:ByteArray}{full empty v:Int}(o:Out L s [b0,b1,b2,b3,b4,b5])(k0:aI h b0=some (.cells true [.pt L.c 0]))(k1:aI h b1=some (.cells true [.str name]))(k2:aI h b2=some (.cells true [I empty]))(k3:aI h b3=some (.cells true [.pt fe 0]))(k4:aI h b4=some (.cells true [I full]))(k5:aI h b5=some (.cells true [.str owner]))
 (hfe:L.f.es[j]?=some fe) (hj:dV (s.farmers.map (·.1)) owner=some j) (hy:s.farmers[j]?=some (owner,v)) (hb : -1000000000≤v∧v≤1000000000∧0≤empty∧empty≤full∧full≤99999) (hl:s.wagons.length≤1000) (hl2:s.tickets.length≤1000) :
 ∃ h' L',runW aB 96 [.pt b0 0,.pt b1 0,.pt b2 0,.pt b3 0,.pt b4 0,.pt b5 0] h=some (.tup [],h')∧Lays h' L' (fN s name owner full empty)∧L'.c=L.c∧Fr (wJ L s) h h'∧Sb h.length L s L' (fN s name owner full empty):=by
 cases hx:dV (s.wagons.map (·.1)) name with
 | some i =>
   by_cases ht:s.tickets.length=0;·exact aNx ly o k0 k1 k2 k3 k4 k5 hfe hj hy hb hl hl2 hx ht
   ·exact aNy ly o k0 k1 k2 k3 k4 k5 hfe hj hy hb hl hl2 hx AM
 | none =>
   by_cases ht:s.tickets.length=0;·exact aNz ly o k0 k1 k2 k3 k4 k5 hfe hj hy hb hl hl2 hx ht
   ·exact aNA ly o k0 k1 k2 k3 k4 k5 hfe hj hy hb hl hl2 hx AM
def wWg(f:ByteArray)(name t1 t2 owner:ByteArray)(z full empty z2:Int):AV:=.agg [.str f,.fs [[.str name],[.str t1],[.str t2],[.str owner]],.fs [[I z],[I full],[I empty],[I z2]]]
def kZ(c:Nat)(f name t1 t2 owner:ByteArray)(z full empty z2:Int)(r:XH):XH:=some (.blk false (.cells true [.pt c 0]))::some (.blk true (.cells true [.str f,.fs [[.str name],[.str t1],[.str t2],[.str owner]],.fs [[I z],[I full],[I empty],[I z2]]]))::some (.blk true (.cells true [.str name]))::some (.blk true (.cells true [I full]))::some (.blk true (.cells true [I empty]))::some (.blk true (.cells true [.str owner]))::r
variable{f name t1 t2 owner:ByteArray}{z full empty z2:Int}
theorem bDi(ly:Lays h L s)(hx:dV (s.farmers.map (·.1)) owner=none):CalP Tryz.prog aB 58 [.pt L.c 0,wWg f name t1 t2 owner z full empty z2] h (.ifc 84 (.agg [I 5])) (h++kZ L.c f name t1 t2 owner z full empty z2 []):=by
 refine CalP.of (d:=x58) (e':=aZ [] []) aA rfl (by simp[x58]) rfl ?_;unfold x58;dsimp only;obtain⟨n,hn⟩:∃ n,h.length=n:=⟨_,rfl⟩;obtain⟨g,hc⟩:=aC ly.hc;unfold cB at hc;have cn:(L.c<n)=True:=AAk (by rw[←hn];exact aJ ly.hc);have na:∀ a b:Nat,(n+a=n+b)=(a=b):=fun a b=>by simp
 have ly2:=ly.ext (kZ L.c f name t1 t2 owner z full empty z2 []);refine PanX.seqR (K:=58) aA rfl [2,3] (vs:=[.pt n 0,.pt (n+1) 0]) (h1:=h++[some (.blk false (.cells true [.pt L.c 0])),some (.blk true (.cells true [.str f,.fs [[.str name],[.str t1],[.str t2],[.str owner]],.fs [[I z],[I full],[I empty],[I z2]]]))]) (by rw[hn];unfold wWg; (exact dG hn)) ?_;refine PanX.seqR (K:=58) aA rfl [2,3,5,6,7,8] (vs:=[.pt n 0,.pt (n+1) 0,.pt (n+2) 0,.pt (n+3) 0,.pt (n+4) 0,.pt (n+5) 0]) (h1:=h++kZ L.c f name t1 t2 owner z full empty z2 []) (by unfold kZ; (exact RS2 hn na)) ?_;refine PanX.seqL ?_;exact PanX.regU (fr:=[9]) (p:=[⟨0,some 27,.load false 1 (.t 2),none⟩,⟨1,some 28,.nilck (.t 27),none⟩,⟨2,some 29,.fld 0 (.t 28),none⟩,⟨3,some 30,.load false 1 (.t 29),none⟩,⟨4,some 31,.load false 1 (.t 8),none⟩]) (post:=[⟨6,some 9,.alloc [.nilpt],none⟩,⟨7,none,.store 1 (.t 9) (.t 32) [],none⟩]) aA [] (g:=63) (first:=[]) (cap:=[]) (args:=[.pt L.f.o 0,.str owner]) (vs:=[]) rfl rfl rfl (by unfold kZ; (exact RS3 hc hn cn)) (ly2.f.nonef hx)
theorem aPb(ly:Lays h L s){j:Nat}(hj:dV (s.farmers.map (·.1)) owner=some j)(r:XH):∃ fe,L.f.es[j]?=some fe∧runW aB 63 [.pt L.f.o 0,.str owner] (h++r)=some (.pt fe 0,h++r):=by
 obtain⟨fe,v,h1,h2,h3,h4⟩:=(ly.ext r).f.getf hj
 grind
theorem bIu(ly:Lays h L s){j:Nat}(hj:dV (s.farmers.map (·.1)) owner=some j)(hle:¬empty≤full):∃ fe,CalP Tryz.prog aB 58 [.pt L.c 0,wWg f name t1 t2 owner z full empty z2] h (.ifc 84 (.agg [I 10])) (h++kZ L.c f name t1 t2 owner z full empty z2 [some (.blk false (.cells true [.pt fe 0]))]):=by
 obtain⟨fe,hfe,call⟩:=aPb ly hj (kZ L.c f name t1 t2 owner z full empty z2 []);refine⟨fe,CalP.of (d:=x58) (e':=aZ [] []) aA rfl (by simp[x58]) rfl ?_⟩;unfold x58;dsimp only;obtain⟨n,hn⟩:∃ n,h.length=n:=⟨_,rfl⟩;obtain⟨g,hc⟩:=aC ly.hc;unfold cB at hc;have cn:(L.c<n)=True:=AAk (by rw[←hn];exact aJ ly.hc);have na:∀ a b:Nat,(n+a=n+b)=(a=b):=fun a b=>by simp
 have tle:(empty≤full)=False:=AAl hle;refine PanX.seqR (K:=58) aA rfl [2,3] (vs:=[.pt n 0,.pt (n+1) 0]) (h1:=h++[some (.blk false (.cells true [.pt L.c 0])),some (.blk true (.cells true [.str f,.fs [[.str name],[.str t1],[.str t2],[.str owner]],.fs [[I z],[I full],[I empty],[I z2]]]))]) (by rw[hn];unfold wWg; (exact dG hn)) ?_;refine PanX.seqR (K:=58) aA rfl [2,3,5,6,7,8] (vs:=[.pt n 0,.pt (n+1) 0,.pt (n+2) 0,.pt (n+3) 0,.pt (n+4) 0,.pt (n+5) 0]) (h1:=h++kZ L.c f name t1 t2 owner z full empty z2 []) (by unfold kZ; (exact RS2 hn na)) ?_;refine PanX.seqR (K:=58) aA rfl [2,3,5,6,7,8,9] (vs:=[.pt n 0,.pt (n+1) 0,.pt (n+2) 0,.pt (n+3) 0,.pt (n+4) 0,.pt (n+5) 0,.pt (n+6) 0]) (h1:=h++kZ L.c f name t1 t2 owner z full empty z2 [some (.blk false (.cells true [.pt fe 0]))]) (by unfold kZ at call ⊢; (exact RS5 hn na hc cn call)) ?_;refine PanX.seqL ?_;exact PanX.reg (p:=[⟨0,some 33,.load false 1 (.t 7),none⟩,⟨0,some 34,.load false 1 (.t 6),none⟩,⟨0,some 35,.bin .leq (.t 33) (.t 34),none⟩]) (post:=[]) aA [] (g:=24) (first:=[]) (cap:=[]) (args:=[.bool false,I 10]) (vs:=[]) rfl rfl (by unfold kZ; (exact RS2 hn tle)) (c58 10 _)
theorem w90(ly:Lays h L s){j:Nat}(hj:dV (s.farmers.map (·.1)) owner=some j)(hle:empty≤full)(hw:∀ i v,dV (s.wagons.map (·.1)) name=some i→(s.wagons.map (·.2))[i]?=some v→v-500≤empty∧empty≤v+500)(hb:∀ p∈s.wagons,0≤p.2∧p.2≤99999) :
 ∃ fe,L.f.es[j]?=some fe∧runW aB 58 [.pt L.c 0,wWg f name t1 t2 owner z full empty z2] h=some (.fn (.func 96) [] [.pt h.length 0,.pt (h.length+2) 0,.pt (h.length+4) 0,.pt (h.length+6) 0,.pt (h.length+3) 0,.pt (h.length+5) 0],h++kZ L.c f name t1 t2 owner z full empty z2 [some (.blk false (.cells true [.pt fe 0]))]):=by
 obtain⟨fe,hfe,call⟩:=aPb ly hj (kZ L.c f name t1 t2 owner z full empty z2 []);refine⟨fe,hfe,?_⟩;obtain⟨n,hn⟩:∃ n,h.length=n:=⟨_,rfl⟩;obtain⟨g,hc⟩:=aC ly.hc;unfold cB at hc;have cn:(L.c<n)=True:=AAk (by rw[←hn];exact aJ ly.hc);have na:∀ a b:Nat,(n+a=n+b)=(a=b):=fun a b=>by simp
 have tle:(empty≤full)=True:=AAk hle;obtain⟨gw,hwo⟩:=ly.w.ho;obtain⟨gm,hwm⟩:=ly.w.hm;have won:(L.w.o<n)=True:=AAk (by rw[←hn];exact ly.w.lts.1);have wmn:(L.w.m<n)=True:=AAk (by rw[←hn];exact ly.w.lts.2.1);have m1:=wH 10;have m2:=wH 22;rw[qY 58 x58 rfl,hn];unfold x58;dsimp only;unfold kZ wWg at *;rcases hx:dV (s.wagons.map (·.1)) name with _|i
 ·have hf:=ly.w.miss hx
  (exact oI hn hc cn na tle call hwo hwm won wmn m1 hf aG)
 ·obtain⟨e,v,he,hv,hf,hev⟩:=ly.w.found hx
  obtain⟨y,hy⟩:=uI hx;rw[C4,hy]at hv;cases hv;have hev:aI h e=some (.cells true [I y]):=hev;obtain⟨ge,hee⟩:=aC hev;have hww:=hw i y hx (by grind);have hbb:=hb _ (A5 hy);simp only at hbb;have een:(e<n)=True:=AAk (by rw[←hn];exact aJ hev);have v1:IntKind.i64.wrap (y-500)=y-500:=aE AM AM;have v2:IntKind.i64.wrap (y+500)=y+500:=aE AM AM;have c35:=w35 (y-500) empty (y+500);rw[AAi hww.1,AAi hww.2]at c35;(exact lR hn hc cn na tle call hwo hwm won wmn m1 hf hee een v1 v2 c35 m2 aG aG)
theorem bIt(ly:Lays h L s){i j:Nat}{y:Int}(hj:dV (s.farmers.map (·.1)) owner=some j)(hle:empty≤full)(hx:dV (s.wagons.map (·.1)) name=some i)(hy:(s.wagons.map (·.2))[i]?=some y)(hw:¬(y-500≤empty∧empty≤y+500))(hb:∀ p∈s.wagons,0≤p.2∧p.2≤99999):∃ fe,CalP Tryz.prog aB 58 [.pt L.c 0,wWg f name t1 t2 owner z full empty z2] h (.ifc 84 (.agg [I 22])) (h++kZ L.c f name t1 t2 owner z full empty z2 [some (.blk false (.cells true [.pt fe 0]))]):=by
 obtain⟨fe,hfe,call⟩:=aPb ly hj (kZ L.c f name t1 t2 owner z full empty z2 []);refine⟨fe,CalP.of (d:=x58) (e':=aZ [] []) aA rfl (by simp[x58]) rfl ?_⟩;unfold x58;dsimp only;obtain⟨n,hn⟩:∃ n,h.length=n:=⟨_,rfl⟩;obtain⟨g,hc⟩:=aC ly.hc;unfold cB at hc;have cn:(L.c<n)=True:=AAk (by rw[←hn];exact aJ ly.hc);have na:∀ a b:Nat,(n+a=n+b)=(a=b):=fun a b=>by simp
 have tle:(empty≤full)=True:=AAk hle;obtain⟨gw,hwo⟩:=ly.w.ho;obtain⟨gm,hwm⟩:=ly.w.hm;have won:(L.w.o<n)=True:=AAk (by rw[←hn];exact ly.w.lts.1);have wmn:(L.w.m<n)=True:=AAk (by rw[←hn];exact ly.w.lts.2.1);have m1:=wH 10;obtain⟨e,v,he,hv,hf,hev⟩:=ly.w.found hx;rw[C4]at hv hy;obtain⟨⟨q1,q2⟩,hq,hy⟩:=A3.1 hy;have hy:q2=y:=hy;subst hy;rw[hq]at hv;cases hv;have hev:aI h e=some (.cells true [I q2]):=hev;obtain⟨ge,hee⟩:=aC hev;have hbb:=hb _ (A5 hq);simp only at hbb;have een:(e<n)=True:=AAk (by rw[←hn];exact aJ hev);have v1:IntKind.i64.wrap (q2-500)=q2-500:=aE AM AM;have v2:IntKind.i64.wrap (q2+500)=q2+500:=aE AM AM;have c35:=w35 (q2-500) empty (q2+500);have hdd:(decide (q2-500≤empty)&&decide (empty≤q2+500))=false:=by
  grind
 rw[hdd]at c35;refine PanX.seqR (K:=58) aA rfl [2,3] (vs:=[.pt n 0,.pt (n+1) 0]) (h1:=h++[some (.blk false (.cells true [.pt L.c 0])),some (.blk true (.cells true [.str f,.fs [[.str name],[.str t1],[.str t2],[.str owner]],.fs [[I z],[I full],[I empty],[I z2]]]))]) (by rw[hn];unfold wWg; (exact dG hn)) ?_;refine PanX.seqR (K:=58) aA rfl [2,3,5,6,7,8] (vs:=[.pt n 0,.pt (n+1) 0,.pt (n+2) 0,.pt (n+3) 0,.pt (n+4) 0,.pt (n+5) 0]) (h1:=h++kZ L.c f name t1 t2 owner z full empty z2 []) (by unfold kZ; (exact RS2 hn na)) ?_;refine PanX.seqR (K:=58) aA rfl [2,3,5,6,7,8,9] (vs:=[.pt n 0,.pt (n+1) 0,.pt (n+2) 0,.pt (n+3) 0,.pt (n+4) 0,.pt (n+5) 0,.pt (n+6) 0]) (h1:=h++kZ L.c f name t1 t2 owner z full empty z2 [some (.blk false (.cells true [.pt fe 0]))]) (by unfold kZ at call ⊢; (exact RS5 hn na hc cn call)) ?_;refine PanX.seqR (K:=58) aA rfl [2,3,5,6,7,8,9] (vs:=[.pt n 0,.pt (n+1) 0,.pt (n+2) 0,.pt (n+3) 0,.pt (n+4) 0,.pt (n+5) 0,.pt (n+6) 0]) (h1:=h++kZ L.c f name t1 t2 owner z full empty z2 [some (.blk false (.cells true [.pt fe 0]))]) (by unfold kZ; (exact RS3 hn tle m1)) ?_;refine PanX.seqL ?_;refine PanX.seqR (K:=58) aA rfl [7,10] (vs:=[.pt (n+4) 0,.pt e 0]) (h1:=h++kZ L.c f name t1 t2 owner z full empty z2 [some (.blk false (.cells true [.pt fe 0]))]) (by unfold kZ; (exact RS9 hn hc cn hwo hwm won wmn hf aG)) ?_;refine PanX.seqR (K:=58) aA rfl [7,10,47] (vs:=[.pt (n+4) 0,.pt e 0,.bool true]) (h1:=h++kZ L.c f name t1 t2 owner z full empty z2 [some (.blk false (.cells true [.pt fe 0]))]) (by (exact RS0)) ?_;refine PanX.condT rfl ?_;exact PanX.regU (fr:=[]) (p:=[⟨0,some 48,.mv (.t 10),none⟩,⟨1,some 49,.nilck (.t 48),none⟩,⟨2,some 50,.fld 0 (.t 49),none⟩,⟨3,some 51,.load false 1 (.t 50),none⟩,⟨4,some 52,.bin .sub (.t 51) (.c (.int .i64 500)),none⟩,⟨5,some 53,.load false 1 (.t 7),none⟩,⟨6,some 54,.mv (.t 10),none⟩,⟨7,some 55,.nilck (.t 54),none⟩,⟨8,some 56,.fld 0 (.t 55),none⟩,⟨9,some 57,.load false 1 (.t 56),none⟩,⟨10,some 58,.bin .add (.t 57) (.c (.int .i64 500)),none⟩,⟨11,some 59,.callf false (.c (.fn (.func 54) [] [])) [(.t 52),(.t 53),(.t 58)] [],none⟩]) (post:=[]) aA [] (g:=24) (first:=[]) (cap:=[]) (args:=[.bool false,I 22]) (vs:=[]) rfl rfl rfl (by unfold kZ; (exact RS7 hn hee een v1 v2 c35 aG)) (c58 22 _)
variable{h h' h1:XH}{L:CL}{s:dU}{x:ByteArray}
theorem lI:aY .eql AAo AAo=some (.bool true):=by kernel_rfl
theorem rZ:aY .eql AAp AAo=some (.bool false):=by kernel_rfl
theorem tP:aY .eql AAp AAp=some (.bool true):=by kernel_rfl
theorem tQ:aY .eql AAq AAo=some (.bool false):=by kernel_rfl
theorem wV:aY .eql AAq AAp=some (.bool false):=by kernel_rfl
theorem zF:aY .eql AAq AAq=some (.bool true):=by kernel_rfl
theorem sE:aY .eql AAr AAo=some (.bool false):=by kernel_rfl
theorem tV:aY .eql AAr AAp=some (.bool false):=by kernel_rfl
theorem wY:aY .eql AAr AAq=some (.bool false):=by kernel_rfl
theorem tW:aY .eql AAr AAr=some (.bool true):=by kernel_rfl
theorem sD:aY .eql AAs AAo=some (.bool false):=by kernel_rfl
theorem tR:aY .eql AAs AAp=some (.bool false):=by kernel_rfl
theorem wX:aY .eql AAs AAq=some (.bool false):=by kernel_rfl
theorem tU:aY .eql AAs AAr=some (.bool false):=by kernel_rfl
theorem tT:aY .eql AAs AAs=some (.bool true):=by kernel_rfl
theorem wW:aY .eql AAt AAo=some (.bool false):=by kernel_rfl
theorem zG:aY .eql AAt AAp=some (.bool false):=by kernel_rfl
theorem aBi:aY .eql AAt AAq=some (.bool false):=by kernel_rfl
theorem zJ:aY .eql AAt AAr=some (.bool false):=by kernel_rfl
theorem zI:aY .eql AAt AAs=some (.bool false):=by kernel_rfl
theorem aCy:aY .eql AAt AAt=some (.bool true):=by kernel_rfl
theorem aEn:aY .eql AAu AAo=some (.bool false):=by kernel_rfl
theorem aFZ:aY .eql AAu AAp=some (.bool false):=by kernel_rfl
theorem aHw:aY .eql AAu AAq=some (.bool false):=by kernel_rfl
theorem aGb:aY .eql AAu AAr=some (.bool false):=by kernel_rfl
theorem aGa:aY .eql AAu AAs=some (.bool false):=by kernel_rfl
theorem aJb:aY .eql AAu AAt=some (.bool false):=by kernel_rfl
theorem aBy:aY .eql AAv AAo=some (.bool false):=by kernel_rfl
theorem aCr:aY .eql AAv AAp=some (.bool false):=by kernel_rfl
theorem aEk:aY .eql AAv AAq=some (.bool false):=by kernel_rfl
theorem aCt:aY .eql AAv AAr=some (.bool false):=by kernel_rfl
theorem aCs:aY .eql AAv AAs=some (.bool false):=by kernel_rfl
theorem aFX:aY .eql AAv AAt=some (.bool false):=by kernel_rfl
theorem aAE:aY .eql AAw AAo=some (.bool false):=by kernel_rfl
theorem aBz:aY .eql AAw AAp=some (.bool false):=by kernel_rfl
theorem aCu:aY .eql AAw AAq=some (.bool false):=by kernel_rfl
theorem aBB:aY .eql AAw AAr=some (.bool false):=by kernel_rfl
theorem aBA:aY .eql AAw AAs=some (.bool false):=by kernel_rfl
theorem aEl:aY .eql AAw AAt=some (.bool false):=by kernel_rfl
theorem aCq:aY .eql AAx AAo=some (.bool false):=by kernel_rfl
theorem aEh:aY .eql AAx AAp=some (.bool false):=by kernel_rfl
theorem aFW:aY .eql AAx AAq=some (.bool false):=by kernel_rfl
theorem aEj:aY .eql AAx AAr=some (.bool false):=by kernel_rfl
theorem aEi:aY .eql AAx AAs=some (.bool false):=by kernel_rfl
theorem aHv:aY .eql AAx AAt=some (.bool false):=by kernel_rfl
theorem aCz:aY .eql AAy AAo=some (.bool false):=by kernel_rfl
theorem aEo:aY .eql AAy AAp=some (.bool false):=by kernel_rfl
theorem aGc:aY .eql AAy AAq=some (.bool false):=by kernel_rfl
theorem aEq:aY .eql AAy AAr=some (.bool false):=by kernel_rfl
theorem aEp:aY .eql AAy AAs=some (.bool false):=by kernel_rfl
theorem aHx:aY .eql AAy AAt=some (.bool false):=by kernel_rfl
theorem aBC:aY .eql AAz AAo=some (.bool false):=by kernel_rfl
theorem aCv:aY .eql AAz AAp=some (.bool false):=by kernel_rfl
theorem aEm:aY .eql AAz AAq=some (.bool false):=by kernel_rfl
theorem aCx:aY .eql AAz AAr=some (.bool false):=by kernel_rfl
theorem aCw:aY .eql AAz AAs=some (.bool false):=by kernel_rfl
theorem aFY:aY .eql AAz AAt=some (.bool false):=by kernel_rfl
theorem aNw(ly:Lays h L s)(hcl:s.closed<s.tickets.length) :
 runW aB 27 [.pt L.c 0,.agg [.str AAr,.fs [],.fs []]] h=some (.fn (.func 60) [] [.pt h.length 0],h++[some (.blk false (.cells true [.pt L.c 0])),some (.blk true (.cells true [.str AAr,.fs [],.fs []]))]):=by
 obtain⟨n,hn⟩:∃ n,h.length=n:=⟨_,rfl⟩;obtain⟨g,hc⟩:=aC ly.hc;unfold cB at hc;have cn:(L.c<n)=True:=AAk (by rw[←hn];exact aJ ly.hc);rw[eY AM]at hc;have t1:((s.closed:Int)<(s.tickets.length:Int))=True:=AAa;have m1:=wH 4;rw[qY 27 nG rfl,hn];unfold nG;dsimp only;(exact RS9 hn hc cn t1 m1 sE tV wY tW)
theorem aUV{c:Nat}{z0:Int}:runW aB 27 [.pt c 0,.agg [.str AAu,.fs [[.str x]],.fs [[I z0]]]] h=some (.nilfn,h++[some (.blk false (.cells true [.pt c 0])),some (.blk true (.cells true [.str AAu,.fs [[.str x]],.fs [[I z0]]]))]):=by
 obtain⟨n,hn⟩:∃ n,h.length=n:=⟨_,rfl⟩;rw[qY 27 nG rfl,hn];unfold nG;dsimp only;(exact RS7 hn aEn aFZ aHw aGb aGa aJb)
theorem aNt{c:Nat}  : runW aB 27 [.pt c 0,.agg [.str AAv,.fs [],.fs []]] h=some (.nilfn,h++[some (.blk false (.cells true [.pt c 0])),some (.blk true (.cells true [.str AAv,.fs [],.fs []]))]):=by
 obtain⟨n,hn⟩:∃ n,h.length=n:=⟨_,rfl⟩;rw[qY 27 nG rfl,hn];unfold nG;dsimp only;(exact RS7 hn aBy aCr aEk aCt aCs aFX)
theorem aLD{c:Nat}{u1:ByteArray}{i:Int}:runW aB 27 [.pt c 0,.agg [.str AAw,.fs [[.str u1]],.fs [[I i]]]] h=some (.nilfn,h++[some (.blk false (.cells true [.pt c 0])),some (.blk true (.cells true [.str AAw,.fs [[.str u1]],.fs [[I i]]]))]):=by
 obtain⟨n,hn⟩:∃ n,h.length=n:=⟨_,rfl⟩;rw[qY 27 nG rfl,hn];unfold nG;dsimp only;(exact RS7 hn aAE aBz aCu aBB aBA aEl)
theorem aRk{c:Nat}{z0:Int}:runW aB 27 [.pt c 0,.agg [.str AAx,.fs [[.str x]],.fs [[I z0]]]] h=some (.nilfn,h++[some (.blk false (.cells true [.pt c 0])),some (.blk true (.cells true [.str AAx,.fs [[.str x]],.fs [[I z0]]]))]):=by
 obtain⟨n,hn⟩:∃ n,h.length=n:=⟨_,rfl⟩;rw[qY 27 nG rfl,hn];unfold nG;dsimp only;(exact RS7 hn aCq aEh aFW aEj aEi aHv)
theorem aRl{c:Nat}{z0:Int}:runW aB 27 [.pt c 0,.agg [.str AAy,.fs [[.str x]],.fs [[I z0]]]] h=some (.nilfn,h++[some (.blk false (.cells true [.pt c 0])),some (.blk true (.cells true [.str AAy,.fs [[.str x]],.fs [[I z0]]]))]):=by
 obtain⟨n,hn⟩:∃ n,h.length=n:=⟨_,rfl⟩;rw[qY 27 nG rfl,hn];unfold nG;dsimp only;(exact RS7 hn aCz aEo aGc aEq aEp aHx)
theorem aNu{c:Nat}{z0:Int}:runW aB 27 [.pt c 0,.agg [.str AAz,.fs [[.str x]],.fs [[I z0]]]] h=some (.nilfn,h++[some (.blk false (.cells true [.pt c 0])),some (.blk true (.cells true [.str AAz,.fs [[.str x]],.fs [[I z0]]]))]):=by
 obtain⟨n,hn⟩:∃ n,h.length=n:=⟨_,rfl⟩;rw[qY 27 nG rfl,hn];unfold nG;dsimp only;(exact RS7 hn aBC aCv aEm aCx aCw aFY)
theorem aLE(ly:Lays h L s){z0:Int}(hx:dV (s.farmers.map (·.1)) x=none)(hl:s.farmers.length≠9) :
 runW aB 27 [.pt L.c 0,.agg [.str AAo,.fs [[.str x]],.fs [[I z0]]]] h=some (.fn (.func 56) [] [.pt h.length 0,.pt (h.length+1) 0],h++[some (.blk false (.cells true [.pt L.c 0])),some (.blk true (.cells true [.str AAo,.fs [[.str x]],.fs [[I z0]]]))]):=by
 obtain⟨n,hn⟩:∃ n,h.length=n:=⟨_,rfl⟩;obtain⟨g,hc⟩:=aC ly.hc;unfold cB at hc;have cn:(L.c<n)=True:=AAk (by rw[←hn];exact aJ ly.hc);obtain⟨gw,hwo⟩:=ly.f.ho;obtain⟨gm,hwm⟩:=ly.f.hm;have won:(L.f.o<n)=True:=AAk (by rw[←hn];exact ly.f.lts.1);have wmn:(L.f.m<n)=True:=AAk (by rw[←hn];exact ly.f.lts.2.1);have hf:=ly.f.miss hx;have f1:=(ly.f.fr (Fr.app h [some (.blk false (.cells true [.pt L.c 0])),some (.blk true (.cells true [.str AAo,.fs [[.str x]],.fs [[I z0]]]))]) (fun _ _ hb=>by cases hb)).fullf (x:=x) (by decide);rw[hx,AAi rfl,aF9,AAj (by grind)]at f1;have m1:=wH 6;have m2:=wH 15;rw[qY 27 nG rfl,hn];unfold nG;dsimp only;(exact oI hn hc cn m1 m2 hwo hwm won wmn hf f1 lI aG)
theorem aNs{c:Nat}{u1 u2 y:ByteArray}{z0 z1 a b:Int}{v:AV}{h2:XH}(call:runW aB 58 [.pt c 0,.agg [.str AAp,.fs [[.str x],[.str u1],[.str u2],[.str y]],.fs [[I z0],[I a],[I b],[I z1]]]] (h++[some (.blk false (.cells true [.pt c 0])),some (.blk true (.cells true [.str AAp,.fs [[.str x],[.str u1],[.str u2],[.str y]],.fs [[I z0],[I a],[I b],[I z1]]]))])=some (v,h2))(p0:(hat h2 h.length).isSome=true)(p1:(hat h2 (h.length+1)).isSome=true):runW aB 27 [.pt c 0,.agg [.str AAp,.fs [[.str x],[.str u1],[.str u2],[.str y]],.fs [[I z0],[I a],[I b],[I z1]]]] h=some (v,h2):=by
 obtain⟨n,hn⟩:∃ n,h.length=n:=⟨_,rfl⟩;rw[hn]at p0 p1;rw[qY 27 nG rfl,hn];unfold nG;dsimp only;(exact RS7 hn call p0 p1 rZ tP aG)
theorem aRj{c:Nat}{u1:ByteArray}{i:Int}{v:AV}{h2:XH}(call:runW aB 59 [.pt c 0,I i] (h++[some (.blk false (.cells true [.pt c 0])),some (.blk true (.cells true [.str AAq,.fs [[.str u1]],.fs [[I i]]]))])=some (v,h2))(p0:(hat h2 h.length).isSome=true)(p1:(hat h2 (h.length+1)).isSome=true):runW aB 27 [.pt c 0,.agg [.str AAq,.fs [[.str u1]],.fs [[I i]]]] h=some (v,h2):=by
 obtain⟨n,hn⟩:∃ n,h.length=n:=⟨_,rfl⟩;rw[hn]at p0 p1;rw[qY 27 nG rfl,hn];unfold nG;dsimp only;(exact RS7 hn call p0 p1 tQ wV zF)
theorem aNv{c:Nat}{u1:ByteArray}{z0 a:Int}{v:AV}{h2:XH}(call:runW aB 61 [.pt c 0,.str x,I a] (h++[some (.blk false (.cells true [.pt c 0])),some (.blk true (.cells true [.str AAs,.fs [[.str x],[.str u1]],.fs [[I z0],[I a]]]))])=some (v,h2))(p0:(hat h2 h.length).isSome=true)(p1:(hat h2 (h.length+1)).isSome=true):runW aB 27 [.pt c 0,.agg [.str AAs,.fs [[.str x],[.str u1]],.fs [[I z0],[I a]]]] h=some (v,h2):=by
 obtain⟨n,hn⟩:∃ n,h.length=n:=⟨_,rfl⟩;rw[hn]at p0 p1;rw[qY 27 nG rfl,hn];unfold nG;dsimp only;(exact RS9 hn call p0 p1 sD tR wX tU tT)
theorem aUU{c:Nat}{u1 u2:ByteArray}{z0 a b:Int}{v:AV}{h2:XH}(call:runW aB 62 [.pt c 0,.str x,I a,I b] (h++[some (.blk false (.cells true [.pt c 0])),some (.blk true (.cells true [.str AAt,.fs [[.str x],[.str u1],[.str u2]],.fs [[I z0],[I a],[I b]]]))])=some (v,h2))(p0:(hat h2 h.length).isSome=true)(p1:(hat h2 (h.length+1)).isSome=true):runW aB 27 [.pt c 0,.agg [.str AAt,.fs [[.str x],[.str u1],[.str u2]],.fs [[I z0],[I a],[I b]]]] h=some (v,h2):=by
 obtain⟨n,hn⟩:∃ n,h.length=n:=⟨_,rfl⟩;rw[hn]at p0 p1;rw[qY 27 nG rfl,hn];unfold nG;dsimp only;(exact pE hn call p0 p1 wW zG aBi zJ zI aCy)
theorem aAs{c:Nat}{u1 u2 y:ByteArray}{z0 z1 a b:Int}{v:AV}{h2:XH}(call:CalP Tryz.prog aB 58 [.pt c 0,.agg [.str AAp,.fs [[.str x],[.str u1],[.str u2],[.str y]],.fs [[I z0],[I a],[I b],[I z1]]]] (h++[some (.blk false (.cells true [.pt c 0])),some (.blk true (.cells true [.str AAp,.fs [[.str x],[.str u1],[.str u2],[.str y]],.fs [[I z0],[I a],[I b],[I z1]]]))]) v h2):CalP Tryz.prog aB 27 [.pt c 0,.agg [.str AAp,.fs [[.str x],[.str u1],[.str u2],[.str y]],.fs [[I z0],[I a],[I b],[I z1]]]] h v h2:=by
 obtain⟨n,hn⟩:∃ n,h.length=n:=⟨_,rfl⟩;refine CalP.of (d:=nG) (e':=aZ [] []) aA rfl (by simp[nG]) rfl ?_;unfold nG;dsimp only;refine PanX.seqR (K:=27) aA rfl [2,3] (vs:=[.pt n 0,.pt (n+1) 0]) (h1:=h++[some (.blk false (.cells true [.pt c 0])),some (.blk true (.cells true [.str AAp,.fs [[.str x],[.str u1],[.str u2],[.str y]],.fs [[I z0],[I a],[I b],[I z1]]]))]) (by rw[hn]; (exact dG hn)) ?_;refine PanX.seqL ?_;refine PanX.seqR (K:=27) aA rfl [2,3,6] (vs:=[.pt n 0,.pt (n+1) 0,.str AAp]) (h1:=h++[some (.blk false (.cells true [.pt c 0])),some (.blk true (.cells true [.str AAp,.fs [[.str x],[.str u1],[.str u2],[.str y]],.fs [[I z0],[I a],[I b],[I z1]]]))]) (by (exact dG hn)) ?_;refine PanX.block ?_;refine PanX.seqR (K:=27) aA rfl [2,3,6,7] (vs:=[.pt n 0,.pt (n+1) 0,.str AAp,.bool false]) (h1:=h++[some (.blk false (.cells true [.pt c 0])),some (.blk true (.cells true [.str AAp,.fs [[.str x],[.str u1],[.str u2],[.str y]],.fs [[I z0],[I a],[I b],[I z1]]]))]) (by (exact dG rZ)) ?_;refine PanX.condF rfl ?_;refine PanX.seqR (K:=27) aA rfl [2,3,6,35] (vs:=[.pt n 0,.pt (n+1) 0,.str AAp,.bool true]) (h1:=h++[some (.blk false (.cells true [.pt c 0])),some (.blk true (.cells true [.str AAp,.fs [[.str x],[.str u1],[.str u2],[.str y]],.fs [[I z0],[I a],[I b],[I z1]]]))]) (by (exact dG tP)) ?_;refine PanX.condT rfl ?_;refine PanX.seqL ?_;exact PanX.reg (p:=[⟨0,(some 37),(.load false 1 (.t 2)),none⟩,⟨0,(some 38),(.load true 3 (.t 3)),none⟩]) (post:=[⟨0,(some 4),(.mv (.t 39)),none⟩]) aA [] (g:=58) (first:=[]) (cap:=[]) (args:=[.pt c 0,.agg [.str AAp,.fs [[.str x],[.str u1],[.str u2],[.str y]],.fs [[I z0],[I a],[I b],[I z1]]]]) (vs:=[]) rfl rfl (by (exact dG hn)) call
theorem aGZ{c:Nat}{u1:ByteArray}{i:Int}{v:AV}{h2:XH}(call:CalP Tryz.prog aB 59 [.pt c 0,I i] (h++[some (.blk false (.cells true [.pt c 0])),some (.blk true (.cells true [.str AAq,.fs [[.str u1]],.fs [[I i]]]))]) v h2):CalP Tryz.prog aB 27 [.pt c 0,.agg [.str AAq,.fs [[.str u1]],.fs [[I i]]]] h v h2:=by
 obtain⟨n,hn⟩:∃ n,h.length=n:=⟨_,rfl⟩;refine CalP.of (d:=nG) (e':=aZ [] []) aA rfl (by simp[nG]) rfl ?_;unfold nG;dsimp only;refine PanX.seqR (K:=27) aA rfl [2,3] (vs:=[.pt n 0,.pt (n+1) 0]) (h1:=h++[some (.blk false (.cells true [.pt c 0])),some (.blk true (.cells true [.str AAq,.fs [[.str u1]],.fs [[I i]]]))]) (by rw[hn]; (exact dG hn)) ?_;refine PanX.seqL ?_;refine PanX.seqR (K:=27) aA rfl [2,3,6] (vs:=[.pt n 0,.pt (n+1) 0,.str AAq]) (h1:=h++[some (.blk false (.cells true [.pt c 0])),some (.blk true (.cells true [.str AAq,.fs [[.str u1]],.fs [[I i]]]))]) (by (exact dG hn)) ?_;refine PanX.block ?_;refine PanX.seqR (K:=27) aA rfl [2,3,6,7] (vs:=[.pt n 0,.pt (n+1) 0,.str AAq,.bool false]) (h1:=h++[some (.blk false (.cells true [.pt c 0])),some (.blk true (.cells true [.str AAq,.fs [[.str u1]],.fs [[I i]]]))]) (by (exact dG tQ)) ?_;refine PanX.condF rfl ?_;refine PanX.seqR (K:=27) aA rfl [2,3,6,35] (vs:=[.pt n 0,.pt (n+1) 0,.str AAq,.bool false]) (h1:=h++[some (.blk false (.cells true [.pt c 0])),some (.blk true (.cells true [.str AAq,.fs [[.str u1]],.fs [[I i]]]))]) (by (exact dG wV)) ?_;refine PanX.condF rfl ?_;refine PanX.seqR (K:=27) aA rfl [2,3,6,40] (vs:=[.pt n 0,.pt (n+1) 0,.str AAq,.bool true]) (h1:=h++[some (.blk false (.cells true [.pt c 0])),some (.blk true (.cells true [.str AAq,.fs [[.str u1]],.fs [[I i]]]))]) (by (exact dG zF)) ?_;refine PanX.condT rfl ?_;refine PanX.seqL ?_;exact PanX.regU (fr:=[]) (p:=[⟨0,(some 42),(.load false 1 (.t 2)),none⟩,⟨1,(some 43),(.fld 2 (.t 3)),none⟩,⟨2,(some 44),(.load false 1 (.t 43)),none⟩,⟨3,(some 45),(.idx 1 (.t 44) (.c (.int .i64 0))),none⟩,⟨4,(some 46),(.load false 1 (.t 45)),none⟩]) (post:=[⟨6,(some 4),(.mv (.t 47)),none⟩]) aA [] (g:=59) (first:=[]) (cap:=[]) (args:=[.pt c 0,I i]) (vs:=[]) rfl rfl rfl (by (exact dG hn)) call
theorem aQw{c:Nat}{u1:ByteArray}{z0 a:Int}{v:AV}{h2:XH}(call:CalP Tryz.prog aB 61 [.pt c 0,.str x,I a] (h++[some (.blk false (.cells true [.pt c 0])),some (.blk true (.cells true [.str AAs,.fs [[.str x],[.str u1]],.fs [[I z0],[I a]]]))]) v h2):CalP Tryz.prog aB 27 [.pt c 0,.agg [.str AAs,.fs [[.str x],[.str u1]],.fs [[I z0],[I a]]]] h v h2:=by
 obtain⟨n,hn⟩:∃ n,h.length=n:=⟨_,rfl⟩;refine CalP.of (d:=nG) (e':=aZ [] []) aA rfl (by simp[nG]) rfl ?_;unfold nG;dsimp only;refine PanX.seqR (K:=27) aA rfl [2,3] (vs:=[.pt n 0,.pt (n+1) 0]) (h1:=h++[some (.blk false (.cells true [.pt c 0])),some (.blk true (.cells true [.str AAs,.fs [[.str x],[.str u1]],.fs [[I z0],[I a]]]))]) (by rw[hn]; (exact dG hn)) ?_;refine PanX.seqL ?_;refine PanX.seqR (K:=27) aA rfl [2,3,6] (vs:=[.pt n 0,.pt (n+1) 0,.str AAs]) (h1:=h++[some (.blk false (.cells true [.pt c 0])),some (.blk true (.cells true [.str AAs,.fs [[.str x],[.str u1]],.fs [[I z0],[I a]]]))]) (by (exact dG hn)) ?_;refine PanX.block ?_;refine PanX.seqR (K:=27) aA rfl [2,3,6,7] (vs:=[.pt n 0,.pt (n+1) 0,.str AAs,.bool false]) (h1:=h++[some (.blk false (.cells true [.pt c 0])),some (.blk true (.cells true [.str AAs,.fs [[.str x],[.str u1]],.fs [[I z0],[I a]]]))]) (by (exact dG sD)) ?_;refine PanX.condF rfl ?_;refine PanX.seqR (K:=27) aA rfl [2,3,6,35] (vs:=[.pt n 0,.pt (n+1) 0,.str AAs,.bool false]) (h1:=h++[some (.blk false (.cells true [.pt c 0])),some (.blk true (.cells true [.str AAs,.fs [[.str x],[.str u1]],.fs [[I z0],[I a]]]))]) (by (exact dG tR)) ?_;refine PanX.condF rfl ?_;refine PanX.seqR (K:=27) aA rfl [2,3,6,40] (vs:=[.pt n 0,.pt (n+1) 0,.str AAs,.bool false]) (h1:=h++[some (.blk false (.cells true [.pt c 0])),some (.blk true (.cells true [.str AAs,.fs [[.str x],[.str u1]],.fs [[I z0],[I a]]]))]) (by (exact dG wX)) ?_;refine PanX.condF rfl ?_;refine PanX.seqR (K:=27) aA rfl [2,3,6,48] (vs:=[.pt n 0,.pt (n+1) 0,.str AAs,.bool false]) (h1:=h++[some (.blk false (.cells true [.pt c 0])),some (.blk true (.cells true [.str AAs,.fs [[.str x],[.str u1]],.fs [[I z0],[I a]]]))]) (by (exact dG tU)) ?_;refine PanX.condF rfl ?_;refine PanX.seqR (K:=27) aA rfl [2,3,6,62] (vs:=[.pt n 0,.pt (n+1) 0,.str AAs,.bool true]) (h1:=h++[some (.blk false (.cells true [.pt c 0])),some (.blk true (.cells true [.str AAs,.fs [[.str x],[.str u1]],.fs [[I z0],[I a]]]))]) (by (exact dG tT)) ?_;refine PanX.condT rfl ?_;refine PanX.seqL ?_;exact PanX.regU (fr:=[]) (p:=[⟨0,(some 64),(.load false 1 (.t 2)),none⟩,⟨1,(some 65),(.fld 1 (.t 3)),none⟩,⟨2,(some 66),(.load false 1 (.t 65)),none⟩,⟨3,(some 67),(.idx 1 (.t 66) (.c (.int .i64 0))),none⟩,⟨4,(some 68),(.load false 1 (.t 67)),none⟩,⟨5,(some 69),(.fld 2 (.t 3)),none⟩,⟨6,(some 70),(.load false 1 (.t 69)),none⟩,⟨7,(some 71),(.idx 1 (.t 70) (.c (.int .i64 1))),none⟩,⟨8,(some 72),(.load false 1 (.t 71)),none⟩]) (post:=[⟨10,(some 4),(.mv (.t 73)),none⟩]) aA [] (g:=61) (first:=[]) (cap:=[]) (args:=[.pt c 0,.str x,I a]) (vs:=[]) rfl rfl rfl (by (exact dG hn)) call
theorem aQv{c:Nat}{u1 u2:ByteArray}{z0 a b:Int}{v:AV}{h2:XH}(call:CalP Tryz.prog aB 62 [.pt c 0,.str x,I a,I b] (h++[some (.blk false (.cells true [.pt c 0])),some (.blk true (.cells true [.str AAt,.fs [[.str x],[.str u1],[.str u2]],.fs [[I z0],[I a],[I b]]]))]) v h2):CalP Tryz.prog aB 27 [.pt c 0,.agg [.str AAt,.fs [[.str x],[.str u1],[.str u2]],.fs [[I z0],[I a],[I b]]]] h v h2:=by
 obtain⟨n,hn⟩:∃ n,h.length=n:=⟨_,rfl⟩;refine CalP.of (d:=nG) (e':=aZ [] []) aA rfl (by simp[nG]) rfl ?_;unfold nG;dsimp only;refine PanX.seqR (K:=27) aA rfl [2,3] (vs:=[.pt n 0,.pt (n+1) 0]) (h1:=h++[some (.blk false (.cells true [.pt c 0])),some (.blk true (.cells true [.str AAt,.fs [[.str x],[.str u1],[.str u2]],.fs [[I z0],[I a],[I b]]]))]) (by rw[hn]; (exact dG hn)) ?_;refine PanX.seqL ?_;refine PanX.seqR (K:=27) aA rfl [2,3,6] (vs:=[.pt n 0,.pt (n+1) 0,.str AAt]) (h1:=h++[some (.blk false (.cells true [.pt c 0])),some (.blk true (.cells true [.str AAt,.fs [[.str x],[.str u1],[.str u2]],.fs [[I z0],[I a],[I b]]]))]) (by (exact dG hn)) ?_;refine PanX.block ?_;refine PanX.seqR (K:=27) aA rfl [2,3,6,7] (vs:=[.pt n 0,.pt (n+1) 0,.str AAt,.bool false]) (h1:=h++[some (.blk false (.cells true [.pt c 0])),some (.blk true (.cells true [.str AAt,.fs [[.str x],[.str u1],[.str u2]],.fs [[I z0],[I a],[I b]]]))]) (by (exact dG wW)) ?_;refine PanX.condF rfl ?_;refine PanX.seqR (K:=27) aA rfl [2,3,6,35] (vs:=[.pt n 0,.pt (n+1) 0,.str AAt,.bool false]) (h1:=h++[some (.blk false (.cells true [.pt c 0])),some (.blk true (.cells true [.str AAt,.fs [[.str x],[.str u1],[.str u2]],.fs [[I z0],[I a],[I b]]]))]) (by (exact dG zG)) ?_;refine PanX.condF rfl ?_;refine PanX.seqR (K:=27) aA rfl [2,3,6,40] (vs:=[.pt n 0,.pt (n+1) 0,.str AAt,.bool false]) (h1:=h++[some (.blk false (.cells true [.pt c 0])),some (.blk true (.cells true [.str AAt,.fs [[.str x],[.str u1],[.str u2]],.fs [[I z0],[I a],[I b]]]))]) (by (exact dG aBi)) ?_;refine PanX.condF rfl ?_;refine PanX.seqR (K:=27) aA rfl [2,3,6,48] (vs:=[.pt n 0,.pt (n+1) 0,.str AAt,.bool false]) (h1:=h++[some (.blk false (.cells true [.pt c 0])),some (.blk true (.cells true [.str AAt,.fs [[.str x],[.str u1],[.str u2]],.fs [[I z0],[I a],[I b]]]))]) (by (exact dG zJ)) ?_;refine PanX.condF rfl ?_;refine PanX.seqR (K:=27) aA rfl [2,3,6,62] (vs:=[.pt n 0,.pt (n+1) 0,.str AAt,.bool false]) (h1:=h++[some (.blk false (.cells true [.pt c 0])),some (.blk true (.cells true [.str AAt,.fs [[.str x],[.str u1],[.str u2]],.fs [[I z0],[I a],[I b]]]))]) (by (exact dG zI)) ?_;refine PanX.condF rfl ?_;refine PanX.seqR (K:=27) aA rfl [2,3,6,74] (vs:=[.pt n 0,.pt (n+1) 0,.str AAt,.bool true]) (h1:=h++[some (.blk false (.cells true [.pt c 0])),some (.blk true (.cells true [.str AAt,.fs [[.str x],[.str u1],[.str u2]],.fs [[I z0],[I a],[I b]]]))]) (by (exact dG aCy)) ?_;refine PanX.condT rfl ?_;refine PanX.seqL ?_;exact PanX.regU (fr:=[]) (p:=[⟨0,(some 76),(.load false 1 (.t 2)),none⟩,⟨1,(some 77),(.fld 1 (.t 3)),none⟩,⟨2,(some 78),(.load false 1 (.t 77)),none⟩,⟨3,(some 79),(.idx 1 (.t 78) (.c (.int .i64 0))),none⟩,⟨4,(some 80),(.load false 1 (.t 79)),none⟩,⟨5,(some 81),(.fld 2 (.t 3)),none⟩,⟨6,(some 82),(.load false 1 (.t 81)),none⟩,⟨7,(some 83),(.idx 1 (.t 82) (.c (.int .i64 1))),none⟩,⟨8,(some 84),(.load false 1 (.t 83)),none⟩,⟨9,(some 85),(.fld 2 (.t 3)),none⟩,⟨10,(some 86),(.load false 1 (.t 85)),none⟩,⟨11,(some 87),(.idx 1 (.t 86) (.c (.int .i64 2))),none⟩,⟨12,(some 88),(.load false 1 (.t 87)),none⟩]) (post:=[⟨14,(some 4),(.mv (.t 89)),none⟩]) aA [] (g:=62) (first:=[]) (cap:=[]) (args:=[.pt c 0,.str x,I a,I b]) (vs:=[]) rfl rfl rfl (by (exact dG hn)) call
theorem aDW(ly:Lays h L s){z0:Int}{i:Nat}(hx:dV (s.farmers.map (·.1)) x=some i):CalP Tryz.prog aB 27 [.pt L.c 0,.agg [.str AAo,.fs [[.str x]],.fs [[I z0]]]] h (.ifc 84 (.agg [I 6])) (h++[some (.blk false (.cells true [.pt L.c 0])),some (.blk true (.cells true [.str AAo,.fs [[.str x]],.fs [[I z0]]]))]):=by
 obtain⟨n,hn⟩:∃ n,h.length=n:=⟨_,rfl⟩;obtain⟨g,hc⟩:=aC ly.hc;unfold cB at hc;have cn:(L.c<n)=True:=AAk (by rw[←hn];exact aJ ly.hc);obtain⟨gw,hwo⟩:=ly.f.ho;obtain⟨gm,hwm⟩:=ly.f.hm;have won:(L.f.o<n)=True:=AAk (by rw[←hn];exact ly.f.lts.1);have wmn:(L.f.m<n)=True:=AAk (by rw[←hn];exact ly.f.lts.2.1);obtain⟨e,v,he,hv,hf,hev⟩:=ly.f.found hx;refine CalP.of (d:=nG) (e':=aZ [] []) aA rfl (by simp[nG]) rfl ?_;unfold nG;dsimp only;refine PanX.seqR (K:=27) aA rfl [2,3] (vs:=[.pt n 0,.pt (n+1) 0]) (h1:=h++[some (.blk false (.cells true [.pt L.c 0])),some (.blk true (.cells true [.str AAo,.fs [[.str x]],.fs [[I z0]]]))]) (by rw[hn]; (exact dG hn)) ?_;refine PanX.seqL ?_;refine PanX.seqR (K:=27) aA rfl [2,3,6] (vs:=[.pt n 0,.pt (n+1) 0,.str AAo]) (h1:=h++[some (.blk false (.cells true [.pt L.c 0])),some (.blk true (.cells true [.str AAo,.fs [[.str x]],.fs [[I z0]]]))]) (by (exact dG hn)) ?_;refine PanX.block ?_;refine PanX.seqR (K:=27) aA rfl [2,3,6,7] (vs:=[.pt n 0,.pt (n+1) 0,.str AAo,.bool true]) (h1:=h++[some (.blk false (.cells true [.pt L.c 0])),some (.blk true (.cells true [.str AAo,.fs [[.str x]],.fs [[I z0]]]))]) (by (exact dG lI)) ?_;refine PanX.condT rfl ?_;refine PanX.seqL ?_;exact PanX.regU (fr:=[]) (p:=[⟨0,(some 9),(.load false 1 (.t 2)),none⟩,⟨1,(some 10),(.nilck (.t 9)),none⟩,⟨2,(some 11),(.fld 0 (.t 10)),none⟩,⟨3,(some 12),(.load false 1 (.t 11)),none⟩,⟨4,(some 13),(.nilck (.t 12)),none⟩,⟨5,(some 14),(.fld 1 (.t 13)),none⟩,⟨6,(some 15),(.load false 1 (.t 14)),none⟩,⟨7,(some 16),(.fld 1 (.t 3)),none⟩,⟨8,(some 17),(.load false 1 (.t 16)),none⟩,⟨9,(some 18),(.idx 1 (.t 17) (.c (.int .i64 0))),none⟩,⟨10,(some 19),(.load false 1 (.t 18)),none⟩,⟨11,(some 20),(.lookup 1 false .nilpt (.t 15) (.t 19)),none⟩,⟨12,(some 21),(.eqn 3 false (.t 20) (.c .nilpt)),none⟩]) (post:=[]) aA [] (g:=24) (first:=[]) (cap:=[]) (args:=[.bool false,I 6]) (vs:=[]) rfl rfl rfl (by (exact RS9 hn hc cn hwo hwm won wmn hf aG)) (c58 6 _)
theorem aJX(ly:Lays h L s){z0:Int}(hx:dV (s.farmers.map (·.1)) x=none)(hl:s.farmers.length=9):CalP Tryz.prog aB 27 [.pt L.c 0,.agg [.str AAo,.fs [[.str x]],.fs [[I z0]]]] h (.ifc 84 (.agg [I 15])) (h++[some (.blk false (.cells true [.pt L.c 0])),some (.blk true (.cells true [.str AAo,.fs [[.str x]],.fs [[I z0]]]))]):=by
 obtain⟨n,hn⟩:∃ n,h.length=n:=⟨_,rfl⟩;obtain⟨g,hc⟩:=aC ly.hc;unfold cB at hc;have cn:(L.c<n)=True:=AAk (by rw[←hn];exact aJ ly.hc);obtain⟨gw,hwo⟩:=ly.f.ho;obtain⟨gm,hwm⟩:=ly.f.hm;have won:(L.f.o<n)=True:=AAk (by rw[←hn];exact ly.f.lts.1);have wmn:(L.f.m<n)=True:=AAk (by rw[←hn];exact ly.f.lts.2.1);have hf:=ly.f.miss hx;have f1:=(ly.f.fr (Fr.app h [some (.blk false (.cells true [.pt L.c 0])),some (.blk true (.cells true [.str AAo,.fs [[.str x]],.fs [[I z0]]]))]) (fun _ _ hb=>by cases hb)).fullf (x:=x) (by decide);rw[hx,AAi rfl,aF9,AAi (by grind)]at f1;have m1:=wH 6;refine CalP.of (d:=nG) (e':=aZ [] []) aA rfl (by simp[nG]) rfl ?_;unfold nG;dsimp only;refine PanX.seqR (K:=27) aA rfl [2,3] (vs:=[.pt n 0,.pt (n+1) 0]) (h1:=h++[some (.blk false (.cells true [.pt L.c 0])),some (.blk true (.cells true [.str AAo,.fs [[.str x]],.fs [[I z0]]]))]) (by rw[hn]; (exact dG hn)) ?_;refine PanX.seqL ?_;refine PanX.seqR (K:=27) aA rfl [2,3,6] (vs:=[.pt n 0,.pt (n+1) 0,.str AAo]) (h1:=h++[some (.blk false (.cells true [.pt L.c 0])),some (.blk true (.cells true [.str AAo,.fs [[.str x]],.fs [[I z0]]]))]) (by (exact dG hn)) ?_;refine PanX.block ?_;refine PanX.seqR (K:=27) aA rfl [2,3,6,7] (vs:=[.pt n 0,.pt (n+1) 0,.str AAo,.bool true]) (h1:=h++[some (.blk false (.cells true [.pt L.c 0])),some (.blk true (.cells true [.str AAo,.fs [[.str x]],.fs [[I z0]]]))]) (by (exact dG lI)) ?_;refine PanX.condT rfl ?_;refine PanX.seqR (K:=27) aA rfl [2,3] (vs:=[.pt n 0,.pt (n+1) 0]) (h1:=h++[some (.blk false (.cells true [.pt L.c 0])),some (.blk true (.cells true [.str AAo,.fs [[.str x]],.fs [[I z0]]]))]) (by (exact RS9 hn hc cn hwo hwm won wmn hf m1)) ?_;refine PanX.seqL ?_;exact PanX.regU (fr:=[]) (p:=[⟨0,(some 23),(.load false 1 (.t 2)),none⟩,⟨1,(some 24),(.nilck (.t 23)),none⟩,⟨2,(some 25),(.fld 0 (.t 24)),none⟩,⟨3,(some 26),(.load false 1 (.t 25)),none⟩,⟨4,(some 27),(.fld 1 (.t 3)),none⟩,⟨5,(some 28),(.load false 1 (.t 27)),none⟩,⟨6,(some 29),(.idx 1 (.t 28) (.c (.int .i64 0))),none⟩,⟨7,(some 30),(.load false 1 (.t 29)),none⟩,⟨8,(some 31),(.callf false (.c (.fn (.func 55) [] [])) [(.t 26),(.t 30)] []),none⟩,⟨9,(some 32),(.not (.t 31)),none⟩]) (post:=[]) aA [] (g:=24) (first:=[]) (cap:=[]) (args:=[.bool false,I 15]) (vs:=[]) rfl rfl rfl (by (exact RS4 hn hc cn f1)) (c58 15 _)
theorem aQx(ly:Lays h L s)(hcl:s.tickets.length≤s.closed):CalP Tryz.prog aB 27 [.pt L.c 0,.agg [.str AAr,.fs [],.fs []]] h (.ifc 84 (.agg [I 4])) (h++[some (.blk false (.cells true [.pt L.c 0])),some (.blk true (.cells true [.str AAr,.fs [],.fs []]))]):=by
 obtain⟨n,hn⟩:∃ n,h.length=n:=⟨_,rfl⟩;obtain⟨g,hc⟩:=aC ly.hc;unfold cB at hc;have cn:(L.c<n)=True:=AAk (by rw[←hn];exact aJ ly.hc);refine CalP.of (d:=nG) (e':=aZ [] []) aA rfl (by simp[nG]) rfl ?_;unfold nG;dsimp only;refine PanX.seqR (K:=27) aA rfl [2,3] (vs:=[.pt n 0,.pt (n+1) 0]) (h1:=h++[some (.blk false (.cells true [.pt L.c 0])),some (.blk true (.cells true [.str AAr,.fs [],.fs []]))]) (by rw[hn]; (exact dG hn)) ?_;refine PanX.seqL ?_;refine PanX.seqR (K:=27) aA rfl [2,3,6] (vs:=[.pt n 0,.pt (n+1) 0,.str AAr]) (h1:=h++[some (.blk false (.cells true [.pt L.c 0])),some (.blk true (.cells true [.str AAr,.fs [],.fs []]))]) (by (exact dG hn)) ?_;refine PanX.block ?_;refine PanX.seqR (K:=27) aA rfl [2,3,6,7] (vs:=[.pt n 0,.pt (n+1) 0,.str AAr,.bool false]) (h1:=h++[some (.blk false (.cells true [.pt L.c 0])),some (.blk true (.cells true [.str AAr,.fs [],.fs []]))]) (by (exact dG sE)) ?_;refine PanX.condF rfl ?_;refine PanX.seqR (K:=27) aA rfl [2,3,6,35] (vs:=[.pt n 0,.pt (n+1) 0,.str AAr,.bool false]) (h1:=h++[some (.blk false (.cells true [.pt L.c 0])),some (.blk true (.cells true [.str AAr,.fs [],.fs []]))]) (by (exact dG tV)) ?_;refine PanX.condF rfl ?_;refine PanX.seqR (K:=27) aA rfl [2,3,6,40] (vs:=[.pt n 0,.pt (n+1) 0,.str AAr,.bool false]) (h1:=h++[some (.blk false (.cells true [.pt L.c 0])),some (.blk true (.cells true [.str AAr,.fs [],.fs []]))]) (by (exact dG wY)) ?_;refine PanX.condF rfl ?_;refine PanX.seqR (K:=27) aA rfl [2,3,6,48] (vs:=[.pt n 0,.pt (n+1) 0,.str AAr,.bool true]) (h1:=h++[some (.blk false (.cells true [.pt L.c 0])),some (.blk true (.cells true [.str AAr,.fs [],.fs []]))]) (by (exact dG tW)) ?_;refine PanX.condT rfl ?_;refine PanX.seqL ?_;refine PanX.regU (fr:=[]) (p:=[⟨0,(some 50),(.load false 1 (.t 2)),none⟩,⟨1,(some 51),(.nilck (.t 50)),none⟩,⟨2,(some 52),(.fld 5 (.t 51)),none⟩,⟨3,(some 53),(.load false 1 (.t 52)),none⟩,⟨4,(some 54),(.load false 1 (.t 2)),none⟩,⟨5,(some 55),(.nilck (.t 54)),none⟩,⟨6,(some 56),(.fld 4 (.t 55)),none⟩,⟨7,(some 57),(.load false 1 (.t 56)),none⟩,⟨8,(some 58),(.len false (.t 57)),none⟩,⟨9,(some 59),(.bin .lss (.t 53) (.t 58)),none⟩]) (post:=[]) aA [] (g:=24) (first:=[]) (cap:=[]) (args:=[.bool false,I 4]) (vs:=[]) rfl rfl rfl ?_ (c58 4 _);by_cases hk:0<s.tickets.length
 ·rw[eY hk]at hc
  have t1:((s.closed:Int)<(s.tickets.length:Int))=False:=AAb;(exact RS4 hc hn cn t1)
 ·have h0:s.tickets.length=0:=AM
  have hv:iL L.tb s.tickets.length = .nilsl:=by rw[h0];rfl
  rw[hv]at hc;have t1:((s.closed:Int)<0)=False:=AAb;(exact RS4 hc hn cn t1)
def Clo(n:Nat):ABlk→Prop
 | .cells _ xs=>∀ b cs,n≤b→sG b cs xs=xs
 | .map _ es=>∀ b cs,n≤b→(es.map fun p=>(sH b cs p.1,sH b cs p.2))=es
 | _=>False
def Frz(n:Nat)(h hh:XH):Prop:=∀ j c,aI h j=some c→Clo n c→aI hh j=some c
theorem Fr.frz(f:Fr [] h h'){n:Nat}:Frz n h h':=fun j c hc _=>f.keepS hc (by simp)
theorem Frz.trans{n:Nat}(a:Frz n h h1)(b:Frz n h1 h'):Frz n h h':=fun j c hc hn=>b j c (a j c hc hn) hn
theorem aSB{b j:Nat}{cs:List AV}{c:ABlk}(hc:aI h j=some c)(hn:Clo b c):aI (h.map (fzO b cs)) j=some c:=by
 obtain⟨g,hg⟩:=aC hc;have h2:hat (h.map (fzO b cs)) j=fzO b cs (hat h j):=by
  unfold hat;rw[C7,C7,C4];cases h[j]?<;>rfl
 unfold aI;rw[h2,hg];cases g with
 | true=>rfl
 | false=>cases c with
   | cells w xs=>show some (ABlk.cells w (sG b cs xs))=_;rw[hn b cs (A6 _)]
   | map w es=>show some (ABlk.map w (es.map fun p=>(sH b cs p.1,sH b cs p.2)))=_;rw[hn b cs (A6 _)]
   | _=>rfl
theorem Clo.mono{n b:Nat}{c:ABlk}(h:Clo n c)(hb:n≤b):Clo b c:=by
 cases c with
 | cells w xs=>grind [Clo]
 | map w es=>exact fun b' cs hb'=>h b' cs (I0 hb hb')
 | _=>exact h
theorem Frz.fz{n b:Nat}{cs:List AV}(hb:n≤b):Frz n h (h.map (fzO b cs)):=fun j c hc hn=>aSB hc (hn.mono hb)
theorem Frz.app{n:Nat}(f:Frz n h h')(k:XH):Frz n h (h'++k):=f.trans (Fr.app h' k).frz
theorem aEe{n:Int}(h : -9223372036854775808≤n∧n≤9223372036854775807):runW aB 23 [I n] []=some (.str ⟨⟨Lib.itoa n⟩⟩,[]):=by
 rw[p57];simp_all [aAI]
theorem tM:aY .eql AAv AAv=some (.bool true):=by kernel_rfl
theorem zC:aY .eql AAu AAv=some (.bool false):=by kernel_rfl
theorem aCp:aY .eql AAu AAu=some (.bool true):=by kernel_rfl
theorem wQ:aY .eql AAx AAv=some (.bool false):=by kernel_rfl
theorem aBg:aY .eql AAx AAu=some (.bool false):=by kernel_rfl
theorem zA:aY .eql AAx AAx=some (.bool true):=by kernel_rfl
theorem wU:aY .eql AAy AAv=some (.bool false):=by kernel_rfl
theorem aBh:aY .eql AAy AAu=some (.bool false):=by kernel_rfl
theorem zD:aY .eql AAy AAx=some (.bool false):=by kernel_rfl
theorem zE:aY .eql AAy AAy=some (.bool true):=by kernel_rfl
theorem tN:aY .eql AAz AAv=some (.bool false):=by kernel_rfl
theorem zB:aY .eql AAz AAu=some (.bool false):=by kernel_rfl
theorem wR:aY .eql AAz AAx=some (.bool false):=by kernel_rfl
theorem wT:aY .eql AAz AAy=some (.bool false):=by kernel_rfl
theorem tO:aY .eql AAz AAz=some (.bool true):=by kernel_rfl
theorem mM:aY .eql AAw AAv=some (.bool false):=by kernel_rfl
theorem oY:aY .eql AAw AAu=some (.bool false):=by kernel_rfl
theorem nK:aY .eql AAw AAx=some (.bool false):=by kernel_rfl
theorem nL:aY .eql AAw AAy=some (.bool false):=by kernel_rfl
theorem mN:aY .eql AAw AAz=some (.bool false):=by kernel_rfl
theorem lH:aY .eql AAw AAw=some (.bool true):=by kernel_rfl
theorem aUT(ly:Lays h L s){z0:Int}{i:Nat}{y:Int}(hx:dV (s.farmers.map (·.1)) x=some i)(hy:s.farmers[i]?=some (x,y))(hb : -9223372036854775808≤y∧y≤9223372036854775807):runW aB 28 [.pt L.c 0,.agg [.str AAu,.fs [[.str x]],.fs [[I z0]]]] h=some (.str ⟨⟨Lib.itoa y⟩⟩,h++[some (.blk true (.cells true [.str AAu,.fs [[.str x]],.fs [[I z0]]]))]):=by
 obtain⟨n,hn⟩:∃ n,h.length=n:=⟨_,rfl⟩;obtain⟨g,hc⟩:=aC ly.hc;unfold cB at hc;have cn:(L.c<n)=True:=AAk (by rw[←hn];exact aJ ly.hc);obtain⟨e,v,he,hv,hev,call⟩:=(ly.ext [some (.blk true (.cells true [.str AAu,.fs [[.str x]],.fs [[I z0]]]))]).f.getf hx;rw[C4,hy]at hv;cases hv;have hev2:=ly.f.he he (v:=[I y]) (by grind);obtain⟨ge,hee⟩:=aC hev2;have en:(e<n)=True:=AAk (by rw[←hn];exact aJ hev2);have c57:=aEe hb;rw[qY 28 wG rfl,hn];unfold wG;dsimp only;(exact RS9 hn hc cn call hee en c57 zC aCp)
theorem aRh(ly:Lays h L s){z0:Int}{i:Nat}{y:Int×Int}(hx:dV (s.meters.map (·.1)) x=some i)(hy:s.meters[i]?=some (x,y))(hb : -9223372036854775808≤y.2∧y.2≤9223372036854775807):runW aB 28 [.pt L.c 0,.agg [.str AAx,.fs [[.str x]],.fs [[I z0]]]] h=some (.str ⟨⟨Lib.itoa y.2⟩⟩,h++[some (.blk true (.cells true [.str AAx,.fs [[.str x]],.fs [[I z0]]]))]):=by
 obtain⟨n,hn⟩:∃ n,h.length=n:=⟨_,rfl⟩;obtain⟨g,hc⟩:=aC ly.hc;unfold cB at hc;have cn:(L.c<n)=True:=AAk (by rw[←hn];exact aJ ly.hc);obtain⟨e,v,he,hv,hev,call⟩:=(ly.ext [some (.blk true (.cells true [.str AAx,.fs [[.str x]],.fs [[I z0]]]))]).m.getm hx;rw[C4,hy]at hv;cases hv;have hev2:=ly.m.he he (v:=[I y.1,I y.2]) (by grind);obtain⟨ge,hee⟩:=aC hev2;have en:(e<n)=True:=AAk (by rw[←hn];exact aJ hev2);have c57:=aEe hb;rw[qY 28 wG rfl,hn];unfold wG;dsimp only;(exact pE hn hc cn call hee en c57 wQ aBg zA)
theorem aRi(ly:Lays h L s){z0:Int}{i:Nat}{y:Int}(hx:dV (s.pans.map (·.1)) x=some i)(hy:s.pans[i]?=some (x,y))(hb : -9223372036854775808≤y∧y≤9223372036854775807):runW aB 28 [.pt L.c 0,.agg [.str AAy,.fs [[.str x]],.fs [[I z0]]]] h=some (.str ⟨⟨Lib.itoa y⟩⟩,h++[some (.blk true (.cells true [.str AAy,.fs [[.str x]],.fs [[I z0]]]))]):=by
 obtain⟨n,hn⟩:∃ n,h.length=n:=⟨_,rfl⟩;obtain⟨g,hc⟩:=aC ly.hc;unfold cB at hc;have cn:(L.c<n)=True:=AAk (by rw[←hn];exact aJ ly.hc);obtain⟨e,v,he,hv,hev,call⟩:=(ly.ext [some (.blk true (.cells true [.str AAy,.fs [[.str x]],.fs [[I z0]]]))]).p.getp hx;rw[C4,hy]at hv;cases hv;have hev2:=ly.p.he he (v:=[I y]) (by grind);obtain⟨ge,hee⟩:=aC hev2;have en:(e<n)=True:=AAk (by rw[←hn];exact aJ hev2);have c57:=aEe hb;rw[qY 28 wG rfl,hn];unfold wG;dsimp only;(exact oI hn hc cn call hee en c57 wU aBh zD zE aG aG)
theorem aNr{c:Nat}{z0 k:Int}{hh:XH}(call:runW aB 66 [.pt c 0,.str x] (h++[some (.blk true (.cells true [.str AAz,.fs [[.str x]],.fs [[I z0]]]))])=some (I k,hh))(hb : -9223372036854775808≤k∧k≤9223372036854775807):runW aB 28 [.pt c 0,.agg [.str AAz,.fs [[.str x]],.fs [[I z0]]]] h=some (.str ⟨⟨Lib.itoa k⟩⟩,hh):=by
 obtain⟨n,hn⟩:∃ n,h.length=n:=⟨_,rfl⟩;have c57:=aEe hb;rw[qY 28 wG rfl,hn];unfold wG;dsimp only;(exact RS9 hn call c57 tN zB wR wT tO aG)
theorem aLC(ly:Lays h L s){u1:ByteArray}{i:Nat}{k:CTk}(hk:s.tickets[i]?=some k)(hb:0≤k.net∧k.net≤99999){o:ByteArray}(hj:runW aB 67 [.fs (if k.void then [[.str k.wagon],[.str k.farmer],[.str ⟨⟨Lib.itoa k.net⟩⟩],[.str AAq]] else [[.str k.wagon],[.str k.farmer],[.str ⟨⟨Lib.itoa k.net⟩⟩]]),.str ⟨⟨[32]⟩⟩] []=some (.str o,[])):∃ hh,runW aB 28 [.pt L.c 0,.agg [.str AAw,.fs [[.str u1]],.fs [[I (i:Nat)]]]] h=some (.str o,hh)∧Frz h.length h hh:=by
 obtain⟨n,hn⟩:∃ n,h.length=n:=⟨_,rfl⟩;obtain⟨e,he,hke,hb2,hi⟩:=ly.tk.at hk;have hl:i<s.tickets.length:=by grind
 obtain⟨g,hc⟩:=aC ly.hc;unfold cB at hc;rw[eY AM]at hc;obtain⟨g1,hb1⟩:=aC hb2;obtain⟨g2,hk2⟩:=aC hke;unfold tkC at hk2;have cn:(L.c<n)=True:=AAk (by rw[←hn];exact aJ ly.hc);have bn:(L.tb<n)=True:=AAk (by rw[←hn];exact aJ hb2);have en:(e<n)=True:=AAk (by rw[←hn];exact aJ hke);have t1:((i:Int)<(s.tickets.length:Int))=True:=AAa;have mp:(some e).map (fun e=>AV.pt e 0)=some (.pt e 0):=rfl;have m1:=wH 5;have c57:=aEe (n:=k.net) AM;have so:∀ a:ByteArray,cD (.str a) (.str a)=true:=by intro a;simp[cD]
 cases hv:k.void with
 | false =>
   rw[hv]at hk2 hj;simp only[B8,AAd]at hj;refine⟨h.map (fzO (n+1) [.str k.wagon,.str k.farmer,.str ⟨⟨Lib.itoa k.net⟩⟩])++[some (.blk true (.cells true [.str AAw,.fs [[.str u1]],.fs [[I (i:Nat)]]])),none],?_,(Frz.fz AM).app _⟩;rw[qY 28 wG rfl,hn];unfold wG;dsimp only;(exact lR hn hc cn bn en hb1 hk2 t1 m1 he mp c57 hj so mM oY nK nL mN lH)
 | true =>
   rw[hv]at hk2 hj;simp only[AAe]at hj;refine⟨h.map (fzO (n+3) [.str k.wagon,.str k.farmer,.str ⟨⟨Lib.itoa k.net⟩⟩,.str AAq])++[some (.blk true (.cells true [.str AAw,.fs [[.str u1]],.fs [[I (i:Nat)]]])),none,some (.blk true (.cells true [.str AAq])),none],?_,(Frz.fz AM).app _⟩;rw[qY 28 wG rfl,hn];unfold wG;dsimp only;(exact lR hn hc cn bn en hb1 hk2 t1 m1 he mp c57 hj so mM oY nK nL mN lH)
theorem aDA{b:Nat}{cs:List AV}:∀(l:List ByteArray),sG b cs (l.map .str)=l.map .str
 | []=>rfl
 | k::r=>by simp only[F8,sG,sH,aDA r]
theorem aLa{b:Nat}{cs:List AV}:∀(l:List Nat),sG b cs (l.map fun e=>.pt e 0)=l.map fun e=>.pt e 0
 | []=>rfl
 | k::r=>by simp only[F8,sG,sH,aLa r]
theorem aJD{b k n:Nat}{cs:List AV}(hk:0<n→k<b):sH b cs (iL k n)=iL k n:=by
 grind [sH,iL]
theorem aPQ{b:Nat}{cs:List AV}:∀(ks:List ByteArray)(es:List Nat),(ent ks es).map (fun p=>(sH b cs p.1,sH b cs p.2))=ent ks es
 | [],_=>rfl
 | _::_,[]=>rfl
 | k::ks,e::es=>AAn (_ :: ·) (aPQ ks es)
theorem Od.frz{l:OL}{ks:List ByteArray}{vs:List (List AV)}{t:Int}(od:Od h l ks vs t)(f:Frz h.length h h')(hv:∀ v∈vs,∀ b cs,sG b cs v=v):Od h' l ks vs t:=by
 refine⟨⟨fun p hp=>f p.1 p.2 (od.hd.1 p hp) ?_,od.hd.2⟩,od.ek,od.vk⟩;unfold xP at hp;rw[B5,B5,B7]at hp;rcases hp with rfl|rfl|hp|hp
 ·intro b cs hb
  have:=od.lts.2.2.1;simp only[sG,aJD (fun hk=>E6 (this hk) hb)];rfl
 ·exact fun b cs _=>aPQ _ _
 ·unfold sBk at hp
  split at hp;·cases hp
  ·rw[C6]at hp
   subst hp;exact fun b cs _=>aDA _
 ·obtain⟨i,e,v,_,h2,rfl⟩:=aJN hp
  exact fun b cs _=>hv v (A5 h2) b cs
theorem Lays.frz(ly:Lays h L s)(f:Frz h.length h h'):Lays h' L s where
 hc:=f _ _ ly.hc fun b cs hb=>by
  unfold cB;simp only[sG,aJD (fun hk=>E6 (ly.tk.lts.1 hk) hb),aJD (fun hk=>E6 (aJ (ly.bk hk)) hb)];rfl
 tk:=⟨ly.tk.el,fun hk=>f _ _ (ly.tk.hb hk) fun b cs _=>aLa _,fun i e k he hk=>f _ _ (ly.tk.he i e k he hk) fun b cs _=>rfl,ly.tk.nd,ly.tk.nb⟩
 bk hk:=f _ _ (ly.bk hk) fun b cs _=>aDA _
 f:=ly.f.frz f fun v hv b cs=>by obtain⟨p,_,rfl⟩:=G1.1 hv;rfl
 m:=ly.m.frz f fun v hv b cs=>by obtain⟨p,_,rfl⟩:=G1.1 hv;rfl
 p:=ly.p.frz f fun v hv b cs=>by obtain⟨p,_,rfl⟩:=G1.1 hv;rfl
 w:=ly.w.frz f fun v hv b cs=>by obtain⟨p,_,rfl⟩:=G1.1 hv;rfl
 dj:=ly.dj
theorem aXi(ly:Lays h L s){z0:Int}(hx:dV (s.farmers.map (·.1)) x=none):CalP Tryz.prog aB 28 [.pt L.c 0,.agg [.str AAu,.fs [[.str x]],.fs [[I z0]]]] h (.ifc 84 (.agg [I 5])) (h++[some (.blk true (.cells true [.str AAu,.fs [[.str x]],.fs [[I z0]]]))]):=by
 obtain⟨n,hn⟩:∃ n,h.length=n:=⟨_,rfl⟩;obtain⟨g,hc⟩:=aC ly.hc;unfold cB at hc;have cn:(L.c<n)=True:=AAk (by rw[←hn];exact aJ ly.hc);have call:=(ly.ext [some (.blk true (.cells true [.str AAu,.fs [[.str x]],.fs [[I z0]]]))]).f.nonef hx;refine CalP.of (d:=wG) (e':=aZ [] []) aA rfl (by simp[wG]) rfl ?_;unfold wG;dsimp only;refine PanX.seqR (K:=28) aA rfl [0,3] (vs:=[.pt L.c 0,.pt n 0]) (h1:=h++[some (.blk true (.cells true [.str AAu,.fs [[.str x]],.fs [[I z0]]]))]) (by rw[hn]; (exact dG hn)) ?_;refine PanX.seqR (K:=28) aA rfl [0,3] (vs:=[.pt L.c 0,.pt n 0]) (h1:=h++[some (.blk true (.cells true [.str AAu,.fs [[.str x]],.fs [[I z0]]]))]) (by (exact dG hn)) ?_;refine PanX.seqL ?_;refine PanX.seqR (K:=28) aA rfl [0,3,11] (vs:=[.pt L.c 0,.pt n 0,.str AAu]) (h1:=h++[some (.blk true (.cells true [.str AAu,.fs [[.str x]],.fs [[I z0]]]))]) (by (exact dG hn)) ?_;refine PanX.block ?_;refine PanX.seqR (K:=28) aA rfl [0,3,11,12] (vs:=[.pt L.c 0,.pt n 0,.str AAu,.bool false]) (h1:=h++[some (.blk true (.cells true [.str AAu,.fs [[.str x]],.fs [[I z0]]]))]) (by (exact dG zC)) ?_;refine PanX.condF rfl ?_;refine PanX.seqR (K:=28) aA rfl [0,3,11,38] (vs:=[.pt L.c 0,.pt n 0,.str AAu,.bool true]) (h1:=h++[some (.blk true (.cells true [.str AAu,.fs [[.str x]],.fs [[I z0]]]))]) (by (exact dG aCp)) ?_;refine PanX.condT rfl ?_;exact PanX.regU (fr:=[]) (p:=[⟨0,(some 40),(.mv (.t 0)),none⟩,⟨1,(some 41),(.nilck (.t 40)),none⟩,⟨2,(some 42),(.fld 0 (.t 41)),none⟩,⟨3,(some 43),(.load false 1 (.t 42)),none⟩,⟨4,(some 44),(.fld 1 (.t 3)),none⟩,⟨5,(some 45),(.load false 1 (.t 44)),none⟩,⟨6,(some 46),(.idx 1 (.t 45) (.c (.int .i64 0))),none⟩,⟨7,(some 47),(.load false 1 (.t 46)),none⟩]) (post:=[⟨9,(some 49),(.nilck (.t 48)),none⟩,⟨10,(some 50),(.fld 0 (.t 49)),none⟩,⟨11,(some 51),(.load false 1 (.t 50)),none⟩,⟨12,(some 5),(.mv (.t 51)),none⟩]) aA [] (g:=63) (first:=[]) (cap:=[]) (args:=[.pt L.f.o 0,.str x]) (vs:=[]) rfl rfl rfl (by (exact RS3 hn hc cn)) call
theorem aTa(ly:Lays h L s){z0:Int}(hx:dV (s.meters.map (·.1)) x=none):CalP Tryz.prog aB 28 [.pt L.c 0,.agg [.str AAx,.fs [[.str x]],.fs [[I z0]]]] h (.ifc 84 (.agg [I 5])) (h++[some (.blk true (.cells true [.str AAx,.fs [[.str x]],.fs [[I z0]]]))]):=by
 obtain⟨n,hn⟩:∃ n,h.length=n:=⟨_,rfl⟩;obtain⟨g,hc⟩:=aC ly.hc;unfold cB at hc;have cn:(L.c<n)=True:=AAk (by rw[←hn];exact aJ ly.hc);have call:=(ly.ext [some (.blk true (.cells true [.str AAx,.fs [[.str x]],.fs [[I z0]]]))]).m.nonem hx;refine CalP.of (d:=wG) (e':=aZ [] []) aA rfl (by simp[wG]) rfl ?_;unfold wG;dsimp only;refine PanX.seqR (K:=28) aA rfl [0,3] (vs:=[.pt L.c 0,.pt n 0]) (h1:=h++[some (.blk true (.cells true [.str AAx,.fs [[.str x]],.fs [[I z0]]]))]) (by rw[hn]; (exact dG hn)) ?_;refine PanX.seqR (K:=28) aA rfl [0,3] (vs:=[.pt L.c 0,.pt n 0]) (h1:=h++[some (.blk true (.cells true [.str AAx,.fs [[.str x]],.fs [[I z0]]]))]) (by (exact dG hn)) ?_;refine PanX.seqL ?_;refine PanX.seqR (K:=28) aA rfl [0,3,11] (vs:=[.pt L.c 0,.pt n 0,.str AAx]) (h1:=h++[some (.blk true (.cells true [.str AAx,.fs [[.str x]],.fs [[I z0]]]))]) (by (exact dG hn)) ?_;refine PanX.block ?_;refine PanX.seqR (K:=28) aA rfl [0,3,11,12] (vs:=[.pt L.c 0,.pt n 0,.str AAx,.bool false]) (h1:=h++[some (.blk true (.cells true [.str AAx,.fs [[.str x]],.fs [[I z0]]]))]) (by (exact dG wQ)) ?_;refine PanX.condF rfl ?_;refine PanX.seqR (K:=28) aA rfl [0,3,11,38] (vs:=[.pt L.c 0,.pt n 0,.str AAx,.bool false]) (h1:=h++[some (.blk true (.cells true [.str AAx,.fs [[.str x]],.fs [[I z0]]]))]) (by (exact dG aBg)) ?_;refine PanX.condF rfl ?_;refine PanX.seqR (K:=28) aA rfl [0,3,11,52] (vs:=[.pt L.c 0,.pt n 0,.str AAx,.bool true]) (h1:=h++[some (.blk true (.cells true [.str AAx,.fs [[.str x]],.fs [[I z0]]]))]) (by (exact dG zA)) ?_;refine PanX.condT rfl ?_;exact PanX.regU (fr:=[]) (p:=[⟨0,(some 54),(.mv (.t 0)),none⟩,⟨1,(some 55),(.nilck (.t 54)),none⟩,⟨2,(some 56),(.fld 1 (.t 55)),none⟩,⟨3,(some 57),(.load false 1 (.t 56)),none⟩,⟨4,(some 58),(.fld 1 (.t 3)),none⟩,⟨5,(some 59),(.load false 1 (.t 58)),none⟩,⟨6,(some 60),(.idx 1 (.t 59) (.c (.int .i64 0))),none⟩,⟨7,(some 61),(.load false 1 (.t 60)),none⟩]) (post:=[⟨9,(some 63),(.nilck (.t 62)),none⟩,⟨10,(some 64),(.fld 1 (.t 63)),none⟩,⟨11,(some 65),(.load false 1 (.t 64)),none⟩,⟨12,(some 5),(.mv (.t 65)),none⟩]) aA [] (g:=64) (first:=[]) (cap:=[]) (args:=[.pt L.m.o 0,.str x]) (vs:=[]) rfl rfl rfl (by (exact RS3 hn hc cn)) call
theorem aTb(ly:Lays h L s){z0:Int}(hx:dV (s.pans.map (·.1)) x=none):CalP Tryz.prog aB 28 [.pt L.c 0,.agg [.str AAy,.fs [[.str x]],.fs [[I z0]]]] h (.ifc 84 (.agg [I 5])) (h++[some (.blk true (.cells true [.str AAy,.fs [[.str x]],.fs [[I z0]]]))]):=by
 obtain⟨n,hn⟩:∃ n,h.length=n:=⟨_,rfl⟩;obtain⟨g,hc⟩:=aC ly.hc;unfold cB at hc;have cn:(L.c<n)=True:=AAk (by rw[←hn];exact aJ ly.hc);have call:=(ly.ext [some (.blk true (.cells true [.str AAy,.fs [[.str x]],.fs [[I z0]]]))]).p.nonep hx;refine CalP.of (d:=wG) (e':=aZ [] []) aA rfl (by simp[wG]) rfl ?_;unfold wG;dsimp only;refine PanX.seqR (K:=28) aA rfl [0,3] (vs:=[.pt L.c 0,.pt n 0]) (h1:=h++[some (.blk true (.cells true [.str AAy,.fs [[.str x]],.fs [[I z0]]]))]) (by rw[hn]; (exact dG hn)) ?_;refine PanX.seqR (K:=28) aA rfl [0,3] (vs:=[.pt L.c 0,.pt n 0]) (h1:=h++[some (.blk true (.cells true [.str AAy,.fs [[.str x]],.fs [[I z0]]]))]) (by (exact dG hn)) ?_;refine PanX.seqL ?_;refine PanX.seqR (K:=28) aA rfl [0,3,11] (vs:=[.pt L.c 0,.pt n 0,.str AAy]) (h1:=h++[some (.blk true (.cells true [.str AAy,.fs [[.str x]],.fs [[I z0]]]))]) (by (exact dG hn)) ?_;refine PanX.block ?_;refine PanX.seqR (K:=28) aA rfl [0,3,11,12] (vs:=[.pt L.c 0,.pt n 0,.str AAy,.bool false]) (h1:=h++[some (.blk true (.cells true [.str AAy,.fs [[.str x]],.fs [[I z0]]]))]) (by (exact dG wU)) ?_;refine PanX.condF rfl ?_;refine PanX.seqR (K:=28) aA rfl [0,3,11,38] (vs:=[.pt L.c 0,.pt n 0,.str AAy,.bool false]) (h1:=h++[some (.blk true (.cells true [.str AAy,.fs [[.str x]],.fs [[I z0]]]))]) (by (exact dG aBh)) ?_;refine PanX.condF rfl ?_;refine PanX.seqR (K:=28) aA rfl [0,3,11,52] (vs:=[.pt L.c 0,.pt n 0,.str AAy,.bool false]) (h1:=h++[some (.blk true (.cells true [.str AAy,.fs [[.str x]],.fs [[I z0]]]))]) (by (exact dG zD)) ?_;refine PanX.condF rfl ?_;refine PanX.seqR (K:=28) aA rfl [0,3,11,66] (vs:=[.pt L.c 0,.pt n 0,.str AAy,.bool true]) (h1:=h++[some (.blk true (.cells true [.str AAy,.fs [[.str x]],.fs [[I z0]]]))]) (by (exact dG zE)) ?_;refine PanX.condT rfl ?_;exact PanX.regU (fr:=[]) (p:=[⟨0,(some 68),(.mv (.t 0)),none⟩,⟨1,(some 69),(.nilck (.t 68)),none⟩,⟨2,(some 70),(.fld 2 (.t 69)),none⟩,⟨3,(some 71),(.load false 1 (.t 70)),none⟩,⟨4,(some 72),(.fld 1 (.t 3)),none⟩,⟨5,(some 73),(.load false 1 (.t 72)),none⟩,⟨6,(some 74),(.idx 1 (.t 73) (.c (.int .i64 0))),none⟩,⟨7,(some 75),(.load false 1 (.t 74)),none⟩]) (post:=[⟨9,(some 77),(.nilck (.t 76)),none⟩,⟨10,(some 78),(.fld 0 (.t 77)),none⟩,⟨11,(some 79),(.load false 1 (.t 78)),none⟩,⟨12,(some 5),(.mv (.t 79)),none⟩]) aA [] (g:=65) (first:=[]) (cap:=[]) (args:=[.pt L.p.o 0,.str x]) (vs:=[]) rfl rfl rfl (by (exact RS3 hn hc cn)) call
theorem aMK(ly:Lays h L s){u1:ByteArray}{i:Nat}(hi:s.tickets.length≤i):CalP Tryz.prog aB 28 [.pt L.c 0,.agg [.str AAw,.fs [[.str u1]],.fs [[I (i:Nat)]]]] h (.ifc 84 (.agg [I 5])) (h++[some (.blk true (.cells true [.str AAw,.fs [[.str u1]],.fs [[I (i:Nat)]]]))]):=by
 obtain⟨n,hn⟩:∃ n,h.length=n:=⟨_,rfl⟩;obtain⟨g,hc⟩:=aC ly.hc;unfold cB at hc;have cn:(L.c<n)=True:=AAk (by rw[←hn];exact aJ ly.hc);refine CalP.of (d:=wG) (e':=aZ [] []) aA rfl (by simp[wG]) rfl ?_;unfold wG;dsimp only;refine PanX.seqR (K:=28) aA rfl [0,3] (vs:=[.pt L.c 0,.pt n 0]) (h1:=h++[some (.blk true (.cells true [.str AAw,.fs [[.str u1]],.fs [[I (i:Nat)]]]))]) (by rw[hn]; (exact dG hn)) ?_;refine PanX.seqR (K:=28) aA rfl [0,3] (vs:=[.pt L.c 0,.pt n 0]) (h1:=h++[some (.blk true (.cells true [.str AAw,.fs [[.str u1]],.fs [[I (i:Nat)]]]))]) (by (exact dG hn)) ?_;refine PanX.seqL ?_;refine PanX.seqR (K:=28) aA rfl [0,3,11] (vs:=[.pt L.c 0,.pt n 0,.str AAw]) (h1:=h++[some (.blk true (.cells true [.str AAw,.fs [[.str u1]],.fs [[I (i:Nat)]]]))]) (by (exact dG hn)) ?_;refine PanX.block ?_;refine PanX.seqR (K:=28) aA rfl [0,3,11,12] (vs:=[.pt L.c 0,.pt n 0,.str AAw,.bool false]) (h1:=h++[some (.blk true (.cells true [.str AAw,.fs [[.str u1]],.fs [[I (i:Nat)]]]))]) (by (exact dG mM)) ?_;refine PanX.condF rfl ?_;refine PanX.seqR (K:=28) aA rfl [0,3,11,38] (vs:=[.pt L.c 0,.pt n 0,.str AAw,.bool false]) (h1:=h++[some (.blk true (.cells true [.str AAw,.fs [[.str u1]],.fs [[I (i:Nat)]]]))]) (by (exact dG oY)) ?_;refine PanX.condF rfl ?_;refine PanX.seqR (K:=28) aA rfl [0,3,11,52] (vs:=[.pt L.c 0,.pt n 0,.str AAw,.bool false]) (h1:=h++[some (.blk true (.cells true [.str AAw,.fs [[.str u1]],.fs [[I (i:Nat)]]]))]) (by (exact dG nK)) ?_;refine PanX.condF rfl ?_;refine PanX.seqR (K:=28) aA rfl [0,3,11,66] (vs:=[.pt L.c 0,.pt n 0,.str AAw,.bool false]) (h1:=h++[some (.blk true (.cells true [.str AAw,.fs [[.str u1]],.fs [[I (i:Nat)]]]))]) (by (exact dG nL)) ?_;refine PanX.condF rfl ?_;refine PanX.seqR (K:=28) aA rfl [0,3,11,80] (vs:=[.pt L.c 0,.pt n 0,.str AAw,.bool false]) (h1:=h++[some (.blk true (.cells true [.str AAw,.fs [[.str u1]],.fs [[I (i:Nat)]]]))]) (by (exact dG mN)) ?_;refine PanX.condF rfl ?_;refine PanX.seqR (K:=28) aA rfl [0,3,11,88] (vs:=[.pt L.c 0,.pt n 0,.str AAw,.bool true]) (h1:=h++[some (.blk true (.cells true [.str AAw,.fs [[.str u1]],.fs [[I (i:Nat)]]]))]) (by (exact dG lH)) ?_;refine PanX.condT rfl ?_;refine PanX.seqL ?_;refine PanX.regU (fr:=[]) (p:=[⟨0,(some 90),(.fld 2 (.t 3)),none⟩,⟨1,(some 91),(.load false 1 (.t 90)),none⟩,⟨2,(some 92),(.idx 1 (.t 91) (.c (.int .i64 0))),none⟩,⟨3,(some 93),(.load false 1 (.t 92)),none⟩,⟨4,(some 94),(.mv (.t 0)),none⟩,⟨5,(some 95),(.nilck (.t 94)),none⟩,⟨6,(some 96),(.fld 4 (.t 95)),none⟩,⟨7,(some 97),(.load false 1 (.t 96)),none⟩,⟨8,(some 98),(.len false (.t 97)),none⟩,⟨9,(some 99),(.bin .lss (.t 93) (.t 98)),none⟩]) (post:=[]) aA [] (g:=24) (first:=[]) (cap:=[]) (args:=[.bool false,I 5]) (vs:=[]) rfl rfl rfl ?_ (c58 5 _);by_cases hk:0<s.tickets.length
 ·rw[eY hk]at hc
  have t1:((i:Int)<(s.tickets.length:Int))=False:=AAb;(exact RS4 hc hn cn t1)
 ·have h0:s.tickets.length=0:=AM
  have hv:iL L.tb s.tickets.length = .nilsl:=by rw[h0];rfl
  rw[hv]at hc;have t1:((i:Int)<0)=False:=AAb;(exact RS4 hc hn cn t1)
theorem aQu{c:Nat}{z0:Int}{v:AV}{h2:XH}(call:CalP Tryz.prog aB 66 [.pt c 0,.str x] (h++[some (.blk true (.cells true [.str AAz,.fs [[.str x]],.fs [[I z0]]]))]) v h2):CalP Tryz.prog aB 28 [.pt c 0,.agg [.str AAz,.fs [[.str x]],.fs [[I z0]]]] h v h2:=by
 obtain⟨n,hn⟩:∃ n,h.length=n:=⟨_,rfl⟩;refine CalP.of (d:=wG) (e':=aZ [] []) aA rfl (by simp[wG]) rfl ?_;unfold wG;dsimp only;refine PanX.seqR (K:=28) aA rfl [0,3] (vs:=[.pt c 0,.pt n 0]) (h1:=h++[some (.blk true (.cells true [.str AAz,.fs [[.str x]],.fs [[I z0]]]))]) (by rw[hn]; (exact dG hn)) ?_;refine PanX.seqR (K:=28) aA rfl [0,3] (vs:=[.pt c 0,.pt n 0]) (h1:=h++[some (.blk true (.cells true [.str AAz,.fs [[.str x]],.fs [[I z0]]]))]) (by (exact dG hn)) ?_;refine PanX.seqL ?_;refine PanX.seqR (K:=28) aA rfl [0,3,11] (vs:=[.pt c 0,.pt n 0,.str AAz]) (h1:=h++[some (.blk true (.cells true [.str AAz,.fs [[.str x]],.fs [[I z0]]]))]) (by (exact dG hn)) ?_;refine PanX.block ?_;refine PanX.seqR (K:=28) aA rfl [0,3,11,12] (vs:=[.pt c 0,.pt n 0,.str AAz,.bool false]) (h1:=h++[some (.blk true (.cells true [.str AAz,.fs [[.str x]],.fs [[I z0]]]))]) (by (exact dG tN)) ?_;refine PanX.condF rfl ?_;refine PanX.seqR (K:=28) aA rfl [0,3,11,38] (vs:=[.pt c 0,.pt n 0,.str AAz,.bool false]) (h1:=h++[some (.blk true (.cells true [.str AAz,.fs [[.str x]],.fs [[I z0]]]))]) (by (exact dG zB)) ?_;refine PanX.condF rfl ?_;refine PanX.seqR (K:=28) aA rfl [0,3,11,52] (vs:=[.pt c 0,.pt n 0,.str AAz,.bool false]) (h1:=h++[some (.blk true (.cells true [.str AAz,.fs [[.str x]],.fs [[I z0]]]))]) (by (exact dG wR)) ?_;refine PanX.condF rfl ?_;refine PanX.seqR (K:=28) aA rfl [0,3,11,66] (vs:=[.pt c 0,.pt n 0,.str AAz,.bool false]) (h1:=h++[some (.blk true (.cells true [.str AAz,.fs [[.str x]],.fs [[I z0]]]))]) (by (exact dG wT)) ?_;refine PanX.condF rfl ?_;refine PanX.seqR (K:=28) aA rfl [0,3,11,80] (vs:=[.pt c 0,.pt n 0,.str AAz,.bool true]) (h1:=h++[some (.blk true (.cells true [.str AAz,.fs [[.str x]],.fs [[I z0]]]))]) (by (exact dG tO)) ?_;refine PanX.condT rfl ?_;exact PanX.reg (p:=[⟨0,(some 82),(.mv (.t 0)),none⟩,⟨0,(some 83),(.fld 1 (.t 3)),none⟩,⟨0,(some 84),(.load false 1 (.t 83)),none⟩,⟨0,(some 85),(.idx 1 (.t 84) (.c (.int .i64 0))),none⟩,⟨0,(some 86),(.load false 1 (.t 85)),none⟩]) (post:=[⟨0,(some 5),(.mv (.t 87)),none⟩]) aA [] (g:=66) (first:=[]) (cap:=[]) (args:=[.pt c 0,.str x]) (vs:=[]) rfl rfl (by (exact dG hn)) call
end
end Go.Proofs.YtjckchgdlbgolaaGreatDoor
namespace Go.DL
mutual
theorem aGi(s:Nat→Option Nat):∀ v:AV,(∀ b∈kC v,s b=some b)→rnA s v=v
 | .agg cs,h=>by simp only[kC]at h;simp only[rnA,jB s cs h]
 | .tup cs,h=>by simp only[kC]at h;simp only[rnA,jB s cs h]
 | .sl b o z n,h=>by simp only[rnA,h b (by simp[kC])]
 | .pt b o,h=>by simp only[rnA,h b (by simp[kC])]
 | .mp b,h=>by simp only[rnA,h b (by simp[kC])]
 | .sb b n,h=>by simp only[rnA,h b (by simp[kC])]
 | .bp b,h=>by simp only[rnA,h b (by simp[kC])]
 | .fn f first cap,h=>by
   simp only[kC,B7]at h;cases f with
   | yield l=>simp only[rnA,h l (.inl (by simp)),jB s first fun b hb=>h b (.inr (.inl hb)),jB s cap fun b hb=>h b (.inr (.inr hb))]
   | _=>simp only[rnA,jB s first fun b hb=>h b (.inr (.inl hb)),jB s cap fun b hb=>h b (.inr (.inr hb))]
 | .ifc t v,h=>by simp only[kC]at h;simp only[rnA,aGi s v h]
 | .int ..,_=>by simp only[rnA]
 | .bool _,_=>by simp only[rnA]
 | .str _,_=>by simp only[rnA]
 | .fs _,_=>by simp only[rnA]
 | .fp ..,_=>by simp only[rnA]
 | .cs _,_=>by simp only[rnA]
 | .nilsl,_=>by simp only[rnA]
 | .nilpt,_=>by simp only[rnA]
 | .nilmap,_=>by simp only[rnA]
 | .nilfn,_=>by simp only[rnA]
 | .nilifc,_=>by simp only[rnA]
 | .any,_=>by simp only[rnA]
theorem jB(s:Nat→Option Nat):∀ vs:List AV,(∀ b∈kB vs,s b=some b)→kD s vs=vs
 | [],_=>by simp only[kD]
 | v::r,h=>by
   simp only[kB,B7]at h;simp only[kD,aGi s v fun b hb=>h b (.inl hb),jB s r fun b hb=>h b (.inr hb)]
end
theorem aGh(s:Nat→Option Nat)(x:Option XB)(h:∀ b∈nmO x,s b=some b):rnO s x=x:=by
 cases x with
 | none=>rfl
 | some x =>
   cases x with
   | blk g y=>cases g with
     | true=>rfl
     | false=>cases y with
       | cells w cs =>
         show some (XB.blk false (.cells w (kD s cs)))=_;rw[jB s cs h]
       | map w es =>
         show some (XB.blk false (.map w (es.map fun p=>(rnA s p.1,rnA s p.2))))=_;have:(es.map fun p=>(rnA s p.1,rnA s p.2))=es:=by
          have h2:∀ p∈es,(rnA s p.1,rnA s p.2)=p:=fun p hp=>by
           have h3:∀ b,b∈kC p.1++kC p.2→s b=some b:=fun b hb=>h b (aB2.2 ⟨p,hp,hb⟩)
           grind [aGi]
          rw[O5 h2];simp
         rw[this]
       | _=>rfl
   | loop K site vs st =>
     show some (XB.loop K site (kD s vs) st)=_;rw[jB s vs h]
   | gh st p=>rfl
def Cd(h:XH):Prop:=∀ x∈h,∀ b∈nmO x,b<h.length
theorem mA{h k:XH}:cW h.length (h++k)=h:=by
 induction h with
 | nil=>rfl
 | cons x r ih=>simp_all [cW]
theorem aCM{h:XH}{k:Nat}:∀(n:Nat)(l acc:List Nat),(∀ b∈l,b<k)→cI h k n l acc=acc
 | 0,_,_,_=>rfl
 | n+1,[],_,_=>rfl
 | n+1,b::r,acc,h1=>by
   unfold cI;rw[if_pos (.inl (h1 b (by simp)))];exact aCM n r acc fun c hc=>h1 c (by simp[hc])
theorem aGD{h:XH}(cd:Cd h){acc:List Nat}:h.map (rnO (keepS h.length acc))=h:=by
 have:∀ x∈h,rnO (keepS h.length acc) x=x:=fun x hx=>aGh _ x fun b hb=>by
  unfold keepS;rw[if_pos (cd x hx b hb)]
 rw[O5 this];simp
theorem aPG{h k:XH}{n:Nat}(hn:h.length=n)(cd:Cd h){L:List Nat}{e:aH}(hv:∀ b∈kB (L.map e),b<n):bP n L (some (.normal,e,h++k))=some (L.map e,h):=by
 subst hn;have h1:cY h.length (L.map e) (h++k)=[]:=by
  unfold cY;rw[mA];refine aCM _ _ _ fun b hb=>?_;rw[B7]at hb;rcases hb with hb|hb;·exact hv b hb
  ·obtain⟨x,hx,hb⟩:=aB2.1 hb
   exact cd x hx b hb
 rw[Rm];unfold yF jK mR;rw[h1,mA,aGD cd];rw[jB _ _ fun b hb=>by unfold keepS;grind];simp
end Go.DL
namespace Go.Proofs.YtjckchgdlbgolaaGreatDoor
open Go Go.DL
variable{h h' h1:XH}{L:CL}{s:dU}{x:ByteArray}
theorem aDu{h k:XH}{n:Nat}(hn:h.length=n)(cd:Cd h){L:List Nat}{r:Option (DX×aH×XH)}{vs:List AV}(hx:rJ L r=some (.normal,vs,h++k))(hv:∀ b∈kB vs,b<n):bP n L r=some (vs,h):=by
 unfold rJ at hx;rw[A3]at hx
 grind [aPG]
theorem aMl{h:XH}{n:Nat}(hn:h.length=n)(cd:Cd h){L:List Nat}{r:Option (DX×aH×XH)}{vs:List AV}(hx:rJ L r=some (.normal,vs,h))(hv:∀ b∈kB vs,b<n):bP n L r=some (vs,h) :=
 aDu (k:=[]) hn cd (by grind) hv
def aIW(s:dU):Int:=(s.farmers.map (·.2)).sum
theorem aEN{B:Int}:∀{l:List Int},(∀ v∈l,-B≤v∧v≤B) → -(B*l.length)≤l.sum∧l.sum≤B*l.length
 | [],_=>by simp
 | v::r,h=>by
   have h1:=h v (by simp);have h2:=aEN fun w hw=>h w (E7 v hw);rw[aG2,D9]
   grind
theorem aFe{l:List ByteArray}(nd:l.Nodup){i:Nat}{k:ByteArray}(hk:l[i]?=some k):dV l k=some i:=by
 obtain⟨j,hj⟩:=aGA (A5 hk);have h1:=hO hj;rw[hj];exact AAn some ((aF7 (D0.1 h1).1 nd).1 (h1.trans hk.symm))
theorem aNq(ly:Lays h L s)(cd:Cd h)(hk:0<s.farmers.length)(hk9:s.farmers.length≤9)(nd:(s.farmers.map (·.1)).Nodup)(hb:∀ p∈s.farmers,-1000000000≤p.2∧p.2≤1000000000):runW aB 28 [.pt L.c 0,.agg [.str AAv,.fs [],.fs []]] h=some (.str ⟨⟨Lib.itoa (aIW s)⟩⟩,h):=by
 obtain⟨n,hn⟩:∃ n,h.length=n:=⟨_,rfl⟩;obtain⟨g,hc⟩:=aC ly.hc;unfold cB at hc;have lc:L.c<n:=by rw[←hn];exact aJ ly.hc
 have cn:(L.c<n)=True:=AAk lc;obtain⟨gw,hwo⟩:=ly.f.ho;rw[A9,eY hk]at hwo;obtain⟨gb,hfb⟩:=ly.f.hb (by grind);have lo:L.f.o<n:=by rw[←hn];exact ly.f.lts.1
 have lb:L.f.b<n:=by rw[←hn];exact ly.f.lts.2.2.1 (by grind)
 have won:(L.f.o<n)=True:=AAk lo;have bd:∀ i,-9000000000≤((s.farmers.map (·.2)).take i).sum∧((s.farmers.map (·.2)).take i).sum≤9000000000:=fun i=>by
  have h1:=aEN (B:=1000000000) (l:=(s.farmers.map (·.2)).take i) fun v hv=>by
   grind
  grind
 have nv:∀ i:Nat,∀ b∈kB [.pt L.c 0,I ((s.farmers.map (·.2)).take i).sum,.sl L.f.b 0 1 s.farmers.length,I s.farmers.length,I (i:Nat)],b<n:=by
  intro i b hb2;simp only[kB,kC,I2,G6,H9,B5,F9,AAg]at hb2;omega
 have fin:((s.farmers.map (·.2)).take s.farmers.length).sum=aIW s:=by
  rw[C8 (by simp)];rfl
 have bs:=bd s.farmers.length;rw[fin]at bs;have c57:=aEe (n:=aIW s) AM;rw[qY 28 wG rfl,hn];unfold wG;dsimp only;have klt:((s.farmers.length:Int)<(s.farmers.length:Int))=False:=AAb;sym =>
  simp[Za,Zb,Zd,Zf,Zg,Zh,Zj,Zl,Zm,Zo,Zv,Zz,Z9,ZA,ZF,ZH,ZQ,ZU,Yc,Yg,Yl,Ym,Yr,Yu,Yx,Y5,YE,YJ,YK,Xx,Xy,Wh,Wi,Wj,Wu,Ww,WH,Vd,Ve,Vg,Vi,Vs,V3,V4,V5,VA,VB,VC,VK,VO,VQ,VV,VW,Ui,Uj,Uk,Uw,Uy,Uz,U0,UM,UN,UQ,UR,US,UT,UV,UW,UZ,Ta,Tb,Tc,Te,Tf,Tg,Ti,Tj,Tp,Tr,Ts,Tv,T2,T7,T8,TS,TT,TU,TV,TW,TX,TY,Se,Sf,Sw,Sx,SE,SF,SG,SL,SQ,SY,SZ,Ra,Rb,Rc,Re,Rf,Rg,Rh,Rj,Rl,Ro,Rp,RY,RZ,QM,Pe,Pf,Ph,Pj,Pk,Pl,PB,PC,PD,PE,PG,PL,PP,PR,PU,PV,hn,hc,cn,hwo,won,tM]
  tactic =>
   unfold aMT;rw[aQ s.farmers.length (fun i=>[.pt L.c 0,I ((s.farmers.map (·.2)).take i).sum,.sl L.f.b 0 1 s.farmers.length,I s.farmers.length,I (i:Nat)]) (fun _=>h)]
   ·rw[fin]
    (exact RS3 hn klt c57)
   ·exact aDu hn cd (k:=[some (.blk true (.cells true [.str AAv,.fs [],.fs []]))]) rfl (nv 0)
   ·intro i hi
    obtain⟨⟨q,y⟩,hq⟩:∃ p,s.farmers[i]?=some p:=⟨_,A8 hi⟩;have hqk:(s.farmers.map (·.1))[i]?=some q:=by grind
    have hx:=aFe nd hqk;obtain⟨e,v,he,hv,hev,call⟩:=ly.f.getf hx;rw[C4,hq]at hv;cases hv;have hev:aI h e=some (.cells true [I y]):=hev;obtain⟨ge,hee⟩:=aC hev;have t1:((i:Int)<(s.farmers.length:Int))=True:=AAa;have mq1:Option.map Prod.fst (some (q,y))=some q:=rfl;have mq2:Option.map AV.str (some q)=some (.str q):=rfl;have hs1:((s.farmers.map (·.2)).take (i+1)).sum=((s.farmers.map (·.2)).take i).sum+y:=by
     grind [List.take_add_one]
    have b1:=bd (i+1);rw[hs1]at b1;have a1:IntKind.i64.wrap (((s.farmers.map (·.2)).take i).sum+y)=((s.farmers.map (·.2)).take i).sum+y:=aE AM AM;have a2:IntKind.i64.wrap ((i:Int)+1)=((i+1:Nat):Int):=by grind [aE]
    refine aMl hn cd ?_ (nv (i+1));rw[hs1];generalize ((s.farmers.map (·.2)).take i).sum=S0 at *;(exact oI hn t1 hfb hq mq1 mq2 hc hwo call hee a1 a2 aG)
   ·(exact RS2 hn klt)
theorem aLB(ly:Lays h L s)(cd:Cd h)(hk:s.farmers.length=0):runW aB 28 [.pt L.c 0,.agg [.str AAv,.fs [],.fs []]] h=some (.str ⟨⟨Lib.itoa (aIW s)⟩⟩,h):=by
 have h0:s.farmers=[]:=D5 hk;have hs:aIW s=0:=by unfold aIW;rw[h0];rfl
 rw[hs];obtain⟨n,hn⟩:∃ n,h.length=n:=⟨_,rfl⟩;obtain⟨g,hc⟩:=aC ly.hc;unfold cB at hc;have lc:L.c<n:=by rw[←hn];exact aJ ly.hc
 have cn:(L.c<n)=True:=AAk lc;obtain⟨gw,hwo⟩:=ly.f.ho;have hv:iL L.f.b (s.farmers.map (·.1)).length = .nilsl:=by rw[A9,hk];rfl
 rw[hv]at hwo;have lo:L.f.o<n:=by rw[←hn];exact ly.f.lts.1
 have won:(L.f.o<n)=True:=AAk lo;have nv:∀ b∈kB [.pt L.c 0,I 0,.nilsl,I 0,I 0],b<n:=by
  intro b hb2;simp only[kB,kC,I2,G6,H9,B5,F9,AAg]at hb2;omega
 have c57:=aEe (n:=0) (by decide);rw[qY 28 wG rfl,hn];unfold wG;dsimp only;sym =>
  simp[Za,Zb,Zf,Zh,Zl,Zm,Zo,Zv,Zz,Z9,ZA,ZF,ZQ,ZU,Yc,Yg,Yl,Ym,Yr,Yv,YE,Xx,Xy,Wh,Wi,Wj,Wu,Ww,Vd,Ve,Vg,Vi,Vs,V3,V4,V5,VA,VB,VC,VK,VO,VQ,VV,VW,Ui,Uj,Uk,UM,UN,UQ,UR,US,UT,UV,UW,UZ,Ta,Tb,Tc,Te,Tf,Tg,Ti,Tj,Tp,Tv,T8,TS,TT,TU,TV,TW,TX,TY,Se,Sf,Sw,Sx,SF,SG,SL,SQ,SY,SZ,Ra,Rb,Re,Rf,Rg,Rh,Rj,Rl,Ro,Rp,PC,PD,PE,PG,PL,PP,PR,PU,PV,hn,hc,cn,hwo,won,tM]
  tactic =>
   unfold aMT;rw[aQ 0 (fun _=>[.pt L.c 0,I 0,.nilsl,I 0,I 0]) (fun _=>h)];·(exact RS2 hn c57)
   ·exact aDu hn cd (k:=[some (.blk true (.cells true [.str AAv,.fs [],.fs []]))]) rfl nv
   ·omega
   ·(exact dG hn)
inductive Wd where
 | farmer (x:ByteArray)
 | wagon (name owner:ByteArray) (full empty:Int)
 | void (i:Nat)
 | close
 | meter (x:ByteArray) (n:Int)
 | pan (x:ByteArray) (a b:Int)
 | net (x:ByteArray)
 | total
 | ticket (i:Nat)
 | used (x:ByteArray)
 | loss (x:ByteArray)
 | power (x:ByteArray)
def Wd.asks:Wd→Bool
 | .net _ | .total | .ticket _ | .used _ | .loss _ | .power _=>true
 | _=>false
def IsW:Wd→AV→Prop
 | .farmer x,v=>∃ z0:Int,v = .agg [.str AAo,.fs [[.str x]],.fs [[I z0]]]
 | .wagon x y a b,v=>(0≤a∧a≤99999∧0≤b∧b≤99999∧x.size≤10∧y.size≤10)∧∃(u1 u2:ByteArray)(z0 z1:Int),v = .agg [.str AAp,.fs [[.str x],[.str u1],[.str u2],[.str y]],.fs [[I z0],[I a],[I b],[I z1]]]
 | .void i,v=>∃ u1:ByteArray,v = .agg [.str AAq,.fs [[.str u1]],.fs [[I (i:Nat)]]]
 | .close,v=>v = .agg [.str AAr,.fs [],.fs []]
 | .meter x n,v=>(0≤n∧n≤99999)∧∃(u1:ByteArray)(z0:Int),v = .agg [.str AAs,.fs [[.str x],[.str u1]],.fs [[I z0],[I n]]]
 | .pan x a b,v=>(0≤a∧a≤99999∧0≤b∧b≤99999)∧∃(u1 u2:ByteArray)(z0:Int),v = .agg [.str AAt,.fs [[.str x],[.str u1],[.str u2]],.fs [[I z0],[I a],[I b]]]
 | .net x,v=>∃ z0:Int,v = .agg [.str AAu,.fs [[.str x]],.fs [[I z0]]]
 | .total,v=>v = .agg [.str AAv,.fs [],.fs []]
 | .ticket i,v=>∃ u1:ByteArray,v = .agg [.str AAw,.fs [[.str u1]],.fs [[I (i:Nat)]]]
 | .used x,v=>∃ z0:Int,v = .agg [.str AAx,.fs [[.str x]],.fs [[I z0]]]
 | .loss x,v=>∃ z0:Int,v = .agg [.str AAy,.fs [[.str x]],.fs [[I z0]]]
 | .power x,v=>∃ z0:Int,v = .agg [.str AAz,.fs [[.str x]],.fs [[I z0]]]
def gS{α:Type}(l:List (ByteArray×α))(x:ByteArray):Option α:=(dV (l.map (·.1)) x).bind fun i=>l[i]?.map (·.2)
theorem gJ{α:Type}{l:List (ByteArray×α)}{x:ByteArray}:gS l x=none↔dV (l.map (·.1)) x=none:=by
 unfold gS;cases h:dV (l.map (·.1)) x with
 | none=>simp
 | some i =>
   obtain⟨y,hy⟩:=uI h;simp[hy]
theorem eG{α:Type}{l:List (ByteArray×α)}{x:ByteArray}{y:α}(h:gS l x=some y):∃ i,dV (l.map (·.1)) x=some i∧l[i]?=some (x,y):=by
 unfold gS at h;cases hn:dV (l.map (·.1)) x with
 | none=>grind
 | some i =>
   obtain⟨z,hz⟩:=uI hn
   grind
def dZ(s:dU):Wd→Option Int
 | .farmer x=>if (gS s.farmers x).isSome then some 6 else if s.farmers.length=9 then some 15 else none
 | .wagon x y a b=>match gS s.farmers y with
   | none=>some 5
   | some _=>if ¬b≤a then some 10 else match gS s.wagons x with
     | none=>none
     | some e=>if e-500≤b∧b≤e+500 then none else some 22
 | .void i=>match s.tickets[i]? with
   | none=>some 5
   | some k=>if k.void then some 6 else if i<s.closed then some 23 else none
 | .close=>if s.closed<s.tickets.length then none else some 4
 | .meter x _=>if (gS s.meters x).isNone∧s.meters.length=5 then some 15 else none
 | .pan x a b=>if ¬b≤a then some 10 else if (gS s.pans x).isNone∧s.pans.length=5 then some 15 else none
 | _=>none
def sS(s:dU):Wd→dU
 | .farmer x=>{ s with farmers:=s.farmers++[(x,0)] }
 | .wagon x y a b=>fN s x y a b
 | .void i=>match s.tickets[i]? with
   | none=>s
   | some k=>{ s with tickets:=s.tickets.set i { k with void:=true },farmers:=iY s.farmers k.farmer (-k.net) }
 | .close=>{ s with closed:=s.tickets.length }
 | .meter x n=>{ s with meters:=oG (mtr n) (n,0) x s.meters }
 | .pan x a b=>{ s with pans:=iY s.pans x (a-b) }
 | _=>s
def yU(l:List CTk)(x:ByteArray):Int:=(l.map fun k=>if k.farmer=x∧k.void=false then k.net else 0).sum
structure gH(s:dU):Prop where
 book:s.book.length≤300
 nf:(s.farmers.map (·.1)).Nodup
 lf:s.farmers.length≤9
 lm:s.meters.length≤5
 lp:s.pans.length≤5
 lw:s.wagons.length≤s.book.length
 lt:s.tickets.length≤s.book.length
 cl:s.closed≤s.tickets.length
 bf:∀ p∈s.farmers,-(100000*s.book.length:Int)≤p.2∧p.2≤100000*s.book.length
 bm:∀ p∈s.meters,0≤p.2.1∧p.2.1≤99999∧0≤p.2.2∧p.2.2≤100000*s.book.length
 bp:∀ p∈s.pans,0≤p.2∧p.2≤100000*s.book.length
 bw:∀ p∈s.wagons,0≤p.2∧p.2≤99999
 bt:∀ k∈s.tickets,0≤k.net∧k.net≤99999∧k.farmer∈s.farmers.map (·.1)∧k.wagon.size≤10∧k.farmer.size≤10
 fs:∀ p∈s.farmers,p.2=yU s.tickets p.1
variable{h h' h1:XH}{L:CL}{s:dU}{x:ByteArray}{w:Wd}{v:AV}
theorem aDt{α:Type}{o:Option α}(h:¬o.isSome=true):o=none:=by simp_all
theorem aLb{α:Type}{l:List (ByteArray×α)}(h:¬((gS l x).isNone=true∧l.length=5)):(decide (dV (l.map (·.1)) x=none)&&decide (((l.map (·.1)).length:Int)=5))=false:=by
 grind [gS]
theorem aIi{α:Type}{l:List (ByteArray×α)}(h:(gS l x).isNone=true∧l.length=5):(decide (dV (l.map (·.1)) x=none)&&decide (((l.map (·.1)).length:Int)=5))=true:=by
 rw[A4,decide_eq_true_iff,decide_eq_true_iff,A9];refine⟨gJ.1 ?_,by omega⟩
 simp_all
theorem aJT{x:ByteArray}{a b:Int}(ly:Lays h L s)(hw:IsW (.pan x a b) v){e:Int}(hc:dZ s (.pan x a b)=some e):∃ h1,CalP Tryz.prog aB 27 [.pt L.c 0,v] h (.ifc 84 (.agg [I e])) h1∧Fr [] h h1:=by
 obtain⟨hb,u1,u2,z0,rfl⟩:=hw;have ly2:=ly.ext [some (.blk false (.cells true [.pt L.c 0])),some (.blk true (.cells true [.str AAt,.fs [[.str x],[.str u1],[.str u2]],.fs [[I z0],[I a],[I b]]]))];unfold dZ at hc;dsimp only at hc;split at hc
 ·rename_i hle
  cases hc;exact⟨_,aQv (bIp ly2 hle),(Fr.app h _).add _⟩
 ·rename_i hle
  split at hc
  ·rename_i hn
   cases hc;exact⟨_,aQv (bIo ly2 (O2.1 hle) (aIi hn)),(Fr.app h _).add _⟩
  ·cases hc
theorem aEC{x:ByteArray}(ly:Lays h L s)(h9:s.farmers.length≠9)(hw:IsW (.farmer x) v){e:Int}(hc:dZ s (.farmer x)=some e):∃ h1,CalP Tryz.prog aB 27 [.pt L.c 0,v] h (.ifc 84 (.agg [I e])) h1∧Fr [] h h1:=by
 obtain⟨z0,rfl⟩:=hw;unfold dZ at hc;dsimp only at hc;split at hc
 ·rename_i hs
  cases hc;obtain⟨y,hy⟩:=B6.1 hs;obtain⟨i,hi,_⟩:=eG hy;exact⟨_,aDW ly hi,Fr.app h _⟩
 ·cases hc
theorem aGX{x y:ByteArray}{a b:Int}(ly:Lays h L s)(gs:gH s)(hle:b≤a)(hw:IsW (.wagon x y a b) v){e:Int}(hc:dZ s (.wagon x y a b)=some e):∃ h1,CalP Tryz.prog aB 27 [.pt L.c 0,v] h (.ifc 84 (.agg [I e])) h1∧Fr [] h h1:=by
 obtain⟨hb,u1,u2,z0,z1,rfl⟩:=hw;have ly2:=ly.ext [some (.blk false (.cells true [.pt L.c 0])),some (.blk true (.cells true [.str AAp,.fs [[.str x],[.str u1],[.str u2],[.str y]],.fs [[I z0],[I a],[I b],[I z1]]]))];unfold dZ at hc;dsimp only at hc;split at hc
 ·rename_i hn
  cases hc;exact⟨_,aAs (bDi ly2 (gJ.1 hn)),(Fr.app h _).add _⟩
 ·rename_i f hf
  obtain⟨j,hj,_⟩:=eG hf;split at hc;·omega
  ·rename_i hle
   split at hc;·cases hc
   ·rename_i q hq
    split at hc;·cases hc
    ·rename_i hne
     cases hc;obtain⟨i,hi,hqi⟩:=eG hq;obtain⟨fe,hp⟩:=bIt (f:=AAp) (name:=x) (t1:=u1) (t2:=u2) (z:=z0) (z2:=z1) ly2 hj (O2.1 hle) hi (by grind) hne gs.bw;exact⟨_,aAs hp,(Fr.app h _).add _⟩
theorem aIB{i:Nat}(ly:Lays h L s)(hw:IsW (.void i) v){e:Int}(hc:dZ s (.void i)=some e):∃ h1,CalP Tryz.prog aB 27 [.pt L.c 0,v] h (.ifc 84 (.agg [I e])) h1∧Fr [] h h1:=by
 obtain⟨u1,rfl⟩:=hw;have ly2:=ly.ext [some (.blk false (.cells true [.pt L.c 0])),some (.blk true (.cells true [.str AAq,.fs [[.str u1]],.fs [[I (i:Nat)]]]))];unfold dZ at hc;dsimp only at hc;split at hc
 ·rename_i hn
  cases hc;exact⟨_,aGZ (bIs ly2 (aF1.1 hn)),(Fr.app h _).add _⟩
 ·rename_i k hk
  split at hc;·grind [bIr,aGZ,Fr.app]
  ·rename_i hv
   split at hc
   ·rename_i hcl
    cases hc;obtain⟨e,hp⟩:=bIq ly2 hk (aF6.2 hv) hcl
    grind [aGZ,Fr.app]
   ·cases hc
theorem aGY(ly:Lays h L s)(hw:IsW (.close) v){e:Int}(hc:dZ s (.close)=some e):∃ h1,CalP Tryz.prog aB 27 [.pt L.c 0,v] h (.ifc 84 (.agg [I e])) h1∧Fr [] h h1:=by
 cases hw;unfold dZ at hc;dsimp only at hc;split at hc;·cases hc
 ·rename_i hn
  cases hc;exact⟨_,aQx ly AM,Fr.app h _⟩
theorem aXg(ly:Lays h L s)(gs:gH s)(hw:IsW w v)(ha:w.asks=false){e:Int}(hc:dZ s w=some e):∃ h1,CalP Tryz.prog aB 27 [.pt L.c 0,v] h (.ifc 84 (.agg [I e])) h1∧Fr [] h h1:=by
 cases w with
 | farmer x =>
   by_cases h9:s.farmers.length=9
   ·obtain⟨z0,rfl⟩:=hw
    unfold dZ at hc;dsimp only at hc;split at hc
    ·rename_i hs
     cases hc;obtain⟨y,hy⟩:=B6.1 hs;obtain⟨i,hi,_⟩:=eG hy;exact⟨_,aDW ly hi,Fr.app h _⟩
    ·rename_i hs
     cases hc;exact⟨_,aJX ly (gJ.1 (aDt hs)) h9,Fr.app h _⟩
   grind [aEC]
 | wagon x y a b =>
   by_cases hle:b≤a;·grind [aGX]
   ·obtain⟨hb,u1,u2,z0,z1,rfl⟩:=hw
    have ly2:=ly.ext [some (.blk false (.cells true [.pt L.c 0])),some (.blk true (.cells true [.str AAp,.fs [[.str x],[.str u1],[.str u2],[.str y]],.fs [[I z0],[I a],[I b],[I z1]]]))];unfold dZ at hc;dsimp only at hc;split at hc
    ·rename_i hn
     cases hc;exact⟨_,aAs (bDi ly2 (gJ.1 hn)),(Fr.app h _).add _⟩
    ·rename_i f hf
     obtain⟨j,hj,_⟩:=eG hf;rw[if_pos hle]at hc;cases hc;obtain⟨fe,hp⟩:=bIu (f:=AAp) (name:=x) (t1:=u1) (t2:=u2) (z:=z0) (z2:=z1) ly2 hj hle;exact⟨_,aAs hp,(Fr.app h _).add _⟩
 | void i=>grind [aIB]
 | close=>grind [aGY]
 | meter x n =>
   obtain⟨hb,u1,z0,rfl⟩:=hw;have ly2:=ly.ext [some (.blk false (.cells true [.pt L.c 0])),some (.blk true (.cells true [.str AAs,.fs [[.str x],[.str u1]],.fs [[I z0],[I n]]]))];unfold dZ at hc;dsimp only at hc;split at hc
   ·rename_i hn
    cases hc;exact⟨_,aQw (c93 ly2 (aIi hn)),(Fr.app h _).add _⟩
   ·cases hc
 | pan x a b=>grind [aJT]
 | _=>cases ha
theorem bU{h k:XH}(i:Nat){g:Bool}{c:ABlk}(hk:k[i]?=some (some (.blk g c))):aI (h++k) (h.length+i)=some c:=by
 rw[gF,if_neg AM,show h.length+i-h.length=i by omega];unfold aI hat
 grind
theorem zX(ly:Lays h L s){bs:List Nat}(hb:∀ b∈bs,h.length≤b):Out L s bs:=fun b hm hp=>by
 obtain⟨j,hj⟩:=bF.1 hp;have:=ly.lt j b hj
 grind
theorem bDl{h k:XH}(i:Nat){c:XB}(hk:k[i]?=some (some c)):(hat (h++k) (h.length+i)).isSome=true:=by
 rw[aWA]
 simp_all [hat]
theorem vF{h k k2:XH}(i:Nat){c:XB}(hk:k[i]?=some (some c)):(hat ((h++k)++k2) (h.length+i)).isSome=true:=by
 grind [bDl]
abbrev aTt(g:Nat):Prop:=g=56∨g=60∨g=96∨g=98∨g=100∨g=103
def xI(h:XH)(L:CL)(s:dU)(v:AV)(s':dU):Prop:=∃(g:Nat)(caps:List AV)(h1:XH),runW aB 27 [.pt L.c 0,v] h=some (.fn (.func g) [] caps,h1)∧aTt g∧Fr [] h h1 ∧
 ∃ h2 L2,runW aB g caps h1=some (.tup [],h2)∧Lays h2 L2 s'∧L2.c=L.c∧Fr (wJ L s) h1 h2∧Sb h1.length L s L2 s'
theorem aJU{x:ByteArray}(ly:Lays h L s)(gs:gH s)(hw:IsW (.farmer x) v)(hc:dZ s (.farmer x)=none):xI h L s v (sS s (.farmer x)):=by
 have lbk:=gs.book;obtain⟨z0,rfl⟩:=hw;unfold dZ at hc;dsimp only at hc;split at hc;·cases hc
 ·rename_i hs
  split at hc;·cases hc
  ·rename_i h9
   have hx:=gJ.1 (aDt hs);have ly1:=ly.ext [some (.blk false (.cells true [.pt L.c 0])),some (.blk true (.cells true [.str AAo,.fs [[.str x]],.fs [[I z0]]]))];obtain⟨h2,L2,q1,q2,q3,q4,q5⟩:=w88 ly1 (b0:=h.length+0) (b1:=h.length+1) (zX ly (by grind)) (bU 0 rfl) (bU 1 rfl) hx (by have:=gs.lf;omega);exact⟨56,_,_,aLE ly hx h9,by decide,Fr.app h _,h2,L2,q1,q2,q3,q4,q5⟩
theorem aME{x y:ByteArray}{a b:Int}(ly:Lays h L s)(gs:gH s)(hw:IsW (.wagon x y a b) v)(hc:dZ s (.wagon x y a b)=none):xI h L s v (sS s (.wagon x y a b)):=by
 have lbk:=gs.book;obtain⟨hb,u1,u2,z0,z1,rfl⟩:=hw;have ly2:=ly.ext [some (.blk false (.cells true [.pt L.c 0])),some (.blk true (.cells true [.str AAp,.fs [[.str x],[.str u1],[.str u2],[.str y]],.fs [[I z0],[I a],[I b],[I z1]]]))];unfold dZ at hc;dsimp only at hc;split at hc;·cases hc
 ·rename_i f hf
  obtain⟨j,hj,hjf⟩:=eG hf;split at hc;·cases hc
  ·rename_i hle
   have hle:=O2.1 hle;have hww:∀ i q,dV (s.wagons.map (·.1)) x=some i→(s.wagons.map (·.2))[i]?=some q→q-500≤b∧b≤q+500:=by
    intro i q hi hq;have:gS s.wagons x=some q:=by
     unfold gS
     grind
    grind
   obtain⟨fe,hfe,q0⟩:=w90 (f:=AAp) (name:=x) (t1:=u1) (t2:=u2) (z:=z0) (z2:=z1) ly2 hj hle hww gs.bw;have ly3:=ly2.ext (kZ L.c AAp x u1 u2 y z0 a b z1 [some (.blk false (.cells true [.pt fe 0]))]);have hfb:=gs.bf _ (A5 hjf);simp only at hfb;obtain⟨h2,L2,q1,q2,q3,q4,q5⟩:=bEr (j:=j) (fe:=fe) (v:=f) (name:=x) (owner:=y) (full:=a) (empty:=b) ly3 (zX ly2 (by grind)) (bU 0 rfl) (bU 2 rfl) (bU 4 rfl) (bU 6 rfl) (bU 3 rfl) (bU 5 rfl) hfe hj hjf AM (by have:=gs.lw;omega) (by have:=gs.lt;omega);exact⟨96,_,_,aNs q0 (vF 0 rfl) (vF 1 rfl),by decide,(Fr.app h _).add _,h2,L2,q1,q2,q3,q4,q5⟩
theorem aSZ{x:ByteArray}{a b:Int}(ly:Lays h L s)(gs:gH s)(hw:IsW (.pan x a b) v)(hc:dZ s (.pan x a b)=none):xI h L s v (sS s (.pan x a b)):=by
 have lbk:=gs.book;obtain⟨hb,u1,u2,z0,rfl⟩:=hw;have ly2:=ly.ext [some (.blk false (.cells true [.pt L.c 0])),some (.blk true (.cells true [.str AAt,.fs [[.str x],[.str u1],[.str u2]],.fs [[I z0],[I a],[I b]]]))];unfold dZ at hc;dsimp only at hc;split at hc;·cases hc
 ·rename_i hle
  have hle:=O2.1 hle;split at hc;·cases hc
  ·rename_i hn
   have ly3:=ly2.ext (yI L.c x a b);obtain⟨h2,L2,q1,q2,q3,q4,q5⟩:=bEo ly3 (b0:=_+0) (b1:=_+1) (b2:=_+2) (b3:=_+3) (a:=a) (b:=b) (x:=x) (zX ly2 (by grind)) (bU 0 rfl) (bU 1 rfl) (bU 2 rfl) (bU 3 rfl) AM (fun p hp=>by have:=gs.bp p hp;omega) (by have:=gs.lp;omega);exact⟨103,_,_,aUU (w94 ly2 hle (aLb hn)) (vF 0 rfl) (vF 1 rfl),by decide,(Fr.app h _).add _,h2,L2,q1,q2,q3,q4,q5⟩
theorem aQo{i:Nat}(ly:Lays h L s)(gs:gH s)(hw:IsW (.void i) v)(hc:dZ s (.void i)=none):xI h L s v (sS s (.void i)):=by
 have lbk:=gs.book;obtain⟨u1,rfl⟩:=hw;have ly2:=ly.ext [some (.blk false (.cells true [.pt L.c 0])),some (.blk true (.cells true [.str AAq,.fs [[.str u1]],.fs [[I (i:Nat)]]]))];unfold dZ at hc;dsimp only at hc;split at hc;·cases hc
 ·rename_i k hk
  split at hc;·cases hc
  ·rename_i hv
   split at hc;·cases hc
   ·rename_i hcl
    obtain⟨e,he,q0⟩:=w91 ly2 hk (aF6.2 hv) AM;have ly3:=ly2.ext (aJY L.c e);obtain⟨hk1,hk2,hk3,_⟩:=gs.bt k (A5 hk);obtain⟨j,hj⟩:=aGA hk3;obtain⟨f,hjf⟩:=uI hj;have hfb:=gs.bf _ (A5 hjf);simp only at hfb;obtain⟨h2,q1,q2,q4⟩:=bEq ly3 (b0:=_+1) (b1:=_+0) (zX ly2 (by grind)) (bU 1 rfl) (bU 0 rfl) hk he hj hjf AM;have hd:sS s (.void i)={ s with tickets:=s.tickets.set i { k with void:=true },farmers:=iY s.farmers k.farmer (-k.net) }:=by
     unfold sS;grind
    exact⟨98,_,_,aRj q0 (vF 0 rfl) (vF 1 rfl),by decide,(Fr.app h _).add _,h2,L,q1,by grind,rfl,q4,by
     rw[hd];exact .of rfl (aCn (by grind)) (tL rfl) (cV (by rw[iG hj (by rw[C4,hjf];rfl),D6])) (cV rfl) (cV rfl) (cV rfl)⟩
theorem aMG(ly:Lays h L s)(gs:gH s)(hw:IsW (.close) v)(hc:dZ s (.close)=none):xI h L s v (sS s (.close)):=by
 have lbk:=gs.book;cases hw;unfold dZ at hc;dsimp only at hc;split at hc
 ·rename_i hn
  have ly1:=ly.ext [some (.blk false (.cells true [.pt L.c 0])),some (.blk true (.cells true [.str AAr,.fs [],.fs []]))];obtain⟨h2,q1,q2,q4⟩:=w92 ly1 (b0:=h.length+0) (bU 0 rfl) AM;exact⟨60,_,_,aNw ly hn,by decide,Fr.app h _,h2,L,q1,q2,rfl,q4,.of rfl (aCn rfl) (tL rfl) (cV rfl) (cV rfl) (cV rfl) (cV rfl)⟩
 ·cases hc
theorem aMF{x:ByteArray}{n:Int}(ly:Lays h L s)(gs:gH s)(hw:IsW (.meter x n) v)(hc:dZ s (.meter x n)=none):xI h L s v (sS s (.meter x n)):=by
 have lbk:=gs.book;obtain⟨hb,u1,z0,rfl⟩:=hw;have ly2:=ly.ext [some (.blk false (.cells true [.pt L.c 0])),some (.blk true (.cells true [.str AAs,.fs [[.str x],[.str u1]],.fs [[I z0],[I n]]]))];unfold dZ at hc;dsimp only at hc;split at hc;·cases hc
 ·rename_i hn
  have ly3:=ly2.ext (aHa L.c x n);obtain⟨h2,L2,q1,q2,q3,q4,q5⟩:=bEp ly3 (b0:=_+0) (b1:=_+1) (b2:=_+2) (n:=n) (x:=x) (zX ly2 (by grind)) (bU 0 rfl) (bU 1 rfl) (bU 2 rfl) hb (fun p hp=>by have:=gs.bm p hp;omega) (by have:=gs.lm;omega);exact⟨100,_,_,aNv (w93 ly2 (aLb hn)) (vF 0 rfl) (vF 1 rfl),by decide,(Fr.app h _).add _,h2,L2,q1,q2,q3,q4,q5⟩
theorem aQp(ly:Lays h L s)(gs:gH s)(hw:IsW w v)(ha:w.asks=false)(hc:dZ s w=none):xI h L s v (sS s w):=by
 cases w with
 | farmer x=>grind [aJU]
 | wagon x y a b=>grind [aME]
 | void i=>grind [aQo]
 | close=>grind [aMG]
 | meter x n=>grind [aMF]
 | pan x a b=>grind [aSZ]
 | _=>cases ha
end Go.Proofs.YtjckchgdlbgolaaGreatDoor
namespace Go.Proofs.YtjckchgdlbgolaaGreatDoor
open Go Go.DL Go.Proofs.Tryz
section
variable{B:Base}{D:Nat→Option XFn}{Y:Nat→Option YI}{r:Nat→Option Nat}{h:XH}{H:Hp}{F:Nat→Prop}{w:World}
theorem zO(ok:XOk prog D)(B:Base)(Y:Nat→Option YI)(hY:YOk prog B D Y):Go.DL.FnS prog B D Y (runW D)∧YS prog B D Y (runYW D):=by
 refine⟨fun r h H K xs as' v h' sh hA hx=>?_,fun r h H fv fv' xs as' v h' sh hfv hA hx=>?_⟩
 ·obtain⟨n,hn⟩:=bJ.1 hx
  exact(mY ok n B Y hY).1 r h H K xs as' v h' sh hA hn
 ·obtain⟨n,hn⟩:=vM.1 hx
  exact(mY ok n B Y hY).2 r h H fv fv' xs as' v h' sh hfv hA hn
theorem aPX{i:aQO}(sh:SH D Y r h H){r1:Nat→Option Nat}{e1 env1:aH}{h1:XH}{H1:Hp}(ha:Agree h.length r r1)(sr:SR D Y r1 e1 h1 env1 H1){v:AV}(hx:jZ i.res e1 (aI h1)=some v) :
 ∃ v1,jZ i.res env1 H1=some v1∧∃ v' H'',Shift (upd anyE 0 v1) H1 (upd anyE 0 v') H''∧fH D Y r v h1 v' H'':=by
 obtain⟨v0',k1,k2⟩:=aGo sr hx;exact⟨v0',k1,v0',H1,fun F w a st re=>⟨F,Ext.refl _ _ _,st,re⟩,r1,fun b c hb=>ha b c (sh.dom b c hb) hb,sr.sh,k2⟩
def aUr(D:Nat→Option XFn)(d:XFn)(c o k:Nat)(e:aH)(h1 h3:XH)(v:AV):Prop :=
 (∃ x e2 h2,(∀ id,x ≠ .exit id∧x ≠ .goto id)∧execW D 6 k none b21 e h1=some (x,e2,h2)∧xF saySay (runW D) (runYW D) (.pt c o) saySay.zero false h2=some h3∧jZ saySay.res e2 (aI h3)=some v) ∨
 (∃ v0 e2 h2,PanX prog D d k b21 e h1 (.ifc 84 v0) e2 h2∧xF saySay (runW D) (runYW D) (.pt c o) v0 true h2=some h3∧jZ saySay.res e2 (aI h3)=some v)
theorem aRI(ok:XOk prog D){d21:XFn}(hD:D 6=some d21)(hN:d21.N=41){xs as':List AV}{v:AV}{h1 h3:XH}{e1:aH}{c o:Nat}(hlen:xs.length≤41)
 (hx1:fI (runW D) (runYW D) saySay.pre (aV (lT xs)) h=some (e1,h1)) (he1:e1 4 = .pt c o) (hc:c<h1.length) (hbody:aUr D d21 c o h1.length (upd e1 7 .any) h1 h3 v) (hY:YOk prog B D Y) (sh:SH D Y r h H) (hA:RnL D Y r xs as'):FnW B prog 6 as' H (fH D Y r v h3):=by
 have hm:=ok.mixed;obtain⟨hf,hy⟩:=zO ok B Y hY;have hA1:=hA.nz;refine FnW.nz (FnW.shift ⟨fun vs w=>call6 vs w,fun F w vs hB st hAr=>?_⟩);have hsz:(vs++Array.replicate (f6.ntmps-vs.size) undef).size=41:=by
  have h1:=hAr.1;have h2:=hA1.1
  grind [lS,bAt]
 have hre:=aBV (N:=41) (nt:=f6.ntmps-vs.size) hB hAr;have RS0:=lD (P:=prog) (B:=B) hf hy saySay.pre r _ h _ H e1 h1 (fun env' H'=>∃ r',DL.Sub r r'∧SR D Y r' e1 h1 env' H') rfl ⟨sh,nE hA1⟩ hx1 (fun r' env' H' hs sr'=>⟨r',hs,sr'⟩);refine callsIn_of_wp_marks func6 aXq trivial (wpIn_seq (qO (B:=B) (r:=none) (N:=41) (draw:=false) hm bAe hsz hB st hre RS0 ?_));rintro a1 F1 w1 env1 H1 p1 p2 p3 p4 p5 ⟨r1,p6,p7⟩;show (Code.seq (.region 1 r21_1 false) code21).wpIn Fence.wide 0 prog _ a1 w1;have hB1:=hB.step st p3;have h4:=p7.re 4;have he1':e1 4 = .pt c o:=he1;rw[he1']at h4;obtain⟨b,hrb,henv4⟩:∃ b,r1 c=some b∧env1 4 = .pt b o:=by
  generalize env1 4=z at h4;cases h4 with
  | pt _ b _ hb=>grind
 refine wpIn_seq (wpIn_region ?_);rw[bEF,show List.range 2=[0,1] from rfl,wpOpsIn_cons];obtain⟨o0,g1,g2⟩:=bAx;obtain⟨o1,k1,k2,k3,k4⟩:=bIi;refine aCk (r:=none) (B:=B) (N:=41) (K:=fun env' H'=>env'=aX env1 (some 7) (.fn (.func 22) [] [.pt b o])∧H'=H1) (oN g1 g2) rfl (fun k hk=>by grind) p1 hB1 p4 p5 ?_ ?_
 ·rw[aPe,rK rfl]
  simp only[aD,aG7,F8,aL,henv4,optW_some,fJ]
  grind
 rintro a2 F2 w2 env2 H2 s1 s2 s3 s4 s5 ⟨rfl,rfl⟩;rw[wpOpsIn_cons];unfold wpOpIn;simp only[k1];have hw:Region.wanted o1 (yielded r21_1 a2.tmps)=true:=by unfold Region.wanted;rw[k3]
 rw[if_pos hw];have h7:a2.eval (.tmp 7) = .func (.func 22) #[] #[.pointer (some ⟨b,o,none⟩)]:=by
  have:=s5.rv 7;simp only[aX,upd,AAe]at this;show a2.tmps.getD 7 undef=_;generalize a2.tmps.getD 7 undef=z at this;cases this with
  | fn _ _ _ fv cv hl1 hl2 q1 q2 =>
    have e1:fv = #[]:=by
     grind
    have e2:cv = #[.pointer (some ⟨b,o,none⟩)]:=by
     rcases cv with ⟨_|⟨a,_|⟨a',l⟩⟩⟩;·simp at hl2
     ·have:=q2 0 _ a rfl rfl
      cases this;rfl
     grind
    rw[e1,e2]
 refine⟨fun _ _=>trivial,?_⟩;have hsem:(o1.semAt Fence.wide.round a2.eval).run prog w2 = .ok (.defer { target:=.fn (.func 22) #[.pointer (some ⟨b,o,none⟩)],args := #[] }) w2:=by
  have:Fence.wide.round=none:=rfl;rw[this,Oper.semAt_none];simp[execOp,resolve,k4,h7,Deferred.ofValue]
 rw[hsem,Oper.uponIn_defer,k2];have hdf:a2.defers=[]:=by rw[s2,p2]
 obtain⟨T,hT⟩:∃ T:List Deferred,T=[{ target:=.fn (.func 22) #[.pointer (some ⟨b,o,none⟩)],args := #[] }]:=⟨_,rfl⟩;have hact:Act.put { a2 with defers:={ target:=.fn (.func 22) #[.pointer (some ⟨b,o,none⟩)],args := #[] }::a2.defers } none undef={ tmps:=a2.tmps,defers:=T }:=by
  rw[hdf,hT];rfl
 rw[hact];show code21.wpIn Fence.wide 0 prog _ { tmps:=a2.tmps,defers:=T } w2;have hB2:=hB1.step p4 s3;have E2:=p3.trans s3;have sr2:SR D Y r1 (upd e1 7 .any) h1 (aX env1 (some 7) (.fn (.func 22) [] [.pt b o])) H2:=⟨p7.sh,fun j=>by
  simp only[upd,aX];split;·exact .any _
  ·exact p7.re j⟩
 have ag1:Agree h.length r r1:=p6.agree _
 have out:∀(F':Nat→Prop)(w':World)(H':Hp)(env':aH)(tmps:Array Value)(ds:List Deferred)(r3:Nat→Option Nat)(e2:aH)(h2:XH)(u:FrameMode)(v0 v0':AV)(t:Bool)(cval:Value),u ≠ .run→Ext F w H F' w' H'→St F' w' H'→RE F' w' env' { tmps:=tmps,defers:=[] } →
  Mk w2.heap.size T F' H' w' ds→Agree h1.length r1 r3→SR D Y r3 e2 h2 env' H'→Rn D Y r3 v0 v0'→xF saySay (runW D) (runYW D) (.pt c o) v0 t h2=some h3→jZ saySay.res e2 (aI h3)=some v →
  ((t=true∧u = .panicking (pnc cval)∧Rv F' w' (.ifc 84 v0') cval)∨(t=false∧u = .returning∧v0' = .agg [.int .i64 0])) →
  LeavesInM Fence.wide 0 prog f6 tmps (vH F w H fun v1 H1=>∃ v' H'',Shift (upd anyE 0 v1) H1 (upd anyE 0 v') H''∧fH D Y r v h3 v' H'') ds u w':=by
  intro F' w' H' env' tmps ds r3 e2 h2 u v0 v0' t cval hu he st' re' mk ag sr3 hv0 hh hret hcase;obtain⟨ms,q1,q2,q3⟩:=mk.ex;rw[q1];refine aEx (env:=env') (S:=fun w'=>(t=true∧u = .panicking (pnc cval)∧Rv F' w' (.ifc 84 v0') cval)∨(t=false∧u = .returning∧v0' = .agg [.int .i64 0])) (fun w w' hu hs=>?_) hu E2.le (fun w'' hs'' he' st'' re''=>?_) ms w' hcase he st' re' q2 q3
  ·rcases hs with ⟨a1,a2,a3⟩|hs
   ·exact .inl ⟨a1,a2,a3.up hu⟩
   grind
  rw[hT];refine⟨hu,.inr ⟨fun hd=>by simp[Fence.wide]at hd,_,_,22,#[.pointer (some ⟨b,o,none⟩)],rfl,?_,fun _ _=>trivial,?_⟩⟩;·rfl
  ·refine aWB hf hy hm (hB.step st he') st'' sr3.sh (ag c b hc hrb) rfl rfl rfl hv0 hh hs'' ?_
   intro F4 w4 H4 r4 u' hset t2 t3 t4 t5;show LeavesInM Fence.wide 0 prog f6 tmps _ [] (settle u') w4;rw[hset];have re4:RE F4 w4 env' { tmps:=tmps,defers:=[] }:=re''.up (t2.up st'');have sr4:SR D Y r4 e2 h3 env' H4:=⟨t5,fun j=>(sr3.re j).mono t4⟩;have ag4:Agree h.length r r4:=fun b1 c1 hb1 hr1=>t4 _ _ (ag b1 c1 (p7.sh.dom b1 c1 (p6 b1 c1 hr1)) (p6 b1 c1 hr1));obtain⟨v1,x1,x2⟩:=aPX sh ag4 sr4 hret;obtain⟨cv,y1,y2⟩:=aBj t3 re4 aZR x1;exact⟨cv,y1,cv,v1,F4,H4,rfl,he'.trans t2,t3,y2,x2⟩
 rcases hbody with ⟨x,e2,h2,hne,hex,hh,hret⟩|⟨v0,e2,h2,hpan,hh,hret⟩
 ·have hWD:=uV (Q:=fun x' env3 H3=>x'=x∧∃ r3,Agree h1.length r1 r3∧SR D Y r3 e2 h2 env3 H3) ok hD hex hY bAr (aF bAu) sr2 (fun r' env' H' ha sr'=>⟨rfl,r',ha,sr'⟩)
  have hW:=hWD code21 (by grind [aFy]) F2 w2 { tmps:=a2.tmps,defers:=T } w2.heap.size T hB2 (A6 _) (by grind) s4 s5 Mk.nil;refine wpIn_mono hW ?_;rintro e a' w' ⟨x',env',F',H',z1,z2,z3,z4,z5,z6,rfl,r3,z7,z8⟩;have fin:=fun(hu:True)=>out F' w' H' env' a'.tmps a'.defers r3 e2 h2 .returning _ _ false undef (by simp) (E2.trans z3) z4 z5 z6 z7 z8 ((aDc saySay.zero rfl)) hh hret (.inr ⟨rfl,rfl,rfl⟩);cases e with
  | normal=>exact fin trivial
  | ret=>exact fin trivial
  | exit id=>grind
  | goto l=>grind
  | panic c=>grind
  | outgrown=>grind
 ·have hWD:=hpan bAr (aF bAu) B Y r1 _ _ (fun v' env3 H3=>∃ r3,Agree h1.length r1 r3∧SR D Y r3 e2 h2 env3 H3∧Rn D Y r3 (.ifc 84 v0) v') hY sr2 (fun r' v' env' H' ha sr' hv'=>⟨r',ha,sr',hv'⟩)
  have hW:=hWD code21 (by grind [aFy]) F2 w2 { tmps:=a2.tmps,defers:=T } w2.heap.size T hB2 (A6 _) (by grind) s4 s5 Mk.nil;refine wpIn_mono hW ?_;rintro e a' w' ⟨cv,vv,env',F',H',rfl,z3,z4,z5,z9,z6,r3,z7,z8,z10⟩;cases z10 with
  | ifc _ _ v0' hv0' =>
  exact out F' w' H' env' a'.tmps a'.defers r3 e2 h2 (.panicking (pnc cv)) v0 v0' true cv (by simp) (E2.trans z3) z4 z5 z6 z7 z8 hv0' hh hret (.inl ⟨rfl,rfl,z9⟩)
end
end Go.Proofs.YtjckchgdlbgolaaGreatDoor
namespace Go.Proofs.YtjckchgdlbgolaaGreatDoor
open Go Go.DL
variable{h h' h1 h2:XH}{L:CL}{s:dU}{x line:ByteArray}{w:Wd}{v:AV}
theorem w59(ly:Lays h L s):runW aB 25 [.pt L.c 0] h=some (.bool false,h):=by
 obtain⟨g,hc⟩:=aC ly.hc;unfold cB at hc;rw[qY 25 x25 rfl];unfold x25;dsimp only;(exact dG hc)
theorem aFI(run:eA)(runY:fA)(ops:List DOper)(e:aH)(h:XH):fI run runY ops e h=xo none run runY ops e h:=rfl
theorem aKW{n:Nat}:xF saySay (runW aB) (runYW aB) (.pt n 0) saySay.zero false h=some (h++[some (.blk true (.cells true [I 0]))]):=by
 unfold xF saySay nQ xU aBq;dsimp only;rw[aFI];obtain⟨k,hk⟩:∃ n,h.length=n:=⟨_,rfl⟩;(exact dG hk)
def nW:List Int:=[2,4,5,6,8,9,10,13,14,15,22,23]
def noA(e:Int):ByteArray:=(⟨⟨[110,111,32]⟩⟩:ByteArray)++⟨⟨Lib.itoa e⟩⟩
theorem aSn{e:Int}(he:e∈nW):aY .add ⟨⟨[110,111,32]⟩⟩ ⟨⟨Lib.itoa e⟩⟩=some (.str (noA e))∧(-9223372036854775808≤e∧e≤9223372036854775807):=by
 have h0:e=2∨e=4∨e=5∨e=6∨e=8∨e=9∨e=10∨e=13∨e=14∨e=15∨e=22∨e=23:=by simp_all [nW]
 rcases h0 with rfl|rfl|rfl|rfl|rfl|rfl|rfl|rfl|rfl|rfl|rfl|rfl;all_goals exact⟨by kernel_rfl,by decide⟩
theorem aPJ{n:Nat}{g:Bool}{a:ByteArray}{e:Int}(hn:hat h n=some (.blk g (.cells true [.str a])))(he:e∈nW):xF saySay (runW aB) (runYW aB) (.pt n 0) (.agg [I e]) true h=some ((h.set n (some (.blk g (.cells true [.str (noA e)]))))++[some (.blk true (.cells true [I e]))]):=by
 unfold xF saySay nQ xU vY aBq;dsimp only;rw[aFI];obtain⟨k,hk⟩:∃ n,h.length=n:=⟨_,rfl⟩;obtain⟨sa,hbe⟩:=aSn he;have c57:=aEe (n:=e) hbe;have nk:(n<k)=True:=AAk (by rw[←hk];exact aJ (aPH hn));(exact RS7 hk hn nk c57 aFI sa aG)
def aCm(c n:Nat)(line:ByteArray):aH:=upd (upd (aV [.pt c 0,.str line]) 4 (.pt n 0)) 7 .any
def mP:XH:=[some (.blk true (.cells true [.str ⟨⟨[]⟩⟩]))]
def Prs(line:ByteArray)(r:Int ⊕ Wd):Prop:=match r with
 | .inl e=>CalP Tryz.prog aB 26 [.str line] [] (.ifc 84 (.agg [I e])) []
 | .inr w=>∃ v,runW aB 26 [.str line] []=some (v,[])∧IsW w v∧gdA v=true
theorem IsW.shape(hw:IsW w v):∃ f r1 r2,v = .agg [.str f,.fs r1,.fs r2]:=by
 cases w with
 | farmer x=>grind [IsW]
 | wagon x y a b=>grind [IsW]
 | void i=>grind [IsW]
 | close=>grind [IsW]
 | meter x n=>grind [IsW]
 | pan x a b=>grind [IsW]
 | net x=>grind [IsW]
 | total=>grind [IsW]
 | ticket i=>grind [IsW]
 | used x=>grind [IsW]
 | loss x=>grind [IsW]
 | power x=>grind [IsW]
def wB(f:ByteArray)(r1 r2:List (List AV)):XH:=[some (.blk true (.cells true [.str ⟨⟨[]⟩⟩])),some (.blk true (.cells true [.str f,.fs r1,.fs r2]))]
theorem Lays.bookNew(ly:Lays h L s){n m:Nat}{line a:ByteArray}{g g1 g2 g3:Bool}{cs:List AV}(hm:h.length=m)(hn:n∉wJ L s)(hnl:n<m)(hcs:cs=cB { L with kb:=m+1 } { s with book:=s.book++[line] })(hh:h'=((pT h L.kb s.book.length).set L.c (some (.blk g (.cells true cs)))).set n (some (.blk g3 (.cells true [.str a])))++[some (.blk g1 (.cells true [.str line])),some (.blk g2 (.cells true (s.book.map .str++[.str line])))]) :
 Lays h' { L with kb:=m+1 } { s with book:=s.book++[line] }∧aI h' n=some (.cells true [.str a]):=by
 subst hm hcs;have cl:=aJ ly.hc;have cn:L.c≠n:=fun q=>hn (bF.2 ⟨0,by simp[px,q]⟩);have hl:(((pT h L.kb s.book.length).set L.c (some (.blk g (.cells true (cB { L with kb:=h.length+1 } { s with book:=s.book++[line] }))))).set n (some (.blk g3 (.cells true [.str a])))).length=h.length:=by grind [uF]
 have l1:Lays (h.set n (some (.blk g3 (.cells true [.str a])))) L s:=ly.fr ((Fr.refl [n] h).set (by simp) _) fun j b hb hm=>hn (by grind [bF]);have fr:Fr (L.c::nO L.kb s.book.length) (h.set n (some (.blk g3 (.cells true [.str a])))) h':=by
  refine⟨fun b hb hnm=>?_,?_⟩
  ·rw[D6]at hb
   rw[hh,gF,hl,if_pos hb,cO,cO];rw[B5,not_or]at hnm;by_cases hbn:b=n;·rw[if_pos hbn,if_pos (by grind),cO,if_pos hbn,if_pos hnl]
   ·rw[if_neg hbn,if_neg hnm.1,aSj hnm.2,cO,if_neg hbn]
  grind
 refine⟨l1.bookApp (kb':=h.length+1) (by grind) ?_ ?_ fr,?_⟩;·rw[hh,gF,hl,if_pos cl,cO,if_neg cn,cO,if_pos rfl,if_pos (by grind)]
 ·rw[hh,gF,hl,if_neg AM,show h.length+1-h.length=1 by omega];rfl
 ·rw[hh,gF,hl,if_pos hnl,cO,if_pos rfl,if_pos (by grind)]
theorem aIy{L:List Nat}{r:Option (DX×aH×XH)}{x:DX}{vs:List AV}{h:XH}(hx:rJ L r=some (x,vs,h)):∃ e,r=some (x,e,h)∧L.map e=vs:=by
 unfold rJ at hx
 grind [Option.map_eq_some_iff]
theorem aRK{n m:Nat}{f:ByteArray}{r1 r2:List (List AV)}{L3:CL}{s3:dU}(ly:Lays h L s)(hn:h.length=n)(hp:runW aB 26 [.str line] []=some (.agg [.str f,.fs r1,.fs r2],[])){g:Nat}{caps:List AV}{hc h3:XH}(call:runW aB 27 [.pt L.c 0,.agg [.str f,.fs r1,.fs r2]] (h++wB f r1 r2)=some (.fn (.func g) [] caps,hc))(hg:aTt g)(call2:runW aB g caps hc=some (.tup [],h3))(hlt:s.book.length<300)
 (lyc:Lays hc L s) (ly3:Lays h3 L3 s3) (hL:L3.c=L.c) (hb:s3.book.length=s.book.length) (h3n:aI h3 n=some (.cells true [.str ⟨⟨[]⟩⟩])) (hm:h3.length=m) (nn:n∉wJ L3 s3) (hk:s.book.length=0) :
 ∃ h4,rJ [0,1,4] (execW aB 6 (n+1) none b21 (aCm L.c n line) (h++mP))=some (.ret,[.pt L.c 0,.str line,.pt n 0],h4)∧Lays h4 { L3 with kb:=m+1 } { s3 with book:=s3.book++[line] }∧aI h4 n=some (.cells true [.str ⟨⟨[111,107]⟩⟩]):=by
 have c59:=w59 (ly.ext mP);have m1:=wH 9;have m2:=wH 15;obtain⟨gc,hcc⟩:=aC lyc.hc;obtain⟨g3,h3c⟩:=aC ly3.hc;obtain⟨gn,h3n'⟩:=aC h3n;rw[hL]at h3c;unfold cB at hcc h3c;have cm:(L.c<m)=True:=AAk (by rw[←hm,←hL];exact aJ ly3.hc);have nm0:n<m:=by rw[←hm];exact aJ h3n
 have nm:(n<m)=True:=AAk nm0;have cn:(L.c=n)=False:=AAl fun q=>nn (bF.2 ⟨0,by grind⟩);have nc:(n=L.c)=False:=AAl fun q=>nn (bF.2 ⟨0,by grind⟩);have hv:iL L.kb s.book.length = .nilsl:=by rw[hk];rfl
 have hv3:iL L3.kb s3.book.length = .nilsl:=by rw[hb,hk];rfl
 rw[hv]at hcc;rw[hv3]at h3c;refine⟨(h3.set L.c (some (.blk false (.cells true [.pt L3.f.o 0,.pt L3.m.o 0,.pt L3.p.o 0,.pt L3.w.o 0,iL L3.tb s3.tickets.length,I s3.closed,.sl (m+1) 0 1 1])))).set n (some (.blk gn (.cells true [.str ⟨⟨[111,107]⟩⟩])))++[some (.blk true (.cells true [.str line])),some (.blk true (.cells true [.str line]))],?_,ly3.bookNew (g:=false) (g1:=true) (g2:=true) (g3:=gn) (cs:=_) hm nn nm0 rfl ?_⟩
 ·unfold b21 aCm mP wB at *
  rcases hg with rfl|rfl|rfl|rfl|rfl|rfl;all_goals (exact lR hn c59 m1 hp call call2 m2 hcc h3c h3n' hm cm nm cn nc aG aG aG aG aG)
 ·rw[hL]
  have hb0:s3.book=[]:=D5 AM;simp[pT,cB,iL,hb0]
theorem aRL{n m:Nat}{f:ByteArray}{r1 r2:List (List AV)}{L3:CL}{s3:dU}(ly:Lays h L s)(hn:h.length=n)(hp:runW aB 26 [.str line] []=some (.agg [.str f,.fs r1,.fs r2],[])){g:Nat}{caps:List AV}{hc h3:XH}(call:runW aB 27 [.pt L.c 0,.agg [.str f,.fs r1,.fs r2]] (h++wB f r1 r2)=some (.fn (.func g) [] caps,hc))(hg:aTt g)(call2:runW aB g caps hc=some (.tup [],h3))(hlt:s.book.length<300)
 (lyc:Lays hc L s) (ly3:Lays h3 L3 s3) (hL:L3.c=L.c) (hb:s3.book.length=s.book.length) (h3n:aI h3 n=some (.cells true [.str ⟨⟨[]⟩⟩])) (hm:h3.length=m) (nn:n∉wJ L3 s3) (hk:0<s.book.length) :
 ∃ h4,rJ [0,1,4] (execW aB 6 (n+1) none b21 (aCm L.c n line) (h++mP))=some (.ret,[.pt L.c 0,.str line,.pt n 0],h4)∧Lays h4 { L3 with kb:=m+1 } { s3 with book:=s3.book++[line] }∧aI h4 n=some (.cells true [.str ⟨⟨[111,107]⟩⟩]):=by
 have c59:=w59 (ly.ext mP);have m1:=wH 9;have m2:=wH 15;obtain⟨gc,hcc⟩:=aC lyc.hc;obtain⟨g3,h3c⟩:=aC ly3.hc;obtain⟨gn,h3n'⟩:=aC h3n;rw[hL]at h3c;unfold cB at hcc h3c;have cm:(L.c<m)=True:=AAk (by rw[←hm,←hL];exact aJ ly3.hc);have nm0:n<m:=by rw[←hm];exact aJ h3n
 have nm:(n<m)=True:=AAk nm0;have cn:(L.c=n)=False:=AAl fun q=>nn (bF.2 ⟨0,by grind⟩);have nc:(n=L.c)=False:=AAl fun q=>nn (bF.2 ⟨0,by grind⟩);have hk3:0<s3.book.length:=AM
 rw[eY hk]at hcc;rw[eY hk3]at h3c;have hbb:=ly3.bk hk3;obtain⟨gb,h3b⟩:=aC hbb;have bp:L3.kb∈px L3 s3 2:=bY.2 ⟨hk3,rfl⟩;have bm:(L3.kb<m)=True:=AAk (by rw[←hm];exact aJ hbb);have bn:(L3.kb=n)=False:=AAl fun q=>nn (bF.2 ⟨2,q▸bp⟩);have nb:(n=L3.kb)=False:=AAl fun q=>nn (bF.2 ⟨2,q▸bp⟩);have bc:(L3.kb=L.c)=False:=AAl fun q=>ly3.off (i:=2) (j:=0) (by decide) bp (by simp[px,hL,q]);have cb:(L.c=L3.kb)=False:=AAl fun q=>ly3.off (i:=2) (j:=0) (by decide) bp (by grind);have t1:((s.book.length:Int)<300)=True:=AAa;have z1:((s3.book.length+1)*16≤1099511627776)=True:=AAa;have z2:(s3.book.length+1≤1099511627776)=True:=AAa;refine⟨((h3.set L3.kb none).set L.c (some (.blk false (.cells true [.pt L3.f.o 0,.pt L3.m.o 0,.pt L3.p.o 0,.pt L3.w.o 0,iL L3.tb s3.tickets.length,I s3.closed,.sl (m+1) 0 1 (s3.book.length+1)])))).set n (some (.blk gn (.cells true [.str ⟨⟨[111,107]⟩⟩])))++[some (.blk true (.cells true [.str line])),some (.blk gb (.cells true (s3.book.map .str++[.str line])))],?_,ly3.bookNew (g:=false) (g1:=true) (g2:=gb) (g3:=gn) (cs:=_) hm nn nm0 rfl ?_⟩
 ·unfold b21 aCm mP wB at *
  rcases hg with rfl|rfl|rfl|rfl|rfl|rfl;all_goals (exact vG hn c59 m1 hp call call2 m2 hcc h3c h3n' hm cm nm cn nc h3b bm bn nb bc cb t1 z1 z2 aG aG)
 ·rw[hL]
  simp[pT,cB,iL,Nat.ne_of_gt hk3]
def hdB:ByteArray:=⟨⟨[122,97,102,114,97,32,49,52,10]⟩⟩
def dS(B:List ByteArray):Nat:=(B.length+4)/5
def xA(B:List ByteArray)(i:Nat):List ByteArray:=(B.drop (5*i)).take 5
def mX(B:List ByteArray):Nat→ByteArray
 | 0=>hdB
 | i+1=>mX B i++pgB (xA B i) (6*i)
def dY(B:List ByteArray):ByteArray:=mX B (dS B)
theorem aBN(B:List ByteArray)(i:Nat):(xA B i).length=min 5 (B.length-5*i):=by simp[xA]
theorem zU(ls:List ByteArray)(row:Nat):(pgB ls row).size=(ls.length+1)*45:=by
 unfold pgB;rw[I1,aBW,zK (fL (by rw[oA (A6 _)];omega) _ (A6 _))];omega
theorem aCd(B:List ByteArray):∀ i,mX B i=mX B i∧(mX B i).size≤9+i*270∧9≤(mX B i).size
 | 0=>⟨rfl,by simp only[mX,hdB];decide,by simp only[mX,hdB];decide⟩
 | i+1=>by
   obtain⟨_,h1,h2⟩:=aCd B i;have h3:=zU (xA B i) (6*i);have h4:=aBN B i;refine⟨rfl,?_,?_⟩;·rw[mX,I1,h3];omega
   ·rw[mX,I1,h3];omega
abbrev lpB:Option XB:=some (.loop 10 0 [.bp 1] .ready)
abbrev hY(a:ByteArray)(B:List ByteArray):XH:=[lpB,some (.blk false (.cells true [.pt 1 0,.sb 2 a.size])),some (.blk true (.cells true (dR a))),xH B]
theorem y23{B ls:List ByteArray}{a p:ByteArray}{row o n z y:Nat}(hB:∀ i s,ls[i]?=some s→(oE B)[o+i]?=some (.str s))(hn:ls.length=n)(h0:1≤n)(h1:n≤5)(hr:row≤10000)(ha:a.size≤100000)(hz:a.size=z)(hp:pgB ls row=p)(hy:z+p.size=y) :
 runYW aB (.fn (.yield 0) [] []) [I (row:Nat),.sl 3 o 1 n] (hY a B)=some (.bool true,[lpB,some (.blk false (.cells true [.pt 1 0,.sb 4 y])),none,xH B,some (.blk true (.cells true (dR (a++p))))]):=by
 have c38:=bDM (row:=row) hB AM AM hr;have c38:runW aB 34 [.sl 0 o 1 ls.length,I (row:Int)] [xH B]=some (.str (pgB ls row),[xH B]):=c38;have sz:=zU ls row;rw[hn,hp]at c38;rw[hp,hn]at sz;have c69:=aUR (s:=p) (a:=a) AM AM ha;rw[hz,hy]at c69;have gB:=mL B;have gA:=fK a;have gP:=fK (a++p);rw[kK (K:=10) (d:=sW) (site:=0) (vs:=[.bp 1]) rfl rfl (by rfl) rfl];(exact oI c38 c69 hz hy gB gA gP eC eO eP eS eQ eR)
section
variable{B:List ByteArray}
abbrev ckB(n:Nat):Option XB:=some (.blk false (.cells false [.any,.any,.any,.any,.any,.any,.sl 5 0 1 n]))
def aDz(B:List ByteArray)(i:Nat):XH:=if i=0 then [lpB,some (.blk false (.cells true [.pt 1 0,.sb 2 9])),some (.blk true (.cells true (dR hdB))),some (.blk false (.cells true [.pt 4 0])),ckB B.length,xH B]
 else [lpB,some (.blk false (.cells true [.pt 1 0,.sb 6 (mX B i).size])),none,some (.blk false (.cells true [.pt 4 0])),ckB B.length,xH B,some (.blk true (.cells true (dR (mX B i))))]
def aEr(B:List ByteArray)(i:Nat):AV:=if i=dS B then .fs [] else .sl 5 (5*i) 1 (B.length-5*i)
def oJ(B:List ByteArray)(i:Nat):Nat:=if i=dS B then B.length+dS B else 6*i
theorem aVR{i:Nat}:∀(k:Nat)(s:ByteArray),(xA B i)[k]?=some s→(oE B)[5*i+k]?=some (.str s):=fun k s h=>by
 grind [oE,xA]
theorem bEt(h0:1≤B.length)(h1:B.length≤300):runW aB 76 [.fn (.yield 0) [] [],.pt 3 0] (aDz B 0)=some (.tup [],aDz B (dS B)):=by
 have np:dS B=(B.length+4)/5:=rfl;have g0:aDz B 0=[lpB,some (.blk false (.cells true [.pt 1 0,.sb 2 9])),some (.blk true (.cells true (dR hdB))),some (.blk false (.cells true [.pt 4 0])),ckB B.length,xH B]:=rfl;have gh:=fK hdB;have gB:=mL B;rw[g0,qX 76 x76 rfl];unfold x76;dsimp only;sym =>
  simp[Za,Zb,Zf,Zh,Zl,Zm,Zn,Zv,Z9,ZA,ZD,ZF,ZL,ZQ,ZR,ZU,Yc,Yg,Yp,Yr,Yt,Yu,Y5,YG,YJ,YK,YR,YU,Xe,Xg,Xl,Xx,Xy,XL,XM,XN,XO,Wa,We,Wu,Wv,Wz,W3,W4,W5,WA,WE,WJ,Vf,Vi,Vm,V3,V4,V5,V6,V9,VB,VC,VD,VE,VF,VH,VI,VJ,VK,VM,VN,VO,VP,VQ,VR,VS,VT,VU,VV,VW,VX,VY,VZ,Ua,Ub,Uc,Ud,Ue,Uf,Ug,Uh,Ui,Uj,Uk,Ul,Uw,UF,UH,UJ,UK,UL,UM,UO,UQ,UV,UW,UX,UY,UZ,Ta,Tb,Tc,Te,Tf,Tg,Th,Ti,Tj,Tl,Tm,Tn,Tp,Ts,Ty,T2,T5,T6,T7,T8,TS,TT,TU,TV,TW,TZ,Se,Sf,Sq,Sr,Ss,SF,SG,SL,SY,Ra,Rc,Re,Rf,Rg,Rh,Rj,Rl,Rm,Ro,Rp,RC,RG,RJ,RK,Qa,Qd,QD,QM,Pr,Pt,Pw,Px,PP,gh,gB,eC,eO,eP,eS,eQ,eR]
  tactic =>
   unfold aMS;rw[aQ (dS B) (fun i=>[.fn (.yield 0) [] [],I (oJ B i:Nat),aEr B i]) (fun i=>aDz B i)]
   ·have s0:aEr B (dS B) = .fs []:=if_pos rfl
    have g1:aDz B (dS B)=[lpB,some (.blk false (.cells true [.pt 1 0,.sb 6 (mX B (dS B)).size])),none,some (.blk false (.cells true [.pt 4 0])),ckB B.length,xH B,some (.blk true (.cells true (dR (mX B (dS B)))))]:=if_neg AM;have gP:=fK (mX B (dS B));(exact pE s0 g1 gP gB eC eO eP eS eQ eR)
   ·have s0:aEr B 0 = .sl 5 0 1 B.length:=if_neg AM
    have r0:oJ B 0=0:=if_neg AM;(exact oI s0 r0 g0 gh gB eC eO eP eS eQ eR aG aG)
   ·intro i hi
    obtain⟨_,z1,z2⟩:=aCd B i;have pl:=aBN B i;have ps:=zU (xA B i) (6*i);have sv:mX B (i+1)=mX B i++pgB (xA B i) (6*i):=rfl;have ss:(mX B i).size+(pgB (xA B i) (6*i)).size=(mX B (i+1)).size:=by grind
    have y:=fun z (hz:(mX B i).size=z)=>y23 (B:=B) (ls:=xA B i) (a:=mX B i) (row:=6*i) (o:=5*i) (y:=(mX B (i+1)).size) aVR rfl AM AM AM AM hz rfl AM;have ri:oJ B i=6*i:=if_neg AM;have gi:aEr B i = .sl 5 (5*i) 1 (B.length-5*i):=if_neg AM;have g1:aDz B (i+1)=[lpB,some (.blk false (.cells true [.pt 1 0,.sb 6 (mX B (i+1)).size])),none,some (.blk false (.cells true [.pt 4 0])),ckB B.length,xH B,some (.blk true (.cells true (dR (mX B (i+1)))))]:=if_neg AM;rw[←sv]at y;have gP:=fK (mX B (i+1));have gA:=fK (mX B i);have d1:(((B.length-5*i:Nat):Int)>0)=True:=AAa;have d2:(0<((B.length-5*i:Nat):Int))=True:=AAa;by_cases hl:i+1=dS B
    ·skip
     have n1:(xA B i).length=B.length-5*i:=AM
     have d3:(5<((B.length-5*i:Nat):Int))=False:=AAb;have sn:aEr B (i+1) = .fs []:=if_pos hl;have rn:IntKind.i64.wrap (((6*i:Nat):Int)+(((B.length-5*i:Nat):Int)+1))=((oJ B (i+1):Nat):Int):=by rw[aE AM AM];unfold oJ;grind
     have rm:IntKind.i64.wrap (((B.length-5*i:Nat):Int)+1)=((B.length-5*i:Nat):Int)+1:=aE AM AM;have d5:(B.length-5*i=0)=False:=AAb;have d7:(((B.length-5*i:Nat):Int)≤((B.length-5*i:Nat):Int))=True:=AAa;have d8:(B.length-5*i<B.length-5*i)=False:=AAb;have d6:(0<B.length-5*i)=True:=AAa;rw[n1]at y;by_cases hi0:i=0
     ·subst hi0
      have y1:=y 9 rfl;have s0:aEr B 0 = .sl 5 0 1 B.length:=if_neg AM;have r0:oJ B 0=0:=if_neg AM;have gA:kY (dR hdB)=true:=fK hdB;have sv0:mX B 0=hdB:=rfl;rw[sv0]at y1;rw[Nat.mul_zero]at *;rw[O7]at *;have rn:IntKind.i64.wrap (0+((B.length:Nat)+1:Int))=((oJ B (0+1):Nat):Int):=rn;have y1:runYW aB (.fn (.yield 0) [] []) [I 0,.sl 3 0 1 (B.length)] [lpB,some (.blk false (.cells true [.pt 1 0,.sb 2 9])),some (.blk true (.cells true (dR hdB))),xH B]=_:=y1;rw[s0,r0,sn,g1,g0];clear y ss ps z1 z2 sv pl hl np;generalize mX B (0+1)=A' at *;generalize oJ B (0+1)=R at *;(exact lR d1 d2 d3 d5 d6 d7 d8 y1 rn rm gP gA gB eC eO eP eS eQ eR aG)
     ·have y1:=y _ rfl
      have gg:aDz B i=[lpB,some (.blk false (.cells true [.pt 1 0,.sb 6 (mX B i).size])),none,some (.blk false (.cells true [.pt 4 0])),ckB B.length,xH B,some (.blk true (.cells true (dR (mX B i))))]:=if_neg hi0;rw[gi,ri,sn,g1,gg];clear y ss ps z1 z2 sv pl hl np;generalize mX B (i+1)=A' at *;generalize mX B i=A at *;generalize oJ B (i+1)=R at *;generalize B.length-5*i=m at *;generalize 6*i=r at *;generalize 5*i=o at *;(exact lR d1 d2 d3 d5 d6 d7 d8 y1 rn rm gP gA gB eC eO eP eS eQ eR aG)
    ·skip
     have n1:(xA B i).length=5:=AM
     have d3:(5<((B.length-5*i:Nat):Int))=True:=AAa;have sn:aEr B (i+1) = .sl 5 (5*i+5) 1 (B.length-5*i-5):=by
      unfold aEr
      grind
     have rn:IntKind.i64.wrap (((6*i:Nat):Int)+6)=((oJ B (i+1):Nat):Int):=by rw[aE AM AM];unfold oJ;grind
     have d5:(5<B.length-5*i)=True:=AAa;have d7:(5≤((B.length-5*i:Nat):Int))=True:=AAa;have d8:(0<B.length-5*i)=True:=AAa;have d6:(5≤B.length-5*i)=True:=AAa;rw[n1]at y;by_cases hi0:i=0
     ·subst hi0
      have y1:=y 9 rfl;have s0:aEr B 0 = .sl 5 0 1 B.length:=if_neg AM;have r0:oJ B 0=0:=if_neg AM;have gA:kY (dR hdB)=true:=fK hdB;have sv0:mX B 0=hdB:=rfl;rw[sv0]at y1;rw[Nat.mul_zero]at *;rw[O7]at *;have r6:oJ B (0+1)=6:=if_neg AM;rw[r6];have y1:runYW aB (.fn (.yield 0) [] []) [I 0,.sl 3 0 1 (5)] [lpB,some (.blk false (.cells true [.pt 1 0,.sb 2 9])),some (.blk true (.cells true (dR hdB))),xH B]=_:=y1;rw[s0,r0,sn,g1,g0];clear y ss ps z1 z2 sv pl hl np;generalize mX B (0+1)=A' at *;(exact lR d1 d2 d3 d5 d6 d7 d8 y1 rn gP gA gB eC eO eP eS eQ eR aG aG)
     ·have y1:=y _ rfl
      have gg:aDz B i=[lpB,some (.blk false (.cells true [.pt 1 0,.sb 6 (mX B i).size])),none,some (.blk false (.cells true [.pt 4 0])),ckB B.length,xH B,some (.blk true (.cells true (dR (mX B i))))]:=if_neg hi0;rw[gi,ri,sn,g1,gg];clear y ss ps z1 z2 sv pl hl np;generalize mX B (i+1)=A' at *;generalize mX B i=A at *;generalize oJ B (i+1)=R at *;generalize B.length-5*i=m at *;generalize 6*i=r at *;generalize 5*i=o at *;(exact lR d1 d2 d3 d5 d6 d7 d8 y1 rn gP gA gB eC eO eP eS eQ eR aG aG)
   ·have s0:aEr B (dS B) = .fs []:=if_pos rfl
    have g1:aDz B (dS B)=[lpB,some (.blk false (.cells true [.pt 1 0,.sb 6 (mX B (dS B)).size])),none,some (.blk false (.cells true [.pt 4 0])),ckB B.length,xH B,some (.blk true (.cells true (dR (mX B (dS B)))))]:=if_neg AM;(exact RS2 s0 g1)
abbrev cr0(k:AV):Option XB:=some (.blk false (.cells false [.pt 1 0,.any,.any,.any,.any,.any,k]))
abbrev cr1(k:AV):Option XB:=some (.blk false (.cells false [.any,.any,.any,.any,.any,.any,k]))
theorem w70{n:Nat}:runW aB 33 [.pt 0 0] [cr1 (.sl 1 0 1 n),xH B]=some (.fn (.func 76) [] [.pt 2 0],[cr1 (.sl 1 0 1 n),xH B,some (.blk false (.cells true [.pt 0 0]))]):=by
 have gB:=mL B;rw[qX 33 x33 rfl];unfold x33;dsimp only;(exact RS4 gB eS eQ eR)
theorem w23(h0:1≤B.length)(h1:B.length≤300):runW aB 10 [.pt 0 0] [cr0 (.sl 2 0 1 B.length),none,xH B]=some (.str (dY B),[cr1 (.sl 2 0 1 B.length),none,xH B]):=by
 have gB:=mL B;have np:dS B=(B.length+4)/5:=rfl;have c59:runW aB 25 [.pt 0 0] [cr0 (.sl 2 0 1 B.length),none,xH B]=some (.bool false,[cr0 (.sl 2 0 1 B.length),none,xH B]):=by
  rw[qY 25 x25 rfl];unfold x25;dsimp only;(exact RS0)
 have c69:runW aB 32 [.bp 0,.str ⟨#[122,97,102,114,97,32,49,52,10]⟩] [some (.blk true (.cells true [.nilpt,.nilsl]))] =
  some (.tup [I 9,.nilifc],[some (.blk false (.cells true [.pt 0 0,.sb 1 9])),some (.blk true (.cells true (dR hdB)))]):=aUS (s:=hdB) (by decide) (by decide)
 have c70:=w70 (B:=B) (n:=B.length);have c116:runW aB 76 [.fn (.yield 0) [] [],.pt 3 0] [lpB,some (.blk false (.cells true [.pt 1 0,.sb 2 9])),some (.blk true (.cells true (dR hdB))),some (.blk false (.cells true [.pt 4 0])),ckB B.length,xH B]=some (.tup [],aDz B (dS B)):=bEt h0 h1;have g1:aDz B (dS B)=[lpB,some (.blk false (.cells true [.pt 1 0,.sb 6 (mX B (dS B)).size])),none,some (.blk false (.cells true [.pt 4 0])),ckB B.length,xH B,some (.blk true (.cells true (dR (mX B (dS B)))))]:=if_neg AM;rw[g1]at c116;obtain⟨_,z1,z2⟩:=aCd B (dS B);have c71:=w71 (a:=mX B (dS B)) AM AM;have gh:=fK hdB;have gP:=fK (mX B (dS B));have e:dY B=mX B (dS B):=rfl;rw[e,qX 10 sW rfl];unfold sW;dsimp only;generalize mX B (dS B)=A at *;generalize hdB=Hd at *;(exact lR c59 c69 c70 c116 c71 gh gP gB eC eO eP eS eQ eR aG aG aG aG aG aG)
theorem bDR:runW aB 10 [.pt 0 0] [cr0 .nilsl,none]=some (.str hdB,[cr1 .nilsl,none]):=by
 have c59:runW aB 25 [.pt 0 0] [cr0 .nilsl,none]=some (.bool false,[cr0 .nilsl,none]):=by
  rw[qY 25 x25 rfl];unfold x25;dsimp only;(exact RS0)
 have c69:runW aB 32 [.bp 0,.str ⟨#[122,97,102,114,97,32,49,52,10]⟩] [some (.blk true (.cells true [.nilpt,.nilsl]))] =
  some (.tup [I 9,.nilifc],[some (.blk false (.cells true [.pt 0 0,.sb 1 9])),some (.blk true (.cells true (dR hdB)))]):=aUS (s:=hdB) (by decide) (by decide)
 have c70:runW aB 33 [.pt 0 0] [cr1 .nilsl]=some (.fn (.func 76) [] [.pt 1 0],[cr1 .nilsl,some (.blk false (.cells true [.pt 0 0]))]):=by
  rw[qX 33 x33 rfl];unfold x33;dsimp only;(exact RS0)
 have gh:=fK hdB;have c116:runW aB 76 [.fn (.yield 0) [] [],.pt 3 0] [lpB,some (.blk false (.cells true [.pt 1 0,.sb 2 9])),some (.blk true (.cells true (dR hdB))),some (.blk false (.cells true [.pt 4 0])),cr1 .nilsl]=some (.tup [],[lpB,some (.blk false (.cells true [.pt 1 0,.sb 2 9])),some (.blk true (.cells true (dR hdB))),some (.blk false (.cells true [.pt 4 0])),cr1 .nilsl]):=by
  rw[qX 76 x76 rfl];unfold x76;dsimp only;sym =>
   simp[Za,Zb,Zf,Zg,Zh,Zj,Zl,Zm,Zo,Zp,Zr,Zv,Zx,Zy,Zz,Z9,ZA,ZC,ZF,ZQ,ZU,Yc,Yg,Yl,Ym,Yo,Yr,Yv,YG,Xo,Xx,XI,XL,XO,XX,XZ,Wa,We,Wl,Wu,Ww,Wz,W5,W7,W9,WA,WC,WE,WH,WJ,WM,WP,Vd,Vf,Vi,Vl,Vm,Vv,V3,V4,V5,V6,V9,VA,VB,VC,VD,VE,VF,VG,VH,VI,VJ,VK,VL,VM,VN,VO,VP,VQ,VR,VS,VT,VU,VV,VW,VX,VY,VZ,Ua,Ub,Uc,Ud,Ue,Uf,Ug,Uh,Ui,Uj,Uk,Ul,Uw,Uy,Uz,U0,UF,UG,UH,UJ,UK,UL,UM,UN,UO,UQ,UR,US,UT,UV,UW,UZ,Tb,Tc,Te,Tf,Tg,Th,Ti,Tj,Tl,Tm,Tn,Tp,Ts,Tt,Tv,T5,T6,T8,TS,TT,TU,TV,TW,TZ,Se,Sf,Sw,Sx,SF,SG,SL,SQ,SY,Ra,Rb,Rc,Re,Rf,Rg,Rh,Rj,Rl,Ro,Rp,Rw,Qs,Qt,Qx,Qy,Qz,Q0,QA,QB,QM,Pe,Pf,Ph,Pj,Pk,Pl,Pm,Pr,Pt,Pw,Px,Py,P0,PB,PC,PD,PE,PG,PU,PV,gh,eC,eO,eP]
   tactic =>
    unfold aMS;rw[aQ 0 (fun i=>[.fn (.yield 0) [] [],I 0,.nilsl]) (fun i=>[lpB,some (.blk false (.cells true [.pt 1 0,.sb 2 9])),some (.blk true (.cells true (dR hdB))),some (.blk false (.cells true [.pt 4 0])),cr1 .nilsl])];·(exact RS4 gh eC eO eP)
    ·rfl
    ·omega
    ·(exact RS4 gh eC eO eP)
 have c71:=w71 (a:=hdB) (by decide) (by decide);have c71:runW aB 35 [.bp 0] [some (.blk false (.cells true [.pt 0 0,.sb 1 9])),some (.blk true (.cells true (dR hdB)))]=some (.str hdB,[some (.blk false (.cells true [.pt 0 0,.sb 1 9])),none]):=c71;rw[qX 10 sW rfl];unfold sW;dsimp only;generalize hdB=Hd at *;(exact oI c59 c69 c70 c116 c71 gh eC eO eP eS eQ eR aG)
end
def d21:XFn:=bAf 41
theorem aBF:aB 6=some d21:=rfl
theorem aGn{e:aH}{n:Nat}{a:ByteArray}(he:e 4 = .pt n 0)(hn:aI h n=some (.cells true [.str a])):jZ saySay.res e (aI h)=some (.str a):=by
 obtain⟨g,hg⟩:=aC hn;unfold saySay;dsimp only;(exact RS2 he hg)
def aEE(h:XH)(L:CL)(line:ByteArray)(s':dU)(a:ByteArray):Prop:=∃ h3 L3,aUr aB d21 h.length 0 (h.length+1) (aCm L.c h.length line) (h++mP) h3 (.str a)∧Lays h3 L3 s'∧L3.c=L.c
theorem Lays.nlt(ly:Lays h L s):h.length∉wJ L s:=fun hm=>by
 obtain⟨j,hj⟩:=bF.1 hm;have:=ly.lt j _ hj;omega
theorem aOh(ly:Lays h L s)(hp:runW aB 26 [.str line] []=some (v,[]))(hw:IsW w v)(hlt:s.book.length<300)(co:∀ k:XH,xI (h++k) L s v (sS s w)):aEE h L line { sS s w with book:=s.book++[line] } ⟨⟨[111,107]⟩⟩:=by
 obtain⟨f,r1,r2,rfl⟩:=hw.shape;obtain⟨n,hn⟩:∃ n,h.length=n:=⟨_,rfl⟩;have lyw:=ly.ext (wB f r1 r2);obtain⟨g,caps,hcc,h3,call,hg,fr1,q1,L3,call2,ly3,hL,fr2,sb⟩:∃(g:Nat)(caps:List AV)(hc h3:XH),runW aB 27 [.pt L.c 0,.agg [.str f,.fs r1,.fs r2]] (h++wB f r1 r2)=some (.fn (.func g) [] caps,hc)∧aTt g∧Fr [] (h++wB f r1 r2) hc∧True∧∃ L3,runW aB g caps hc=some (.tup [],h3)∧Lays h3 L3 (sS s w)∧L3.c=L.c∧Fr (wJ L s) hc h3∧Sb hc.length L s L3 (sS s w):=by
  obtain⟨g,caps,hc1,a1,a2,a3,h3,L3,a4,a5,a6,a7,a8⟩:=co (wB f r1 r2)
  grind
 have lyc:Lays hcc L s:=lyw.fr fr1 fun _ _ _ hb=>by cases hb
 have n0:aI (h++wB f r1 r2) n=some (.cells true [.str ⟨⟨[]⟩⟩]):=by
  have:=bU (h:=h) (k:=wB f r1 r2) 0 (g:=true) (c:=.cells true [.str ⟨⟨[]⟩⟩]) rfl
  grind
 have nl:=ly.nlt;rw[hn]at nl;have n1:aI hcc n=some (.cells true [.str ⟨⟨[]⟩⟩]):=fr1.keepS n0 (by simp);have n3:aI h3 n=some (.cells true [.str ⟨⟨[]⟩⟩]):=fr2.keepS n1 nl;have nn:n∉wJ L3 (sS s w):=fun hm=>by
  rcases sb n hm with hm|hm;·exact nl hm
  ·have:=aJ n1;omega
 have hbk:(sS s w).book=s.book:=by
  cases w<;>first|rfl|(unfold sS;grind)
 obtain⟨h4,k1,k2,k3⟩:∃ h4,rJ [0,1,4] (execW aB 6 (n+1) none b21 (aCm L.c n line) (h++mP))=some (.ret,[.pt L.c 0,.str line,.pt n 0],h4)∧Lays h4 { L3 with kb:=h3.length+1 } { sS s w with book:=(sS s w).book++[line] }∧aI h4 n=some (.cells true [.str ⟨⟨[111,107]⟩⟩]):=by
  by_cases hk:s.book.length=0;·exact aRK ly hn hp call hg call2 hlt lyc ly3 hL (by rw[hbk]) n3 rfl nn hk
  ·exact aRL ly hn hp call hg call2 hlt lyc ly3 hL (by rw[hbk]) n3 rfl nn AM
 obtain⟨e,k4,k5⟩:=aIy k1;have he:e 4 = .pt n 0:=by
  grind
 rw[hbk]at k2;refine⟨h4++[some (.blk true (.cells true [I 0]))],_,.inl ⟨.ret,e,h4,(fun _=>⟨fun q=>(by cases q),fun q=>(by cases q)⟩),?_,?_,?_⟩,k2.ext _,hL⟩;·grind
 ·grind [aKW]
 ·exact aGn he ((Fr.app h4 _).keepS k3 (by simp))
theorem aBL(ly:Lays h L s){e:Int}(he:e∈nW)(hp:PanX Tryz.prog aB d21 (h.length+1) b21 (aCm L.c h.length line) (h++mP) (.ifc 84 (.agg [I e])) (aZ [4] [.pt h.length 0]) h2)(ly2:Lays h2 L s)(n2:aI h2 h.length=some (.cells true [.str ⟨⟨[]⟩⟩])):aEE h L line s (noA e):=by
 obtain⟨g,hg⟩:=aC n2;refine⟨_,L,.inr ⟨.agg [I e],_,h2,hp,aPJ hg he,?_⟩,?_,rfl⟩
 ·refine aGn rfl ?_
  rw[gF,if_pos (by rw[D6];exact aJ n2),cO,if_pos rfl,if_pos (aJ n2)]
 ·refine Lays.ext (ly2.fr ((Fr.refl [h.length] h2).set (by simp) _) fun j b hb hm=>?_) _
  rw[C6]at hm;have:=ly.lt j b hb;omega
theorem bDm:aI (h++mP) h.length=some (.cells true [.str ⟨⟨[]⟩⟩]):=bU (h:=h) (k:=mP) 0 (g:=true) rfl
theorem aRg{f:ByteArray}{r1 r2:List (List AV)}:aI (h++wB f r1 r2) h.length=some (.cells true [.str ⟨⟨[]⟩⟩]):=bU (h:=h) (k:=wB f r1 r2) 0 (g:=true) rfl
theorem aFU(ly:Lays h L s):rJ [0,1,4] (execW aB 6 (h.length+1) none (match b21 with | .seq a _=>a|c=>c) (aCm L.c h.length line) (h++mP))=some (.normal,[.pt L.c 0,.str line,.pt h.length 0],h++mP):=by
 have c59:=w59 (ly.ext mP);have m1:=wH 9;obtain⟨n,hn⟩:∃ n,h.length=n:=⟨_,rfl⟩;rw[hn];unfold b21 aCm mP at *;(exact RS3 hn c59 m1)
theorem aOf(ly:Lays h L s){e:Int}(he:e∈nW)(hp:CalP Tryz.prog aB 26 [.str line] [] (.ifc 84 (.agg [I e])) []):aEE h L line s (noA e):=by
 refine aBL ly he ?_ (ly.ext mP) bDm;have r1:=aFU (line:=line) ly;unfold b21 at r1 ⊢;refine PanX.seqR (K:=6) aA aBF [0,1,4] r1 ?_;refine PanX.seqL ?_;refine PanX.reg (p:=[⟨0,some 12,.mv (.t 1),none⟩]) (post:=[⟨0,some 5,.alloc [.str ⟨⟨[]⟩⟩,.nilsl,.nilsl],none⟩,⟨0,none,.store 3 (.t 5) (.t 13) [],none⟩]) aA [4] (g:=26) (first:=[]) (cap:=[]) (args:=[.str line]) (vs:=[.pt h.length 0]) (h1:=h++mP) rfl rfl ?_ (CalP.pure hp (fun a ha=>by rw[C6.1 ha];exact .str _) (.ifc _ _ (.agg _ fun a ha=>by rw[C6.1 ha];exact .int _ _)) _);rfl
theorem aJa(f:ByteArray)(r1 r2:List (List AV)){c:Nat}(hp:runW aB 26 [.str line] []=some (.agg [.str f,.fs r1,.fs r2],[])):rJ [0,1,4,5] (execW aB 6 (h.length+1) none (match b21 with | .seq _ (.seq a _)=>a|c=>c) (aZ [0,1,4] [.pt c 0,.str line,.pt h.length 0]) (h++mP))=some (.normal,[.pt c 0,.str line,.pt h.length 0,.pt (h.length+1) 0],h++wB f r1 r2):=by
 obtain⟨n,hn⟩:∃ n,h.length=n:=⟨_,rfl⟩;rw[hn];unfold b21 mP wB at *;(exact RS2 hn hp)
theorem aOi(ly:Lays h L s){e:Int}(he:e∈nW)(hp:runW aB 26 [.str line] []=some (v,[]))(hw:IsW w v)(hc:∀ k:XH,∃ h1,CalP Tryz.prog aB 27 [.pt L.c 0,v] (h++k) (.ifc 84 (.agg [I e])) h1∧Fr [] (h++k) h1):aEE h L line s (noA e):=by
 obtain⟨f,r1,r2,rfl⟩:=hw.shape;obtain⟨h1,hcal,fr⟩:=hc (wB f r1 r2);refine aBL (h2:=h1) ly he ?_ ((ly.ext (wB f r1 r2)).fr fr fun _ _ _ hb=>by cases hb) (fr.keepS aRg (by simp));have r1':=aFU (line:=line) ly;have r2':=aJa (h:=h) f r1 r2 (c:=L.c) hp;unfold b21 at r1' r2' ⊢;refine PanX.seqR (K:=6) aA aBF [0,1,4] r1' ?_;refine PanX.seqR (K:=6) aA aBF [0,1,4,5] r2' ?_;refine PanX.seqL ?_;refine PanX.reg (p:=[⟨0,some 14,.mv (.t 0),none⟩,⟨0,some 15,.load true 3 (.t 5),none⟩]) (post:=[⟨0,some 6,.mv (.t 16),none⟩]) aA [4] (g:=27) (first:=[]) (cap:=[]) (args:=[.pt L.c 0,.agg [.str f,.fs r1,.fs r2]]) (vs:=[.pt h.length 0]) (h1:=h++wB f r1 r2) rfl rfl ?_ hcal;obtain⟨n,hn⟩:∃ n,h.length=n:=⟨_,rfl⟩;rw[hn];unfold wB;(exact dG hn)
theorem aOe(f:ByteArray)(r1 r2:List (List AV)){c:Nat}{k:AV}{hh:XH}(call:runW aB 27 [.pt c 0,.agg [.str f,.fs r1,.fs r2]] (h++wB f r1 r2)=some (k,hh)):rJ [0,1,4,5,6] (execW aB 6 (h.length+1) none (match b21 with | .seq _ (.seq _ (.seq a _))=>a|c=>c) (aZ [0,1,4,5] [.pt c 0,.str line,.pt h.length 0,.pt (h.length+1) 0]) (h++wB f r1 r2))=some (.normal,[.pt c 0,.str line,.pt h.length 0,.pt (h.length+1) 0,k],hh):=by
 obtain⟨n,hn⟩:∃ n,h.length=n:=⟨_,rfl⟩;rw[hn];unfold b21 wB at *;(exact RS2 hn call)
theorem aOg{s0:dU}(ly:Lays h L s)(hp:runW aB 26 [.str line] []=some (v,[]))(hw:IsW w v)(co:∀ k:XH,xI (h++k) L s v s0)(hlt:s.book.length=300):aEE h L line s (noA 15):=by
 obtain⟨f,r1,r2,rfl⟩:=hw.shape;have lyw:=ly.ext (wB f r1 r2);obtain⟨g,caps,hcc,call,hg,fr1,_⟩:=co (wB f r1 r2);have lyc:Lays hcc L s:=lyw.fr fr1 fun _ _ _ hb=>by cases hb
 refine aBL (h2:=hcc) ly (by decide) ?_ lyc (fr1.keepS aRg (by simp));have r1':=aFU (line:=line) ly;have r2':=aJa (h:=h) f r1 r2 (c:=L.c) hp;have r3':=aOe (line:=line) f r1 r2 call;obtain⟨gc,hcx⟩:=aC lyc.hc;unfold cB at hcx;rw[eY (b:=L.kb) AM]at hcx;unfold b21 at r1' r2' r3' ⊢;refine PanX.seqR (K:=6) aA aBF [0,1,4] r1' ?_;refine PanX.seqR (K:=6) aA aBF [0,1,4,5] r2' ?_;refine PanX.seqR (K:=6) aA aBF [0,1,4,5,6] r3' ?_;refine PanX.seqR (K:=6) aA aBF [0,1,4,5,6] (vs:=[.pt L.c 0,.str line,.pt h.length 0,.pt (h.length+1) 0,.fn (.func g) [] caps]) (h1:=hcc) (by (exact RS0)) ?_;refine PanX.seqL ?_;have t1:((s.book.length:Int)<300)=False:=AAb;exact PanX.reg (p:=[⟨0,some 22,.mv (.t 0),none⟩,⟨0,some 23,.nilck (.t 22),none⟩,⟨0,some 24,.fld 6 (.t 23),none⟩,⟨0,some 25,.load false 1 (.t 24),none⟩,⟨0,some 26,.len false (.t 25),none⟩,⟨0,some 27,.bin .lss (.t 26) (.c (.int .i64 300)),none⟩]) (post:=[]) aA [4] (g:=24) (first:=[]) (cap:=[]) (args:=[.bool false,I 15]) (vs:=[.pt h.length 0]) (h1:=hcc) rfl rfl (by (exact RS2 hcx t1)) (c58 15 _)
theorem tK(ly:Lays h L s){e:Int}(he:e∈nW)(hp:runW aB 26 [.str line] []=some (v,[]))(hw:IsW w v)(call:∀ k:XH,∃ hh,runW aB 27 [.pt L.c 0,v] (h++k)=some (.nilfn,hh)∧Fr [] (h++k) hh)(hc:∀ hh:XH,Lays hh L s→∃ h1,CalP Tryz.prog aB 28 [.pt L.c 0,v] hh (.ifc 84 (.agg [I e])) h1∧Frz hh.length hh h1):aEE h L line s (noA e):=by
 obtain⟨f,r1,r2,rfl⟩:=hw.shape;obtain⟨hq,c61,fr1⟩:=call (wB f r1 r2);have lyw:=ly.ext (wB f r1 r2);have lyq:Lays hq L s:=lyw.fr fr1 fun _ _ _ hb=>by cases hb
 obtain⟨h3,hcal,fz⟩:=hc hq lyq;have nq:aI hq h.length=some (.cells true [.str ⟨⟨[]⟩⟩]):=fr1.keepS aRg (by simp);have sq:(hat hq (h.length+1)).isSome=true:=by
  have:aI (h++wB f r1 r2) (h.length+1)=some (.cells true [.str f,.fs r1,.fs r2]):=bU 1 (g:=true) rfl;obtain⟨g,hg⟩:=aC (fr1.keepS this (by simp));rw[hg];rfl
 have q1:aI hq (h.length+1)=some (.cells true [.str f,.fs r1,.fs r2]):=fr1.keepS (bU 1 (g:=true) rfl) (by simp);obtain⟨g1,q2⟩:=aC q1;refine aBL (h2:=h3) ly he ?_ (lyq.frz fz) (fz _ _ nq fun _ _ _=>rfl);have r1':=aFU (line:=line) ly;have r2':=aJa (h:=h) f r1 r2 (c:=L.c) hp;have r3':=aOe (line:=line) f r1 r2 c61;unfold b21 at r1' r2' r3' ⊢;refine PanX.seqR (K:=6) aA aBF [0,1,4] r1' ?_;refine PanX.seqR (K:=6) aA aBF [0,1,4,5] r2' ?_;refine PanX.seqR (K:=6) aA aBF [0,1,4,5,6] r3' ?_;refine PanX.seqL ?_;refine PanX.seqR (K:=6) aA aBF [0,4,5,18] (vs:=[.pt L.c 0,.pt h.length 0,.pt (h.length+1) 0,.bool true]) (h1:=hq) (by (exact RS0)) ?_;refine PanX.condT rfl ?_;refine PanX.seqL ?_;refine PanX.reg (p:=[⟨0,some 19,.mv (.t 0),none⟩,⟨0,some 20,.load true 3 (.t 5),none⟩]) (post:=[⟨0,none,.store 1 (.t 4) (.t 21) [],none⟩]) aA [4] (g:=28) (first:=[]) (cap:=[]) (args:=[.pt L.c 0,.agg [.str f,.fs r1,.fs r2]]) (vs:=[.pt h.length 0]) (h1:=hq) rfl rfl ?_ hcal;obtain⟨n,hn⟩:∃ n,h.length=n:=⟨_,rfl⟩;rw[hn]at q2 ⊢;cases g1;all_goals (exact RS2 hn q2)
theorem aJW{h k:XH}(cd:Cd h)(hk:∀ x∈k,∀ b∈nmO x,b<h.length):Cd (h++k):=fun x hx b hb=>by
 rw[C9];rcases B7.1 hx with hx|hx;·have:=cd x hx b hb;omega
 grind
def bDx(h:XH)(c:Nat)(v:AV):Prop:=∀ k:XH,∃ bx,runW aB 27 [.pt c 0,v] (h++k)=some (.nilfn,(h++k)++bx)∧∀ x∈bx,∀ b∈nmO x,b=c
theorem aBw(ha:w.asks=true)(hw:IsW w v)(h:XH)(c:Nat):bDx h c v:=by
 have bxs:∀ cs:List AV,∀ x∈[some (XB.blk false (.cells true [.pt c 0])),some (.blk true (.cells true cs))],∀ b∈nmO x,b=c:=fun cs x hx b hb=>by
  simp only[B5,F9,AAg]at hx;rcases hx with rfl|rfl;·simpa [nmO,nmB,kB,kC]using hb
  ·simp[nmO,nmB]at hb
 intro k;cases w with
 | net x=>obtain⟨_,rfl⟩:=hw;exact⟨_,aUV,bxs _⟩
 | total=>cases hw;exact⟨_,aNt,bxs _⟩
 | ticket i=>obtain⟨_,rfl⟩:=hw;exact⟨_,aLD,bxs _⟩
 | used x=>obtain⟨_,rfl⟩:=hw;exact⟨_,aRk,bxs _⟩
 | loss x=>obtain⟨_,rfl⟩:=hw;exact⟨_,aRl,bxs _⟩
 | power x=>obtain⟨_,rfl⟩:=hw;exact⟨_,aNu,bxs _⟩
 | _=>cases ha
theorem qP(ly:Lays h L s)(cd:Cd h){a:ByteArray}(hp:runW aB 26 [.str line] []=some (v,[]))(hw:IsW w v)(ask:bDx h L.c v)(hc:∀ hh:XH,Lays hh L s→Cd hh→∃ h1,runW aB 28 [.pt L.c 0,v] hh=some (.str a,h1)∧Frz hh.length hh h1):aEE h L line s a:=by
 obtain⟨f,r1,r2,rfl⟩:=hw.shape;obtain⟨bx,c61,hbx⟩:=ask (wB f r1 r2);obtain⟨hq,hqe⟩:∃ hq,hq=(h++wB f r1 r2)++bx:=⟨_,rfl⟩;rw[←hqe]at c61;have lyw:=ly.ext (wB f r1 r2);have lyq:Lays hq L s:=by rw[hqe];exact lyw.ext bx
 have lc:=aJ ly.hc;have cdq:Cd hq:=by
  rw[hqe];refine aJW (aJW cd fun x hx b hb=>?_) fun x hx b hb=>?_
  ·simp only[wB,B5,F9,AAg]at hx
   rcases hx with rfl|rfl;·simp[nmO,nmB]at hb
   ·simp[nmO,nmB]at hb
  grind
 obtain⟨h3,c62,fz⟩:=hc hq lyq cdq;have fr1:Fr [] (h++wB f r1 r2) hq:=by grind [Fr.app]
 have nq:aI hq h.length=some (.cells true [.str ⟨⟨[]⟩⟩]):=fr1.keepS aRg (by simp);have q1:aI hq (h.length+1)=some (.cells true [.str f,.fs r1,.fs r2]):=fr1.keepS (bU 1 (g:=true) rfl) (by simp);obtain⟨g1,q2⟩:=aC q1;have n3:=fz _ _ nq fun _ _ _=>rfl;obtain⟨g3,n3'⟩:=aC n3;have c59:=w59 (ly.ext mP);have m1:=wH 9;obtain⟨n,hn⟩:∃ n,h.length=n:=⟨_,rfl⟩;have key:rJ [0,1,4] (execW aB 6 (n+1) none b21 (aCm L.c n line) (h++mP))=some (.ret,[.pt L.c 0,.str line,.pt n 0],h3.set n (some (.blk g3 (.cells true [.str a])))):=by
  rw[hn]at q2 n3';unfold b21 aCm mP wB at *;cases g1;all_goals (exact RS9 hn c59 m1 hp c61 c62 q2 n3' aG)
 obtain⟨e,k4,k5⟩:=aIy key;have he:e 4 = .pt n 0:=by
  grind
 rw[hn]at n3;have ly3:Lays (h3.set n (some (.blk g3 (.cells true [.str a])))) L s:=(lyq.frz fz).fr ((Fr.refl [n] h3).set (by simp) _) fun j b hb hm=>by
  rw[C6]at hm;have:=ly.lt j b hb;omega
 refine⟨_,L,.inl ⟨.ret,e,h3.set n (some (.blk g3 (.cells true [.str a]))),(fun _=>⟨fun q=>(by cases q),fun q=>(by cases q)⟩),?_,?_,?_⟩,ly3.ext [some (.blk true (.cells true [I 0]))],rfl⟩;·grind
 ·grind [aKW]
 ·refine aGn he ((Fr.app _ _).keepS (?_:aI (h3.set n (some (.blk g3 (.cells true [.str a])))) n=some (.cells true [.str a])) (by simp))
  rw[cO,if_pos rfl,if_pos (aJ n3)]
def tkL(k:CTk):List ByteArray:=if k.void then [k.wagon,k.farmer,⟨⟨Lib.itoa k.net⟩⟩,AAq] else [k.wagon,k.farmer,⟨⟨Lib.itoa k.net⟩⟩]
def tkT(k:CTk):ByteArray:=⟨⟨Lib.join ((tkL k).map (·.data.toList)) [32]⟩⟩
def aEv(n:Int):ByteArray:=⟨⟨Lib.itoa n⟩⟩
def aII(P:dU→ByteArray→Int)(s:dU):Wd→Int ⊕ ByteArray
 | .net x=>match gS s.farmers x with|none=>.inl 5|some v=>.inr (aEv v)
 | .total=>.inr (aEv (aIW s))
 | .ticket i=>match s.tickets[i]? with|none=>.inl 5|some k=>.inr (tkT k)
 | .used x=>match gS s.meters x with|none=>.inl 5|some v=>.inr (aEv v.2)
 | .loss x=>match gS s.pans x with|none=>.inl 5|some v=>.inr (aEv v)
 | .power x=>match gS s.farmers x with|none=>.inl 5|some _=>.inr (aEv (P s x))
 | _=>.inl 0
def qQ(P:dU→ByteArray→Int)(s:dU)(line:ByteArray):Int ⊕ Wd→ByteArray×dU
 | .inl e=>(noA e,s)
 | .inr w=>if w.asks then (match aII P s w with | .inl e=>(noA e,s) | .inr a=>(a,s)) else
   match dZ s w with
   | some e=>(noA e,s)
   | none=>if s.book.length=300 then (noA 15,s) else (⟨⟨[111,107]⟩⟩,{ sS s w with book:=s.book++[line] })
def aLt(P:dU→ByteArray→Int):Prop:=∀(h:XH)(L:CL)(s:dU)(x:ByteArray),Lays h L s→gH s→match gS s.farmers x with
 | none=>∃ h1,CalP Tryz.prog aB 66 [.pt L.c 0,.str x] h (.ifc 84 (.agg [I 5])) h1∧Frz h.length h h1
 | some _=>(-1000000≤P s x∧P s x≤1000000)∧(Cd h→∃ h1,runW aB 66 [.pt L.c 0,.str x] h=some (I (P s x),h1)∧Frz h.length h h1)
theorem aJS{e:Int}(hc:dZ s w=some e):e∈nW:=by
 cases w<;>unfold dZ at hc<;>dsimp only at hc
 all_goals (repeat' split at hc)
 all_goals first|(cases hc;decide)|cases hc
theorem p99{xs:List AV}{h:XH}:runW aB 67 xs h=aCP xs h:=eJ rfl rfl xs h
theorem Frz.of{hh:XH}{n:Nat}(h0:Fr [] h hh):Frz n h hh:=h0.frz
theorem aPB{n:Int}(h0:0≤n)(h1:n≤99999):(Lib.itoa n).length≤20:=by
 unfold Lib.itoa;rw[if_neg AM,Lib.decDigits_length]
 grind [Lib.nDigits_small,Lib.nDigits_big]
theorem aRn{k:CTk}(hb:0≤k.net∧k.net≤99999)(hs:k.wagon.size≤10∧k.farmer.size≤10):runW aB 67 [.fs (if k.void then [[.str k.wagon],[.str k.farmer],[.str ⟨⟨Lib.itoa k.net⟩⟩],[.str AAq]] else [[.str k.wagon],[.str k.farmer],[.str ⟨⟨Lib.itoa k.net⟩⟩]]),.str ⟨⟨[32]⟩⟩] []=some (.str (tkT k),[]):=by
 have il:=aPB hb.1 hb.2;have s1:k.wagon.data.toList.length≤10:=by simp_all
 have s2:k.farmer.data.toList.length≤10:=by simp_all
 rw[p99];unfold aCP;cases hv:k.void with
 | true =>
   have e:sZ [[AV.str k.wagon],[.str k.farmer],[.str ⟨⟨Lib.itoa k.net⟩⟩],[.str AAq]]=some (tkL k):=by unfold tkL;rw[hv];rfl
   simp only[AAe];rw[e];dsimp only;refine if_pos ⟨by unfold tkL;grind,?_⟩;unfold tkL;rw[hv];have:=Lib.join_length k.wagon.data.toList [k.farmer.data.toList,Lib.itoa k.net,[118,111,105,100]] [32];simp[Lib.lens]at this ⊢;omega
 | false =>
   have e:sZ [[AV.str k.wagon],[.str k.farmer],[.str ⟨⟨Lib.itoa k.net⟩⟩]]=some (tkL k):=by unfold tkL;rw[hv];rfl
   simp only[B8,AAd];rw[e];dsimp only;refine if_pos ⟨by unfold tkL;grind,?_⟩;unfold tkL;rw[hv];have:=Lib.join_length k.wagon.data.toList [k.farmer.data.toList,Lib.itoa k.net] [32];simp[Lib.lens]at this ⊢;omega
theorem aRJ{P:dU→ByteArray→Int}(pok:aLt P)(ly:Lays h L s)(cd:Cd h)(gs:gH s)(hp:runW aB 26 [.str line] []=some (v,[]))(hw:IsW w v)(hno:∀ e,w.asks=false→dZ s w=some e→∀ k:XH,∃ h1,CalP Tryz.prog aB 27 [.pt L.c 0,v] (h++k) (.ifc 84 (.agg [I e])) h1∧Fr [] (h++k) h1)
 (hok:w.asks=false→dZ s w=none→s.book.length≠300∧∀ k:XH,xI (h++k) L s v (sS s w)):aEE h L line (qQ P s line (.inr w)).2 (qQ P s line (.inr w)).1:=by
 have hbk:=gs.book;unfold qQ;dsimp only;cases ha:w.asks with
 | false =>
   simp only[B8,AAd];cases hc:dZ s w with
   | some e=>exact aOi ly (aJS hc) hp hw (hno e ha hc)
   | none =>
     obtain⟨hl,co⟩:=hok ha hc;dsimp only;rw[if_neg hl];grind [aOh]
 | true =>
   simp only[AAe];have ask:=fun k:XH=>aBw ha hw h L.c k;have c61:∀ k:XH,∃ hh,runW aB 27 [.pt L.c 0,v] (h++k)=some (.nilfn,hh)∧Fr [] (h++k) hh:=fun k=>by
    obtain⟨bx,q1,_⟩:=ask k
    grind [Fr.app]
   cases w with
   | net x =>
     obtain⟨z0,rfl⟩:=id hw;unfold aII;dsimp only;cases hv:gS s.farmers x with
     | none=>exact tK ly (by decide) hp hw c61 (fun hh lyh=>⟨_,aXi lyh (gJ.1 hv),(Fr.app hh _).frz⟩)
     | some y =>
       obtain⟨i,hi,hy⟩:=eG hv;have:=gs.bf _ (A5 hy);exact qP ly cd hp hw (aBw ha hw h L.c) fun hh lyh _=>⟨_,aUT lyh hi hy AM,(Fr.app hh _).frz⟩
   | total =>
     obtain rfl:=id hw;unfold aII;dsimp only;by_cases hk:s.farmers.length=0;·exact qP ly cd hp hw (aBw ha hw h L.c) fun hh lyh cdh=>⟨_,aLB lyh cdh hk,(Fr.refl [] hh).frz⟩
     ·exact qP ly cd hp hw (aBw ha hw h L.c) fun hh lyh cdh=>⟨_,aNq lyh cdh AM gs.lf gs.nf (fun p hp=>by have:=gs.bf p hp;omega),(Fr.refl [] hh).frz⟩
   | ticket i =>
     obtain⟨u1,rfl⟩:=id hw;unfold aII;dsimp only;cases hk:s.tickets[i]? with
     | none=>exact tK ly (by decide) hp hw c61 (fun hh lyh=>⟨_,aMK lyh (aF1.1 hk),(Fr.app hh _).frz⟩)
     | some k =>
       obtain⟨b1,b2,b3,b4⟩:=gs.bt k (A5 hk);exact qP ly cd hp hw (aBw ha hw h L.c) fun hh lyh _=>aLC lyh hk ⟨b1,b2⟩ (aRn ⟨b1,b2⟩ b4)
   | used x =>
     obtain⟨z0,rfl⟩:=id hw;unfold aII;dsimp only;cases hv:gS s.meters x with
     | none=>exact tK ly (by decide) hp hw c61 (fun hh lyh=>⟨_,aTa lyh (gJ.1 hv),(Fr.app hh _).frz⟩)
     | some y =>
       obtain⟨i,hi,hy⟩:=eG hv;have:=gs.bm _ (A5 hy);exact qP ly cd hp hw (aBw ha hw h L.c) fun hh lyh _=>⟨_,aRh lyh hi hy (by grind),(Fr.app hh _).frz⟩
   | loss x =>
     obtain⟨z0,rfl⟩:=id hw;unfold aII;dsimp only;cases hv:gS s.pans x with
     | none=>exact tK ly (by decide) hp hw c61 (fun hh lyh=>⟨_,aTb lyh (gJ.1 hv),(Fr.app hh _).frz⟩)
     | some y =>
       obtain⟨i,hi,hy⟩:=eG hv;have:=gs.bp _ (A5 hy);exact qP ly cd hp hw (aBw ha hw h L.c) fun hh lyh _=>⟨_,aRi lyh hi hy AM,(Fr.app hh _).frz⟩
   | power x =>
     obtain⟨z0,rfl⟩:=id hw;unfold aII;dsimp only;cases hv:gS s.farmers x with
     | none =>
       exact tK ly (by decide) hp hw c61 (fun hh lyh=>by
        have q:=pok _ L s x (lyh.ext [some (.blk true (.cells true [.str AAz,.fs [[.str x]],.fs [[I z0]]]))]) gs;rw[hv]at q;obtain⟨h1,q1,q2⟩:=q;exact⟨h1,aQu q1,(Fr.app hh _).frz.trans fun j c hc hn=>q2 j c hc (hn.mono (by simp))⟩)
     | some y =>
       exact qP ly cd hp hw (aBw ha hw h L.c) fun hh lyh cdh=>by
        have q:=pok _ L s x (lyh.ext [some (.blk true (.cells true [.str AAz,.fs [[.str x]],.fs [[I z0]]]))]) gs;rw[hv]at q;obtain⟨b,q⟩:=q;obtain⟨h1,q1,q2⟩:=q (aJW cdh fun x hx b hb=>by
         rw[C6]at hx;subst hx;simp[nmO,nmB]at hb)
        exact⟨h1,aNr q1 AM,(Fr.app hh _).frz.trans fun j c hc hn=>q2 j c hc (hn.mono (by simp))⟩
   | _=>cases ha
theorem aRM{P:dU→ByteArray→Int}(pok:aLt P)(ly:Lays h L s)(cd:Cd h)(gs:gH s){r:Int ⊕ Wd}(hr:Prs line r)(hcode:∀ e,r = .inl e→e∈nW):aEE h L line (qQ P s line r).2 (qQ P s line r).1:=by
 cases r with
 | inl e=>exact aOf ly (hcode e rfl) hr
 | inr w =>
   obtain⟨v,hp,hw,_⟩:=hr;by_cases hf:w.asks=false∧dZ s w=none∧s.book.length=300
   ·obtain⟨ha,hc,hl⟩:=hf
    have e:qQ P s line (.inr w)=(noA 15,s):=by unfold qQ;grind
    rw[e];exact aOg ly hp hw (fun k=>aQp (ly.ext k) gs hw ha hc) hl
   ·exact aRJ pok ly cd gs hp hw (fun e ha hc k=>aXg (ly.ext k) gs hw ha hc) fun ha hc=>⟨fun q=>hf ⟨ha,hc,q⟩,fun k=>aQp (ly.ext k) gs hw ha hc⟩
end Go.Proofs.YtjckchgdlbgolaaGreatDoor
