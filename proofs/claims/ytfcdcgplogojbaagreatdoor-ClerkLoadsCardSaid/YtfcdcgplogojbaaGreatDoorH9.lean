/- Parts of a proof, joined. No statement of the seed is proved here. -/
import Derived.Test.YtfcdcgplogojbaaGreatDoorH8
set_option linter.unusedSimpArgs false
set_option linter.unusedVariables false
set_option linter.unusedSectionVars false
set_option maxRecDepth 100000
set_option maxHeartbeats 4000000
namespace Go.Proofs.YtfcdcgplogojbaaGreatDoor
open Go Go.DL
section
variable{D:Nat->Option XFn}{K k:Nat}{rd:Option Nat}{L:List Nat}{a:XCode}{e:aJ}{h H H':XH}{vs vs':List AV}{r:Option (DX×aJ×XH)}{res:List (Nat×Option (Bool×Nat))}{own:Bool}{v:AV}{f:aJ->XH->Option (DX×aJ×XH)}
noncomputable def lpX(D:Nat->Option XFn)(K k:Nat)(rd:Option Nat)(L:List Nat)(a:XCode)(vs:List AV)(H:XH):Option (DX×aJ×XH):=qJ (execW D K k rd a (aY L vs) H) (execW D K k rd (.loop L a))
theorem aEh(h0:bT k L (some (.normal,e,h))=some (vs,H)):execW D K k rd (.loop L a) e h=lpX D K k rd L a vs H:=by
 simp only[bT,oSI,B9]at h0;have e1:rQ k L e h=aY L vs:=by rw[<-h0.1];rfl
 rw[uN,e1,h0.2];rfl
theorem aLI(h0:bT k L (execW D K k rd a (aY L vs) H)=some (vs',H')):lpX D K k rd L a vs H=lpX D K k rd L a vs' H':=by
 unfold lpX;generalize execW D K k rd a (aY L vs) H=q at *;match q,h0 with
 | some (.normal,e,h),h0=>exact aEh h0
def reX(res:List (Nat×Option (Bool×Nat)))(own:Bool)(k:Nat):Option (DX×aJ×XH)->Option (AV×XH)
 | some (.ret,e,h)=>eY none res own k (some (.ret,e,h))
 | _=>none
theorem aOF(h0:reX res own k r=some (v,H)):reX res own k (qJ r f)=some (v,H):=by
 match r,h0 with
 | some (.ret,e,h),h0=>exact h0
theorem aGI{id:Nat}(h0:reX res own k r=some (v,H)):eY none res own k (qJ (vB id r) f)=some (v,H):=by
 match r,h0 with
 | some (.ret,e,h),h0=>exact h0
theorem aEA:reX res own k (some (.ret,e,h))=eY none res own k (some (.ret,e,h)):=rfl
end
theorem bBp(a b:ByteArray):fK (a++b) 0 a.size=a:=by
 simp[fK]
theorem aVU(a b:ByteArray):fK (a++b) a.size (a++b).size=b:=by
 unfold fK;rw[aB7,Array.toList_append,J0,List.drop_left' (by rfl),C9 (by simp_all)]
theorem aVz(l:List ByteArray):(rS l).flatten=bQ l:=by
 unfold rS bQ;induction l with
 | nil=>rfl
 | cons a l ih=>simp_all
theorem aVA(l:List ByteArray):(rS l).all (λr=>r.length==1)=true:=by
 simp[rS]
theorem aLi(a b:List ByteArray):bQ a++bQ b=bQ (a++b):=by simp[bQ]
abbrev okA:ByteArray:=⟨⟨[111,107]⟩⟩
theorem aTP:aN .neq okA ⟨#[111,107]⟩=some (.bool false):=by kernel_rfl
theorem g17{s:ByteArray}{row:Int}(hs:s.size<=1000000):runW progG 20 [.str s,I row] []=some (mnV s row,[]):=(cM (d:=iO (pmRun 20)) rfl rfl _ _).trans (aHb rfl (aVR _ _) (w17 hs))
theorem g72(r:ByteArray):runW progG 18 [.str (hdB++r),.str ⟨#[122,97,102,114,97,32,49,52,10]⟩] []=some (.tup [.str r,.bool true],[]):=by
 rw[cM (d:=iO sL) rfl rfl];rfl
def aIK(C:List Nat)(n md:Nat):Int ⊕ (List ByteArray×Nat):=if Lib.containsS (lns C n) qF then .inl 13 else .inr (lns C n,md)
def aRb(C:List Nat)(n:Nat)(bad:Int)(md:Nat):Int ⊕ (List ByteArray×Nat):=if 1<md then .inl 19 else if md=0/\dY C n≠fA C n then .inl 22 else
 if 0<=bad/\bad<n then aIK (aHH C n bad.toNat) n md else aIK C n md
def mnP(s:ByteArray)(row:Int):Int ⊕ (List ByteArray×Nat):=if (decide (0<=row)&&decide (row<=1000))=true then
 (if s.size%45≠0\/s.size/45<2 then .inl 20 else if 6<s.size/45 then .inl 1 else aRb (FnS s (s.size/45)) (s.size/45-1) (vT s row.toNat (s.size/45)) (lR s row.toNat (s.size/45))) else .inl 2
def enP:Int ⊕ (List ByteArray×Nat)->AV
 | .inl e=>vY e
 | .inr p=>.tup [.fs (rS p.1),I (p.2:Nat),I 0]
theorem aTO(C:List Nat)(n md:Nat):xB C n md=enP (aIK C n md):=by
 grind [xB,enP,aIK]
theorem aUo(C:List Nat)(n:Nat)(bad:Int)(md:Nat):lL C n bad md=enP (aRb C n bad md):=by
 grind [aTO,lL,enP,aRb]
theorem aHv(s:ByteArray)(row:Int):mnV s row=enP (mnP s row):=by
 grind [aUo,mnV,enP,mnP]
theorem aTM{C:List Nat}{n md:Nat}{p:List ByteArray×Nat}(h:aIK C n md = .inr p):p.1.length=n/\p.2=md:=by
 grind [aHz,aIK]
theorem aTN{C:List Nat}{n md:Nat}{e:Int}(h:aIK C n md = .inl e):e≠0:=by
 grind [aIK]
theorem aHu{s:ByteArray}{row:Int}{p:List ByteArray×Nat}(h:mnP s row = .inr p):1<=p.1.length/\p.1.length<=5/\p.2<=1:=by
 unfold mnP at h
 grind [aTM,aRb]
theorem aQn{s:ByteArray}{row:Int}{e:Int}(h:mnP s row = .inl e):e≠0:=by
 unfold mnP at h
 grind [aTN,aRb]
def lfB(r:ByteArray)(i:Nat):ByteArray:=⟨⟨r.data.toList.drop (270*i)⟩⟩
def zG(r:ByteArray)(i:Nat):ByteArray:=⟨⟨(r.data.toList.drop (270*i)).take 270⟩⟩
def npF(r:ByteArray):Nat:=(r.size+269)/270
theorem aQu(r:ByteArray)(i:Nat):(lfB r i).size=r.size-270*i:=by
 show (r.data.toList.drop (270*i)).length=_
 simp_all
theorem aDX(r:ByteArray)(i:Nat):(zG r i).size=min 270 (r.size-270*i):=by
 show ((r.data.toList.drop (270*i)).take 270).length=_
 simp_all
theorem aTY(r:ByteArray)(i:Nat):lfB r i=zG r i++lfB r (i+1):=by
 apply ByteArray.ext
 grind [ByteArray.data_append,List.drop_drop,lfB,zG]
def fdP(r:ByteArray):Nat->Nat->List ByteArray->Nat->Int ⊕ (List ByteArray×Nat)
 | 0,_,L,m=>.inr (L,m)
 | k+1,i,L,m=>match mnP (zG r i) (6*i:Nat)with
   | .inl e=>.inl e
   | .inr p=>fdP r k (i+1) (L++p.1) (m+p.2)
noncomputable def fdS:CSt->List ByteArray->Option CSt
 | s,[]=>some s
 | s,x::l=>if (sayA s x).1=okA then fdS (sayA s x).2 l else none
def shF(n:Nat):Int:=if n/45%6=1\/n%45≠0 then 20 else 0
noncomputable def ldV(r:ByteArray):Int ⊕ (CSt×Nat):=if shF r.size≠0 then .inl 20 else match fdP r (npF r) 0 [] 0 with
 | .inl e=>.inl e
 | .inr p=>match fdS dP p.1 with
   | none=>.inl 22
   | some s=>.inr (s,p.2)
section
variable{K:Nat}{Ls:List Nat}{a:XCode}
abbrev rsL:List (Nat×Option (Bool×Nat)):=[(2,none),(3,none),(4,none)]
abbrev erL(e:Int):Option (AV×XH):=some (.tup [.nilpt,I 0,I e],[])
theorem aKz{r:ByteArray}:∀{k i m:Nat}{L:List ByteArray}{p:List ByteArray×Nat},L.length<=5*i->m<=i->fdP r k i L m = .inr p->p.1.length<=5*(i+k)/\p.2<=i+k
 | 0,i,m,L,p,h1,h2,h=>by grind [fdP]
 | k+1,i,m,L,p,h1,h2,h=>by
   unfold fdP at h;split at h;·cases h
   .rename_i q hq
    obtain⟨a,b,c⟩:=aHu hq;have:=aKz (k:=k) (i:=i+1) (by grind) AS h;omega
theorem aHn{r:ByteArray}{V:Nat->List ByteArray->Nat->List AV}{H:List ByteArray->XH}(hr:r.size<=3000)
 (ok:∀{i m:Nat}{L:List ByteArray}{p:List ByteArray×Nat},i<npF r->L.length<=1000->m<=1000->mnP (zG r i) (6*i:Nat) = .inr p->bT 0 Ls (execW progG K 0 none a (aY Ls (V i L m)) (H L))=some (V (i+1) (L++p.1) (m+p.2),H (L++p.1)))
 (er:∀{i m:Nat}{L:List ByteArray}{e:Int},i<npF r->mnP (zG r i) (6*i:Nat) = .inl e->reX rsL false 0 (execW progG K 0 none a (aY Ls (V i L m)) (H L))=erL e) :
 ∀{k i m:Nat}{L:List ByteArray},i+k=npF r->L.length<=5*i->m<=i->match fdP r k i L m with
   | .inl c=>reX rsL false 0 (lpX progG K 0 none Ls a (V i L m) (H L))=erL c
   | .inr p=>lpX progG K 0 none Ls a (V i L m) (H L)=lpX progG K 0 none Ls a (V (npF r) p.1 p.2) (H p.1)
 | 0,i,m,L,e,h1,h2=>by
   rw[I6]at e;subst e;rfl
 | k+1,i,m,L,e,h1,h2=>by
   have i11:i<=12:=by unfold npF at e;omega
   unfold fdP;cases hq:mnP (zG r i) (6*i:Nat)with
   | inl c=>exact aOF (er AS hq)
   | inr q =>
     obtain⟨a,b,c⟩:=aHu hq;dsimp only;rw[aLI (ok AS AS AS hq)];exact aHn hr ok er AS (by grind) AS
theorem aGJ{V:Nat->List AV}{R:CSt->XH->Prop}{A:List ByteArray}
 (ok:∀{j:Nat}{x:ByteArray}{s:CSt}{H:XH},A[j]?=some x->R s H->(sayA s x).1=okA->∃ H',R (sayA s x).2 H'/\bT 0 Ls (execW progG K 0 none a (aY Ls (V j)) H)=some (V (j+1),H'))
 (er:∀{j:Nat}{x:ByteArray}{s:CSt}{H:XH},A[j]?=some x->R s H->(sayA s x).1≠okA->reX rsL false 0 (execW progG K 0 none a (aY Ls (V j)) H)=erL 22) :
 ∀(l:List ByteArray){j:Nat}{s:CSt}{H:XH},A.drop j=l->j<=A.length->R s H->match fdS s l with
   | some s'=>∃ H',R s' H'/\lpX progG K 0 none Ls a (V j) H=lpX progG K 0 none Ls a (V A.length) H'
   | none=>reX rsL false 0 (lpX progG K 0 none Ls a (V j) H)=erL 22
 | [],j,s,H,hd,hj,hR=>by
   have:j=A.length:=by
    have:=AAs List.length hd
    grind
   subst this;exact⟨H,hR,rfl⟩
 | x::l,j,s,H,hd,hj,hR=>by
   have hx:A[j]?=some x:=by
    have:=AAs (λl=>l[0]?) hd
    grind
   have hj1:j<A.length:=(B6.1 hx).1;have hd2:A.drop (j+1)=l:=by rw[<-aB4,hd];rfl
   unfold fdS;by_cases h:(sayA s x).1=okA
   .rw[if_pos h]
    obtain⟨H',r1,r2⟩:=ok hx hR h;rw[aLI r2];exact aGJ ok er l hd2 hj1 r1
   .rw[if_neg h]
    exact aOF (er hx hR h)
end
theorem bBP{n:Nat}(h:n<=3000):runW progG 19 [I (n:Nat)] []=some (I (shF n),[]):=by
 obtain⟨r,hr⟩:∃ r,n/45=r:=⟨_,rfl⟩;have d1:lQ (n:Int) 45=(r:Int):=by grind [lQ]
 have e1:IntKind.i64.wrap (r:Int)=(r:Int):=aE AS AS;obtain⟨g,hg⟩:∃ g,r/6=g:=⟨_,rfl⟩;have d2:lQ (r:Int) 6=(g:Int):=by grind [lQ]
 have e2:IntKind.i64.wrap (g:Int)=(g:Int):=aE AS AS;have e3:IntKind.i64.wrap ((g:Int)*5)=((g*5:Nat):Int):=by grind [aE]
 have d3:tmZ (r:Int) 6=((r%6:Nat):Int):=iT r 6;have d4:tmZ (n:Int) 45=((n%45:Nat):Int):=iT n 45;have big:∀ k:Nat,k<=5->(300<((g*5+k:Nat):Int))=False:=λk hk=>AAb;have b0:(300<((g*5:Nat):Int))=False:=AAb;have ad:∀ k:Nat,k<=5->IntKind.i64.wrap (((g*5:Nat):Int)+(k:Int))=((g*5+k:Nat):Int):=λk hk=>by grind [aE]
 have a1:IntKind.i64.wrap (((g*5:Nat):Int)+1)=((g*5+1:Nat):Int):=ad 1 AS;have a2:IntKind.i64.wrap (((g*5:Nat):Int)+2)=((g*5+2:Nat):Int):=ad 2 AS;have a3:IntKind.i64.wrap (((g*5:Nat):Int)+3)=((g*5+3:Nat):Int):=ad 3 AS;have a4:IntKind.i64.wrap (((g*5:Nat):Int)+4)=((g*5+4:Nat):Int):=ad 4 AS;have c1:=big 1 AS;have c2:=big 2 AS;have c3:=big 3 AS;have c4:=big 4 AS;unfold shF;rw[hr];clear big ad hg;rcases (by omega:r%6=0\/r%6=1\/r%6=2\/r%6=3\/r%6=4\/r%6=5)with hk|hk|hk|hk|hk|hk
 .rw[hk]at d3 ⊢
  by_cases hm:n%45=0
  .rw[if_neg AS]
   rw[hm]at d4;rw[rq 19 x19 rfl];unfold x19;dsimp only;(exact kN d1 e1 d2 e2 e3 d3 d4 b0 aF)
  .rw[if_pos AS]
   have hm2:(((n%45:Nat):Int)=0)=False:=AAb;rw[rq 19 x19 rfl];unfold x19;dsimp only;(exact kN d1 e1 d2 e2 e3 d3 d4 hm2 aF)
 .rw[hk]at d3 ⊢
  rw[if_pos AS];rw[rq 19 x19 rfl];unfold x19;dsimp only;(exact iS d1 e1 d2 e2 e3 d3 aF)
 all_goals
  rw[hk]at d3 ⊢;by_cases hm:n%45=0
  .rw[if_neg AS]
   rw[hm]at d4;rw[rq 19 x19 rfl];unfold x19;dsimp only;(exact eD d1 e1 d2 e2 e3 d3 d4 a1 a2 a3 a4 c1 c2 c3 c4 aF aF aF aF aF)
  .rw[if_pos AS]
   have hm2:(((n%45:Nat):Int)=0)=False:=AAb;rw[rq 19 x19 rfl];unfold x19;dsimp only;(exact eK d1 e1 d2 e2 e3 d3 d4 a1 a2 a3 a4 hm2 aF)
def aSL(L:List ByteArray):AV:=if L=[] then .nilsl else .sl 0 0 1 L.length
def aGL(L:List ByteArray):XH:=if L=[] then [] else [aa (bQ L)]
def b31:XCode:=match aIc with | .loop _ a=>a|c=>c
def v31(r:ByteArray)(i:Nat)(L:List ByteArray)(m:Nat):List AV:=[I (m:Nat),.str (lfB r i),aSL L,I (6*i:Nat)]
section
variable{r:ByteArray}{i m:Nat}{L:List ByteArray}
theorem aII(hr:r.size<=3000)(hi:i<npF r):aN .neq (lfB r i) ⟨#[]⟩=some (.bool true)/\fK (lfB r i) 0 (zG r i).size=zG r i/\fK (lfB r i) (zG r i).size (lfB r i).size=lfB r (i+1)/\0<(lfB r i).size/\i<=11 /\
 (((270:Int)<((lfB r i).size:Int))=True/\(zG r i).size=270\/((270:Int)<((lfB r i).size:Int))=False/\(zG r i).size=(lfB r i).size):=by
 have z1:=aQu r i;have z2:=aDX r i;unfold npF at hi;refine⟨?_,?_,?_,by omega,by omega,?_⟩
 .rw[fW,AAk]
  .rfl
  intro e;have:=AAs ByteArray.size e;have h0:(⟨#[]⟩:ByteArray).size=0:=rfl;omega
 .simp_all [fK,lfB,zG]
 .grind [aTY,aVU]
 grind
theorem aZE{e:Int}(hr:r.size<=3000)(hi:i<npF r)(hp:mnP (zG r i) (6*i:Nat) = .inl e):reX rsL false 0 (execW progG 6 0 none b31 (aY [3,5,8,9] (v31 r i L m)) (aGL L))=erL e:=by
 obtain⟨ne,e1,e2,z0,i11,hb⟩:=aII hr hi;have c16:=g16 (s:=zG r i) (row:=((6*i:Nat):Int)) (by grind);rw[aHv,hp]at c16;have c16:runW progG 14 [.str (zG r i),I (6*i:Nat)] []=some (.tup [.fs [],I 0,I e],[]):=c16;have e0:(e=0)=False:=AAo (aQn hp);have b1:(((zG r i).size:Int)<=((lfB r i).size:Int))=True:=AAn (by grind);clear hp;unfold b31 aIc v31;dsimp only;rcases hb with ⟨b7,b8⟩|⟨b7,b8⟩
 .rw[b8]at e1 e2 b1
  have b1:((270:Int)<=((lfB r i).size:Int))=True:=b1;have e1:fK (lfB r i) 0 (Int.toNat 270)=zG r i:=e1;unfold aSL aGL;split;·(exact gZ ne b7 b1 e1 c16 e0 @aEA aU aR aT)
  ·(exact gZ ne b7 b1 e1 c16 e0 @aEA aU aR aT)
 .rw[b8]at e1 e2 b1
  unfold aSL aGL;split;·(exact gZ ne b7 b1 e1 c16 e0 @aEA aU aR aT)
  ·(exact gZ ne b7 b1 e1 c16 e0 @aEA aU aR aT)
theorem aGw{L:List ByteArray}(h:L≠[]):aSL L = .sl 0 0 1 L.length:=if_neg h
theorem aGx{L:List ByteArray}(h:L≠[]):aGL L=[aa (bQ L)]:=if_neg h
theorem aZD{p:List ByteArray×Nat}(hr:r.size<=3000)(hi:i<npF r)(hL:L.length<=1000)(hm:m<=1000)(hp:mnP (zG r i) (6*i:Nat) = .inr p):bT 0 [3,5,8,9] (execW progG 6 0 none b31 (aY [3,5,8,9] (v31 r i L m)) (aGL L))=some (v31 r (i+1) (L++p.1) (m+p.2),aGL (L++p.1)):=by
 obtain⟨ne,e1,e2,z0,i11,hb⟩:=aII hr hi;have c16:=g16 (s:=zG r i) (row:=((6*i:Nat):Int)) (by grind);rw[aHv,hp]at c16;have c16:runW progG 14 [.str (zG r i),I (6*i:Nat)] []=some (.tup [.fs (rS p.1),I (p.2:Nat),I 0],[]):=c16;obtain⟨l1,l2,m2⟩:=aHu hp;obtain⟨l,d⟩:=p;dsimp only at l1 l2 m2 c16 ⊢;have b1:(((zG r i).size:Int)<=((lfB r i).size:Int))=True:=AAn (by grind);have k1:IntKind.i64.wrap ((m:Int)+(d:Int))=((m+d:Nat):Int):=by grind [aE]
 have k2:IntKind.i64.wrap (((6*i:Nat):Int)+6)=((6*(i+1):Nat):Int):=by grind [aE]
 have q1:=aVA l;have q2:=aVz l;have q3:=eP l;have q4:=aLi L l;have q5:=bP L;have q6:=bP (L++l);have q8:=bY L;have hne:L++l≠[]:=λh=>by
  simp_all
 have q9:(L++l).length=L.length+l.length:=E6;have b2:((L.length+l.length)*16<=1099511627776)=True:=AAa;have b3:(L.length+l.length<=1099511627776)=True:=AAa;have b4:(l.length*16<=1099511627776)=True:=AAa;have b5:(l.length<=1099511627776)=True:=AAa;have b6:(l.length=0)=False:=AAb;unfold v31;rw[aGw hne,aGx hne,q9];clear hp;unfold b31 aIc;dsimp only;by_cases h0:L=[]
 .subst h0
  have w2:bQ []=[]:=rfl;rw[w2,D4,D4]at q4;rw[D4]at q6 ⊢;have s0:aSL [] = .nilsl:=if_pos rfl;have g0:aGL []=[]:=if_pos rfl;have z9:(([]:List ByteArray).length+l.length)=l.length:=by simp
  rw[s0,g0,z9];rcases hb with ⟨b7,b8⟩|⟨b7,b8⟩
  .rw[b8]at e1 e2 b1
   have b1:((270:Int)<=((lfB r i).size:Int))=True:=b1;have e1:fK (lfB r i) 0 (Int.toNat 270)=zG r i:=e1;have e2:fK (lfB r i) (Int.toNat 270) (lfB r i).size=lfB r (i+1):=e2;(exact eD ne b7 b1 e1 e2 c16 k1 k2 q1 q2 q3 q6 b4 b5 b6 aU aR aT aF aF)
  .rw[b8]at e1 e2 b1
   (exact eD ne b7 b1 e1 e2 c16 k1 k2 q1 q2 q3 q6 b4 b5 b6 aU aR aT aF aF)
 .rw[aGw h0,aGx h0]
  rcases hb with ⟨b7,b8⟩|⟨b7,b8⟩
  .rw[b8]at e1 e2 b1
   have b1:((270:Int)<=((lfB r i).size:Int))=True:=b1;have e1:fK (lfB r i) 0 (Int.toNat 270)=zG r i:=e1;have e2:fK (lfB r i) (Int.toNat 270) (lfB r i).size=lfB r (i+1):=e2;(exact eD ne b7 b1 e1 e2 c16 k1 k2 q1 q2 q3 q4 q5 q6 q8 b2 b3 aU aR aT)
  .rw[b8]at e1 e2 b1
   (exact eD ne b7 b1 e1 e2 c16 k1 k2 q1 q2 q3 q4 q5 q6 q8 b2 b3 aU aR aT)
end
def aNB:XCode:=match aJF with | .loop _ a=>a|c=>c
def aIi(N md j:Nat):List AV:=[.pt 0 0,I (md:Nat),.sl 1 0 1 N,I (N:Nat),I (j:Nat)]
noncomputable def w31h(A:List ByteArray)(s:CSt):XH:=[gK s,aa (bQ A)]
section
variable{A:List ByteArray}{s:CSt}{j md:Nat}{x:ByteArray}
theorem aYU(hN:A.length<=1000)(hx:A[j]?=some x)(h:(sayA s x).1=okA):bT 0 [2,3,58,59,60] (execW progG 6 0 none aNB (aY [2,3,58,59,60] (aIi A.length md j)) (w31h A s))=some (aIi A.length md (j+1),w31h A (sayA s x).2):=by
 have hj:j<A.length:=(B6.1 hx).1;have c21:=g21 s x;rw[h]at c21;have hx2:(bQ A)[j]?=some (.str x):=by unfold bQ;grind
 have t1:((j:Int)<(A.length:Int))=True:=AAa;have a1:=cV hj AS;have gr:=bP A;have o1:=aTP;generalize A.length=N at *;generalize (sayA s x).2=s2 at *;unfold aIi w31h gK at *;generalize IsClk s2=K2 at *;generalize IsClk s=K1 at *;unfold aNB aJF;dsimp only;(exact kN t1 a1 hx2 c21 o1 gr aU aR aT)
theorem aYV(hN:A.length<=1000)(hx:A[j]?=some x)(h:(sayA s x).1≠okA):reX rsL false 0 (execW progG 6 0 none aNB (aY [2,3,58,59,60] (aIi A.length md j)) (w31h A s))=erL 22:=by
 have hj:j<A.length:=(B6.1 hx).1;have c21:=g21 s x;have hx2:(bQ A)[j]?=some (.str x):=by unfold bQ;grind
 have t1:((j:Int)<(A.length:Int))=True:=AAa;have gr:=bP A;have o1:aN .neq (sayA s x).1 ⟨#[111,107]⟩=some (.bool true):=by
  grind [fW]
 clear h hx;generalize A.length=N at *;generalize (sayA s x).2=s2 at *;generalize (sayA s x).1=a at *;unfold aIi w31h gK at *;generalize IsClk s2=K2 at *;generalize IsClk s=K1 at *;unfold aNB aJF;dsimp only;(exact kN t1 hx2 c21 o1 gr @aEA aU aR aT)
end
def smp:AV->Bool
 | .int .. | .bool _ | .str _=>true
 | _=>false
abbrev Sm(l:List AV):Prop:=lE l=true/\mI l=[]/\slL l=[]/\kI l=l/\∀ f,mR f l=l
def hC(nF nT nM nP nB:Nat)(CF CT CM CP CB:List AV):XH:=[ab [.bool true,.sl 1 0 1 nF,.sl 2 0 6 nT,.sl 3 0 3 nM,.sl 4 0 3 nP,.sl 5 0 1 nB],
 (aa CF),aa CT,aa CM,aa CP,aa CB]
theorem aCG{nF nT nM nP nB:Nat}{CF CT CM CP CB:List AV}:hC nF nT nM nP nB CF CT CM CP CB=[ab [.bool true,.sl 1 0 1 nF,.sl 2 0 6 nT,.sl 3 0 3 nM,.sl 4 0 3 nP,.sl 5 0 1 nB],
 (aa CF),aa CT,aa CM,aa CP,aa CB]:=rfl
theorem aOS{l:List AV}(h:∀ a∈l,smp a=true):Sm l:=by
 induction l with
 | nil=>exact⟨rfl,rfl,rfl,rfl,λ_=>rfl⟩
 | cons a l ih =>
   obtain⟨h1,h2,h3,h4,h5⟩:=ih λb hb=>h b (D8 _ hb);have ha:=h a (by simp);have q:iD a=true/\kK a=[]/\slN a=[]/\vN a=a/\∀ f,rnA f a=a:=by
    cases a<;>first|exact⟨rfl,rfl,rfl,rfl,λ_=>rfl⟩|cases ha
   obtain⟨q1,q2,q3,q4,q5⟩:=q;refine⟨?_,?_,?_,?_,λf=>?_⟩;·rw[lE,q1,h1];rfl
   .rw[mI,q2,h2];rfl
   .rw[slL,q3,h3];rfl
   .rw[kI,q4,h4]
   .rw[mR,q5,h5]
def cK(F:Nat->List AV)(n:Nat):List AV:=(List.range n).flatMap F
def fQ(F:Nat->List AV)(n:Nat):List (List AV):=(List.range n).map F
structure Rw(F:Nat->List AV)(m:Nat):Prop where
 len:∀ i,(F i).length=m
 smp:∀ i,∀ a∈F i,smp a=true
section
variable{F G:Nat->List AV}{m n i j:Nat}
theorem oJ:(fQ F n).length=n:=by simp[fQ]
theorem aDD(h:i<n):(fQ F n)[i]?=some (F i):=by grind [fQ]
theorem aJU:(fQ F n).flatten=cK F n:=by rfl
theorem aCP(r:Rw F m):((fQ F n).all λr=>r.length==m)=true:=by
 rw[D5];intro x hx;obtain⟨k,_,rfl⟩:=F8.1 hx;simp[r.len k]
theorem aLV(r:Rw F m):∀ a∈cK F n,smp a=true:=λa ha=>by
 obtain⟨k,_,hk⟩:=O5.1 ha;exact r.smp k a hk
theorem aBW:cK F (n+1)=cK F n++F n:=by grind [List.range_succ,cK]
theorem fU(r:Rw F m):∀ n,(cK F n).length=n*m
 | 0=>by simp[cK]
 | n+1=>by rw[aBW,E6,fU r n,r.len,Nat.succ_mul]
theorem mJ(h:∀ i,i<n->F i=G i):cK F n=cK G n:=by
 grind [List.map_congr_left,cK]
theorem aGg(h:i<n):∃ b,cK F n=cK F i++(F i++b):=by
 induction n with
 | zero=>omega
 | succ n ih =>
   by_cases hi:i=n;·subst hi;exact⟨[],by grind [aBW]⟩
   grind [aBW]
theorem lG(r:Rw F m)(h:i<n)(hj:j<m):(cK F n)[i*m+j]?=(F i)[j]?:=by
 obtain⟨b,hb⟩:=aGg (F:=F) h;have:=fU r i;have:=r.len i
 grind
theorem aUk(r:Rw F m)(h:i<n):((cK F n).drop (i*m)).take m=F i:=by
 obtain⟨b,hb⟩:=aGg (F:=F) h;have h1:=fU r i;have h2:=r.len i
 grind
def oH(F:Nat->List AV)(i j:Nat)(v:AV):Nat->List AV:=λk=>if k=i then (F i).set j v else F k
theorem aAA(r:Rw F m){v:AV}(hv:Go.Proofs.YtfcdcgplogojbaaGreatDoor.smp v=true):Rw (oH F i j v) m:=by
 refine⟨λk=>?_,λk a ha=>?_⟩
 .unfold oH;split
  .rw[G6,r.len]
  .exact r.len k
 .unfold oH at ha;split at ha
  .rcases aE1 ha with h|h
   .exact r.smp _ a h
   grind
  .exact r.smp k a ha
theorem aBp(r:Rw F m)(h:i<n)(hj:j<m){v:AV}(hv:Go.Proofs.YtfcdcgplogojbaaGreatDoor.smp v=true):bJ (cK F n) (i*m+j) [v]=cK (oH F i j v) n:=by
 have hl:=fU r n;have r':=aAA (i:=i) (j:=j) r hv;have hl':=fU r' n;have hlt:i*m+j<n*m:=by
  have:(i+1)*m<=n*m:=G3 _ AS
  grind
 have e:bJ (cK F n) (i*m+j) [v]=(cK F n).set (i*m+j) v:=by
  unfold bJ;rw[J5,if_pos AS];simp
 rw[e];apply I7;intro p;by_cases hp:p<n*m
 .have hm:0<m:=AS
  have hk:p/m<n:=(Nat.div_lt_iff_lt_mul hm).2 hp;have hq:p%m<m:=aA4 _ hm;have hd:p/m*m+p%m=p:=by grind [Nat.div_add_mod]
  have e1:=lG r hk hq;have e2:=lG r' hk hq;rw[hd]at e1 e2;rw[e2,List.getElem?_set];by_cases hpe:i*m+j=p
  .have hki:p/m=i:=by rw[<-hpe,Nat.mul_comm,Nat.mul_add_div hm,Nat.div_eq_of_lt hj,I6]
   grind [oH]
  grind [oH]
 grind
end
def fN(s:CSt):List ByteArray:=s.farmers.map (·.1)
def gV(s:CSt)(E:Nat->Int)(i:Nat):List AV:=match s.tickets[i]? with
 | some k=>[.str k.wagon,I (E i),I k.net,I (((bR (fN s) k.farmer).getD 0:Nat):Int),.bool k.void,.bool (decide (i<s.closed))]
 | none=>[I 0,I 0,I 0,I 0,I 0,I 0]
def nN(s:CSt)(i:Nat):List AV:=match s.meters[i]? with
 | some p=>[.str p.1,I p.2.2,I p.2.1]
 | none=>[I 0,I 0,I 0]
def nK(s:CSt)(i:Nat):List AV:=match s.pans[i]? with
 | some p=>[.str p.1,I p.2,I 0]
 | none=>[I 0,I 0,I 0]
section
variable{s:CSt}{E:Nat->Int}
theorem nY:Rw (gV s E) 6:=⟨λi=>by unfold gV;split<;>rfl,λi a ha=>by unfold gV at ha;split at ha<;>(simp at ha;rcases ha with rfl|rfl|rfl|rfl|rfl|rfl<;>rfl)⟩
theorem vO:Rw (nN s) 3:=⟨λi=>by grind [nN],λi a ha=>by grind [smp,nN]⟩
theorem vM:Rw (nK s) 3:=⟨λi=>by grind [nK],λi a ha=>by grind [smp,nK]⟩
def rC(s:CSt)(E:Nat->Int):Option XB:=aa [.bool true,.fs (rS (fN s)),.fs (fQ (gV s E) s.tickets.length),.fs (fQ (nN s) s.meters.length),.fs (fQ (nK s) s.pans.length),.fs (rS s.book)]
def rN:Option XB:=aa [.bool true,.nilsl,.nilsl,.nilsl,.nilsl,.nilsl]
def hN(s:CSt)(E:Nat->Int):XH:=[ab [.bool true,.sl 1 0 1 s.farmers.length,.sl 2 0 6 s.tickets.length,.sl 3 0 3 s.meters.length,.sl 4 0 3 s.pans.length,.sl 5 0 1 s.book.length],
 (aa (bQ (fN s))),aa (cK (gV s E) s.tickets.length),aa (cK (nN s) s.meters.length),aa (cK (nK s) s.pans.length),aa (bQ s.book)]
end
section
variable{s:CSt}{E:Nat->Int}{x:ByteArray}
theorem aXg{l:List ByteArray}{x:ByteArray}(h:bR l x=none):∀(i:Nat)(y:ByteArray),l[i]?=some y->¬y=x:=λi y hy e=>kY.1 h (e▸B3 hy)
theorem aLC{x:ByteArray}:∀{l:List ByteArray}{m:Nat},bR l x=some m->∀ i,i<m->∀ y,l[i]?=some y->¬y=x
 | [],_,h,_,_,_,_=>by cases h
 | k::r,m,h,i,hi,y,hy=>by
   unfold bR at h;split at h;·cases h;omega
   .rw[B2]at h
    obtain⟨j,hj,rfl⟩:=h;cases i with
    | zero=>simp at hy;subst hy;assumption
    | succ i=>exact aLC hj i AS y (by simpa using hy)
theorem aEd{l:List ByteArray}{m:Nat}(h:bR l x=some m):m<l.length/\l[m]?=some x:=⟨(B6.1 (dG h)).1,dG h⟩
def nQ(l:List ByteArray)(x:ByteArray):Int:=match bR l x with|some i=>(i:Int)|none => -1
theorem aMG(l:List ByteArray)(x:ByteArray):∃ m,m<=l.length/\(∀(i:Nat),i<m->∀(y:ByteArray),l[i]?=some y->aN .eql y x=some (.bool false))/\((m=l.length/\nQ l x = -1)\/(m<l.length/\l[m]?=some x/\aN .eql x x=some (.bool true)/\nQ l x=(m:Int))):=by
 have ne:∀ y:ByteArray,¬y=x->aN .eql y x=some (.bool false):=λy h=>by grind [jH]
 cases h:bR l x with
 | none=>exact⟨l.length,B5 _,λi _ y hy=>ne y (aXg h i y hy),.inl ⟨rfl,by unfold nQ;rw[h]⟩⟩
 | some m =>
   grind [aEd,aLC,aN,nQ]
theorem aVZ{L:List ByteArray}{RT RM RP RB:List (List AV)}(hb:L.length<=1000):runW progG 85 [.pt 0 0,.str x] ([aa [.bool true,.fs (rS L),.fs RT,.fs RM,.fs RP,.fs RB]])=some (I (nQ L x),[aa [.bool true,.fs (rS L),.fs RT,.fs RM,.fs RP,.fs RB]]):=by
 obtain⟨m,m1,m2,m3⟩:=aMG L x;have e0:((L.length:Int)<(L.length:Int))=False:=AAb;have ln:(rS L).length=L.length:=eP _;have ra:=λi y (h:L[i]?=some y)=>oC h;rw[rq 85 x85 rfl];unfold x85;dsimp only;sym =>
  simp[Za,Zb,Zf,Zh,Zl,Zm,Zv,Z9,ZA,ZG,ZI,ZS,ZW,Yu,Yw,Y5,Y6,Y8,YH,YM,YN,Xz,XI,XL,XX,Wv,Wx,W5,WF,Vb,Vd,Vi,V5,V6,V7,VI,VJ,VO,VQ,VW,VY,VZ,Ua,Ub,Uc,Ui,Uj,Un,Uo,UC,UR,US,UU,UV,UW,UX,UY,Tb,Tc,Td,Te,Th,Ti,Tj,Tl,Tm,Tn,Tp,Tq,Tr,Ts,Tt,Tw,Tx,Ty,Tz,T2,TF,TI,TJ,TK,TN,TO,TP,TQ,TR,TZ,Sa,S9,SA,SC,SD,SE,SG,SV,SW,SX,SY,SZ,Ra,Rb,Rc,Re,Rf,Rg,Rh,Ri,Rj,Rk,Rl,QQ,ln]
  tactic =>
   unfold aLb;rw[aG m (λi=>[.pt 0 0,.str x,I (i:Nat)]) (λ_=>[aa [.bool true,.fs (rS L),.fs RT,.fs RM,.fs RP,.fs RB]])]
   .rcases m3 with ⟨h1,h2⟩|⟨h1,h2,h3,h4⟩
    .rw[h2,h1]
     (exact kJ e0 ln)
    .have r:=ra m x h2
     have t1:((m:Int)<(L.length:Int))=True:=AAa;have t2:(m<L.length)=True:=AAn h1;rw[h4];(exact qR t1 t2 r h3 ln)
   .rfl
   .intro i hi
    obtain⟨y,hy⟩:=dO (l:=L) (i:=i) AS;have r:=ra i y hy;have e:=m2 i hi y hy;have t1:((i:Int)<(L.length:Int))=True:=AAa;have t2:(i<L.length)=True:=AAa;have up:=cV (i:=i) (n:=2000) AS AS;(exact iS t1 t2 r e up ln aF)
   .rcases m3 with ⟨h1,h2⟩|⟨h1,h2,h3,h4⟩
    .rw[h1]
     (exact kJ e0 ln)
    .have r:=ra m x h2
     have t1:((m:Int)<(L.length:Int))=True:=AAa;have t2:(m<L.length)=True:=AAn h1;(exact qR t1 t2 r h3 ln)
theorem aZa{l:List ByteArray}{i:Nat}{y:ByteArray}(h:l[i]?=some y):(bQ l)[i]?=some (.str y):=by grind [bQ]
theorem aVY{L:List ByteArray}{nT nM nP nB:Nat}{CT CM CP CB:List AV}(hb:L.length<=1000)(g2:Sm CT)(g3:Sm CM)(g4:Sm CP)(g5:Sm CB):runW progG 85 [.pt 0 0,.str x] (hC L.length nT nM nP nB (bQ L) CT CM CP CB)=some (I (nQ L x),hC L.length nT nM nP nB (bQ L) CT CM CP CB):=by
 obtain⟨m,m1,m2,m3⟩:=aMG L x;have e0:((L.length:Int)<(L.length:Int))=False:=AAb;have ln:=bY L;have gl:=bP L;have ra:=λi y (h:L[i]?=some y)=>aZa h;unfold hC;rw[rq 85 x85 rfl];unfold x85;dsimp only;sym =>
  simp[Za,Zb,Zf,Zh,Zl,Zm,Zv,Z9,ZA,ZG,ZI,ZS,ZW,Yu,Yx,Y4,Y8,YH,YM,YN,Xz,XI,XJ,XL,XW,XX,Wv,Ww,Wx,W4,W5,WF,Vb,Vd,Vi,V5,V6,V7,VI,VJ,VO,VQ,VW,VY,VZ,Ua,Ub,Uc,Ui,Uj,Uk,Un,Uo,Ur,UC,UR,US,UU,UV,UW,UX,UY,Tb,Tc,Td,Te,Th,Ti,Tj,Tl,Tm,Tn,Tp,Tq,Tr,Ts,Tt,Tu,Tv,Tw,Tx,Ty,Tz,T2,TF,TI,TJ,TK,TN,TO,TP,TQ,TR,TZ,Sa,S9,SA,SC,SG,SV,SW,SX,SY,SZ,Ra,Rb,Rc,Re,Rf,Rg,Rh,Ri,Rj,Rk,Rl,RZ,Qa,QQ,ln,gl,aU,aR,aT,g2,g3,g4,g5,aCG]
  tactic =>
   unfold aLb;rw[aG m (λi=>[.pt 0 0,.str x,I (i:Nat)]) (λ_=>hC L.length nT nM nP nB (bQ L) CT CM CP CB)]
   .rcases m3 with ⟨h1,h2⟩|⟨h1,h2,h3,h4⟩
    .rw[h2,h1]
     (exact eK e0 ln gl aU aR aT g2 g3 g4 g5 @aCG aF aF)
    .have r:=ra m x h2
     have t1:((m:Int)<(L.length:Int))=True:=AAa;have t2:(m<L.length)=True:=AAn h1;rw[h4];(exact eD t1 t2 r h3 ln gl aU aR aT g2 g3 g4 g5 @aCG aF aF aF aF aF aF)
   .rfl
   .intro i hi
    obtain⟨y,hy⟩:=dO (l:=L) (i:=i) AS;have r:=ra i y hy;have e:=m2 i hi y hy;have t1:((i:Int)<(L.length:Int))=True:=AAa;have t2:(i<L.length)=True:=AAa;have up:=cV (i:=i) (n:=2000) AS AS;(exact eD t1 t2 r e up ln gl aU aR aT g2 g3 g4 g5 @aCG aF aF aF aF aF)
   .rcases m3 with ⟨h1,h2⟩|⟨h1,h2,h3,h4⟩
    .rw[h1]
     (exact eK e0 ln gl aU aR aT g2 g3 g4 g5 @aCG aF aF)
    .have r:=ra m x h2
     have t1:((m:Int)<(L.length:Int))=True:=AAa;have t2:(m<L.length)=True:=AAn h1;(exact eD t1 t2 r h3 ln gl aU aR aT g2 g3 g4 g5 @aCG aF aF aF aF aF aF)
theorem aSa{L:List ByteArray}{F:Nat->List AV}(hb:L.length<=1000)(hF:∀ i y,L[i]?=some y->∃ u v:AV,F i=[.str y,u,v]):runW progG 84 [.fs (fQ F L.length),.str x] ([])=some (I (nQ L x),[]):=by
 obtain⟨m,m1,m2,m3⟩:=aMG L x;have e0:((L.length:Int)<(L.length:Int))=False:=AAb;have ln:(fQ F L.length).length=L.length:=oJ;have ra:∀ i y,L[i]?=some y->∃ u v:AV,(fQ F L.length)[i]?=some [.str y,u,v]:=λi y h=>by
  obtain⟨u,v,e⟩:=hF i y h;exact⟨u,v,by rw[aDD (B6.1 h).1,e]⟩
 rw[rq 84 x84 rfl];unfold x84;dsimp only;sym =>
  simp[Za,Zb,Zf,Zh,Zl,Zm,Zv,ZA,ZG,ZI,ZS,ZW,Yv,Yw,Y5,Y6,Y8,YH,YM,YN,XI,XL,XO,Wv,Wx,W3,WF,Vb,Vd,Vg,VI,VQ,VY,VZ,Ub,Uc,UC,UR,US,UU,UV,UW,UX,UY,Tb,Tc,Td,Te,Th,Ti,Tj,Tl,Tm,Tn,Tp,Tq,Tr,Ts,Tt,Tw,Ty,Tz,T2,TF,TJ,TK,TN,TO,TP,TQ,TR,TZ,Sa,S9,SD,SE,SG,SV,SW,SX,SY,SZ,Ra,Rb,Rc,Re,Rf,Rg,Rh,Ri,Rj,Rk,Rl,QQ,ln]
  tactic =>
   unfold aNQ;rw[aG m (λi=>[.fs (fQ F L.length),.str x,I (i:Nat)]) (λ_=>[])]
   .rcases m3 with ⟨h1,h2⟩|⟨h1,h2,h3,h4⟩
    .rw[h2,h1]
     (exact kJ e0 ln)
    .obtain⟨u,v,r⟩:=ra m x h2
     have t1:((m:Int)<(L.length:Int))=True:=AAa;have t2:(m<L.length)=True:=AAn h1;rw[h4];(exact qR t1 t2 r h3 ln)
   .rfl
   .intro i hi
    obtain⟨y,hy⟩:=dO (l:=L) (i:=i) AS;obtain⟨u,v,r⟩:=ra i y hy;have e:=m2 i hi y hy;have t1:((i:Int)<(L.length:Int))=True:=AAa;have t2:(i<L.length)=True:=AAa;have up:=cV (i:=i) (n:=2000) AS AS;(exact iS t1 t2 r e up ln aF)
   .rcases m3 with ⟨h1,h2⟩|⟨h1,h2,h3,h4⟩
    .rw[h1]
     (exact kJ e0 ln)
    .obtain⟨u,v,r⟩:=ra m x h2
     have t1:((m:Int)<(L.length:Int))=True:=AAa;have t2:(m<L.length)=True:=AAn h1;(exact qR t1 t2 r h3 ln)
theorem aWb{L:List ByteArray}{F:Nat->List AV}(hb:L.length<=1000)(rw:Rw F 3)(hF:∀ i y,L[i]?=some y->∃ u v:AV,F i=[.str y,u,v]):runW progG 84 [.sl 0 0 3 L.length,.str x] ([aa (cK F L.length)])=some (I (nQ L x),[aa (cK F L.length)]):=by
 obtain⟨m,m1,m2,m3⟩:=aMG L x;have e0:((L.length:Int)<(L.length:Int))=False:=AAb;have ln:(cK F L.length).length=L.length*3:=fU rw _;have b1:=aOS (aLV (n:=L.length) rw);have ra:∀ i y,L[i]?=some y->(cK F L.length)[i*3]?=some (.str y):=λi y h=>by
  obtain⟨u,v,e⟩:=hF i y h;have:=lG rw (i:=i) (n:=L.length) (j:=0) (B6.1 h).1 AS
  grind
 rw[rq 84 x84 rfl];unfold x84;dsimp only;sym =>
  simp[Za,Zb,Zf,Zh,Zl,Zm,Zv,ZA,ZG,ZI,ZS,ZW,Yu,Yx,Y4,Y8,YH,YM,YN,XI,XL,XW,Wv,Wx,W4,WF,Vb,Vd,Vh,V5,V6,V7,VJ,VO,VQ,VW,VY,VZ,Ua,Ub,Uc,Ui,Uj,Un,Uo,UC,UR,US,UU,UV,UW,UX,UY,Tb,Tc,Td,Te,Th,Ti,Tj,Tl,Tm,Tn,Tp,Tq,Tr,Ts,Tt,Tw,Tx,Ty,Tz,T2,TF,TI,TJ,TK,TN,TO,TP,TQ,TR,TZ,Sa,S9,SA,SC,SG,SV,SW,SX,SY,SZ,Ra,Rb,Rc,Re,Rf,Rg,Rh,Ri,Rj,Rk,Rl,Qa,Qb,QQ,ln,b1]
  tactic =>
   unfold aNQ;rw[aG m (λi=>[.sl 0 0 3 L.length,.str x,I (i:Nat)]) (λ_=>[aa (cK F L.length)])]
   .rcases m3 with ⟨h1,h2⟩|⟨h1,h2,h3,h4⟩
    .rw[h2,h1]
     (exact vC e0 ln b1)
    .have r:=ra m x h2
     have t1:((m:Int)<(L.length:Int))=True:=AAa;have t2:(m<L.length)=True:=AAn h1;rw[h4];(exact iS t1 t2 r h3 ln b1 aF)
   .rfl
   .intro i hi
    obtain⟨y,hy⟩:=dO (l:=L) (i:=i) AS;have r:=ra i y hy;have e:=m2 i hi y hy;have t1:((i:Int)<(L.length:Int))=True:=AAa;have t2:(i<L.length)=True:=AAa;have up:=cV (i:=i) (n:=2000) AS AS;(exact iS t1 t2 r e up ln b1)
   .rcases m3 with ⟨h1,h2⟩|⟨h1,h2,h3,h4⟩
    .rw[h1]
     (exact vC e0 ln b1)
    .have r:=ra m x h2
     have t1:((m:Int)<(L.length:Int))=True:=AAa;have t2:(m<L.length)=True:=AAn h1;(exact iS t1 t2 r h3 ln b1 aF)
theorem eM{F:Nat->List AV}{m n:Nat}(r:Rw F m):Sm (cK F n):=aOS (aLV r)
theorem zJ(l:List ByteArray):Sm (bQ l):=aOS λa ha=>by grind [smp,bQ]
section
variable{nF nT nM nP nB:Nat}{CF CT CM CP CB:List AV}
theorem a111(sF:Sm CF)(sM:Sm CM)(sP:Sm CP)(sB:Sm CB)(hn:nT<=1000){F:Nat->List AV}(r:Rw F 6){i:Nat}:(nT<=i->runW progG 88 [.pt 0 0,I (i:Nat)] (hC nF nT nM nP nB CF (cK F nT) CM CP CB)=some (I 5,hC nF nT nM nP nB CF (cK F nT) CM CP CB)) /\
 (∀ a b c d v cl,i<nT->F i=[a,b,c,d,.bool v,.bool cl]->runW progG 88 [.pt 0 0,I (i:Nat)] (hC nF nT nM nP nB CF (cK F nT) CM CP CB)=if v then some (I 6,hC nF nT nM nP nB CF (cK F nT) CM CP CB) else if cl then some (I 23,hC nF nT nM nP nB CF (cK F nT) CM CP CB) else some (I 0,hC nF nT nM nP nB CF (cK (oH F i 4 (.bool true)) nT) CM CP CB)):=by
 have t1:=eM (n:=nT) r;have ln:=fU r nT;constructor
 .intro hi
  have e1:((nT:Int)<=(i:Int))=True:=AAa;unfold hC;rw[rq 88 x88 rfl];unfold x88;dsimp only;generalize cK F nT=CT at *;(exact iS e1 sF t1 sM sP sB aF)
 .intro a b c d v cl hi hr
  have e1:((nT:Int)<=(i:Int))=False:=AAb;have e2:((i:Int)<(nT:Int))=True:=AAa;have g4:=lG r hi (j:=4) AS;have g5:=lG r hi (j:=5) AS;rw[hr]at g4 g5;have g4:(cK F nT)[i*6+4]?=some (.bool v):=g4;have g5:(cK F nT)[i*6+5]?=some (.bool cl):=g5;have st:=aBp r hi (j:=4) AS (v:=.bool true) rfl;have e3:(i*6+4+1<=nT*6)=True:=AAa;have u1:=eM (n:=nT) (aAA (i:=i) (j:=4) (v:=.bool true) r rfl);unfold hC;rw[rq 88 x88 rfl];unfold x88;dsimp only;generalize cK (oH F i 4 (.bool true)) nT=CU at *;generalize cK F nT=CT at *;cases v with
  | true =>
    rw[if_pos rfl];(exact gZ e1 e2 ln g4 g5 sF t1 sM sP sB)
  | false =>
    rw[if_neg I9];cases cl with
    | true =>
      rw[if_pos rfl];(exact gZ e1 e2 ln g4 g5 sF t1 sM sP sB)
    | false =>
      rw[if_neg I9];(exact eK e1 e2 e3 ln g4 g5 st u1 sF t1 sM sP sB)
end
end
section
variable{x:ByteArray}{nF nT nM nP nB:Nat}{CF CT CM CP CB:List AV}{L:List ByteArray}{F:Nat->List AV}
theorem aTd(A:List AV)(a b c v:AV):bJ (A++[a,b,c]) (A.length+1) [v]=A++[a,v,c]:=by
 have h1:(A++[a,b,c]).take (A.length+1)=A++[a]:=by
  grind
 have h2:(A++[a,b,c]).drop (A.length+1+1)=[c]:=by
  rw[aF2,J8 AS,show A.length+1+1-A.length=2 by omega];rfl
 grind [bJ]
theorem a113(sF:Sm CF)(sT:Sm CT)(sP:Sm CP)(sB:Sm CB)(hb:L.length<=1000)(r:Rw F 3)(hF:∀ i y,L[i]?=some y->∃ u l:Int,F i=[.str y,I u,I l]/\0<=u/\u<=1000000000/\0<=l/\l<=99999){n:Int}(hn:0<=n/\n<=99999) :
 (bR L x=none->L.length=5->runW progG 90 [.pt 0 0,.str x,I n] (hC nF nT L.length nP nB CF CT (cK F L.length) CP CB)=some (I 15,hC nF nT L.length nP nB CF CT (cK F L.length) CP CB)) /\
 (bR L x=none->L.length≠5->runW progG 90 [.pt 0 0,.str x,I n] (hC nF nT L.length nP nB CF CT (cK F L.length) CP CB)=some (I 0,[ab [.bool true,.sl 1 0 1 nF,.sl 2 0 6 nT,.sl 6 0 3 (L.length+1),.sl 4 0 3 nP,.sl 5 0 1 nB],aa CF,aa CT,none,aa CP,aa CB,aa (cK F L.length++[.str x,I 0,I n])])) /\
 (∀ i,bR L x=some i->∀ u l:Int,F i=[.str x,I u,I l]->runW progG 90 [.pt 0 0,.str x,I n] (hC nF nT L.length nP nB CF CT (cK F L.length) CP CB)=some (I 0,hC nF nT L.length nP nB CF CT (cK (oH (oH F i 1 (I (u+(n-l+100000)%100000))) i 2 (I n)) L.length) CP CB)):=by
 have m1:=eM (n:=L.length) r;have ln:=fU r L.length;have c107:=aWb (x:=x) (L:=L) (F:=F) hb r λi y h=>by grind
 have iv:((-1:Int)<0)=True:=AAa;refine⟨λh h5=>?_,λh h5=>?_,λi h u l hr=>?_⟩
 .have e:nQ L x = -1:=by unfold nQ;rw[h]
  have e5:((L.length:Int)=5)=True:=AAa;rw[e]at c107;unfold hC;rw[rq 90 x90 rfl];unfold x90;dsimp only;generalize cK F L.length=CM at *;(exact kN c107 iv e5 ln sF sT m1 sP sB)
 .have e:nQ L x = -1:=by unfold nQ;rw[h]
  have e5:((L.length:Int)=5)=False:=AAb;rw[e]at c107;have g1:((L.length+1)*32<=1099511627776)=True:=AAa;have g2:(L.length+1<=1099511627776)=True:=AAa;unfold hC;rw[rq 90 x90 rfl];unfold x90;dsimp only;generalize cK F L.length=CM at *;(exact eK c107 iv e5 ln g1 g2 sF sT m1 sP sB aF aF)
 .obtain⟨hi,hx⟩:=aEd h
  obtain⟨u',l',e',q1,q2,q3,q4⟩:=hF i x hx;rw[hr]at e';obtain⟨rfl,rfl⟩:u=u'/\l=l':=by grind
  have e:nQ L x=(i:Int):=by unfold nQ;rw[h]
  rw[e]at c107;have i1:((i:Int)<0)=False:=AAb;have i2:((i:Int)<(L.length:Int))=True:=AAa;have g1:=lG r hi (j:=1) AS;have g2:=lG r hi (j:=2) AS;rw[hr]at g1 g2;have g1:(cK F L.length)[i*3+1]?=some (I u):=g1;have g2:(cK F L.length)[i*3+2]?=some (I l):=g2;have w1:IntKind.i64.wrap (n-l)=n-l:=aE AS AS;have e3:(i*3+1+1<=L.length*3)=True:=AAa;have e4:(i*3+2+1<=L.length*3)=True:=AAa;have r1:=aAA (i:=i) (j:=1) (v:=I (u+(n-l+100000)%100000)) r rfl;have s1:=aBp r hi (j:=1) AS (v:=I (u+(n-l+100000)%100000)) rfl;have s2:=aBp r1 hi (j:=2) AS (v:=I n) rfl;have l1:=fU r1 L.length;have k1:=eM (n:=L.length) r1;have h1:=eM (n:=L.length) (aAA (i:=i) (j:=2) (v:=I n) r1 rfl);unfold hC;rw[rq 90 x90 rfl];unfold x90;dsimp only;clear hF hr e';generalize cK (oH (oH F i 1 (I (u+(n-l+100000)%100000))) i 2 (I n)) L.length=C2 at *;generalize cK (oH F i 1 (I (u+(n-l+100000)%100000))) L.length=C1 at *;generalize cK F L.length=CM at *;rcases mC (n-l<0)with hl|hl
  .have hl':=AAl hl
   have w2:IntKind.i64.wrap (n-l+100000)=n-l+100000:=aE AS AS;have em:(n-l+100000)%100000=n-l+100000:=AS
   rw[em]at s1;have w3:IntKind.i64.wrap (u+(n-l+100000))=u+(n-l+100000):=aE AS AS;(exact iW c107 i1 i2 g1 g2 w1 w2 w3 hl e3 e4 s1 s2 l1 ln sF sT m1 sP sB k1 h1 aF aF aF aF)
  .have hl':=AAm hl
   have em:(n-l+100000)%100000=n-l:=AS
   rw[em]at s1;have w3:IntKind.i64.wrap (u+(n-l))=u+(n-l):=aE AS AS;(exact iW c107 i1 i2 g1 g2 w1 w3 hl e3 e4 s1 s2 l1 ln sF sT m1 sP sB k1 h1 aF aF aF aF aF)
theorem a114(sF:Sm CF)(sT:Sm CT)(sM:Sm CM)(sB:Sm CB)(hb:L.length<=1000)(r:Rw F 3)(hF:∀ i y,L[i]?=some y->∃ u:Int,F i=[.str y,I u,I 0]/\0<=u/\u<=1000000000){a b:Int}(ha:0<=a/\a<=99999)(hb2:0<=b/\b<=99999) :
 (¬b<=a->runW progG 91 [.pt 0 0,.str x,I a,I b] (hC nF nT nM L.length nB CF CT CM (cK F L.length) CB)=some (I 10,hC nF nT nM L.length nB CF CT CM (cK F L.length) CB)) /\
 (b<=a->bR L x=none->L.length=5->runW progG 91 [.pt 0 0,.str x,I a,I b] (hC nF nT nM L.length nB CF CT CM (cK F L.length) CB)=some (I 15,hC nF nT nM L.length nB CF CT CM (cK F L.length) CB)) /\
 (b<=a->bR L x=none->L.length≠5->runW progG 91 [.pt 0 0,.str x,I a,I b] (hC nF nT nM L.length nB CF CT CM (cK F L.length) CB)=some (I 0,[ab [.bool true,.sl 1 0 1 nF,.sl 2 0 6 nT,.sl 3 0 3 nM,.sl 6 0 3 (L.length+1),.sl 5 0 1 nB],aa CF,aa CT,aa CM,none,aa CB,aa (cK F L.length++[.str x,I (a-b),I 0])])) /\
 (b<=a->∀ i,bR L x=some i->∀ u:Int,F i=[.str x,I u,I 0]->runW progG 91 [.pt 0 0,.str x,I a,I b] (hC nF nT nM L.length nB CF CT CM (cK F L.length) CB)=some (I 0,hC nF nT nM L.length nB CF CT CM (cK (oH F i 1 (I (u+(a-b)))) L.length) CB)):=by
 have p1:=eM (n:=L.length) r;have ln:=fU r L.length;have c107:=aWb (x:=x) (L:=L) (F:=F) hb r λi y h=>by grind
 have iv:((-1:Int)<0)=True:=AAa;have wd:IntKind.i64.wrap (a-b)=a-b:=aE AS AS;refine⟨λhab=>?_,λhab h h5=>?_,λhab h h5=>?_,λhab i h u hr=>?_⟩
 .have o1:(a<b)=True:=AAa
  unfold hC;rw[rq 91 x91 rfl];unfold x91;dsimp only;generalize cK F L.length=CP at *;(exact iS o1 sF sT sM p1 sB aF)
 .have o1:(a<b)=False:=AAb
  have e:nQ L x = -1:=by unfold nQ;rw[h]
  have e5:((L.length:Int)=5)=True:=AAa;rw[e]at c107;unfold hC;rw[rq 91 x91 rfl];unfold x91;dsimp only;generalize cK F L.length=CP at *;(exact gZ o1 c107 iv e5 ln sF sT sM p1 sB)
 .have o1:(a<b)=False:=AAb
  have e:nQ L x = -1:=by unfold nQ;rw[h]
  have e5:((L.length:Int)=5)=False:=AAb;rw[e]at c107;have g1:((L.length+1)*32<=1099511627776)=True:=AAa;have g2:(L.length+1<=1099511627776)=True:=AAa;have w1:IntKind.i64.wrap (((L.length+1:Nat):Int)-1)=(L.length:Int):=by grind [aE]
  have w2:IntKind.i64.wrap (0+(a-b))=a-b:=by grind
  have i2:((L.length:Int)<((L.length+1:Nat):Int))=True:=AAa;have gt:(cK F L.length++[.str x,I 0,I 0])[L.length*3+1]?=some (I 0):=by
   grind
  have st:bJ (cK F L.length++[.str x,I 0,I 0]) (L.length*3+1) [I (a-b)]=cK F L.length++[.str x,I (a-b),I 0]:=by
   grind [aTd]
  have l2:(cK F L.length++[.str x,I 0,I 0]).length=L.length*3+3:=by grind
  have e4:(L.length*3+1+1<=L.length*3+3)=True:=AAa;unfold hC;rw[rq 91 x91 rfl];unfold x91;dsimp only;generalize cK F L.length=CP at *;(exact eD o1 c107 iv e5 ln g1 g2 w1 w2 wd i2 gt st l2 e4 sF sT sM p1 sB)
 .have o1:(a<b)=False:=AAb
  obtain⟨hi,hx⟩:=aEd h;obtain⟨u',e',q1,q2⟩:=hF i x hx;rw[hr]at e';obtain rfl:u=u':=by grind
  have e:nQ L x=(i:Int):=by unfold nQ;rw[h]
  rw[e]at c107;have i1:((i:Int)<0)=False:=AAb;have i2:((i:Int)<(L.length:Int))=True:=AAa;have g1:=lG r hi (j:=1) AS;rw[hr]at g1;have g1:(cK F L.length)[i*3+1]?=some (I u):=g1;have w3:IntKind.i64.wrap (u+(a-b))=u+(a-b):=aE AS AS;have e3:(i*3+1+1<=L.length*3)=True:=AAa;have s1:=aBp r hi (j:=1) AS (v:=I (u+(a-b))) rfl;have k1:=eM (n:=L.length) (aAA (i:=i) (j:=1) (v:=I (u+(a-b))) r rfl);unfold hC;rw[rq 91 x91 rfl];unfold x91;dsimp only;clear hF hr e';generalize cK (oH F i 1 (I (u+(a-b)))) L.length=C1 at *;generalize cK F L.length=CP at *;(exact eD o1 c107 i1 i2 g1 wd w3 e3 s1 ln sF sT sM p1 sB k1 aF aF aF aF)
end
section
variable{x y u1 u2:ByteArray}{nM nP nB:Nat}{CM CP CB:List AV}{L TW:List ByteArray}{F:Nat->List AV}{z0 z1 a b:Int}
abbrev wgW(x u1 u2 y:ByteArray):AV:=.fs [[.str AAu],[.str x],[.str u1],[.str u2],[.str y]]
abbrev wgN(z0 a b z1:Int):AV:=.fs [[I 0],[I z0],[I a],[I b],[I z1]]
theorem aPq(sM:Sm CM)(sP:Sm CP)(sB:Sm CB)(hT:TW.length<=1000)(r:Rw F 6)(hF:∀ i w,TW[i]?=some w->∃(e n f:Int)(v c:Bool),F i=[.str w,I e,I n,I f,.bool v,.bool c]/\0<=e/\e<=99999){m f:Nat}(k2:∀ i,i<m->∀ w,TW[i]?=some w->aN .eql w x=some (.bool false))(hm:m<=TW.length) :
 ∀ i,i<m->bT 6 [0,1,2,7,8] (execW progG 87 6 none (match aFx with | .loop _ a=>a|c=>c) (aY [0,1,2,7,8] [.pt 0 0,wgW x u1 u2 y,wgN z0 a b z1,I (f:Nat),I (i:Nat)]) (hC L.length TW.length nM nP nB (bQ L) (cK F TW.length) CM CP CB))=some ([.pt 0 0,wgW x u1 u2 y,wgN z0 a b z1,I (f:Nat),I (i+1:Nat)],hC L.length TW.length nM nP nB (bQ L) (cK F TW.length) CM CP CB):=by
 intro i hi;obtain⟨w,hw⟩:=dO (l:=TW) (i:=i) AS;obtain⟨e1,n1,q1,v1,c1,q2,q3,q4⟩:=hF i w hw;have g0:=lG r (n:=TW.length) (i:=i) AS (j:=0) AS;rw[q2]at g0;have g0:(cK F TW.length)[i*6]?=some (.str w):=g0;have e:=k2 i hi w hw;have i1:((i:Int)<(TW.length:Int))=True:=AAa;have up:=cV (i:=i) (n:=2000) AS AS;have f1:=zJ L;have t1:=eM (n:=TW.length) r;have ln:=fU r TW.length;clear hF q2 k2;unfold hC aFx;dsimp only;generalize cK F TW.length=CT at *;generalize bQ L=CF at *;(exact gZ i1 g0 e up ln f1 t1 sM sP sB)
theorem a110(sM:Sm CM)(sP:Sm CP)(sB:Sm CB)(hL:L.length<=1000)(hT:TW.length<=1000)(r:Rw F 6)(hF:∀ i w,TW[i]?=some w->∃(e n f:Int)(v c:Bool),F i=[.str w,I e,I n,I f,.bool v,.bool c]/\0<=e/\e<=99999)(ha:0<=a/\a<=99999)(hb:0<=b/\b<=99999) :
 (bR L y=none->runW progG 87 [.pt 0 0,wgW x u1 u2 y,wgN z0 a b z1] (hC L.length TW.length nM nP nB (bQ L) (cK F TW.length) CM CP CB)=some (I 5,hC L.length TW.length nM nP nB (bQ L) (cK F TW.length) CM CP CB)) /\
 (∀ f,bR L y=some f->¬b<=a->runW progG 87 [.pt 0 0,wgW x u1 u2 y,wgN z0 a b z1] (hC L.length TW.length nM nP nB (bQ L) (cK F TW.length) CM CP CB)=some (I 10,hC L.length TW.length nM nP nB (bQ L) (cK F TW.length) CM CP CB)) /\
 (∀ f,bR L y=some f->b<=a->∀ i,bR TW x=some i->∀(e n g:Int)(v c:Bool),F i=[.str x,I e,I n,I g,.bool v,.bool c]->¬(e-500<=b/\b<=e+500)->runW progG 87 [.pt 0 0,wgW x u1 u2 y,wgN z0 a b z1] (hC L.length TW.length nM nP nB (bQ L) (cK F TW.length) CM CP CB)=some (I 22,hC L.length TW.length nM nP nB (bQ L) (cK F TW.length) CM CP CB)) /\
 (∀ f,bR L y=some f->b<=a->(∀ i,bR TW x=some i->∃(e n g:Int)(v c:Bool),F i=[.str x,I e,I n,I g,.bool v,.bool c]/\(e-500<=b/\b<=e+500))->runW progG 87 [.pt 0 0,wgW x u1 u2 y,wgN z0 a b z1] (hC L.length TW.length nM nP nB (bQ L) (cK F TW.length) CM CP CB) =
  some (I 0,[ab [.bool true,.sl 1 0 1 L.length,.sl 6 0 6 (TW.length+1),.sl 3 0 3 nM,.sl 4 0 3 nP,.sl 5 0 1 nB],aa (bQ L),none,aa CM,aa CP,aa CB,aa (cK F TW.length++[.str x,I b,I (a-b),I (f:Nat),.bool false,.bool false])])):=by
 have c108:=aVY (x:=y) (nT:=TW.length) (nM:=nM) (nP:=nP) (nB:=nB) (L:=L) hL (eM (n:=TW.length) r) sM sP sB;unfold hC at c108;have sMM:=sM;have sPP:=sP;have sBB:=sB;have f1:=zJ L;have t1:=eM (n:=TW.length) r;have ln:=fU r TW.length;have iv:((-1:Int)<0)=True:=AAa;have iF:∀ f:Nat,((f:Int)<0)=False:=λf=>AAb;unfold hC;refine⟨λh=>?_,λf h hab=>?_,λf h hab i hi e n g v c hr hbd=>?_,λf h hab hw=>?_⟩
 .have e:nQ L y = -1:=by unfold nQ;rw[h]
  rw[e]at c108;rw[rq 87 x87 rfl];unfold x87;dsimp only;generalize cK F TW.length=CT at *;generalize bQ L=CF at *;(exact iS c108 iv f1 t1 sM sP sB)
 .have e:nQ L y=(f:Int):=by unfold nQ;rw[h]
  rw[e]at c108;have o1:(a<b)=True:=AAa;have iv:=iF f;rw[rq 87 x87 rfl];unfold x87;dsimp only;generalize cK F TW.length=CT at *;generalize bQ L=CF at *;(exact kN c108 iv o1 f1 t1 sM sP sB aF)
 .have e':nQ L y=(f:Int):=by unfold nQ;rw[h]
  rw[e']at c108;have o1:(a<b)=False:=AAb;have iv:=iF f;obtain⟨k,k1,k2,k3⟩:=aMG TW x;have hk:nQ TW x=(i:Int):=by unfold nQ;rw[hi]
  rcases k3 with ⟨k3,k4⟩|⟨k3,k4,k5,k6⟩;·rw[hk]at k4;omega
  obtain rfl:k=i:=by rw[hk]at k6;omega
  have g0:=lG r k3 (j:=0) AS;have g1:=lG r k3 (j:=1) AS;rw[hr]at g0 g1;have g0:(cK F TW.length)[k*6]?=some (.str x):=g0;have g1:(cK F TW.length)[k*6+1]?=some (I e):=g1;obtain⟨e1,n1,q1,v1,c1,q2,q3,q4⟩:=hF k x k4;rw[hr]at q2;obtain rfl:e=e1:=by simp at q2;exact q2.1
  have w1:IntKind.i64.wrap (e-500)=e-500:=aE AS AS;have w2:IntKind.i64.wrap (e+500)=e+500:=aE AS AS;have c39:=a39 b (e-500) (e+500);rw[show (decide (e-500<=b)&&decide (b<=e+500))=false by
   rw[Bool.and_eq_false_iff];by_cases hq:e-500<=b;·exact .inr (AAk λh=>hbd ⟨hq,h⟩)
   .exact .inl (AAk hq)]at c39
  have i1:((k:Int)<(TW.length:Int))=True:=AAa;have rd:=aPq (x:=x) (u1:=u1) (u2:=u2) (y:=y) (z0:=z0) (z1:=z1) (a:=a) (b:=b) (L:=L) (nM:=nM) (nP:=nP) (nB:=nB) (f:=f) sMM sPP sBB hT r hF k2 AS;rw[rq 87 x87 rfl];unfold x87;dsimp only;clear hF hr q2;generalize cK F TW.length=CT at *;generalize bQ L=CF at *;sym =>
   simp[Za,Zb,Zc,Zd,Ze,Zf,Zg,Zh,Zi,Zj,Zl,Zm,Zo,Zv,Z0,Z8,Z9,ZA,ZE,ZG,ZI,ZS,ZW,ZX,ZY,ZZ,Ya,Yc,Ye,Yf,Yi,Yj,Yk,Yn,Yo,Ys,Yu,Yx,Y4,Y5,Y6,Y8,Y9,YH,YK,YM,YN,YX,YY,Xa,Xc,Xe,Xh,Xw,Xz,XI,XJ,XL,XO,XW,XX,Wh,Wi,Wj,Wk,Wm,Wv,Ww,Wx,W3,W4,W5,WF,WM,Vb,Vg,Vi,Vp,Vr,Vs,Vu,V1,V2,V5,V6,V7,V8,V9,VD,VF,VG,VH,VI,VJ,VK,VL,VN,VO,VP,VQ,VV,VW,VX,VY,VZ,Ua,Ub,Uc,Ud,Ue,Uf,Ug,Uh,Ui,Uj,Uk,Um,Un,Uo,Ur,Ut,Uu,Uv,Uw,Ux,Uz,U0,UC,UE,UF,UG,UR,US,UU,UV,UW,UX,UY,Tb,Tc,Td,Te,Tg,Th,Ti,Tj,Tl,Tm,Tn,Tp,Tq,Tr,Ts,Tt,Tu,Tv,Tw,Tx,Ty,Tz,T2,T5,T8,TA,TB,TC,TD,TE,TF,TI,TJ,TK,TL,TM,TN,TO,TP,TQ,TR,TS,TT,TZ,Sa,Sc,Sd,Se,Sf,Sq,Sr,Ss,Su,S3,S4,S5,S7,S8,S9,SA,SC,SD,SE,SG,SI,SJ,SN,SO,SP,SQ,SV,SW,SX,SY,SZ,Ra,Rb,Rc,Re,Rf,Rh,Ri,Rj,Rk,Rl,Qa,Qb,Qi,QI,QL,QQ,Pj,Pk,Pm,Pn,Po,Pp,PI,PJ,PK,PL,PM,c108,iv,o1,f1,t1,sM,sP,sB]
   tactic =>
    unfold aFx;rw[aG k (λi=>[.pt 0 0,wgW x u1 u2 y,wgN z0 a b z1,I (f:Nat),I (i:Nat)]) (λ_=>[ab [.bool true,.sl 1 0 1 L.length,.sl 2 0 6 TW.length,.sl 3 0 3 nM,.sl 4 0 3 nP,.sl 5 0 1 nB],aa CF,aa CT,aa CM,aa CP,aa CB])];·(exact eK i1 g0 g1 k5 w1 w2 c39 ln f1 t1 sM sP sB)
    ·(exact qR f1 t1 sM sP sB)
    .exact rd
    ·(exact eK i1 g0 g1 k5 w1 w2 c39 ln f1 t1 sM sP sB)
 .have e':nQ L y=(f:Int):=by unfold nQ;rw[h]
  rw[e']at c108;have o1:(a<b)=False:=AAb;have iv:=iF f;have wd:IntKind.i64.wrap (a-b)=a-b:=aE AS AS;have G1:((TW.length+1)*48<=1099511627776)=True:=AAa;have G2:(TW.length+1<=1099511627776)=True:=AAa;have e0:((TW.length:Int)<(TW.length:Int))=False:=AAb;obtain⟨k,k1,k2,k3⟩:=aMG TW x;have rd:=aPq (x:=x) (u1:=u1) (u2:=u2) (y:=y) (z0:=z0) (z1:=z1) (a:=a) (b:=b) (L:=L) (nM:=nM) (nP:=nP) (nB:=nB) (f:=f) sMM sPP sBB hT r hF k2 k1;rcases k3 with ⟨k3,k4⟩|⟨k3,k4,k5,k6⟩
  .rw[rq 87 x87 rfl];unfold x87;dsimp only
   clear hF hw;generalize cK F TW.length=CT at *;generalize bQ L=CF at *;rw[k3]at rd;sym =>
    simp[Za,Zb,Zc,Zd,Ze,Zf,Zg,Zh,Zi,Zj,Zl,Zm,Zo,Zv,Z0,Z8,Z9,ZA,ZE,ZG,ZI,ZS,ZW,ZX,ZY,ZZ,Ya,Yc,Ye,Yf,Yi,Yj,Yk,Yn,Yo,Ys,Yu,Yx,Y4,Y5,Y6,Y8,Y9,YH,YK,YM,YN,YX,YY,Xa,Xc,Xe,Xh,Xw,Xz,XI,XJ,XL,XO,XW,XX,Wh,Wi,Wj,Wk,Wm,Wv,Ww,Wx,W3,W4,W5,WF,WM,Vb,Vg,Vi,Vp,Vr,Vs,Vu,V1,V2,V5,V6,V7,V8,V9,VD,VF,VG,VH,VI,VJ,VK,VL,VN,VO,VP,VQ,VV,VW,VX,VY,VZ,Ua,Ub,Uc,Ud,Ue,Uf,Ug,Uh,Ui,Uj,Uk,Um,Un,Uo,Ur,Ut,Uu,Uv,Uw,Ux,Uz,U0,UC,UE,UF,UG,UR,US,UU,UV,UW,UX,UY,Tb,Tc,Td,Te,Tg,Th,Ti,Tj,Tl,Tm,Tn,Tp,Tq,Tr,Ts,Tt,Tu,Tv,Tw,Tx,Ty,Tz,T2,T5,T8,TA,TB,TC,TD,TE,TF,TI,TJ,TK,TL,TM,TN,TO,TP,TQ,TR,TS,TT,TZ,Sa,Sc,Sd,Se,Sf,Sq,Sr,Ss,Su,S3,S4,S5,S7,S8,S9,SA,SC,SD,SE,SG,SI,SJ,SN,SO,SP,SQ,SV,SW,SX,SY,SZ,Ra,Rb,Rc,Re,Rf,Rh,Ri,Rj,Rk,Rl,Qa,Qb,Qi,QI,QL,QQ,Pj,Pk,Pm,Pn,Po,Pp,PI,PJ,PK,PL,PM,c108,iv,o1,f1,t1,sM,sP,sB]
    tactic =>
     unfold aFx;rw[aG TW.length (λi=>[.pt 0 0,wgW x u1 u2 y,wgN z0 a b z1,I (f:Nat),I (i:Nat)]) (λ_=>[ab [.bool true,.sl 1 0 1 L.length,.sl 2 0 6 TW.length,.sl 3 0 3 nM,.sl 4 0 3 nP,.sl 5 0 1 nB],aa CF,aa CT,aa CM,aa CP,aa CB])];·(exact gZ e0 wd G1 G2 ln f1 t1 sM sP sB)
     ·(exact qR f1 t1 sM sP sB)
     .exact rd
     ·(exact iS e0 ln f1 t1 sM sP sB)
  .obtain⟨e,n,g,v,c,hr,hbd⟩:=hw k (by
    unfold nQ at k6;cases hq:bR TW x with
    | none =>
      rw[hq]at k6;have k6:(-1:Int)=(k:Int):=k6;omega
    | some j =>
      rw[hq]at k6;have k6:(j:Int)=(k:Int):=k6;exact AAs some AS)
   have g0:=lG r k3 (j:=0) AS;have g1:=lG r k3 (j:=1) AS;rw[hr]at g0 g1;have g0:(cK F TW.length)[k*6]?=some (.str x):=g0;have g1:(cK F TW.length)[k*6+1]?=some (I e):=g1;obtain⟨e1,n1,q1,v1,c1,q2,q3,q4⟩:=hF k x k4;rw[hr]at q2;obtain rfl:e=e1:=by simp at q2;exact q2.1
   have w1:IntKind.i64.wrap (e-500)=e-500:=aE AS AS;have w2:IntKind.i64.wrap (e+500)=e+500:=aE AS AS;have c39:=a39 b (e-500) (e+500);rw[show (decide (e-500<=b)&&decide (b<=e+500))=true by rw[AAj hbd.1,AAj hbd.2];rfl]at c39;have i1:((k:Int)<(TW.length:Int))=True:=AAa;rw[rq 87 x87 rfl];unfold x87;dsimp only;clear hF hr q2 hw;generalize cK F TW.length=CT at *;generalize bQ L=CF at *;sym =>
    simp[Za,Zb,Zc,Zd,Ze,Zf,Zg,Zh,Zi,Zj,Zl,Zm,Zo,Zv,Z0,Z8,Z9,ZA,ZE,ZG,ZI,ZS,ZW,ZX,ZY,ZZ,Ya,Yc,Ye,Yf,Yi,Yj,Yk,Yn,Yo,Ys,Yu,Yx,Y4,Y5,Y6,Y8,Y9,YH,YK,YM,YN,YX,YY,Xa,Xc,Xe,Xh,Xw,Xz,XI,XJ,XL,XO,XW,XX,Wh,Wi,Wj,Wk,Wm,Wv,Ww,Wx,W3,W4,W5,WF,WM,Vb,Vg,Vi,Vp,Vr,Vs,Vu,V1,V2,V5,V6,V7,V8,V9,VD,VF,VG,VH,VI,VJ,VK,VL,VN,VO,VP,VQ,VV,VW,VX,VY,VZ,Ua,Ub,Uc,Ud,Ue,Uf,Ug,Uh,Ui,Uj,Uk,Um,Un,Uo,Ur,Ut,Uu,Uv,Uw,Ux,Uz,U0,UC,UE,UF,UG,UR,US,UU,UV,UW,UX,UY,Tb,Tc,Td,Te,Tg,Th,Ti,Tj,Tl,Tm,Tn,Tp,Tq,Tr,Ts,Tt,Tu,Tv,Tw,Tx,Ty,Tz,T2,T5,T8,TA,TB,TC,TD,TE,TF,TI,TJ,TK,TL,TM,TN,TO,TP,TQ,TR,TS,TT,TZ,Sa,Sc,Sd,Se,Sf,Sq,Sr,Ss,Su,S3,S4,S5,S7,S8,S9,SA,SC,SD,SE,SG,SI,SJ,SN,SO,SP,SQ,SV,SW,SX,SY,SZ,Ra,Rb,Rc,Re,Rf,Rh,Ri,Rj,Rk,Rl,Qa,Qb,Qi,QI,QL,QQ,Pj,Pk,Pm,Pn,Po,Pp,PI,PJ,PK,PL,PM,c108,iv,o1,f1,t1,sM,sP,sB]
    tactic =>
     unfold aFx;rw[aG k (λi=>[.pt 0 0,wgW x u1 u2 y,wgN z0 a b z1,I (f:Nat),I (i:Nat)]) (λ_=>[ab [.bool true,.sl 1 0 1 L.length,.sl 2 0 6 TW.length,.sl 3 0 3 nM,.sl 4 0 3 nP,.sl 5 0 1 nB],aa CF,aa CT,aa CM,aa CP,aa CB])];·(exact eD i1 g0 g1 k5 w1 w2 c39 wd G1 G2 ln f1 t1 sM sP sB aF aF aF aF)
     ·(exact qR f1 t1 sM sP sB)
     .exact rd
     ·(exact eK i1 g0 g1 k5 w1 w2 c39 ln f1 t1 sM sP sB)
end
section
variable{s:CSt}{E:Nat->Int}{x:ByteArray}
theorem aKf(l:List ByteArray):(rS l).flatten=bQ l/\(rS l).all (λr=>r.length==1)=true:=by
 constructor
 .unfold rS bQ
  induction l with
  | nil=>rfl
  | cons a l ih=>grind
 simp[rS]
def cpH(s:CSt)(E:Nat->Int):XH:=[ab [.bool true,.sl 2 0 1 s.farmers.length,.sl 3 0 6 s.tickets.length,.sl 4 0 3 s.meters.length,.sl 5 0 3 s.pans.length,.sl 6 0 1 s.book.length],
 (aa (bQ (fN s))),aa (cK (gV s E) s.tickets.length),aa (cK (nN s) s.meters.length),aa (cK (nK s) s.pans.length),aa (bQ s.book)]
theorem a67(hF:s.farmers.length<=1000)(hT:s.tickets.length<=1000)(hM:s.meters.length<=1000)(hP:s.pans.length<=1000)(hB:s.book.length<=1000):runW progG 33 [.pt 0 0] [rC s E]=some (.pt 1 0,rC s E::cpH s E):=by
 obtain⟨f1,f2⟩:=aKf (fN s);obtain⟨b1,b2⟩:=aKf s.book;have fl:(rS (fN s)).length=s.farmers.length:=by rw[eP];unfold fN;grind
 have bl:=eP s.book;have t1:=aJU (F:=gV s E) (n:=s.tickets.length);have t2:=aCP (n:=s.tickets.length) (nY (s:=s) (E:=E));have tl:(fQ (gV s E) s.tickets.length).length=s.tickets.length:=oJ;have m1:=aJU (F:=nN s) (n:=s.meters.length);have m2:=aCP (n:=s.meters.length) (vO (s:=s));have ml:(fQ (nN s) s.meters.length).length=s.meters.length:=oJ;have p1:=aJU (F:=nK s) (n:=s.pans.length);have p2:=aCP (n:=s.pans.length) (vM (s:=s));have pl:(fQ (nK s) s.pans.length).length=s.pans.length:=oJ;have g1:(s.farmers.length*16<=1099511627776)=True:=AAa;have g2:(s.farmers.length<=1099511627776)=True:=AAa;have g3:(s.tickets.length*48<=1099511627776)=True:=AAa;have g4:(s.tickets.length<=1099511627776)=True:=AAa;have g5:(s.meters.length*32<=1099511627776)=True:=AAa;have g6:(s.meters.length<=1099511627776)=True:=AAa;have g7:(s.pans.length*32<=1099511627776)=True:=AAa;have g8:(s.pans.length<=1099511627776)=True:=AAa;have g9:(s.book.length*16<=1099511627776)=True:=AAa;have ga:(s.book.length<=1099511627776)=True:=AAa;have u1:=zJ (fN s);have v1:=eM (n:=s.tickets.length) (nY (s:=s) (E:=E));have w1:=eM (n:=s.meters.length) (vO (s:=s));have x1:=eM (n:=s.pans.length) (vM (s:=s));have y1:=zJ s.book;unfold rC cpH;rw[rq 33 x33 rfl];unfold x33;dsimp only;generalize fQ (gV s E) s.tickets.length=RT at *;generalize fQ (nN s) s.meters.length=RM at *;generalize fQ (nK s) s.pans.length=RP at *;generalize rS s.book=RB at *;generalize rS (fN s)=RF at *;generalize cK (gV s E) s.tickets.length=CT at *;generalize cK (nN s) s.meters.length=CM at *;generalize cK (nK s) s.pans.length=CP at *;generalize bQ s.book=CB at *;generalize bQ (fN s)=CF at *;(sym=>(simp[Za,Zb,Zd,Ze,Zf,Zh,Zi,Zl,Zm,Zo,Zv,Zz,Z0,Z8,Z9,ZG,ZX,ZZ,Yc,Yu,Xw,Xz,XJ,XW,XX,Wh,Wi,Wj,Wk,Wm,Ww,W4,W5,WM,Vi,Vq,Vs,Vu,V1,V5,V6,V7,V8,V9,VF,VG,VH,VI,VJ,VK,VN,VO,VQ,VV,VW,VY,Ua,Ub,Uc,Ud,Ui,Uj,Uk,Un,Uo,Ur,UC,UR,US,UU,UV,UW,UX,UY,Tb,Tc,Td,Te,Tg,Tr,Ts,Tt,Tu,Tv,Tw,Tx,Ty,Tz,T2,T5,T8,TA,TC,TF,TI,TK,TL,TM,TN,TO,TP,TQ,TR,TS,TT,TZ,Sa,Sc,Sd,Se,Sf,Sn,Sp,Sq,Sr,Ss,Sz,S5,S7,S8,SA,SC,SG,SN,SO,SP,SQ,SS,SX,SY,Rc,Rk,Rl,Qa,QI,QL,QQ,f1,f2,b1,b2,fl,bl,t1,t2,tl,m1,m2,ml,p1,p2,pl,g1,g2,g3,g4,g5,g6,g7,g8,g9,ga,u1,v1,w1,x1,y1];all_goals tactic=>exact rfl))
theorem bFn:runW progG 33 [.pt 0 0] [rN]=some (.pt 1 0,rN::cpH dP E):=by
 unfold rN cpH;rw[rq 33 x33 rfl];unfold x33;dsimp only;have e1:bQ (fN dP)=[]:=rfl;have e2:cK (gV dP E) (CSt.tickets dP).length=[]:=rfl;have e3:cK (nN dP) (CSt.meters dP).length=[]:=rfl;have e4:cK (nK dP) (CSt.pans dP).length=[]:=rfl;have e5:bQ (CSt.book dP)=[]:=rfl;have n1:(CSt.farmers dP).length=0:=rfl;have n2:(CSt.tickets dP).length=0:=rfl;have n3:(CSt.meters dP).length=0:=rfl;have n4:(CSt.pans dP).length=0:=rfl;have n5:(CSt.book dP).length=0:=rfl;rw[e1,e2,e3,e4,e5,n1,n2,n3,n4,n5];(exact RT0)
def nT(s:CSt)(j:Int):Nat->Int
 | 0=>0
 | i+1=>nT s j i+match s.tickets[i]? with
   | some k=>if k.void=false/\(j<0\/((bR (fN s) k.farmer).getD 0:Nat)=j) then k.net else 0
   | none=>0
theorem aLF(gs:cY s)(j:Int):∀ i,0<=nT s j i/\nT s j i<=100000*(i:Int)
 | 0=>by simp[nT]
 | i+1=>by
   have ih:=aLF gs j i;rw[nT];split
   .rename_i k hk
    have:=gs.bt k (B3 hk)
    grind
   .omega
def rX(L:List ByteArray)(F:Nat->List AV)(n:Nat)(RM RP RB:List (List AV)):Option XB:=aa [.bool true,.fs (rS L),.fs (fQ F n),.fs RM,.fs RP,.fs RB]
theorem wH{i:Nat}{k:zH}(h:s.tickets[i]?=some k):gV s E i=[.str k.wagon,I (E i),I k.net,I (((bR (fN s) k.farmer).getD 0:Nat):Int),.bool k.void,.bool (decide (i<s.closed))]:=by
 unfold gV;rw[h]
theorem aPy(gs:cY s){L:List ByteArray}{RM RP RB:List (List AV)}{j:Int}{i:Nat}(hi:i<s.tickets.length):bT 1 [0,1,5,6] (execW progG 82 1 none (match aHY with | .loop _ a=>a|c=>c) (aY [0,1,5,6] [.pt 0 0,I j,I (nT s j i),I (i:Nat)]) [rX L (gV s E) s.tickets.length RM RP RB]) =
 some ([.pt 0 0,I j,I (nT s j (i+1)),I (i+1:Nat)],[rX L (gV s E) s.tickets.length RM RP RB]):=by
 obtain⟨k,hk⟩:=dO (l:=s.tickets) hi;have hr:=aDD (F:=gV s E) hi;rw[wH hk]at hr;have ln:(fQ (gV s E) s.tickets.length).length=s.tickets.length:=oJ;have ra:=aCP (n:=s.tickets.length) (nY (s:=s) (E:=E));have t1:((i:Int)<(s.tickets.length:Int))=True:=AAa;have b:=aLF gs j i;have hl:=gs.lt;have hb:=gs.book;have hn:=gs.bt k (B3 hk);have up:=cV (i:=i) (n:=2000) AS AS;have w1:IntKind.i64.wrap (nT s j i+k.net)=nT s j i+k.net:=aE AS AS;have nu:nT s j (i+1)=nT s j i+if k.void=false/\(j<0\/(((bR (fN s) k.farmer).getD 0:Nat):Int)=j) then k.net else 0:=by rw[nT,hk]
 rw[nu];clear nu;unfold rX;generalize fQ (gV s E) s.tickets.length=RT at *;generalize nT s j i=v at *;generalize (bR (fN s) k.farmer).getD 0=f at *;unfold aHY;dsimp only;cases hv:k.void with
 | true =>
   rw[hv]at hr;rw[if_neg (λh=>by cases h.1),aC9];(exact rR hr ln t1 up)
 | false =>
   rw[hv]at hr;rcases mC (j<0)with h1|h1
   .rw[if_pos ⟨rfl,.inl (AAl h1)⟩]
    (exact iS hr ln t1 up h1 w1 aF)
   .rcases mC ((f:Int)=j)with h2|h2
    .rw[if_pos ⟨rfl,.inr (AAl h2)⟩]
     (exact iS hr ln t1 up h1 h2 w1)
    .rw[if_neg (λh=>h.2.elim (AAm h1) (AAm h2)),aC9]
     (exact iS hr ln t1 up h1 h2 aF)
theorem a105(gs:cY s){L:List ByteArray}{RM RP RB:List (List AV)}{j:Int}:runW progG 82 [.pt 0 0,I j] [rX L (gV s E) s.tickets.length RM RP RB]=some (I (nT s j s.tickets.length),[rX L (gV s E) s.tickets.length RM RP RB]):=by
 have e0:((s.tickets.length:Int)<(s.tickets.length:Int))=False:=AAb;have ln:(fQ (gV s E) s.tickets.length).length=s.tickets.length:=oJ;have rd:=λi hi=>aPy (E:=E) gs (L:=L) (RM:=RM) (RP:=RP) (RB:=RB) (j:=j) (i:=i) hi;rw[rq 82 x82 rfl];unfold x82;dsimp only;unfold rX at *;sym =>
  simp[Za,Zb,Zf,Zh,Zl,Zm,Zv,Z9,ZA,ZG,ZS,ZW,Yu,Yw,YH,Xz,XI,Wv,WF,Vb,Vi,V5,V6,V7,VI,VQ,VY,VZ,Ua,Ub,Uc,Ui,Uj,Un,Uo,UC,UR,US,UU,UV,UW,UX,UY,Tb,Tc,Td,Te,Th,Tl,Tn,Tp,Tr,Ts,Tt,Tw,Tx,Ty,Tz,T2,TK,TN,TO,TP,TZ,Sa,S9,SA,SC,SG,SV,SX,SY,Ra,Rb,Rc,Re,Ri,Rk,Rl,QQ,ln]
  tactic =>
   unfold aHY;rw[aG s.tickets.length (λi=>[.pt 0 0,I j,I (nT s j i),I (i:Nat)]) (λ_=>[aa [.bool true,.fs (rS L),.fs (fQ (gV s E) s.tickets.length),.fs RM,.fs RP,.fs RB]])];·(exact kJ e0 ln)
   .rfl
   .exact rd
   ·(exact kJ e0 ln)
theorem bAi(a b c:List UInt8):Lib.join [a,b,c] [32]=((a++[32])++b++[32])++c:=by simp[Lib.join]
theorem bAh(a b c d:List UInt8):Lib.join [a,b,c,d] [32]=(((a++[32])++b++[32])++c)++(32::d):=by simp[Lib.join]
theorem a106{L:List ByteArray}{k:zH}{e:Int}{f:Nat}{cl:Bool}{RT RM RP RB:List (List AV)}(hf:L[f]?=some k.farmer)(hL:L.length<=1000)(h1:k.wagon.size<=10)(h2:k.farmer.size<=10)(h3:0<=k.net/\k.net<=99999) :
 runW progG 83 [.pt 0 0,.agg [.str k.wagon,I e,I k.net,I (f:Nat),.bool k.void,.bool cl]] [aa [.bool true,.fs (rS L),.fs RT,.fs RM,.fs RP,.fs RB]]=some (.str (tkT k),[aa [.bool true,.fs (rS L),.fs RT,.fs RM,.fs RP,.fs RB]]):=by
 have c:=rdg h3.1 AS;have li:(Lib.itoa k.net).length<=6:=by
  obtain⟨n,hn⟩:=M7 h3.1;rw[hn,show Lib.itoa ((n:Nat):Int)=Lib.decDigits n by rfl];exact(a100 5 n AS AS).1
 have ra:=oC hf;have ln:=eP L;have t1:((f:Int)<(L.length:Int))=True:=AAn (by grind);obtain⟨y0,j0⟩:∃ y,k.wagon++⟨⟨[32]⟩⟩=y:=⟨_,rfl⟩;obtain⟨y1,j1⟩:∃ y,y0++k.farmer=y:=⟨_,rfl⟩;obtain⟨y2,j2⟩:∃ y,y1++⟨⟨[32]⟩⟩=y:=⟨_,rfl⟩;obtain⟨y3,j3⟩:∃ y,y2++⟨⟨Lib.itoa k.net⟩⟩=y:=⟨_,rfl⟩;obtain⟨y4,j4⟩:∃ y,y3++AAJ=y:=⟨_,rfl⟩;have z0:=AAs ByteArray.size j0;have z1:=AAs ByteArray.size j1;have z2:=AAs ByteArray.size j2;have z3:=AAs ByteArray.size j3;rw[J0]at z0 z1 z2 z3;have q1:(⟨⟨[32]⟩⟩:ByteArray).size=1:=rfl;have q2:(AAJ:ByteArray).size=5:=rfl;have q3:(⟨⟨Lib.itoa k.net⟩⟩:ByteArray).size=(Lib.itoa k.net).length:=rfl;have s0:=eA (a:=k.wagon) (b:=⟨⟨[32]⟩⟩) AS;have s1:=eA (a:=y0) (b:=k.farmer) AS;have s2:=eA (a:=y1) (b:=⟨⟨[32]⟩⟩) AS;have s3:=eA (a:=y2) (b:=⟨⟨Lib.itoa k.net⟩⟩) AS;have s4:=eA (a:=y3) (b:=AAJ) AS;rw[j0]at s0;rw[j1]at s1;rw[j2]at s2;rw[j3]at s3;rw[j4]at s4;have eb:∀ a:ByteArray,(⟨⟨a.data.toList⟩⟩:ByteArray)=a:=λa=>rfl;have r3:y3=⟨⟨((k.wagon.data.toList++[32])++k.farmer.data.toList++[32])++Lib.itoa k.net⟩⟩:=by
  rw[<-j3,<-j2,<-j1,<-j0];rfl
 have hk:tkT k=if k.void then y4 else y3:=by
  unfold tkT tkL;cases k.void with
  | true =>
    rw[if_pos rfl,if_pos rfl,<-j4,r3];show (⟨⟨Lib.join [_,_,_,_] [32]⟩⟩:ByteArray)=_;rw[bAh,rap]
  | false =>
    rw[if_neg I9,if_neg I9,r3]
    grind [bAi]
 rw[hk];clear r3 j0 j1 j2 j3 j4 hk hf;generalize (⟨⟨Lib.itoa k.net⟩⟩:ByteArray)=yi at *;generalize rS L=RL at *;rw[rq 83 x83 rfl];unfold x83;dsimp only;cases hv:k.void with
 | true =>
   rw[if_pos rfl];(exact kN c ra ln t1 s0 s1 s2 s3 s4)
 | false =>
   rw[if_neg I9];(exact kN c ra ln t1 s0 s1 s2 s3 aF)
def EOk(s:CSt)(E:Nat->Int):Prop:=(∀ x,dW s.wagons x=(bR (s.tickets.map (·.wagon)) x).map E)/\∀ i,0<=E i/\E i<=99999
theorem aLX(y:ByteArray)(d:Int)(h:y∈fN s):(iE s.farmers y d).map (·.1)=fN s:=by
 obtain⟨j,hj⟩:=yM h;obtain⟨p,hp⟩:=rF (l:=s.farmers) hj;rw[kC];refine aBL (y:=p) ?_
 simp_all [dW,fN]
theorem aSU{i:Nat}{k:zH}(hk:s.tickets[i]?=some k)(hf:k.farmer∈fN s):cK (oH (gV s E) i 4 (.bool true)) s.tickets.length=cK (gV (fL s (.void i)) E) s.tickets.length/\fN (fL s (.void i))=fN s:=by
 have hd:fL s (.void i)={ s with tickets:=s.tickets.set i { k with void:=true },farmers:=iE s.farmers k.farmer (-k.net) }:=by unfold fL;grind
 have hn:fN (fL s (.void i))=fN s:=by rw[hd];exact aLX _ _ hf
 refine⟨mJ λj hj=>?_,hn⟩;unfold oH;by_cases e:j=i
 .subst e
  rw[if_pos rfl];unfold gV
  grind
 .rw[if_neg e]
  unfold gV
  grind
def clS(s:CSt)(i:Nat):CSt:={ s with closed:=max s.closed i }
theorem aYQ{i:Nat}(hi:i<s.tickets.length):cK (oH (gV (clS s i) E) i 5 (.bool true)) s.tickets.length=cK (gV (clS s (i+1)) E) s.tickets.length:=by
 refine mJ λj hj=>?_;obtain⟨k,hk⟩:=dO (l:=s.tickets) hj;have e1:(clS s i).tickets[j]?=some k:=hk;have e2:(clS s (i+1)).tickets[j]?=some k:=hk;unfold oH;by_cases e:j=i
 .subst e
  rw[if_pos rfl,wH e1,wH e2];have:decide (j<(clS s (j+1)).closed)=true:=AAj (by show j<max s.closed (j+1);omega);rw[this];rfl
 .rw[if_neg e,wH e1,wH e2]
  have:decide (j<(clS s i).closed)=decide (j<(clS s (i+1)).closed):=decide_eq_decide.2 (by show j<max s.closed i↔j<max s.closed (i+1);omega);rw[this];rfl
section
variable{nF nM nP nB:Nat}{CF CM CP CB:List AV}
theorem aPw(sF:Sm CF)(sM:Sm CM)(sP:Sm CP)(sB:Sm CB){i:Nat}(hi:i<s.tickets.length)(hn:s.tickets.length<=1000):bT 6 [0,3,4] (execW progG 89 6 none (match aKZ with | .loop _ a=>a|c=>c) (aY [0,3,4] [.pt 0 0,.bool (decide (s.closed<i)),I (i:Nat)]) (hC nF s.tickets.length nM nP nB CF (cK (gV (clS s i) E) s.tickets.length) CM CP CB)) =
 some ([.pt 0 0,.bool (decide (s.closed<i+1)),I (i+1:Nat)],hC nF s.tickets.length nM nP nB CF (cK (gV (clS s (i+1)) E) s.tickets.length) CM CP CB):=by
 obtain⟨k,hk⟩:=dO (l:=s.tickets) hi;have e1:(clS s i).tickets[i]?=some k:=hk;have r:=nY (s:=clS s i) (E:=E);have g5:=lG r hi (j:=5) AS;rw[wH e1]at g5;have g5:(cK (gV (clS s i) E) s.tickets.length)[i*6+5]?=some (.bool (decide (i<(clS s i).closed))):=g5;rw[show decide (i<(clS s i).closed)=decide (i<s.closed) from decide_eq_decide.2 (by show i<max s.closed i↔_;omega)]at g5;have st:=aBp r hi (j:=5) AS (v:=.bool true) rfl;rw[aYQ hi]at st;have ln:=fU r s.tickets.length;have t1:=eM (n:=s.tickets.length) r;have u1:=eM (n:=s.tickets.length) (nY (s:=clS s (i+1)) (E:=E));have i1:((i:Int)<(s.tickets.length:Int))=True:=AAa;have up:=cV (i:=i) (n:=2000) AS AS;have e3:(i*6+5+1<=s.tickets.length*6)=True:=AAa;unfold hC aKZ;dsimp only;generalize cK (gV (clS s (i+1)) E) s.tickets.length=C2 at *;generalize cK (gV (clS s i) E) s.tickets.length=C1 at *;by_cases h1:s.closed<i
 .rw[AAj h1,AAj (show s.closed<i+1 by omega)]
  (exact eK i1 up e3 st ln sF sM sP sB t1 u1 aF aF)
 .rw[AAk h1]
  by_cases h2:i<s.closed
  .rw[AAj h2]at g5
   rw[AAk (show ¬s.closed<i+1 by omega)];(exact eK i1 up e3 g5 st ln sF sM sP sB t1 u1 aF)
  .rw[AAk h2]at g5
   rw[AAj (show s.closed<i+1 by omega)];(exact eK i1 up e3 g5 st ln sF sM sP sB t1 u1 aF)
theorem a112(sF:Sm CF)(sM:Sm CM)(sP:Sm CP)(sB:Sm CB)(hn:s.tickets.length<=1000)(hc:s.closed<=s.tickets.length):runW progG 89 [.pt 0 0] (hC nF s.tickets.length nM nP nB CF (cK (gV s E) s.tickets.length) CM CP CB) =
 some (I (if s.closed<s.tickets.length then 0 else 4),hC nF s.tickets.length nM nP nB CF (cK (gV { s with closed:=s.tickets.length } E) s.tickets.length) CM CP CB):=by
 have rd:=λi hi=>aPw (E:=E) (nF:=nF) (nM:=nM) (nP:=nP) (nB:=nB) sF sM sP sB (i:=i) hi hn;have z0:clS s 0=s:=by unfold clS;simp_all
 have z1:clS s s.tickets.length={ s with closed:=s.tickets.length }:=by unfold clS;grind
 have t1:=eM (n:=s.tickets.length) (nY (s:=s) (E:=E));have u1:=eM (n:=s.tickets.length) (nY (s:={ s with closed:=s.tickets.length }) (E:=E));have e0:((s.tickets.length:Int)<(s.tickets.length:Int))=False:=AAb;unfold hC at *;rw[rq 89 x89 rfl];unfold x89;dsimp only;sym =>
  simp[Za,Zb,Zf,Zh,Zl,Zm,Zv,Z9,ZA,ZE,ZG,ZS,ZW,Ys,Yu,Yx,YH,Xz,XI,XJ,XW,Wv,Ww,W4,WF,Vb,Vi,V5,V6,V7,VI,VJ,VO,VQ,VW,VY,VZ,Ua,Ub,Uc,Ui,Uj,Uk,Un,Uo,Ur,UC,UR,US,UU,UV,UW,UX,UY,Tb,Tc,Td,Te,Th,Tl,Tm,Tn,Tp,Tr,Ts,Tt,Tu,Tv,Tw,Tx,Ty,Tz,T2,TB,TC,TI,TK,TN,TO,TP,TQ,TR,TZ,Sa,S9,SA,SC,SG,SV,SX,SY,SZ,Ra,Rb,Rc,Re,Rf,Ri,Rk,Rl,QQ,sF,sM,sP,sB,t1]
  tactic =>
   unfold aKZ;rw[aG s.tickets.length (λi=>[.pt 0 0,.bool (decide (s.closed<i)),I (i:Nat)]) (λi=>[ab [.bool true,.sl 1 0 1 nF,.sl 2 0 6 s.tickets.length,.sl 3 0 3 nM,.sl 4 0 3 nP,.sl 5 0 1 nB],aa CF,aa (cK (gV (clS s i) E) s.tickets.length),aa CM,aa CP,aa CB])]
   .rw[z1]
    clear rd;generalize cK (gV { s with closed:=s.tickets.length } E) s.tickets.length=C2 at *;by_cases h:s.closed<s.tickets.length
    .rw[AAj h,if_pos h]
     (exact iS e0 sF sM sP sB u1 aF)
    .rw[AAk h,if_neg h]
     (exact iS e0 sF sM sP sB u1 aF)
   .rw[z0,show decide (s.closed<0)=false from rfl,show ((0:Nat):Int)=0 from rfl]
    rfl
   .exact rd
   .rw[z1]
    clear rd;generalize cK (gV { s with closed:=s.tickets.length } E) s.tickets.length=C2 at *;(exact iS e0 sF sM sP sB u1 aF)
end
end
theorem nV:aN .eql AAt AAu=some (.bool false):=by kernel_rfl
theorem qA:aN .eql AAt AAv=some (.bool false):=by kernel_rfl
theorem nX:aN .eql AAt AAw=some (.bool false):=by kernel_rfl
theorem nW:aN .eql AAt AAx=some (.bool false):=by kernel_rfl
theorem rO:aN .eql AAt AAy=some (.bool false):=by kernel_rfl
abbrev kL(l:List AV):Option XB:=some (.blk true (.cells true l))
abbrev kH(a b c d nF nT nM nP nB:Nat):Option XB:=some (.blk false (.cells true [.bool true,.sl a 0 1 nF,.sl b 0 6 nT,.sl c 0 3 nM,.sl d 0 3 nP,.sl 5 0 1 nB]))
def hK(k nF nT nM nP nB:Nat)(CF CT CM CP CB:List AV):XH:=match k with
 | 0=>hC nF nT nM nP nB CF CT CM CP CB
 | 1=>[kH 6 2 3 4 nF nT nM nP nB,none,kL CT,kL CM,kL CP,kL CB,kL CF]
 | 2=>[kH 1 6 3 4 nF nT nM nP nB,kL CF,none,kL CM,kL CP,kL CB,kL CT]
 | 3=>[kH 1 2 6 4 nF nT nM nP nB,kL CF,kL CT,none,kL CP,kL CB,kL CM]
 | _=>[kH 1 2 3 6 nF nT nM nP nB,kL CF,kL CT,kL CM,none,kL CB,kL CP]
theorem lt5{k:Nat}(h:k<5):k=0\/k=1\/k=2\/k=3\/k=4:=AS
abbrev Sms(CF CT CM CP CB:List AV):Prop:=Sm CF/\Sm CT/\Sm CM/\Sm CP/\Sm CB
section
variable{s:CSt}{E:Nat->Int}{x y:ByteArray}
theorem aOR{l m:List ByteArray}{F G H:Nat->List AV}{a b c:Nat}(r1:Rw F 6)(r2:Rw G 3)(r3:Rw H 3):Sms (bQ l) (cK F a) (cK G b) (cK H c) (bQ m):=⟨zJ _,eM r1,eM r2,eM r3,zJ _⟩
def shp(s:CSt)(E:Nat->Int)(k:Nat):XH:=hK k s.farmers.length s.tickets.length s.meters.length s.pans.length s.book.length (bQ (fN s)) (cK (gV s E) s.tickets.length) (cK (nN s) s.meters.length) (cK (nK s) s.pans.length) (bQ s.book)
theorem sms:Sms (bQ (fN s)) (cK (gV s E) s.tickets.length) (cK (nN s) s.meters.length) (cK (nK s) s.pans.length) (bQ s.book):=aOR nY vO vM
def aSc(f:Nat)(A:List AV)(ws ns:List (List AV)):Prop:=∀ ⦃nF nT nM nP nB:Nat⦄ ⦃CF CT CM CP CB:List AV⦄ (k:Nat) ⦃mF mT mM mP mB:Nat⦄ ⦃DF DT DM DP DB:List AV⦄ ⦃e:Int⦄,Sms CF CT CM CP CB->Sms DF DT DM DP DB->k<5 ->
 runW progG f (.pt 0 0::A) (hC nF nT nM nP nB CF CT CM CP CB)=some (I e,hK k mF mT mM mP mB DF DT DM DP DB)->runW progG 34 [.pt 0 0,.fs ws,.fs ns] (hC nF nT nM nP nB CF CT CM CP CB)=some (I e,hK k mF mT mM mP mB DF DT DM DP DB)
theorem d68{u u1 u2:ByteArray}{i:Nat}{n a b z0 z1:Int}:aSc 88 [I (i:Nat)] [[.str AAv],[.str u]] [[I 0],[I (i:Nat)]]/\aSc 89 [] [[.str AAw]] [[I 0]]/\aSc 90 [.str x,I n] [[.str AAx],[.str x],[.str u]] [[I 0],[I z0],[I n]] /\
 aSc 91 [.str x,I a,I b] [[.str AAy],[.str x],[.str u1],[.str u2]] [[I 0],[I z0],[I a],[I b]]/\(∀{ws ns:List (List AV)},ws=[[.str AAu],[.str x],[.str u1],[.str u2],[.str y]]->ns=[[I 0],[I z0],[I a],[I b],[I z1]]->aSc 87 [.fs ws,.fs ns] ws ns):=by
 refine⟨?_,?_,?_,?_,?_⟩
 rotate_right
 .rintro ws ns rfl rfl
  intro nF nT nM nP nB CF CT CM CP CB k mF mT mM mP mB DF DT DM DP DB e S1 S2 hk c;rw[rq 34 x34 rfl];unfold x34;dsimp only;rcases lt5 hk with rfl|rfl|rfl|rfl|rfl;all_goals (simp only[hK,aCG]at c ⊢; (exact rR c S1 S2 kQ))
 all_goals
  intro nF nT nM nP nB CF CT CM CP CB k mF mT mM mP mB DF DT DM DP DB e S1 S2 hk c;rw[rq 34 x34 rfl];unfold x34;dsimp only;rcases lt5 hk with rfl|rfl|rfl|rfl|rfl;all_goals (simp only[hK,aCG]at c ⊢; (exact eD c S1 S2 kQ rB tW pG rE pH pC rD pF pD tX wV tZ tY aAb aF aF))
def Does(s:CSt)(E:Nat->Int)(w:Wd)(ws ns:List (List AV)):Prop :=
 (∀ e,dC s w=some e->runW progG 34 [.pt 0 0,.fs ws,.fs ns] (shp s E 0)=some (I e,shp s E 0)) /\
 (dC s w=none->∃ k E',k<5/\EOk (fL s w) E'/\runW progG 34 [.pt 0 0,.fs ws,.fs ns] (shp s E 0)=some (I 0,shp (fL s w) E' k))
theorem Does.no{w:Wd}{ws ns:List (List AV)}{e:Int}(h:dC s w=some e)(c:runW progG 34 [.pt 0 0,.fs ws,.fs ns] (shp s E 0)=some (I e,shp s E 0)):Does s E w ws ns:=⟨λe' he=>by grind,λq=>by grind⟩
theorem Does.yes{w:Wd}{ws ns:List (List AV)}(k:Nat)(E':Nat->Int)(hk:k<5)(h:dC s w=none)(eo:EOk (fL s w) E')(c:runW progG 34 [.pt 0 0,.fs ws,.fs ns] (shp s E 0)=some (I 0,shp (fL s w) E' k)):Does s E w ws ns:=⟨λe he=>(by grind),λ_=>⟨k,E',hk,eo,c⟩⟩
theorem oM:(fN s).length=s.farmers.length:=by simp[fN]
theorem aUI(gs:cY s)(eo:EOk s E){i:Nat}{u:ByteArray}:Does s E (.void i) [[.str AAv],[.str u]] [[I 0],[I (i:Nat)]]:=by
 have hl:=gs.lt;have hb:=gs.book;have c:=a111 (nF:=s.farmers.length) (nM:=s.meters.length) (nP:=s.pans.length) (nB:=s.book.length) (zJ (fN s)) (eM (n:=s.meters.length) (vO (s:=s))) (eM (n:=s.pans.length) (vM (s:=s))) (zJ s.book) (nT:=s.tickets.length) AS (nY (s:=s) (E:=E)) (i:=i);have d:=(d68 (x:=u) (y:=u) (u:=u) (u1:=u) (u2:=u) (i:=i) (n:=0) (a:=0) (b:=0) (z0:=0) (z1:=0)).1;cases hk:s.tickets[i]? with
 | none=>exact .no (by unfold dC;grind) (d 0 sms sms AS (c.1 (N7.1 hk)))
 | some k =>
   have hi:=(B6.1 hk).1;have c:=c.2 _ _ _ _ _ _ hi (wH hk);have hf:k.farmer∈fN s:=(gs.bt k (B3 hk)).2.2.1;obtain⟨v1,v2⟩:=aSU (E:=E) hk hf;have hw:dC s (.void i)=if k.void then some 6 else if i<s.closed then some 23 else none:=by unfold dC;grind
   by_cases h1:k.void=true
   .rw[if_pos h1]at c hw
    exact .no hw (d 0 sms sms AS c)
   .rw[if_neg h1]at c hw
    by_cases h2:i<s.closed
    .rw[if_pos h2]at hw
     rw[if_pos (AAj h2)]at c;exact .no hw (d 0 sms sms AS c)
    .rw[if_neg h2]at hw
     rw[if_neg (λq=>h2 (of_decide_eq_true q)),v1]at c;have hd:fL s (.void i)={ s with tickets:=s.tickets.set i { k with void:=true },farmers:=iE s.farmers k.farmer (-k.net) }:=by unfold fL;grind
     refine .yes 0 E AS hw ⟨λz=>?_,eo.2⟩ ?_
     .rw[hd]
      dsimp only;rw[eo.1 z];congr 2;exact(lD (by grind) rfl).symm
     .have q1:(fL s (.void i)).farmers.length=s.farmers.length:=by grind [oM]
      have q2:(fL s (.void i)).tickets.length=s.tickets.length:=by grind
      have q3:(fL s (.void i)).meters=s.meters:=by rw[hd]
      have q4:(fL s (.void i)).pans=s.pans:=by rw[hd]
      have q5:(fL s (.void i)).book=s.book:=by rw[hd]
      have q6:nN (fL s (.void i))=nN s:=by unfold nN;rw[q3]
      have q7:nK (fL s (.void i))=nK s:=by unfold nK;rw[q4]
      have r:=d 0 sms (aOR nY vO vM) AS c;unfold shp;rw[q1,q2,q3,q4,q5,q6,q7,v2];exact r
theorem aRP(gs:cY s)(eo:EOk s E):Does s E .close [[.str AAw]] [[I 0]]:=by
 have hl:=gs.lt;have hb:=gs.book;have c:=a112 (s:=s) (E:=E) (nF:=s.farmers.length) (nM:=s.meters.length) (nP:=s.pans.length) (nB:=s.book.length) (zJ (fN s)) (eM (n:=s.meters.length) (vO (s:=s))) (eM (n:=s.pans.length) (vM (s:=s))) (zJ s.book) AS gs.cl;have d:=(d68 (x:=ByteArray.empty) (y:=ByteArray.empty) (u:=ByteArray.empty) (u1:=ByteArray.empty) (u2:=ByteArray.empty) (i:=0) (n:=0) (a:=0) (b:=0) (z0:=0) (z1:=0)).2.1 0 sms (sms (s:={ s with closed:=s.tickets.length })) AS c;by_cases h:s.closed<s.tickets.length
 .rw[if_pos h]at d
  exact .yes 0 E AS (if_pos h) eo d
 .rw[if_neg h]at d
  have hs:{ s with closed:=s.tickets.length }=s:=by
   have:=gs.cl;have e:s.closed=s.tickets.length:=AS
   rw[<-e]
  rw[hs]at d;exact .no (if_neg h) d
end
section
variable{s:CSt}{E:Nat->Int}{x y u1 u2:ByteArray}{z0 z1 a b n:Int}
theorem aIm{s':CSt}{E':Nat->Int}{m:Nat}(ht:∀ i,i<m->s'.tickets[i]?=s.tickets[i]?)(hE:∀ i,i<m->E' i=E i)(hc:s'.closed=s.closed)(hn:∀ k∈s.tickets,bR (fN s') k.farmer=bR (fN s) k.farmer):cK (gV s' E') m=cK (gV s E) m:=by
 refine mJ λi hi=>?_;unfold gV
 grind
theorem aHs{l:List ByteArray}{x y:ByteArray}(h:y∈l):bR (l++[x]) y=bR l y:=by
 induction l with
 | nil=>cases h
 | cons k r ih =>
   grind [bR]
theorem mW{α:Type}{l:List (ByteArray×α)}{i:Nat}(h:bR (l.map (·.1)) x=some i):∃ v,l[i]?=some (x,v)/\dW l x=some v:=by
 obtain⟨v,hv⟩:=rF h
 grind [dW]
theorem bEZ{nF nT nM nP nB:Nat}{CF CT CM CP CB:List AV}{v:Int}(S:Sms CF CT CM CP CB)(hF:CF.length=nF)(hn:nF<=9)(c:runW progG 85 [.pt 0 0,.str x] (hC nF nT nM nP nB CF CT CM CP CB)=some (I v,hC nF nT nM nP nB CF CT CM CP CB)) :
 runW progG 34 [.pt 0 0,.fs [[.str AAt],[.str x]],.fs [[I 0],[I z0]]] (hC nF nT nM nP nB CF CT CM CP CB)=some (if 0<=v then (I 6,hC nF nT nM nP nB CF CT CM CP CB) else if nF=9 then (I 15,hC nF nT nM nP nB CF CT CM CP CB) else (I 0,hK 1 (nF+1) nT nM nP nB (CF++[.str x]) CT CM CP CB)):=by
 rw[rq 34 x34 rfl];unfold x34;dsimp only;simp only[hK,aCG]at c ⊢;by_cases hv:0<=v
 .have iv:((0:Int)<=v)=True:=AAn hv
  rw[if_pos hv];(exact kN c S iv nV qA nX nW rO aF)
 .have iv:((0:Int)<=v)=False:=AAo hv
  rw[if_neg hv];by_cases h9:nF=9
  .have e9:((nF:Int)=9)=True:=AAa
   rw[if_pos h9];(exact kN c S iv e9 nV qA nX nW rO)
  .have e9:((nF:Int)=9)=False:=AAb
   have g1:((nF+1)*16<=1099511627776)=True:=AAa;have g2:(nF+1<=1099511627776)=True:=AAa;rw[if_neg h9];(exact eK c S iv e9 g1 g2 hF nV qA nX nW rO aF)
theorem aNF(gs:cY s)(eo:EOk s E):Does s E (.farmer x) [[.str AAt],[.str x]] [[I 0],[I z0]]:=by
 have hl:=gs.lf;have S:=sms (s:=s) (E:=E);have c:=aVY (x:=x) (L:=fN s) (nT:=s.tickets.length) (nM:=s.meters.length) (nP:=s.pans.length) (nB:=s.book.length) (by grind [oM]) S.2.1 S.2.2.1 S.2.2.2.1 S.2.2.2.2;rw[oM]at c;have d:=bEZ (z0:=z0) S (by rw[bY,oM]) hl c;have hw:dC s (.farmer x)=if (dW s.farmers x).isSome then some 6 else if s.farmers.length=9 then some 15 else none:=rfl
 cases hx:bR (fN s) x with
 | some i =>
   obtain⟨v,_,hv⟩:=mW (l:=s.farmers) hx;rw[show nQ (fN s) x=(i:Int) by unfold nQ;rw[hx],if_pos AS]at d;exact .no (by grind) d
 | none =>
   rw[show nQ (fN s) x = -1 by unfold nQ;rw[hx],if_neg AS]at d;rw[cQ.2 hx,if_neg (by simp)]at hw;by_cases h9:s.farmers.length=9
   .rw[if_pos h9]at hw d
    exact .no hw d
   .rw[if_neg h9]at hw d
    have hn:fN (fL s (.farmer x))=fN s++[x]:=by unfold fN fL;simp
    have ht:cK (gV (fL s (.farmer x)) E) s.tickets.length=cK (gV s E) s.tickets.length:=aIm (λ_ _=>rfl) (λ_ _=>rfl) rfl λk hk=>by rw[hn];exact aHs (gs.bt k hk).2.2.1
    refine .yes 1 E AS hw eo (d.trans ?_);show _=some (_,hK 1 (fL s (.farmer x)).farmers.length s.tickets.length s.meters.length s.pans.length s.book.length (bQ (fN (fL s (.farmer x)))) (cK (gV (fL s (.farmer x)) E) s.tickets.length) _ _ _);rw[hn,ht,show (fL s (.farmer x)).farmers.length=s.farmers.length+1 by unfold fL;simp,show bQ (fN s++[x])=bQ (fN s)++[.str x] by simp[bQ]];rfl
theorem aRO(gs:cY s)(eo:EOk s E){u:ByteArray}(hn:0<=n/\n<=99999):Does s E (.meter x n) [[.str AAx],[.str x],[.str u]] [[I 0],[I z0],[I n]]:=by
 have hb:=gs.book;have hm5:=gs.lm;have S:=sms (s:=s) (E:=E);have hl:(s.meters.map (·.1)).length=s.meters.length:=by grind
 have c:=a113 (x:=x) (nF:=s.farmers.length) (nT:=s.tickets.length) (nP:=s.pans.length) (nB:=s.book.length) S.1 S.2.1 S.2.2.2.1 S.2.2.2.2 (L:=s.meters.map (·.1)) AS (vO (s:=s)) (λi z hz=>by
  rw[C3,B2]at hz;obtain⟨p,hp,rfl⟩:=hz;have:=gs.bm p (B3 hp);exact⟨p.2.2,p.2.1,by unfold nN;rw[hp],by omega,by omega,by omega,by omega⟩) hn
 rw[hl]at c;have d:=(d68 (x:=x) (y:=x) (u:=u) (u1:=u) (u2:=u) (i:=0) (n:=n) (a:=0) (b:=0) (z0:=z0) (z1:=0)).2.2.1;have hd:fL s (.meter x n)={ s with meters:=nO (mtr n) (n,0) x s.meters }:=rfl;have S2:=λm=>aOR (l:=fN s) (m:=s.book) (a:=s.tickets.length) (b:=m) (c:=s.pans.length) (nY (s:=s) (E:=E)) (vO (s:=fL s (.meter x n))) (vM (s:=s));cases hx:bR (s.meters.map (·.1)) x with
 | none =>
   have hv:dW s.meters x=none:=cQ.2 hx;have hw:dC s (.meter x n)=if (dW s.meters x).isNone/\s.meters.length=5 then some 15 else none:=rfl
   rw[hv]at hw;by_cases h5:s.meters.length=5;·exact .no (hw.trans (if_pos ⟨rfl,h5⟩)) (d 0 S S AS (c.1 hx h5))
   .have c:=c.2.1 hx h5
    have hm:(fL s (.meter x n)).meters=s.meters++[(x,(n,0))]:=by grind [sV]
    have hf:cK (nN (fL s (.meter x n))) (s.meters.length+1)=cK (nN s) s.meters.length++[.str x,I 0,I n]:=by
     rw[aBW];congr 1
     .refine mJ λi hi=>?_
      unfold nN
      grind
     .unfold nN
      grind
    rw[<-hf]at c;refine .yes 3 E AS (hw.trans (if_neg λq=>h5 q.2)) eo ?_;have r:=d 3 S (S2 _) AS c;rw[<-show (fL s (.meter x n)).meters.length=s.meters.length+1 by grind]at r;exact r
 | some i =>
   obtain⟨v,hp,hv⟩:=mW (l:=s.meters) hx;have hF:nN s i=[.str x,I v.2,I v.1]:=by unfold nN;rw[hp]
   have c:=c.2.2 i hx v.2 v.1 hF;have hi:=(B6.1 hp).1;have hm:(fL s (.meter x n)).meters=s.meters.set i (x,mtr n v):=by grind [oS]
   have hf:cK (oH (oH (nN s) i 1 (I (v.2+(n-v.1+100000)%100000))) i 2 (I n)) s.meters.length=cK (nN (fL s (.meter x n))) s.meters.length:=by
    refine mJ λj hj=>?_;unfold oH;by_cases e:j=i
    .subst e
     rw[if_pos rfl,if_pos rfl,hF];unfold nN;rw[hm,aB5 hi];rfl
    .rw[if_neg e,if_neg e]
     unfold nN
     grind
   rw[hf]at c;refine .yes 0 E AS (by unfold dC;grind) eo ?_;have r:=d 0 S (S2 _) AS c;unfold shp;rw[show (fL s (.meter x n)).meters.length=s.meters.length by grind];exact r
theorem aYf(gs:cY s)(eo:EOk s E)(ha:0<=a/\a<=99999)(hb:0<=b/\b<=99999):Does s E (.pan x a b) [[.str AAy],[.str x],[.str u1],[.str u2]] [[I 0],[I z0],[I a],[I b]]:=by
 have hbk:=gs.book;have hp5:=gs.lp;have S:=sms (s:=s) (E:=E);have hl:(s.pans.map (·.1)).length=s.pans.length:=by grind
 have c:=a114 (x:=x) (nF:=s.farmers.length) (nT:=s.tickets.length) (nM:=s.meters.length) (nB:=s.book.length) S.1 S.2.1 S.2.2.1 S.2.2.2.2 (L:=s.pans.map (·.1)) AS (vM (s:=s)) (λi z hz=>by
  rw[C3,B2]at hz;obtain⟨p,hp,rfl⟩:=hz;have:=gs.bp p (B3 hp);exact⟨p.2,by unfold nK;rw[hp],by omega,by omega⟩) ha hb
 rw[hl]at c;have d:=(d68 (x:=x) (y:=x) (u:=x) (u1:=u1) (u2:=u2) (i:=0) (n:=0) (a:=a) (b:=b) (z0:=z0) (z1:=0)).2.2.2.1;have hd:fL s (.pan x a b)={ s with pans:=iE s.pans x (a-b) }:=rfl;have S2:=λm=>aOR (l:=fN s) (m:=s.book) (a:=s.tickets.length) (b:=s.meters.length) (c:=m) (nY (s:=s) (E:=E)) (vO (s:=s)) (vM (s:=fL s (.pan x a b)));have hw:dC s (.pan x a b)=if ¬b<=a then some 10 else if (dW s.pans x).isNone/\s.pans.length=5 then some 15 else none:=rfl
 by_cases hab:b<=a
 .rw[if_neg λq=>q hab]at hw
  cases hx:bR (s.pans.map (·.1)) x with
  | none =>
    have hv:dW s.pans x=none:=cQ.2 hx;rw[hv]at hw;by_cases h5:s.pans.length=5;·exact .no (hw.trans (if_pos ⟨rfl,h5⟩)) (d 0 S S AS (c.2.1 hab hx h5))
    .have c:=c.2.2.1 hab hx h5
     have hm:(fL s (.pan x a b)).pans=s.pans++[(x,a-b)]:=by grind [aCd]
     have hf:cK (nK (fL s (.pan x a b))) (s.pans.length+1)=cK (nK s) s.pans.length++[.str x,I (a-b),I 0]:=by
      rw[aBW];congr 1
      .refine mJ λi hi=>?_
       unfold nK
       grind
      .unfold nK
       grind
     rw[<-hf]at c;refine .yes 4 E AS (hw.trans (if_neg λq=>h5 q.2)) eo ?_;have r:=d 4 S (S2 _) AS c;rw[<-show (fL s (.pan x a b)).pans.length=s.pans.length+1 by grind]at r;exact r
  | some i =>
    obtain⟨v,hp,hv⟩:=mW (l:=s.pans) hx;have hF:nK s i=[.str x,I v,I 0]:=by unfold nK;rw[hp]
    have c:=c.2.2.2 hab i hx v hF;rw[hv,if_neg λq=>by cases q.1]at hw;have hi:=(B6.1 hp).1;have hm:(fL s (.pan x a b)).pans=s.pans.set i (x,v+(a-b)):=by grind [gX]
    have hf:cK (oH (nK s) i 1 (I (v+(a-b)))) s.pans.length=cK (nK (fL s (.pan x a b))) s.pans.length:=by
     refine mJ λj hj=>?_;unfold oH;by_cases e:j=i
     .subst e
      rw[if_pos rfl,hF];unfold nK
      grind
     .rw[if_neg e]
      unfold nK
      grind
    rw[hf]at c;refine .yes 0 E AS hw eo ?_;have r:=d 0 S (S2 _) AS c;unfold shp;rw[show (fL s (.pan x a b)).pans.length=s.pans.length by grind];exact r
 .exact .no (hw.trans (if_pos hab)) (d 0 S S AS (c.1 hab))
theorem aOv{α:Type}{f:α->α}{z:α}{x y:ByteArray}:∀ l:List (ByteArray×α),dW (nO f z x l) y=if x=y then some ((dW l x).elim z f) else dW l y
 | []=>by
   show dW [(x,z)] y=_;unfold dW bR;by_cases h:x=y<;>simp[h,bR]
 | (k, v)::r=>by
   have ih:=aOv (f:=f) (z:=z) (x:=x) (y:=y) r;have co:∀(k w:ByteArray)(v:α)(r:List (ByteArray×α)),dW ((k,v)::r) w=if k=w then some v else dW r w:=λk w v r=>by
    unfold dW;show (if k=w then some 0 else (bR (r.map (·.1)) w).map (· + 1)).bind _=_;by_cases hk:k=w;·grind
    .rw[if_neg hk,if_neg hk]
     cases bR (r.map (·.1)) w<;>rfl
   grind [nO]
theorem aRN(gs:cY s)(eo:EOk s E)(ha:0<=a/\a<=99999)(hb:0<=b/\b<=99999):Does s E (.wagon x y a b) [[.str AAu],[.str x],[.str u1],[.str u2],[.str y]] [[I 0],[I z0],[I a],[I b],[I z1]]:=by
 have hbk:=gs.book;have hl:=gs.lt;have hf9:=gs.lf;obtain⟨eo1,eo2⟩:=eo;have S:=sms (s:=s) (E:=E);have tw:(s.tickets.map (·.wagon)).length=s.tickets.length:=by grind
 have c:=a110 (x:=x) (y:=y) (u1:=u1) (u2:=u2) (z0:=z0) (z1:=z1) (a:=a) (b:=b) (nM:=s.meters.length) (nP:=s.pans.length) (nB:=s.book.length) S.2.2.1 S.2.2.2.1 S.2.2.2.2 (L:=fN s) (TW:=s.tickets.map (·.wagon)) (F:=gV s E) (by grind [oM]) AS nY (λi w hw=>by
  rw[C3,B2]at hw;obtain⟨k,hk,rfl⟩:=hw;exact⟨_,_,_,_,_,wH hk,eo2 i⟩) ha hb
 rw[tw,oM]at c;have rowT:∀ i,bR (s.tickets.map (·.wagon)) x=some i->∃(n g:Int)(v cl:Bool),gV s E i=[.str x,I (E i),I n,I g,.bool v,.bool cl]:=λi hi=>by
  have h:=dG hi;rw[C3,B2]at h;obtain⟨k,hk,rfl⟩:=h;exact⟨_,_,_,_,wH hk⟩
 have d:=(d68 (x:=x) (y:=y) (u:=x) (u1:=u1) (u2:=u2) (i:=0) (n:=0) (a:=a) (b:=b) (z0:=z0) (z1:=z1)).2.2.2.2 rfl rfl;have hd:fL s (.wagon x y a b)=fF s x y a b:=rfl;have hw:dC s (.wagon x y a b)=match dW s.farmers y with
  | none=>some 5
  | some _=>if ¬b<=a then some 10 else match dW s.wagons x with
    | none=>none
    | some e=>if e-500<=b/\b<=e+500 then none else some 22:=rfl
 cases hy:bR (fN s) y with
 | none =>
   rw[show dW s.farmers y=none from cQ.2 hy]at hw;exact .no hw (d 0 S S AS (c.1 hy))
 | some f =>
   obtain⟨v0,hp,hv⟩:=mW (l:=s.farmers) hy;rw[hv]at hw;dsimp only at hw;by_cases hab:b<=a
   .rw[if_neg λq=>q hab]at hw
    have okk:dC s (.wagon x y a b)=none->(∀ e,dW s.wagons x=some e->e-500<=b/\b<=e+500)->Does s E (.wagon x y a b) [[.str AAu],[.str x],[.str u1],[.str u2],[.str y]] [[I 0],[I z0],[I a],[I b],[I z1]]:=λhn0 hw=>by
     have c:=c.2.2.2 f hy hab λi hi=>by
      obtain⟨n,g,v,cl,hr⟩:=rowT i hi;exact⟨E i,n,g,v,cl,hr,hw (E i) (by rw[eo1,hi];rfl)⟩
     let E':Nat->Int:=λi=>if i<s.tickets.length then E i else b
     have hyi:y∈fN s:=B3 (dG hy);have hn:fN (fL s (.wagon x y a b))=fN s:=aLX y (a-b) hyi;have ht:(fL s (.wagon x y a b)).tickets=s.tickets++[⟨x,y,a-b,false⟩]:=rfl;refine .yes 2 E' AS hn0 ⟨λz=>?_,λi=>?_⟩ ?_
     .show dW (nO id b x s.wagons) z=(bR ((s.tickets++[(⟨x,y,a-b,false⟩:zH)]).map λk:zH=>k.wagon) z).map E'
      rw[aOv,M3];have hE:∀ z i,bR (s.tickets.map (·.wagon)) z=some i->E' i=E i:=λz i hi=>if_pos (by have:=(aEd hi).1;omega);show _=(bR (s.tickets.map (·.wagon)++[x]) z).map E';by_cases hz:x=z
      .rw[if_pos hz]
       subst hz;cases hq:bR (s.tickets.map (·.wagon)) x with
       | none =>
         rw[eo1,hq,sU hq,tw];show some b=some (E' s.tickets.length)
         grind
       | some i =>
         rw[eo1,hq,aHs (B3 (dG hq)),hq];show some (E i)=some (E' i);rw[hE x i hq]
      .rw[if_neg hz,eo1]
       cases hq:bR (s.tickets.map (·.wagon)) z with
       | none =>
         have:bR (s.tickets.map (·.wagon)++[x]) z=none:=kY.2 λhm=>by
          rcases C8.1 hm with h|h;·grind [kY]
          grind [List.mem_singleton]
         grind
       | some i =>
         rw[aHs (B3 (dG hq)),hq]
         grind
     .show 0<=(if i<s.tickets.length then E i else b)/\(if i<s.tickets.length then E i else b)<=99999
      split;·exact eo2 i
      .exact hb
     .have hf:cK (gV (fL s (.wagon x y a b)) E') (s.tickets.length+1)=cK (gV s E) s.tickets.length++[.str x,I b,I (a-b),I (f:Nat),.bool false,.bool false]:=by
       rw[aBW];congr 1
       .refine aIm (λi hi=>?_) (λi hi=>if_pos hi) rfl λk hk=>by rw[hn]
        grind
       .have hk:(fL s (.wagon x y a b)).tickets[s.tickets.length]?=some ⟨x,y,a-b,false⟩:=by rw[ht,I8 (B5 _),N8];rfl
        rw[wH hk,hn,hy];have h1:E' s.tickets.length=b:=if_neg (Nat.lt_irrefl _);have h2:decide (s.tickets.length<(fL s (.wagon x y a b)).closed)=false:=AAk (by show ¬s.tickets.length<s.closed;have:=gs.cl;omega)
        grind
      have h1:(fL s (.wagon x y a b)).tickets.length=s.tickets.length+1:=by rw[ht];simp
      have h2:(fL s (.wagon x y a b)).farmers.length=s.farmers.length:=by
       have:=AAs List.length hn
       grind [oM]
      rw[<-hf]at c;have r:=d 2 S (aOR (nY (s:=fL s (.wagon x y a b)) (E:=E')) vO vM) AS c;unfold shp;rw[h1,h2,hn];exact r
    cases hwg:dW s.wagons x with
    | none =>
      simp_all
    | some e0 =>
      rw[hwg]at hw;dsimp only at hw;by_cases hbd:e0-500<=b/\b<=e0+500
      .rw[if_pos hbd]at hw
       exact okk hw λe he=>by grind
      .rw[if_neg hbd]at hw
       have he0:=eo1 x;rw[hwg]at he0;obtain⟨i,hi,hEi⟩:∃ i,bR (s.tickets.map (·.wagon)) x=some i/\E i=e0:=by
        cases hq:bR (s.tickets.map (·.wagon)) x with
        | none=>grind
        | some i=>grind
       obtain⟨n,g,v,cl,hr⟩:=rowT i hi;rw[hEi]at hr;exact .no hw (d 0 S S AS (c.2.2.1 f hy hab i hi e0 n g v cl hr hbd))
   .rw[if_pos hab]at hw
    exact .no hw (d 0 S S AS (c.2.1 f hy hab))
end
section
variable{q:Int}{W:List Int}
def sT(W:List Int)(m:Nat):Nat->Int
 | 0=>0
 | i+1=>sT W m i+if m.testBit i then W.getD i 0 else 0
theorem aLT(W:List Int)(m:Nat):∀ n,((List.range n).filter (m.testBit ·)).foldl (wS W) 0=sT W m n
 | 0=>rfl
 | n+1=>by
   rw[J4,List.filter_append,List.foldl_append,aLT W m n,sT];by_cases h:m.testBit n=true;·simp[h,wS]
   .simp[h]
theorem aVx(W:List Int)(m:Nat):∀ d,sT W m (W.length+d)=sT W m W.length
 | 0=>rfl
 | d+1=>by
   rw[<-aE9,sT,aVx W m d,C7,List.getElem?_eq_none AS];simp
theorem aWI(hl:W.length<=9)(m:Nat):sT W m W.length=wgt W m:=by
 have h:=aVx W m (10-W.length);rw[show W.length+(10-W.length)=10 by omega,<-aLT W m 10]at h;exact h.symm
theorem aVy(hW:∀ v∈W,0<=v/\v<=1000000)(m:Nat):∀ i,0<=sT W m i/\sT W m i<=1000000*(i:Int)
 | 0=>by simp[sT]
 | i+1=>by
   have ih:=aVy hW m i;have h0:0<=W.getD i 0/\W.getD i 0<=1000000:=by
    rw[C7];cases h:W[i]? with
    | none=>simp
    | some v=>exact hW v (B3 h)
   grind [sT]
theorem a188(n lo hi:Int):runW progG 168 [I n,I lo,I hi] []=some (.bool (decide (lo<=n)&&decide (n<=hi)),[]):=by
 rw[rq 168 aSz rfl];unfold aSz;dsimp only;rcases mC (lo<=n)with h1|h1
 .have d1:decide (lo<=n)=true:=by simp[h1]
  rw[d1,J2];(exact cI h1)
 .have d1:decide (lo<=n)=false:=by simp[h1]
  rw[d1,N4];(exact cI h1)
theorem a163:runW progG 143 [chA q W] []=some (I W.length,[]):=by
 have ln:=qT W;rw[rq 143 aSF rfl];unfold aSF chA;dsimp only;(exact cI ln)
theorem aPu(hW:∀ v∈W,0<=v/\v<=1000000)(hl:W.length<=9){m:Nat}(hm:m<1024){i:Nat}(hi:i<W.length):bT 0 [1,2,5,6] (execW progG 199 0 none (match aGD with | .loop _ a=>a|c=>c) (aY [1,2,5,6] [I (m:Nat),.pt 0 0,I (sT W m i),I (i:Nat)]) [aa [I q,.fs (wr W)]]) =
 some ([I (m:Nat),.pt 0 0,I (sT W m (i+1)),I (i+1:Nat)],[aa [I q,.fs (wr W)]]):=by
 obtain⟨v,hv⟩:=dO (l:=W) hi;have hr:=aFA hv;have ln:=qT W;have t1:((i:Int)<(W.length:Int))=True:=AAa;have up:=cV (i:=i) (n:=2000) AS AS;have b:=aVy hW m i;have bv:=hW v (B3 hv);have w1:IntKind.i64.wrap (sT W m i+v)=sT W m i+v:=aE AS AS;have be:=aRB zU (a:=m) (i:=i) AS AS;have sh:((i:Int)<0)=False:=AAb;rw[show sT W m (i+1)=sT W m i+if m.testBit i then W.getD i 0 else 0 from rfl,show W.getD i 0=v by grind];generalize sT W m i=u at *;unfold aGD;dsimp only;cases hb:m.testBit i with
 | true =>
   rw[hb,eq_self]at be;rw[if_pos rfl];(exact iS hr ln t1 up w1 be sh)
 | false =>
   rw[hb]at be;have be:=be.trans (AAo I9);rw[if_neg I9,aC9];(exact iS hr ln t1 up be sh aF)
theorem a214(hW:∀ v∈W,0<=v/\v<=1000000)(hl:W.length<=9){m:Nat}(hm:m<1024):runW progG 199 [.agg [I q,.fs (wr W)],I (m:Nat)] []=some (I (wgt W m),[]):=by
 have e0:((W.length:Int)<(W.length:Int))=False:=AAb;have ln:=qT W;have rd:=λi hi=>aPu (q:=q) hW hl hm (i:=i) hi;rw[<-aWI hl m];rw[rq 199 aSo rfl];unfold aSo;dsimp only;sym =>
  simp[Za,Zb,Zf,Zh,Zl,Zm,Zo,Zv,Zz,ZA,ZG,ZS,ZW,Yu,Yw,YH,XI,Wh,Wk,Wl,Wv,WF,Vb,Ve,Vg,Vs,V5,V6,V7,VH,VI,VQ,VY,Ua,Ub,Uc,UC,UR,US,UU,UV,UW,UX,UY,Tb,Tc,Td,Te,Tg,Th,Tl,Tn,Tp,Tr,Tt,Tv,Tw,Ty,T2,T8,TK,TO,TP,TS,TT,TZ,Sa,Sn,Sp,S9,SA,SC,SG,SN,SV,SX,SY,Ra,Rb,Rc,Re,Ri,Rk,Rl,QQ,ln]
  tactic =>
   unfold aGD;rw[aG W.length (λi=>[I (m:Nat),.pt 0 0,I (sT W m i),I (i:Nat)]) (λ_=>[aa [I q,.fs (wr W)]])];·(exact kJ e0 ln)
   .rfl
   .exact rd
   ·(exact kJ e0 ln)
theorem a208(hW:∀ v∈W,0<=v/\v<=1000000)(hl:W.length<=9){m:Nat}(hm:m<1024):runW progG 189 [chA q W,I (m:Nat),I (-1)] []=some (.bool (tT q W m),[]):=by
 have c:=a214 (q:=q) hW hl hm;rw[rq 189 aSs rfl];unfold aSs chA tT;dsimp only;rcases mC (q<=wgt W m)with h1|h1
 .have d1:decide (q<=wgt W m)=true:=by simp[h1]
  have d2:(wgt W m<q)=False:=AAo (by grind);rw[d1];sym =>
   simp[Za,Zb,Ze,Zf,Zg,Zh,Zk,Zl,Zm,Zo,Zp,Zq,Zv,Zy,Zz,ZA,ZG,ZI,ZS,ZW,ZX,ZY,ZZ,Yc,Yj,Yk,Yn,Yo,Yp,Yu,Yv,Yw,Y5,Y6,Y8,YG,YH,YP,YV,YX,YZ,XI,XJ,XM,XO,XX,Wk,Wl,Wv,Ww,Wy,W3,W5,WF,WG,Vb,Vc,Ve,Vg,Vs,V5,V6,V7,V9,VD,VF,VG,VH,VI,VJ,VN,VO,VQ,VV,VW,VX,VY,VZ,Ua,Ub,Uc,Ud,Ue,Uf,Ui,Uj,Uo,Ut,Uu,Uv,Ux,Uy,Uz,U0,UC,UE,UF,UG,UR,US,UU,UV,UW,UX,UY,Tb,Tc,Td,Te,Tg,Th,Ti,Tj,Tl,Tm,Tn,Tp,Tq,Tr,Ts,Tt,Tv,Tw,Ty,Tz,T2,T5,T8,TC,TD,TE,TF,TI,TJ,TK,TL,TM,TN,TO,TP,TQ,TR,TS,TT,TZ,Sa,Sn,Sp,SA,SC,SD,SE,SF,SG,SN,SV,SX,SY,SZ,Ra,Rb,Rc,Re,Rf,Rg,Rh,Ri,Rj,Rk,Rl,Qb,QQ,Pj,Pk,Pm,Pn,Po,Pp,PI,PJ,PK,PL,PM]
   tactic =>
    unfold aJG;rw[aG 1 (λi=>[I (m:Nat),I (-1),.pt 0 0,I (i:Nat)]) (λ_=>[aa [.fs [[I q,.fs (wr W)]]]])];·(exact RT0)
    .rfl
    .intro i hi
     obtain rfl:i=0:=AS
     (exact kJ c d2)
    ·(exact RT0)
 .have d1:decide (q<=wgt W m)=false:=by simp[h1]
  have d2:(wgt W m<q)=True:=AAn (by grind);rw[d1];sym =>
   simp[Za,Zb,Ze,Zf,Zg,Zh,Zk,Zl,Zm,Zo,Zp,Zq,Zv,Zy,Zz,ZA,ZG,ZI,ZS,ZW,ZX,ZY,ZZ,Yc,Yj,Yk,Yn,Yo,Yp,Yu,Yv,Yw,Y5,Y6,Y8,YG,YH,YP,YV,YX,YZ,XI,XJ,XM,XO,XX,Wk,Wl,Wv,Ww,Wy,W3,W5,WF,WG,Vb,Vc,Ve,Vg,Vs,V5,V6,V7,V9,VD,VF,VG,VH,VI,VJ,VN,VO,VQ,VV,VW,VX,VY,VZ,Ua,Ub,Uc,Ud,Ue,Uf,Ui,Uj,Uo,Ut,Uu,Uv,Ux,Uy,Uz,U0,UC,UE,UF,UG,UR,US,UU,UV,UW,UX,UY,Tb,Tc,Td,Te,Tg,Th,Ti,Tj,Tl,Tm,Tn,Tp,Tq,Tr,Ts,Tt,Tv,Tw,Ty,Tz,T2,T5,T8,TC,TD,TE,TF,TI,TJ,TK,TL,TM,TN,TO,TP,TQ,TR,TS,TT,TZ,Sa,Sn,Sp,SA,SC,SD,SE,SF,SG,SN,SV,SX,SY,SZ,Ra,Rb,Rc,Re,Rf,Rg,Rh,Ri,Rj,Rk,Rl,Qb,QQ,Pj,Pk,Pm,Pn,Po,Pp,PI,PJ,PK,PL,PM]
   tactic =>
    unfold aJG;rw[aG 0 (λi=>[I (m:Nat),I (-1),.pt 0 0,I (i:Nat)]) (λ_=>[aa [.fs [[I q,.fs (wr W)]]]])];·(exact kJ c d2)
    .rfl
    .omega
    ·(exact kJ c d2)
theorem a189(hW:∀ v∈W,0<=v/\v<=1000000)(hl:W.length<=9){m:Nat}(hm:m<1024):runW progG 169 [chA q W,I (m:Nat)] []=some (.bool (tT q W m),[]):=by
 have c:=a208 (q:=q) hW hl hm;unfold chA at *;rw[rq 169 aSy rfl];unfold aSy;dsimp only;(exact cI c)
theorem a164(hW:∀ v∈W,0<=v/\v<=1000000)(hl:W.length<=9){i m:Nat}(hi:i<9)(hm:m<512):runW progG 144 [chA q W,I (i:Nat),I (m:Nat)] []=some (.bool (swB q W i m),[]):=by
 have c1:=a189 (q:=q) hW hl (m:=m) AS;have c2:=a189 (q:=q) hW hl (m:=m|||2^i) (aVM (n:=10) AS AS);have be:=aRB zU (a:=m) (i:=i) AS AS;have ba:=aRC zU (a:=m) (i:=i) AS AS;have p2:2^i<=2^9:=G4 AS AS;have bo:=aMk zU (a:=m) (b:=2^i) AS AS;have s1:=aPb zU (i:=i) AS;have s2:=tU zU (i:=i) AS;have sh:((i:Int)<0)=False:=AAb;unfold chA at *;rw[rq 144 aSE rfl];unfold aSE swB;dsimp only;cases hb:m.testBit i with
 | true =>
   rw[hb,if_pos rfl]at ba;rw[aB9,N4];(exact kJ ba sh)
 | false =>
   rw[hb,if_neg I9]at ba;rw[J1,J2];cases h1:tT q W m with
   | true =>
     rw[h1]at c1;rw[aB9,N4];(exact vC ba sh c1)
   | false =>
     rw[h1]at c1;rw[J1,J2];generalize tT q W (m|||2^i)=b at *;generalize m|||2^i=mo at *;generalize 2^i=pw at *;(exact iS ba sh c1 c2 bo s1 s2)
theorem a162(hq:1<=q/\q<=10000000)(hW:∀ v∈W,0<=v/\v<=1000000)(h1:1<=W.length)(hl:W.length<=9):runW progG 142 [chA q W] []=some (I 0,[]):=by
 have ln:=qT W;have c1:=a163 (q:=q) (W:=W);have c2:=a188 q 1 10000000;rw[show (decide (1<=q)&&decide (q<=10000000))=true by grind]at c2;have t1:((W.length:Int)=0)=False:=AAb;have t2:((9:Int)<(W.length:Int))=False:=AAb;have e0:((W.length:Int)<(W.length:Int))=False:=AAb;unfold chA at *;rw[rq 142 aSG rfl];unfold aSG;dsimp only;sym =>
  simp[Za,Zb,Zc,Ze,Zf,Zg,Zh,Zj,Zk,Zl,Zm,Zo,Zv,Zw,Zz,ZA,ZE,ZG,ZI,ZS,ZW,ZX,ZZ,Ya,Yb,Yc,Yf,Yi,Yj,Yk,Yn,Yo,Ys,Yu,Yw,Y5,Y6,Y8,YF,YG,YH,YK,YM,YN,YP,YV,YX,YZ,XI,XM,XO,XX,Wh,Wk,Wl,Wp,Wv,Ww,Wy,W3,W5,WF,Vb,Ve,Vg,Vs,V5,V6,V7,V8,V9,VD,VF,VG,VH,VI,VJ,VK,VN,VO,VQ,VV,VW,VX,VY,VZ,Ua,Ub,Uc,Ud,Ue,Uf,Ui,Uj,Uo,Ut,Uu,Uv,Ux,Uy,Uz,U0,UC,UE,UF,UH,UI,UK,UR,US,UU,UV,UW,UX,UY,Tb,Tc,Td,Te,Tg,Th,Ti,Tj,Tl,Tm,Tn,Tp,Tr,Ts,Tt,Tu,Tv,Tw,Ty,Tz,T2,T5,T8,TB,TC,TD,TE,TF,TI,TJ,TK,TL,TM,TN,TO,TP,TQ,TR,TS,TT,TZ,Sa,Sc,Sn,Sp,S9,SA,SC,SD,SE,SF,SG,SI,SJ,SN,SV,SX,SY,SZ,Ra,Rb,Rc,Re,Rg,Ri,Rj,Rk,Rl,Qb,QQ,Pj,Pk,Pl,Pn,Po,Pp,PI,PJ,PK,PL,PM,c1,t1,t2]
  tactic =>
   unfold aOe;rw[aG 1 (λi=>[.pt 0 0,I (i:Nat)]) (λ_=>[aa [.fs [[I q,.fs (wr W)]]]])];·(exact RT0)
   .rfl
   .intro i hi
    obtain rfl:i=0:=AS
    sym =>
     simp[Za,Zb,Zc,Ze,Zf,Zg,Zh,Zj,Zk,Zl,Zm,Zo,Zv,Zw,Zz,ZA,ZE,ZG,ZI,ZS,ZW,ZX,ZZ,Ya,Yb,Yc,Yf,Yi,Yj,Yk,Yn,Yo,Ys,Yu,Yw,Y5,Y6,Y8,YF,YG,YH,YK,YM,YN,YP,YV,YX,YZ,XI,XM,XO,XX,Wh,Wk,Wl,Wp,Wv,Ww,Wy,W3,W5,WF,Vb,Ve,Vg,Vs,V5,V6,V7,V8,V9,VD,VF,VG,VH,VI,VJ,VK,VN,VO,VQ,VV,VW,VX,VY,VZ,Ua,Ub,Uc,Ud,Ue,Uf,Ui,Uj,Uo,Ut,Uu,Uv,Ux,Uy,Uz,U0,UC,UE,UF,UH,UI,UK,UR,US,UU,UV,UW,UX,UY,Tb,Tc,Td,Te,Tg,Th,Ti,Tj,Tl,Tm,Tn,Tp,Tr,Ts,Tt,Tu,Tv,Tw,Ty,Tz,T2,T5,T8,TB,TC,TD,TE,TF,TI,TJ,TK,TL,TM,TN,TO,TP,TQ,TR,TS,TT,TZ,Sa,Sc,Sn,Sp,S9,SA,SC,SD,SE,SF,SG,SI,SJ,SN,SV,SX,SY,SZ,Ra,Rb,Rc,Re,Rg,Ri,Rj,Rk,Rl,Qb,QQ,Pj,Pk,Pl,Pn,Po,Pp,PI,PJ,PK,PL,PM,c1,c2,ln]
     tactic =>
      unfold aJH;rw[aG W.length (λi=>[.pt 0 0,I 0,.pt 1 0,I (i:Nat)]) (λ_=>[aa [.fs [[I q,.fs (wr W)]]],aa [I q,.fs (wr W)]])];·(exact kJ e0 ln)
      .rfl
      .intro i hi
       obtain⟨v,hv⟩:=dO (l:=W) hi;have hr:=aFA hv;have bv:=hW v (B3 hv);have i1:((i:Int)<(W.length:Int))=True:=AAa;have up:=cV (i:=i) (n:=2000) AS AS;have c3:=a188 v 0 1000000;rw[show (decide (0<=v)&&decide (v<=1000000))=true by grind]at c3;(exact qR i1 hr ln up c3)
      ·(exact kJ e0 ln)
   ·(exact RT0)
def oSl(i:Nat):AV:=if i=0 then .nilsl else .sl 3 0 1 i
def oHp(q:Int)(W:List Int)(i:Nat):XH:=if i=0 then [none,none,aa [.fs [[I q,.fs (wr W)]]]] else [none,none,aa [.fs [[I q,.fs (wr W)]]],aa ((wA q W i).map I)]
theorem aFL(hW:∀ v∈W,0<=v/\v<=1000000)(hl:W.length<=9){i:Nat}(hi:i<W.length){m:Nat}(hm:m<2^W.length):bT 2 [1,5,6,7,8] (execW progG 119 2 none (match aBA with | .loop _ a=>a|c=>c) (aY [1,5,6,7,8] [.pt 2 0,oSl i,I (i:Nat),I (swT q W i m:Nat),I (m:Nat)]) (oHp q W i)) =
 some ([.pt 2 0,oSl i,I (i:Nat),I (swT q W i (m+1):Nat),I (m+1:Nat)],oHp q W i):=by
 have p2:2^W.length<=2^9:=G4 AS hl;have c1:=a163 (q:=q) (W:=W);have c2:=a164 (q:=q) hW hl (i:=i) (m:=m) AS AS;have s1:=aPb zU (i:=W.length) AS;have s2:=tU zU (i:=W.length) AS;have i1:((m:Int)<((2^W.length:Nat):Int))=True:=AAa;have sh:((W.length:Int)<0)=False:=AAb;have up:=cV (i:=m) (n:=2000) AS AS;have le:=aJO q W i m;have up2:IntKind.i64.wrap ((swT q W i m:Int)+1)=(swT q W i m:Int)+1:=aE AS AS;rw[aJN];generalize 2^W.length=N at *;generalize swT q W i m=v at *;unfold chA at *;generalize hw:wr W=R at *;generalize swB q W i m=b at *;unfold aBA oHp;dsimp only;by_cases h0:i=0
 .subst h0
  have e:oSl 0 = .nilsl:=rfl;have z:((0:Nat):Int)=0:=rfl;rw[e,if_pos rfl,hw,z];rw[z]at c2;cases b with
  | true=>(exact kN c1 c2 s1 s2 i1 sh up up2 aF)
  | false=>(exact iS c1 c2 s1 s2 i1 sh up)
 .have e:oSl i = .sl 3 0 1 i:=if_neg h0
  rw[e,if_neg h0,hw];generalize wA q W i=Z at *;cases b with
  | true=>(exact kN c1 c2 s1 s2 i1 sh up up2 aF)
  | false=>(exact iS c1 c2 s1 s2 i1 sh up)
theorem aPv(hW:∀ v∈W,0<=v/\v<=1000000)(hl:W.length<=9){i:Nat}(hi:i<W.length):bT 2 [1,5,6] (execW progG 119 2 none (match aGE with | .loop _ a=>a|c=>c) (aY [1,5,6] [.pt 2 0,oSl i,I (i:Nat)]) (oHp q W i)) =
 some ([.pt 2 0,oSl (i+1),I (i+1:Nat)],oHp q W (i+1)):=by
 have p2:2^W.length<=2^9:=G4 AS hl;have c1:=a163 (q:=q) (W:=W);have s1:=aPb zU (i:=W.length) AS;have s2:=tU zU (i:=W.length) AS;have sh:((W.length:Int)<0)=False:=AAb;have i1:((i:Int)<(W.length:Int))=True:=AAa;have e0:(((2^W.length:Nat):Int)<((2^W.length:Nat):Int))=False:=AAb;have up:=cV (i:=i) (n:=2000) AS AS;have w0:swT q W i 0=0:=rfl;have u1:oSl (i+1) = .sl 3 0 1 (i+1):=if_neg AS;have u2:oHp q W (i+1)=[none,none,aa [.fs [[I q,.fs (wr W)]]],aa ((wA q W i).map I++[I (swg q W i)])]:=by
  unfold oHp;rw[if_neg AS,aOI,M3];rfl
 have b1:((i+1)*8<=1099511627776)=True:=AAa;have b2:(i+1<=1099511627776)=True:=AAa;have lz:=yE q W i;have sg:((swT q W i (2^W.length):Nat):Int)=swg q W i:=rfl;rw[u1,u2];unfold chA at *;unfold aGE;dsimp only;by_cases h0:i=0
 .subst h0
  have e:oSl 0 = .nilsl:=rfl;have e2:oHp q W 0=[none,none,aa [.fs [[I q,.fs (wr W)]]]]:=rfl;have z:((0:Nat):Int)=0:=rfl;have z1:(wA q W 0).map I=[]:=rfl;have i1:((0:Int)<(W.length:Int))=True:=i1;have rd:=λm (hm:m<2^W.length)=>by
   have h:=aFL (q:=q) hW hl hi hm;rw[e,e2,z]at h;exact h
  rw[e,e2,z,z1];sym =>
   simp[Za,Zb,Zd,Ze,Zf,Zg,Zh,Zj,Zl,Zm,Zo,Zv,Z8,ZA,ZW,Yf,Yi,Ym,Yn,Yo,Y8,YD,YH,YN,YP,YZ,XI,XM,XO,XW,XX,Wh,Wv,Wy,W3,W4,W5,Vp,V5,V6,V7,V8,V9,VD,VF,VG,VJ,VK,VN,VO,VQ,VV,VW,VX,VY,VZ,Ua,Ub,Uc,Ud,Ue,Uf,Uh,Ui,Uj,Um,Uo,Ut,Uu,Uv,UC,UE,UF,UH,UI,UK,Th,Ti,Tj,Tl,Tm,Tn,Tp,Ts,Tt,Tu,Tv,Tw,Tx,Ty,Tz,T2,T3,T5,T8,TF,TI,TJ,TK,TL,TM,TN,TO,TP,TQ,TR,TS,TT,Sc,Sd,Se,Sf,Sq,Sr,Ss,Su,S3,S4,S5,S6,S7,S8,S9,SA,SC,SF,SN,SO,SP,SQ,SU,SV,SX,SZ,Ra,Rb,Rc,Re,Rg,Ri,Rj,Rk,Rl,RZ,Qi,Pj,Pk,Pl,Pn,Po,Pp,PI,PJ,PK,PL,c1,s1,s2,sh,i1]
   tactic =>
    unfold aBA;rw[aG (2^W.length) (λm=>[.pt 2 0,.nilsl,I 0,I (swT q W 0 m:Nat),I (m:Nat)]) (λ_=>[none,none,aa [.fs [[I q,.fs (wr W)]]]])]
    .clear rd
     generalize 2^W.length=N at *;generalize swg q W 0=g at *;(exact iS c1 s1 s2 sh e0 sg aF)
    .rfl
    .exact rd
    .clear rd
     generalize 2^W.length=N at *;(exact qR c1 s1 s2 sh e0)
 .have e:oSl i = .sl 3 0 1 i:=if_neg h0
  have e2:oHp q W i=[none,none,aa [.fs [[I q,.fs (wr W)]]],aa ((wA q W i).map I)]:=if_neg h0;have rd:=λm (hm:m<2^W.length)=>by
   have h:=aFL (q:=q) hW hl hi hm;rw[e,e2]at h;exact h
  rw[e,e2];sym =>
   simp[Za,Zb,Zd,Ze,Zf,Zg,Zh,Zj,Zl,Zm,Zo,Zv,Z8,ZA,ZW,Yf,Yi,Ym,Yn,Yo,Y8,YD,YH,YN,YP,YZ,XI,XM,XO,XW,XX,Wh,Wv,Wy,W3,W4,W5,Vp,V5,V6,V7,V8,V9,VD,VF,VG,VJ,VK,VN,VO,VQ,VV,VW,VX,VY,VZ,Ua,Ub,Uc,Ud,Ue,Uf,Uh,Ui,Uj,Um,Uo,Ut,Uu,Uv,UC,UE,UF,UH,UI,UK,Th,Ti,Tj,Tl,Tm,Tn,Tp,Ts,Tt,Tu,Tv,Tw,Tx,Ty,Tz,T2,T3,T5,T8,TF,TI,TJ,TK,TL,TM,TN,TO,TP,TQ,TR,TS,TT,Sc,Sd,Se,Sf,Sq,Sr,Ss,Su,S3,S4,S5,S6,S7,S8,S9,SA,SC,SF,SN,SO,SP,SQ,SU,SV,SX,SZ,Ra,Rb,Rc,Re,Rg,Ri,Rj,Rk,Rl,RZ,Qi,Pj,Pk,Pl,Pn,Po,Pp,PI,PJ,PK,PL,c1,s1,s2,sh,i1]
   tactic =>
    unfold aBA;rw[aG (2^W.length) (λm=>[.pt 2 0,.sl 3 0 1 i,I (i:Nat),I (swT q W i m:Nat),I (m:Nat)]) (λ_=>[none,none,aa [.fs [[I q,.fs (wr W)]]],aa ((wA q W i).map I)])]
    .clear rd
     generalize 2^W.length=N at *;generalize swg q W i=g at *;generalize wA q W i=Z at *;(exact gZ c1 s1 s2 sh e0 sg up b1 b2 lz)
    .rfl
    .exact rd
    .clear rd
     generalize 2^W.length=N at *;(exact qR c1 s1 s2 sh e0)
theorem a139(hq:1<=q/\q<=10000000)(hW:∀ v∈W,0<=v/\v<=1000000)(h1:1<=W.length)(hl:W.length<=9):runW progG 119 [.agg [.sl 0 0 2 1]] [ab [I q,.sl 1 0 1 W.length],aa (W.map I)]=some (.tup [.fs (wr (wA q W W.length)),I 0],[none,none]):=by
 have chw:(W.map λv=>[AV.int .i64 v])=wr W:=rfl;have c1:=a162 hq hW h1 hl;have c2:=a163 (q:=q) (W:=W);have e0:((W.length:Int)<(W.length:Int))=False:=AAb;have rd:=λi (hi:i<W.length)=>aPv (q:=q) hW hl hi;have ch:=aOJ q W W.length;have lz:=yE q W W.length;unfold chA at *;rw[rq 119 aSJ rfl];unfold aSJ;dsimp only;sym =>
  simp[Za,Zb,Zf,Zg,Zh,Zj,Zl,Zm,Zo,Zv,Zz,ZA,ZW,Yf,Yi,Yn,Yo,YG,YH,XI,XM,XN,XO,Wh,Wk,Wl,Wm,Wv,Wy,Wz,W3,WF,WJ,WL,WS,WW,WY,WZ,Vb,Ve,Vf,Vg,Vh,Vs,V5,V6,V7,V8,V9,VD,VF,VG,VH,VQ,VX,VY,VZ,Ua,Ub,Uc,Ue,Uf,Uh,Um,Ut,Uu,Uv,U9,UA,UB,UC,UD,UE,UF,UH,UI,UJ,UK,UL,UM,UN,UO,UR,US,UU,UV,UW,UX,Ta,Tb,Tc,Td,Te,Tg,Th,Tl,Tn,Tp,Tr,Ts,Tt,Tu,Tv,Tw,Tx,Ty,Tz,T2,T3,T8,TB,TF,TG,TJ,TK,TN,TO,TP,TQ,TR,TS,TT,TU,TV,TX,TY,TZ,Sa,Sn,Sp,S9,SA,SC,SF,SN,SV,SX,SY,SZ,Ra,Rb,Rc,Re,Ri,Rk,Rl,RZ,Qa,Qd,Qg,Qm,Qn,QQ,QR,QS,QU,QV,Pj,Pk,Pl,Pn,Po,Pp,PI,PJ,PK,PL,c1,chw]
  tactic =>
   unfold aGE;rw[aG W.length (λi=>[.pt 2 0,oSl i,I (i:Nat)]) (λi=>oHp q W i)]
   .have e:oSl W.length = .sl 3 0 1 W.length:=if_neg AS
    have e2:oHp q W W.length=[none,none,aa [.fs [[I q,.fs (wr W)]]],aa ((wA q W W.length).map I)]:=if_neg AS;have l0:(W.length<=(wA q W W.length).length)=True:=AAa;rw[e,e2];clear rd;(exact qR c2 e0 ch lz l0)
   .rfl
   .exact rd
   .have e:oSl W.length = .sl 3 0 1 W.length:=if_neg AS
    have e2:oHp q W W.length=[none,none,aa [.fs [[I q,.fs (wr W)]]],aa ((wA q W W.length).map I)]:=if_neg AS;rw[e,e2];(exact kJ c2 e0)
end
section
variable{s:CSt}{E:Nat->Int}{x:ByteArray}
theorem aLE(gs:cY s){j:Nat}{p:ByteArray×Int}(hp:s.farmers[j]?=some p):∀ i,i<=s.tickets.length->nT s (j:Int) i=oI (s.tickets.take i) p.1
 | 0,_=>rfl
 | i+1,hi=>by
   obtain⟨k,hk⟩:=dO (l:=s.tickets) (i:=i) AS;have hn:=gs.bt k (B3 hk);obtain⟨m,hm⟩:=yM hn.2.2.1;have hj:(fN s)[j]?=some p.1:=by unfold fN;grind
   have e:(((bR (fN s) k.farmer).getD 0:Nat):Int)=(j:Int)↔k.farmer=p.1:=by
    have hm:bR (fN s) k.farmer=some m:=hm;rw[hm,G5];constructor
    .intro h
     have:m=j:=AS
     subst this;have:=dG hm
     grind
    .intro h
     have hq:bR (fN s) p.1=some j:=aBK gs.nf hj
     grind
   have nu:nT s (j:Int) (i+1)=nT s j i+if k.void=false/\((j:Int)<0\/(((bR (fN s) k.farmer).getD 0:Nat):Int)=j) then k.net else 0:=by rw[nT,hk]
   rw[nu,aLE gs hp i AS,D6,hk];show _=oI (s.tickets.take i++[k]) p.1;rw[aIk]
   grind
theorem aQm(gs:cY s){j:Nat}{p:ByteArray×Int}(hp:s.farmers[j]?=some p):nT s (j:Int) s.tickets.length=p.2:=by
 rw[aLE gs hp _ (B5 _),C9 (B5 _),<-gs.fs p (B3 hp)]
theorem aOD{l:List (ByteArray×Int)}(nd:(l.map (·.1)).Nodup):∀{tk:List zH},(∀ k∈tk,k.farmer∈l.map (·.1))->(l.map λp=>oI tk p.1).sum=(tk.map λk=>if k.void=false then k.net else 0).sum:=by
 have one:∀{l:List (ByteArray×Int)},(l.map (·.1)).Nodup->∀{y:ByteArray}{v:Int},(y∈l.map (·.1)->(l.map λp=>if y=p.1 then v else 0).sum=v)/\(y∉l.map (·.1)->(l.map λp=>if y=p.1 then v else 0).sum=0):=by
  intro l;induction l with
  | nil=>grind
  | cons p l ih =>
    intro nd y v;rw[E7,J9]at nd;simp only[E7,aB8,C4];by_cases h:y=p.1;·simp_all
    .rw[if_neg h]
     exact⟨λq=>by rw[(ih nd.2).1 (q.resolve_left h)];omega,λq=>by simp_all⟩
 intro tk;induction tk with
 | nil =>
   intro _;have:∀ l:List (ByteArray×Int),(l.map λp=>oI [] p.1).sum=0:=by
    intro l;induction l with
    | nil=>rfl
    | cons p l ih=>simp_all [oI]
   grind
 | cons k tk ih =>
   intro hk;have i1:=ih λk' h=>hk k' (D8 _ h);have o:=(one nd (y:=k.farmer) (v:=if k.void=false then k.net else 0)).1 (hk k (by simp));have ad:∀ l:List (ByteArray×Int),(l.map λp=>oI (k::tk) p.1).sum=(l.map λp=>if k.farmer=p.1 then (if k.void=false then k.net else 0) else 0).sum+(l.map λp=>oI tk p.1).sum:=by
    intro l;induction l with
    | nil=>rfl
    | cons p l ih =>
      have e:oI (k::tk) p.1=(if k.farmer=p.1 then (if k.void=false then k.net else 0) else 0)+oI tk p.1:=by
       unfold oI
       grind
      grind
   grind
theorem aXi(gs:cY s):nT s (-1) s.tickets.length=aAa s:=by
 have h:∀ i,i<=s.tickets.length->nT s (-1) i=((s.tickets.take i).map λk=>if k.void=false then k.net else 0).sum:=by
  intro i;induction i with
  | zero=>intro _;rfl
  | succ i ih =>
    intro hi;obtain⟨k,hk⟩:=dO (l:=s.tickets) (i:=i) AS;have nu:nT s (-1) (i+1)=nT s (-1) i+if k.void=false/\((-1:Int)<0\/(((bR (fN s) k.farmer).getD 0:Nat):Int) = -1) then k.net else 0:=by rw[nT,hk]
    rw[nu,ih AS,D6,hk]
    grind
 rw[h _ (B5 _),C9 (B5 _),<-aOD gs.nf λk hk=>(gs.bt k hk).2.2.1];unfold aAa;congr 1;exact I4 λp hp=>(gs.fs p hp).symm
def wS1(W:List Int):Nat->XH
 | 0=>[aa [I 0,.nilsl]]
 | i+1=>[ab [I 0,.sl 2 0 1 (i+1)],aa ((W.take (i+1)).map I)]
theorem aQl(gs:cY s){RM RP RB:List (List AV)}{i:Nat}{p:ByteArray×Int}(hp:s.farmers[i]?=some p):runW progG 82 [.pt 0 0,I (i:Nat)] [rX (fN s) (gV s E) s.tickets.length RM RP RB]=some (I p.2,[rX (fN s) (gV s E) s.tickets.length RM RP RB]):=by
 grind [a105,aQm]
theorem aPx(gs:cY s){RM RP RB:List (List AV)}{f:Nat}{i:Nat}(hi:i<s.farmers.length):bT 1 [0,1,5,6,7] (execW progG 86 1 none (match aLa with | .loop _ a=>a|c=>c) (aY [0,1,5,6,7] [.pt 0 0,I (f:Nat),.pt 1 0,I ((aM s).take i).sum,I (i:Nat)]) (rX (fN s) (gV s E) s.tickets.length RM RP RB::wS1 (aM s) i)) =
 some ([.pt 0 0,I (f:Nat),.pt 1 0,I ((aM s).take (i+1)).sum,I (i+1:Nat)],rX (fN s) (gV s E) s.tickets.length RM RP RB::wS1 (aM s) (i+1)):=by
 obtain⟨p,hp⟩:=dO (l:=s.farmers) hi;have c:=aQl (E:=E) (RM:=RM) (RP:=RP) (RB:=RB) gs hp;have ln:(rS (fN s)).length=s.farmers.length:=by rw[eP];unfold fN;grind
 have t1:((i:Int)<(s.farmers.length:Int))=True:=AAa;have hl:=gs.lf;have hWi:(aM s)[i]?=some (lQ p.2 1000):=by unfold aM;grind
 have tb:=aAB gs _ (B3 hWi);have hs1:((aM s).take (i+1)).sum=((aM s).take i).sum+lQ p.2 1000:=by
  grind [List.take_add_one]
 have b1:=aDi gs (i+1);rw[hs1]at b1;have a1:IntKind.i64.wrap (lQ p.2 1000)=lQ p.2 1000:=aE AS AS;have a2:IntKind.i64.wrap (((aM s).take i).sum+lQ p.2 1000)=((aM s).take i).sum+lQ p.2 1000:=aE AS AS;have up:=cV (i:=i) (n:=2000) AS AS;have lz:((aM s).take i).length=i:=by grind
 have k1:((i+1)*8<=1099511627776)=True:=AAa;have k2:(i+1<=1099511627776)=True:=AAa;have ht1:((aM s).take (i+1)).map I=((aM s).take i).map I++[I (lQ p.2 1000)]:=by
  grind [List.take_add_one]
 have u1:wS1 (aM s) (i+1)=[ab [I 0,.sl 2 0 1 (i+1)],aa (((aM s).take i).map I++[I (lQ p.2 1000)])]:=by
  rw[<-ht1];rfl
 rw[u1,hs1];clear u1 ht1 hs1 hWi;unfold rX at *;generalize fQ (gV s E) s.tickets.length=RT at *;generalize hz:lQ p.2 1000=t at *;unfold aLa;dsimp only;cases i with
 | zero =>
   have e:(aM s).take 0=[]:=rfl;have z:((0:Nat):Int)=0:=rfl;have z2:([]:List Int).sum=0:=rfl;have e2:wS1 (aM s) 0=[aa [I 0,.nilsl]]:=rfl;have a2:IntKind.i64.wrap (0+t)=t:=by grind
   have c:runW progG 82 [.pt 0 0,I 0] _=_:=c;have t1:((0:Int)<(s.farmers.length:Int))=True:=t1;rw[e,e2,z2,Int.zero_add,aA8,z];(exact iS c ln t1 hz a1 a2 up)
 | succ i =>
   have e2:wS1 (aM s) (i+1)=[ab [I 0,.sl 2 0 1 (i+1)],aa (((aM s).take (i+1)).map I)]:=rfl;rw[e2];generalize (aM s).take (i+1)=Z at *;(exact gZ c ln t1 hz a1 a2 up lz k1 k2)
theorem a109(gs:cY s){RM RP RB:List (List AV)}{f:Nat}(hx:bR (fN s) x=some f):runW progG 86 [.pt 0 0,I (f:Nat)] [rX (fN s) (gV s E) s.tickets.length RM RP RB]=some (I (mD s x),[rX (fN s) (gV s E) s.tickets.length RM RP RB]):=by
 have hix:f<s.farmers.length:=by
  have:=(aEd hx).1
  simp_all [fN]
 have hk9:=gs.lf;have ln:(rS (fN s)).length=s.farmers.length:=by simp[rS,fN]
 have e0:((s.farmers.length:Int)<(s.farmers.length:Int))=False:=AAb;have hWl:=wG s;have bd:=aDi gs s.farmers.length;have fin2:(aM s).take s.farmers.length=aM s:=by grind
 rw[fin2]at bd;have td:0<=lQ (aM s).sum 2/\lQ (aM s).sum 2<=300000:=by
  unfold lQ
  grind
 have a1:IntKind.i64.wrap (lQ (aM s).sum 2)=lQ (aM s).sum 2:=aE AS AS;have a2:IntKind.i64.wrap (lQ (aM s).sum 2+1)=qH s:=by rw[aE AS AS];rfl
 have q0:qH s=lQ (aM s).sum 2+1:=rfl;have c139:=a139 (q:=qH s) (W:=aM s) AS (λv hv=>by have:=aAB gs v hv;omega) AS AS;have sl:=yE (qH s) (aM s) (aM s).length;have wl:=qT (wA (qH s) (aM s) (aM s).length);rw[sl]at wl;have sg:(wA (qH s) (aM s) (aM s).length)[f]?=some (swg (qH s) (aM s) f):=by
  unfold wA
  grind
 have wg:=aFA sg;have pw:mD s x=swg (qH s) (aM s) f:=by
  unfold mD;have hx:bR (s.farmers.map (·.1)) x=some f:=hx;rw[hx]
 have ixn:((f:Int)<((aM s).length:Int))=True:=AAa;have rd:=λi hi=>aPx (E:=E) gs (RM:=RM) (RP:=RP) (RB:=RB) (f:=f) (i:=i) hi;rw[pw];rw[rq 86 x86 rfl];unfold x86;dsimp only;unfold rX at *;sym =>
  simp[cN,cO,eZ,Za,Zb,Zc,Zd,Ze,Zf,Zh,Zl,Zm,Zo,Zv,Zw,Z0,Z8,Z9,ZA,ZG,ZI,ZR,ZS,ZW,Ya,Yb,Yf,Yi,Yn,Yo,Yu,Yw,Y5,Y6,Y7,Y8,YH,YM,YN,Xw,Xz,XI,XM,XW,Wh,Wk,Wm,Wp,Wv,Wy,Wz,W3,W4,WF,Vb,Vi,Vp,Vs,Vu,V5,V6,V7,V8,V9,VD,VF,VG,VI,VJ,VK,VL,VN,VQ,VV,VW,VX,VY,VZ,Ua,Ub,Uc,Ue,Uf,Ug,Uh,Ui,Uj,Uk,Un,Uo,Ur,Ut,Uu,Uv,Uw,UC,UR,US,UU,UV,UW,UX,UY,Tb,Tc,Td,Te,Th,Tl,Tn,Tp,Tr,Ts,Tt,Tu,Tv,Tw,Tx,Ty,Tz,T2,T5,T8,TA,TF,TI,TK,TL,TM,TN,TO,TP,TQ,TR,TS,TT,TZ,Sa,Sc,Sd,Se,Sf,Sq,Sr,Ss,Su,S9,SA,SC,SD,SE,SF,SG,SI,SJ,SN,SV,SX,SY,Ra,Rb,Rc,Re,Ri,Rk,Rl,Qi,QQ,PI,PJ,PK,PL,ln]
  tactic =>
   unfold aLa;rw[aG s.farmers.length (λi=>[.pt 0 0,I (f:Nat),.pt 1 0,I ((aM s).take i).sum,I (i:Nat)]) (λi=>(aa [.bool true,.fs (rS (fN s)),.fs (fQ (gV s E) s.tickets.length),.fs RM,.fs RP,.fs RB])::wS1 (aM s) i)]
   .have e2:wS1 (aM s) s.farmers.length=[ab [I 0,.sl 2 0 1 (aM s).length],aa ((aM s).map I)]:=by
     cases hn:s.farmers.length with
     | zero=>omega
     | succ n =>
       have:wS1 (aM s) (n+1)=[ab [I 0,.sl 2 0 1 (n+1)],aa (((aM s).take (n+1)).map I)]:=rfl
       grind
    rw[e2,fin2];clear rd;generalize fQ (gV s E) s.tickets.length=RT at *;generalize wA (qH s) (aM s) (aM s).length=Z at *;generalize swg (qH s) (aM s) f=g at *;(exact kN e0 ln a1 a2 c139 wl wg ixn aF)
   .rfl
   .exact rd
   .have e2:wS1 (aM s) s.farmers.length=[ab [I 0,.sl 2 0 1 (aM s).length],aa ((aM s).map I)]:=by
     cases hn:s.farmers.length with
     | zero=>omega
     | succ n =>
       have:wS1 (aM s) (n+1)=[ab [I 0,.sl 2 0 1 (n+1)],aa (((aM s).take (n+1)).map I)]:=rfl
       grind
    rw[e2];(exact kJ e0 ln)
end
theorem aAo:aN .eql AAz AAz=some (.bool true):=by kernel_rfl
theorem xR:aN .eql AAA AAA=some (.bool true):=by kernel_rfl
theorem nS:aN .eql AAB AAA=some (.bool false):=by kernel_rfl
theorem mK:aN .eql AAB AAB=some (.bool true):=by kernel_rfl
theorem rI:aN .eql AAC AAA=some (.bool false):=by kernel_rfl
theorem pX:aN .eql AAC AAB=some (.bool false):=by kernel_rfl
theorem uP:aN .eql AAC AAC=some (.bool true):=by kernel_rfl
theorem rM:aN .eql AAD AAA=some (.bool false):=by kernel_rfl
theorem pZ:aN .eql AAD AAB=some (.bool false):=by kernel_rfl
theorem uU:aN .eql AAD AAC=some (.bool false):=by kernel_rfl
theorem uV:aN .eql AAD AAD=some (.bool true):=by kernel_rfl
theorem uR:aN .eql AAE AAz=some (.bool false):=by kernel_rfl
theorem pY:aN .eql AAE AAA=some (.bool false):=by kernel_rfl
theorem nU:aN .eql AAE AAB=some (.bool false):=by kernel_rfl
theorem rJ:aN .eql AAE AAC=some (.bool false):=by kernel_rfl
theorem rK:aN .eql AAE AAD=some (.bool false):=by kernel_rfl
theorem uT:aN .eql AAz AAA=some (.bool false):=by kernel_rfl
theorem rL:aN .eql AAz AAB=some (.bool false):=by kernel_rfl
theorem xS:aN .eql AAz AAC=some (.bool false):=by kernel_rfl
theorem xT:aN .eql AAz AAD=some (.bool false):=by kernel_rfl
theorem uQ:aN .eql AAC AAD=some (.bool false):=by kernel_rfl
section
variable{s:CSt}{E:Nat->Int}{x:ByteArray}
theorem aNK:runW progG 31 [.str AAt] []=some (.bool false,[]):=bU.2 ⟨60,by kernel_rfl⟩
theorem aRU:runW progG 31 [.str AAu] []=some (.bool false,[]):=bU.2 ⟨60,by kernel_rfl⟩
theorem aUM:runW progG 31 [.str AAv] []=some (.bool false,[]):=bU.2 ⟨60,by kernel_rfl⟩
theorem aRY:runW progG 31 [.str AAw] []=some (.bool false,[]):=bU.2 ⟨60,by kernel_rfl⟩
theorem aRX:runW progG 31 [.str AAx] []=some (.bool false,[]):=bU.2 ⟨60,by kernel_rfl⟩
theorem aYh:runW progG 31 [.str AAy] []=some (.bool false,[]):=bU.2 ⟨60,by kernel_rfl⟩
theorem aYi:runW progG 31 [.str AAz] []=some (.bool true,[]):=bU.2 ⟨60,by kernel_rfl⟩
theorem aRV:runW progG 31 [.str AAA] []=some (.bool true,[]):=bU.2 ⟨60,by kernel_rfl⟩
theorem aNJ:runW progG 31 [.str AAB] []=some (.bool true,[]):=bU.2 ⟨60,by kernel_rfl⟩
theorem aUN:runW progG 31 [.str AAC] []=some (.bool true,[]):=bU.2 ⟨60,by kernel_rfl⟩
theorem aUO:runW progG 31 [.str AAD] []=some (.bool true,[]):=bU.2 ⟨60,by kernel_rfl⟩
theorem aRW:runW progG 31 [.str AAE] []=some (.bool true,[]):=bU.2 ⟨60,by kernel_rfl⟩
theorem aRS(gs:cY s){n:List (List AV)}:runW progG 32 [.pt 0 0,.fs [[.str AAA]],.fs n] [rC s E]=some (.tup [.str (pJ (aAa s)),I 0],[rC s E]):=by
 have c:=a105 (E:=E) gs (L:=fN s) (RM:=fQ (nN s) s.meters.length) (RP:=fQ (nK s) s.pans.length) (RB:=rS s.book) (j := -1);have b:=aLF gs (-1) s.tickets.length;have hl:=gs.lt;have hb:=gs.book;rw[aXi gs]at c b;have c2:=rdg (v:=aAa s) b.1 AS;have na:(⟨⟨Lib.itoa (aAa s)⟩⟩:ByteArray)=pJ (aAa s):=rfl;rw[na]at c2;generalize pJ (aAa s)=a at *;generalize aAa s=v at *;unfold rX at c;unfold rC;rw[rq 32 vZ rfl];unfold vZ;dsimp only;generalize fQ (gV s E) s.tickets.length=RT at *;generalize fQ (nN s) s.meters.length=RM at *;generalize fQ (nK s) s.pans.length=RP at *;generalize rS s.book=RB at *;(exact vC c c2 xR)
theorem aYg(gs:cY s){n:List (List AV)}:(bR (fN s) x=none->runW progG 32 [.pt 0 0,.fs [[.str AAz],[.str x]],.fs n] [rC s E]=some (.tup [.str ⟨⟨[]⟩⟩,I 5],[rC s E]))/\(∀ f p,bR (fN s) x=some f->s.farmers[f]?=some p->runW progG 32 [.pt 0 0,.fs [[.str AAz],[.str x]],.fs n] [rC s E]=some (.tup [.str (pJ p.2),I 0],[rC s E])):=by
 have c108:=aVZ (x:=x) (L:=fN s) (RT:=fQ (gV s E) s.tickets.length) (RM:=fQ (nN s) s.meters.length) (RP:=fQ (nK s) s.pans.length) (RB:=rS s.book) (by unfold fN;rw[B8];have:=gs.lf;omega);constructor
 .intro hx
  have e:nQ (fN s) x = -1:=by unfold nQ;rw[hx]
  have iv:((-1:Int)<0)=True:=AAa;rw[e]at c108;unfold rC;rw[rq 32 vZ rfl];unfold vZ;dsimp only;generalize fQ (gV s E) s.tickets.length=RT at *;generalize fQ (nN s) s.meters.length=RM at *;generalize fQ (nK s) s.pans.length=RP at *;generalize rS s.book=RB at *;(exact iS c108 iv uT rL xS xT aAo)
 .intro f p hx hp
  have e:nQ (fN s) x=(f:Int):=by unfold nQ;rw[hx]
  have iv:((f:Int)<0)=False:=AAb;rw[e]at c108;have c:=aQl (E:=E) (RM:=fQ (nN s) s.meters.length) (RP:=fQ (nK s) s.pans.length) (RB:=rS s.book) gs hp;have bd:0<=p.2/\p.2<1000000000000:=by
   have h1:=aQm gs hp;have h2:=aLF gs (f:Int) s.tickets.length;have hl:=gs.lt;have hb:=gs.book;omega
  have c2:=rdg bd.1 bd.2;have na:(⟨⟨Lib.itoa p.2⟩⟩:ByteArray)=pJ p.2:=rfl;rw[na]at c2;unfold rX at c;generalize pJ p.2=a at *;generalize p.2=v at *;unfold rC;rw[rq 32 vZ rfl];unfold vZ;dsimp only;generalize fQ (gV s E) s.tickets.length=RT at *;generalize fQ (nN s) s.meters.length=RM at *;generalize fQ (nK s) s.pans.length=RP at *;generalize rS s.book=RB at *;(exact kN c108 iv c c2 uT rL xS xT aAo)
theorem aRT(gs:cY s){n:List (List AV)}:(bR (fN s) x=none->runW progG 32 [.pt 0 0,.fs [[.str AAE],[.str x]],.fs n] [rC s E]=some (.tup [.str ⟨⟨[]⟩⟩,I 5],[rC s E]))/\(∀ f p,bR (fN s) x=some f->s.farmers[f]?=some p->runW progG 32 [.pt 0 0,.fs [[.str AAE],[.str x]],.fs n] [rC s E]=some (.tup [.str (pJ (mD s x)),I 0],[rC s E])):=by
 have c108:=aVZ (x:=x) (L:=fN s) (RT:=fQ (gV s E) s.tickets.length) (RM:=fQ (nN s) s.meters.length) (RP:=fQ (nK s) s.pans.length) (RB:=rS s.book) (by unfold fN;rw[B8];have:=gs.lf;omega);constructor
 .intro hx
  have e:nQ (fN s) x = -1:=by unfold nQ;rw[hx]
  have iv:((-1:Int)<0)=True:=AAa;rw[e]at c108;unfold rC;rw[rq 32 vZ rfl];unfold vZ;dsimp only;generalize fQ (gV s E) s.tickets.length=RT at *;generalize fQ (nN s) s.meters.length=RM at *;generalize fQ (nK s) s.pans.length=RP at *;generalize rS s.book=RB at *;(exact iS c108 iv pY nU rJ rK uR)
 .intro f p hx hp
  have e:nQ (fN s) x=(f:Int):=by unfold nQ;rw[hx]
  have iv:((f:Int)<0)=False:=AAb;rw[e]at c108;have c:=a109 (E:=E) gs (RM:=fQ (nN s) s.meters.length) (RP:=fQ (nK s) s.pans.length) (RB:=rS s.book) hx;have bd:0<=(mD s x)/\(mD s x)<1000000000000:=by
   have:=aOG (q:=qH s) (W:=aM s) (i:=f) (by rw[wG];exact gs.lf);have hx:bR (s.farmers.map (·.1)) x=some f:=hx;unfold mD
   grind
  have c2:=rdg bd.1 bd.2;have na:(⟨⟨Lib.itoa (mD s x)⟩⟩:ByteArray)=pJ (mD s x):=rfl;rw[na]at c2;unfold rX at c;generalize pJ (mD s x)=a at *;generalize (mD s x)=v at *;unfold rC;rw[rq 32 vZ rfl];unfold vZ;dsimp only;generalize fQ (gV s E) s.tickets.length=RT at *;generalize fQ (nN s) s.meters.length=RM at *;generalize fQ (nK s) s.pans.length=RP at *;generalize rS s.book=RB at *;(exact kN c108 iv c c2 pY nU rJ rK uR)
theorem aUK(gs:cY s){n:List (List AV)}:(bR (s.meters.map (·.1)) x=none->runW progG 32 [.pt 0 0,.fs [[.str AAC],[.str x]],.fs n] [rC s E]=some (.tup [.str ⟨⟨[]⟩⟩,I 5],[rC s E]))/\(∀ f p,bR (s.meters.map (·.1)) x=some f->s.meters[f]?=some p->runW progG 32 [.pt 0 0,.fs [[.str AAC],[.str x]],.fs n] [rC s E]=some (.tup [.str (pJ p.2.2),I 0],[rC s E])):=by
 have c107:=aSa (x:=x) (L:=s.meters.map (·.1)) (F:=nN s) (by rw[B8];have:=gs.lm;omega) (λi y h=>by
  rw[C3,B2]at h;obtain⟨p,hp,rfl⟩:=h
  simp_all [nN])
 rw[B8]at c107;have ln:(fQ (nN s) s.meters.length).length=s.meters.length:=oJ;constructor
 .intro hx
  have e:nQ (s.meters.map (·.1)) x = -1:=by unfold nQ;rw[hx]
  have iv:((-1:Int)<0)=True:=AAa;rw[e]at c107;unfold rC;rw[rq 32 vZ rfl];unfold vZ;dsimp only;generalize fQ (gV s E) s.tickets.length=RT at *;generalize fQ (nN s) s.meters.length=RM at *;generalize fQ (nK s) s.pans.length=RP at *;generalize rS s.book=RB at *;(exact iS c107 iv rI pX uP uQ aF)
 .intro f p hx hp
  have e:nQ (s.meters.map (·.1)) x=(f:Int):=by unfold nQ;rw[hx]
  have iv:((f:Int)<0)=False:=AAb;rw[e]at c107;have hf:=(B6.1 hp).1;have i1:((f:Int)<(s.meters.length:Int))=True:=AAa;have ra:=aDD (F:=nN s) hf;rw[show nN s f=[.str p.1,I p.2.2,I p.2.1] by unfold nN;rw[hp]]at ra;have bd:0<=p.2.2/\p.2.2<1000000000000:=by
   have:=gs.bm p (B3 hp);have hb:=gs.book;omega
  have c2:=rdg bd.1 bd.2;have na:(⟨⟨Lib.itoa p.2.2⟩⟩:ByteArray)=pJ p.2.2:=rfl;rw[na]at c2;generalize pJ p.2.2=a at *;generalize p.2.2=v at *;unfold rC;rw[rq 32 vZ rfl];unfold vZ;dsimp only;generalize fQ (gV s E) s.tickets.length=RT at *;generalize fQ (nN s) s.meters.length=RM at *;generalize fQ (nK s) s.pans.length=RP at *;generalize rS s.book=RB at *;(exact gZ c107 iv i1 ra ln c2 rI pX uP uQ)
theorem aUL(gs:cY s){n:List (List AV)}:(bR (s.pans.map (·.1)) x=none->runW progG 32 [.pt 0 0,.fs [[.str AAD],[.str x]],.fs n] [rC s E]=some (.tup [.str ⟨⟨[]⟩⟩,I 5],[rC s E]))/\(∀ f p,bR (s.pans.map (·.1)) x=some f->s.pans[f]?=some p->runW progG 32 [.pt 0 0,.fs [[.str AAD],[.str x]],.fs n] [rC s E]=some (.tup [.str (pJ p.2),I 0],[rC s E])):=by
 have c107:=aSa (x:=x) (L:=s.pans.map (·.1)) (F:=nK s) (by rw[B8];have:=gs.lp;omega) (λi y h=>by
  rw[C3,B2]at h;obtain⟨p,hp,rfl⟩:=h
  simp_all [nK])
 rw[B8]at c107;have ln:(fQ (nK s) s.pans.length).length=s.pans.length:=oJ;constructor
 .intro hx
  have e:nQ (s.pans.map (·.1)) x = -1:=by unfold nQ;rw[hx]
  have iv:((-1:Int)<0)=True:=AAa;rw[e]at c107;unfold rC;rw[rq 32 vZ rfl];unfold vZ;dsimp only;generalize fQ (gV s E) s.tickets.length=RT at *;generalize fQ (nN s) s.meters.length=RM at *;generalize fQ (nK s) s.pans.length=RP at *;generalize rS s.book=RB at *;(exact iS c107 iv rM pZ uU uV aF)
 .intro f p hx hp
  have e:nQ (s.pans.map (·.1)) x=(f:Int):=by unfold nQ;rw[hx]
  have iv:((f:Int)<0)=False:=AAb;rw[e]at c107;have hf:=(B6.1 hp).1;have i1:((f:Int)<(s.pans.length:Int))=True:=AAa;have ra:=aDD (F:=nK s) hf;rw[show nK s f=[.str p.1,I p.2,I 0] by unfold nK;rw[hp]]at ra;have bd:0<=p.2/\p.2<1000000000000:=by
   have:=gs.bp p (B3 hp);have hb:=gs.book;omega
  have c2:=rdg bd.1 bd.2;have na:(⟨⟨Lib.itoa p.2⟩⟩:ByteArray)=pJ p.2:=rfl;rw[na]at c2;generalize pJ p.2=a at *;generalize p.2=v at *;unfold rC;rw[rq 32 vZ rfl];unfold vZ;dsimp only;generalize fQ (gV s E) s.tickets.length=RT at *;generalize fQ (nN s) s.meters.length=RM at *;generalize fQ (nK s) s.pans.length=RP at *;generalize rS s.book=RB at *;(exact gZ c107 iv i1 ra ln c2 rM pZ uU uV)
theorem aNI(gs:cY s){i:Nat}{u:ByteArray}:(s.tickets[i]?=none->runW progG 32 [.pt 0 0,.fs [[.str AAB],[.str u]],.fs [[I 0],[I (i:Nat)]]] [rC s E]=some (.tup [.str ⟨⟨[]⟩⟩,I 5],[rC s E]))/\(∀ k,s.tickets[i]?=some k->runW progG 32 [.pt 0 0,.fs [[.str AAB],[.str u]],.fs [[I 0],[I (i:Nat)]]] [rC s E]=some (.tup [.str (tkT k),I 0],[rC s E])):=by
 have ln:(fQ (gV s E) s.tickets.length).length=s.tickets.length:=oJ;constructor
 .intro hi
  have h:=N7.1 hi;have e1:((s.tickets.length:Int)<=(i:Int))=True:=AAa;unfold rC;rw[rq 32 vZ rfl];unfold vZ;dsimp only;generalize fQ (gV s E) s.tickets.length=RT at *;generalize fQ (nN s) s.meters.length=RM at *;generalize fQ (nK s) s.pans.length=RP at *;generalize rS s.book=RB at *;(exact rR e1 ln nS mK)
 .intro k hk
  have h:=(B6.1 hk).1;have e1:((s.tickets.length:Int)<=(i:Int))=False:=AAb;have e2:((i:Int)<(s.tickets.length:Int))=True:=AAa;have hr:=aDD (F:=gV s E) h;rw[wH hk]at hr;have hn:=gs.bt k (B3 hk);obtain⟨m,hm⟩:=yM hn.2.2.1;have hm:bR (fN s) k.farmer=some m:=hm;rw[hm,G5]at hr;have c:=a106 (k:=k) (e:=E i) (f:=m) (cl:=decide (i<s.closed)) (RT:=fQ (gV s E) s.tickets.length) (RM:=fQ (nN s) s.meters.length) (RP:=fQ (nK s) s.pans.length) (RB:=rS s.book) (dG hm) (by unfold fN;rw[B8];have:=gs.lf;omega) hn.2.2.2.1 hn.2.2.2.2 ⟨hn.1,hn.2.1⟩;generalize tkT k=a at *;generalize decide (i<s.closed)=cl at *;generalize E i=ei at *;clear hk hn hm;obtain⟨kw,kf,kn,kv⟩:=k;dsimp only at *;unfold rC;rw[rq 32 vZ rfl];unfold vZ;dsimp only;generalize fQ (gV s E) s.tickets.length=RT at *;generalize fQ (nN s) s.meters.length=RM at *;generalize fQ (nK s) s.pans.length=RP at *;generalize rS s.book=RB at *;(exact iS e1 e2 ln hr c nS mK)
end
section
variable{s:CSt}{E:Nat->Int}{x line w0 a:ByteArray}{ws ns:List (List AV)}{e:Int}{B:Option XB}
theorem aAq{F:Nat->List AV}{m:Nat}(r:Rw F m)(n:Nat):bK (cK F n) 0 m n=fQ F n:=by
 have h:∀ k,k<=n->bK (cK F n) ((n-k)*m) m k=(fQ F n).drop (n-k):=by
  intro k;induction k with
  | zero=>simp[bK,fQ]
  | succ k ih =>
    intro hk;have hi:n-(k+1)<n:=AS
    rw[bK,aUk r hi,show (n-(k+1))*m+m=(n-k)*m by rw[show n-k=(n-(k+1))+1 by omega,Nat.succ_mul],ih AS]
    grind [List.drop_eq_getElem_cons,fQ]
 have:=h n (B5 _)
 grind
def RB(s:CSt)(E:Nat->Int)(B:Option XB):Prop:=B=rC s E\/(B=rN/\s=dP)
def Shp(n:Nat)(B:Option XB):Prop:=(∃ a b c d e,e.length=n/\B=aa [.bool true,.fs a,.fs b,.fs c,.fs d,.fs e])\/n=0/\B=aa [.bool true,.nilsl,.nilsl,.nilsl,.nilsl,.nilsl]
theorem mA(h:RB s E B):Shp s.book.length B:=by
 rcases h with rfl|⟨rfl,rfl⟩;·exact .inl ⟨_,_,_,_,_,eP _,rfl⟩
 .exact .inr ⟨rfl,rfl⟩
theorem bCC{n:Nat}(hB:Shp n B)(c64:runW progG 30 [.str line] []=some (.tup [.fs [],.fs [],I e],[]))(he:0<e/\e<100):runW progG 9 [.pt 0 0,.str line] [B]=some (.str (wC e),[B]):=by
 have e0:(e=0)=False:=AAb;have c63:=a63 (e:=e) AS he.2;generalize wC e=z at *;rw[rq 9 x9 rfl];unfold x9;dsimp only;rcases hB with ⟨a1,a2,a3,a4,a5,hl,rfl⟩|⟨hl,rfl⟩;all_goals (exact vC c64 e0 c63)
theorem aZi{n:Nat}(hB:Shp n B)(c64:runW progG 30 [.str line] []=some (.tup [.fs ws,.fs ns,I 0],[]))(r0:ws[0]?=some [.str w0])(c65:runW progG 31 [.str w0] []=some (.bool true,[]))(c66:runW progG 32 [.pt 0 0,.fs ws,.fs ns] [B]=some (.tup [.str a,I e],[B]))(he:0<=e/\e<100):runW progG 9 [.pt 0 0,.str line] [B]=some (.str (if e=0 then a else wC e),[B]):=by
 have wl:((0:Int)<(ws.length:Int))=True:=AAn (by grind);have c63:=a63 he.1 he.2;generalize wC e=z at *;rw[rq 9 x9 rfl];unfold x9;dsimp only;rcases mC (e=0)with e0|e0
 all_goals
  rcases hB with ⟨a1,a2,a3,a4,a5,hl,rfl⟩|⟨hl,rfl⟩;all_goals (exact iS c64 r0 c65 c66 wl e0 c63)
abbrev cpC(nF nT nM nP nB:Nat)(CF CT CM CP CB:List AV):XH:=[some (.blk false (.cells true [.bool true,.sl 2 0 1 nF,.sl 3 0 6 nT,.sl 4 0 3 nM,.sl 5 0 3 nP,.sl 6 0 1 nB])),kL CF,kL CT,kL CM,kL CP,kL CB]
theorem bCB{nF nT nM nP nB mF mT mM mP mB k:Nat}(hB:Shp mB B){CF CT CM CP CB DF DT DM DP DB:List AV}{QF QT QM QP QK:List (List AV)}(S:Sms CF CT CM CP CB)(S2:Sms DF DT DM DP DB)(hk:k<5)
 (c64:runW progG 30 [.str line] []=some (.tup [.fs ws,.fs ns,I 0],[])) (r0:ws[0]?=some [.str w0]) (c65:runW progG 31 [.str w0] []=some (.bool false,[]))
 (c67:runW progG 33 [.pt 0 0] [B]=some (.pt 1 0,B::cpC nF nT nM nP nB CF CT CM CP CB)) (c68:runW progG 34 [.pt 0 0,.fs ws,.fs ns] (hC nF nT nM nP nB CF CT CM CP CB)=some (I e,hK k mF mT mM mP mB DF DT DM DP DB)) (he:0<=e/\e<100)
 (lF:DF.length=mF) (lT:DT.length=mT*6) (lM:DM.length=mM*3) (lP:DP.length=mP*3) (lB:DB.length=mB) (hb:mB<=300) (k1:bK DF 0 1 mF=QF) (k2:bK DT 0 6 mT=QT) (k3:bK DM 0 3 mM=QM) (k4:bK DP 0 3 mP=QP) (k5:bK (DB++[.str line]) 0 1 (mB+1)=QK) :
 runW progG 9 [.pt 0 0,.str line] [B]=some (if e≠0 then (.str (wC e),[B]) else if mB=300 then (.str (wC 15),[B]) else (.str ⟨⟨[111,107]⟩⟩,[aa [.bool true,.fs QF,.fs QT,.fs QM,.fs QP,.fs QK]])):=by
 have wl:((0:Int)<(ws.length:Int))=True:=AAn (by grind);have c63:=a63 he.1 he.2;have c15:=a63 (e:=15) AS AS;generalize wC 15=z2 at *;generalize wC e=z at *;rw[rq 9 x9 rfl];unfold x9;dsimp only;have y1:(mF<=DF.length)=True:=AAa;have y2:(mT*6<=DT.length)=True:=AAa;have y3:(mM*3<=DM.length)=True:=AAa;have y4:(mP*3<=DP.length)=True:=AAa;have g1:((mB+1)*16<=1099511627776)=True:=AAa;have g2:(mB+1<=1099511627776)=True:=AAa;rcases mC (e=0)with e0|e0
 .have e1:=AAl e0
  rw[if_neg (show ¬e≠0 from λq=>q e1)];rcases mC ((mB:Int)=300)with bf|bf
  .have hf:=AAl bf
   rw[if_pos (show mB=300 by omega)];rcases hB with ⟨a1,a2,a3,a4,a5,hl,rfl⟩|⟨hl,_⟩
   .rcases lt5 hk with rfl|rfl|rfl|rfl|rfl
    all_goals (simp only[hK,aCG]at c68; (exact eK c64 r0 c65 wl c67 c68 e0 c15 bf hl S S2 aF))
   .omega
  .have hf:=AAm bf
   rw[if_neg (show ¬mB=300 by omega)];rcases hB.imp id (λh=>And.intro lB h.2)with ⟨a1,a2,a3,a4,a5,hl,rfl⟩|⟨hl,rfl⟩
   all_goals
    rcases lt5 hk with rfl|rfl|rfl|rfl|rfl;all_goals (simp only[hK,aCG]at c68; (exact iW c64 r0 c65 wl c67 c68 e0 bf hl g1 g2 lB k1 k2 k3 k4 k5 y1 y2 y3 y4 S S2 aF aF aF))
 .rw[if_pos (show e≠0 from AAm e0)]
  rcases hB with ⟨a1,a2,a3,a4,a5,hl,rfl⟩|⟨hl,rfl⟩
  all_goals
   rcases lt5 hk with rfl|rfl|rfl|rfl|rfl;all_goals (simp only[hK,aCG]at c68; (exact gZ c64 r0 c65 wl c67 c68 e0 c63 S S2))
theorem aZh(hB:RB s E B)(gs:cY s)(c64:runW progG 30 [.str line] []=some (.tup [.fs ws,.fs ns,I 0],[]))(r0:ws[0]?=some [.str w0])(c65:runW progG 31 [.str w0] []=some (.bool false,[])){s1:CSt}{E1:Nat->Int}{k:Nat}(hk:k<5)(hbk:s1.book=s.book)(c68:runW progG 34 [.pt 0 0,.fs ws,.fs ns] (shp s E 0)=some (I e,shp s1 E1 k))(he:0<=e/\e<100) :
 runW progG 9 [.pt 0 0,.str line] [B]=some (if e≠0 then (.str (wC e),[B]) else if s.book.length=300 then (.str (wC 15),[B]) else (.str ⟨⟨[111,107]⟩⟩,[rC { s1 with book:=s.book++[line] } E1])):=by
 have h1:=gs.lf;have h2:=gs.lt;have h3:=gs.lm;have h4:=gs.lp;have h5:=gs.book;have c67:runW progG 33 [.pt 0 0] [B]=some (.pt 1 0,B::cpH s E):=by
  rcases hB with rfl|⟨rfl,rfl⟩;all_goals grind [a67,bFn]
 have k1:=wJ (fN s1);rw[oM]at k1;have k5:=wJ (s.book++[line]);rw[E6,aA1,show bQ (s.book++[line])=bQ s.book++[.str line] by simp[bQ],<-hbk]at k5;have r:=bCB (by grind [mA]) sms sms hk c64 r0 c65 c67 c68 he (by rw[bY,oM]) (fU nY _) (fU vO _) (fU vM _) (bY _) (by grind) k1 (aAq nY _) (aAq vO _) (aAq vM _) k5;rw[hbk]at r;exact r
end
section
variable{s:ByteArray}
theorem aCx{i:Nat}(h:i<s.size):∃ x,(bN s).getD i 0=x/\x<256/\((s.data.toList.getD i 0).toNat:Int)=(x:Int):=by
 grind [aBy]
def gF(s:ByteArray):Nat->List ByteArray×Nat
 | 0=>([],0)
 | i+1=>if (bN s).getD i 0=32 then ((gF s i).1++[fK s (gF s i).2 i],i+1) else gF s i
theorem aOO:∀{a:List UInt8},32∉a->eC 32 a=[a]
 | [],_=>rfl
 | b::r,h=>by
   have hb:b≠32:=λe=>h (by simp[e]);have ih:=aOO (a:=r) λe=>h (D8 _ e)
   grind [eC]
theorem aOP:∀{a b:List UInt8},32∉a->eC 32 (a++32::b)=a::eC 32 b
 | [],b,_=>by
   rfl
 | c::r,b,h=>by
   have hc:c≠32:=λe=>h (by simp[e]);have ih:=aOP (a:=r) (b:=b) λe=>h (D8 _ e)
   grind [eC]
theorem aGP{s:ByteArray}:∀ i,(gF s i).2<=i/\(gF s i).1.length<=i
 | 0=>⟨B5 _,B5 _⟩
 | i+1=>by
   have h:=aGP (s:=s) i;unfold gF;split;·simp;omega
   .omega
theorem aLo{s:ByteArray}:∀ i,i<=s.size->32∉(s.data.toList.drop (gF s i).2).take (i-(gF s i).2)/\(gF s i).1.map (·.data.toList)++eC 32 (s.data.toList.drop (gF s i).2)=eC 32 s.data.toList
 | 0,_=>by simp[gF]
 | i+1,hi=>by
   obtain⟨h1,h2⟩:=aLo (s:=s) i AS;have hl:=(aGP (s:=s) i).1;have hil:i<s.data.toList.length:=by rw[G7];exact hi
   have hb:(bN s).getD i 0=(s.data.toList[i]'hil).toNat:=by
    grind [bN]
   have ht:(s.data.toList.drop (gF s i).2).take (i+1-(gF s i).2)=(s.data.toList.drop (gF s i).2).take (i-(gF s i).2)++[s.data.toList[i]'hil]:=by
    rw[show i+1-(gF s i).2=(i-(gF s i).2)+1 by omega,D6,List.getElem?_drop,show (gF s i).2+(i-(gF s i).2)=i by omega,B7 hil];rfl
   have hd:s.data.toList.drop (gF s i).2=(s.data.toList.drop (gF s i).2).take (i-(gF s i).2)++(s.data.toList[i]'hil)::s.data.toList.drop (i+1):=by
    have e:=List.take_append_drop (i-(gF s i).2) (s.data.toList.drop (gF s i).2);rw[aB4,show (gF s i).2+(i-(gF s i).2)=i by omega,N6 hil]at e
    grind
   by_cases h:(bN s).getD i 0=32
   .have hx:s.data.toList[i]'hil=32:=UInt8.toNat_inj.1 (by grind)
    rw[hx]at hd;rw[gF,if_pos h]
    grind [aOP,fK]
   .rw[gF,if_neg h]
    refine⟨?_,h2⟩;rw[ht,C8,D2];rintro (q|q);·exact h1 q
    .exact h (by rw[hb,<-q];rfl)
theorem aTq(s:ByteArray):(gF s s.size).1++[fK s (gF s s.size).2 s.size]=cA s:=by
 obtain⟨h1,h2⟩:=aLo (s:=s) s.size (B5 _);have hl:s.data.toList.length=s.size:=G7;have et:(s.data.toList.drop (gF s s.size).2).take (s.size-(gF s s.size).2)=s.data.toList.drop (gF s s.size).2:=C9 (by grind);rw[et]at h1;rw[aOO h1]at h2;unfold cA;rw[<-h2,M3,aB0];unfold fK;rw[et];have:(gF s s.size).1.map ((λl=>(⟨⟨l⟩⟩:ByteArray))∘λx=>x.data.toList)=(gF s s.size).1:=by
  conv=>rhs;rw[<-List.map_id (gF s s.size).1]
  rfl
 grind
def wSl(A:List ByteArray):AV:=if A.length=0 then .nilsl else .sl 0 0 1 A.length
def wHp(A:List ByteArray):XH:=if A.length=0 then [] else [aa (bQ A)]
theorem aWn(A:List ByteArray)(x:ByteArray):wSl (A++[x]) = .sl 0 0 1 (A.length+1)/\wHp (A++[x])=[aa (bQ A++[.str x])]:=by
 simp[wSl,wHp,bQ]
theorem aPA(hs:s.size<=1000){i:Nat}(hi:i<s.size):bT 0 [0,3,4,5] (execW progG 78 0 none (match aIb with | .loop _ a=>a|c=>c) (aY [0,3,4,5] [.str s,wSl (gF s i).1,I ((gF s i).2:Nat),I (i:Nat)]) (wHp (gF s i).1)) =
 some ([.str s,wSl (gF s (i+1)).1,I ((gF s (i+1)).2:Nat),I (i+1:Nat)],wHp (gF s (i+1)).1):=by
 obtain⟨x,x1,x2,x3⟩:=aCx hi;obtain⟨hl,hm⟩:=aGP (s:=s) i;have t1:((i:Int)<(s.size:Int))=True:=AAa;have i2:(i<s.size)=True:=AAn hi;have up:=cV (i:=i) (n:=2000) AS AS;rw[gF,x1];by_cases h:x=32
 .have e1:((x:Int)=32)=True:=AAa
  obtain⟨u1,u2⟩:=aWn (gF s i).1 (fK s (gF s i).2 i);rw[if_pos h];dsimp only;rw[u1,u2];have g1:(((gF s i).2:Int)<=(i:Int))=True:=AAa;have g2:((i:Int)<=(s.size:Int))=True:=AAa;have g0:((0:Int)<=((gF s i).2:Int))=True:=AAa;have g00:((0:Int)<=(i:Int))=True:=AAa;have n1:(((gF s i).2:Int)).toNat=(gF s i).2:=H7 _;have n2:((i:Int)).toNat=i:=H7 _;have b1:(((gF s i).1.length+1)*16<=1099511627776)=True:=AAa;have b2:((gF s i).1.length+1<=1099511627776)=True:=AAa;generalize hA:(gF s i).1=A at *;generalize (gF s i).2=a at *;have tl:=bY A;have gr:=bP A;unfold aIb;dsimp only;by_cases h0:A.length=0
  .obtain rfl:=D0 h0
   have s0:wSl [] = .nilsl:=rfl;have s1:wHp []=[]:=rfl;have s2:bQ []=[]:=rfl;have s3:([]:List ByteArray).length=0:=rfl;rw[s0,s1,s2,s3];(exact eK t1 i2 x3 e1 up g1 g2 g0 g00 n1 n2 aF aF)
  .have s0:wSl A = .sl 0 0 1 A.length:=if_neg h0
   have s1:wHp A=[aa (bQ A)]:=if_neg h0;rw[s0,s1];(exact eD t1 i2 x3 e1 up g1 g2 g0 g00 n1 n2 tl gr b1 b2 aU aR aT aF aF)
 .have e1:((x:Int)=32)=False:=AAb
  rw[if_neg h];generalize (gF s i).2=a at *;generalize (gF s i).1=A at *;unfold aIb;dsimp only;by_cases h0:A.length=0
  .have s0:wSl A = .nilsl:=if_pos h0
   have s1:wHp A=[]:=if_pos h0;rw[s0,s1];(exact qR t1 i2 x3 e1 up)
  .have s0:wSl A = .sl 0 0 1 A.length:=if_neg h0
   have s1:wHp A=[aa (bQ A)]:=if_neg h0;rw[s0,s1];(exact kN t1 i2 x3 e1 up aU aR aT aF)
theorem a101(hs:s.size<=1000):runW progG 78 [.str s] []=some (.fs (rS (cA s)),[]):=by
 have e0:((s.size:Int)<(s.size:Int))=False:=AAb;obtain⟨hl,hm⟩:=aGP (s:=s) s.size;have he:=aTq s;have g1:(((gF s s.size).2:Int)<=(s.size:Int))=True:=AAa;have g0:((0:Int)<=((gF s s.size).2:Int))=True:=AAa;have n1:(((gF s s.size).2:Int)).toNat=(gF s s.size).2:=H7 _;have b1:(((gF s s.size).1.length+1)*16<=1099511627776)=True:=AAa;have b2:((gF s s.size).1.length+1<=1099511627776)=True:=AAa;have rd:=λi (hi:i<s.size)=>aPA (s:=s) hs hi;rw[<-he];have s0:wSl (gF s 0).1 = .nilsl:=rfl;have s1:wHp (gF s 0).1=[]:=rfl;have s2:(gF s 0).2=0:=rfl;have ch:=wJ ((gF s s.size).1++[fK s (gF s s.size).2 s.size]);rw[E6,aA1]at ch;rw[show bQ ((gF s s.size).1++[fK s (gF s s.size).2 s.size])=bQ (gF s s.size).1++[.str (fK s (gF s s.size).2 s.size)] by simp[bQ]]at ch;rw[rq 78 x78 rfl];unfold x78;dsimp only;sym =>
  simp[Zb,Zf,Zh,Zl,Zv,Vd,Tr,T2,TZ,Sa,SX,Rb,Rc,Rl,e0]
  tactic =>
   unfold aIb;rw[aG s.size (λi=>[.str s,wSl (gF s i).1,I ((gF s i).2:Nat),I (i:Nat)]) (λi=>wHp (gF s i).1)]
   .clear rd he
    generalize (gF s s.size).1=A at *;generalize (gF s s.size).2=a at *;have tl:=bY A;have gr:=bP A;by_cases h0:A.length=0
    .obtain rfl:=D0 h0
     have s0:wSl [] = .nilsl:=rfl;have s1:wHp []=[]:=rfl;rw[s0,s1];(exact rR e0 g1 g0 n1)
    .have s0:wSl A = .sl 0 0 1 A.length:=if_neg h0
     have s1:wHp A=[aa (bQ A)]:=if_neg h0;rw[s0,s1];(exact eK e0 g1 g0 n1 tl gr b1 b2 ch aU aR aT aF)
   .rfl
   .exact rd
   .by_cases h0:(gF s s.size).1.length=0
    .have s0:wSl (gF s s.size).1 = .nilsl:=if_pos h0
     have s1:wHp (gF s s.size).1=[]:=if_pos h0;rw[s0,s1];(exact cI e0)
    .have s0:wSl (gF s s.size).1 = .sl 0 0 1 (gF s s.size).1.length:=if_neg h0
     have s1:wHp (gF s s.size).1=[aa (bQ (gF s s.size).1)]:=if_neg h0;rw[s0,s1];(exact cI e0)
def kcL:List AV:=fmL.flatMap λp=>[.str p.1,.str p.2]
def kdB(w:ByteArray):ByteArray:=match fmL.find? (λp=>decide (w=p.1))with
 | some p=>p.2
 | none=>⟨⟨[63]⟩⟩
theorem aQz:∀ i,i<12->∃ p,fmL[i]?=some p/\kcL[2*i]?=some (.str p.1)/\kcL[2*i+1]?=some (.str p.2):=by
 intro i hi;rcases (by omega:i=0\/i=1\/i=2\/i=3\/i=4\/i=5\/i=6\/i=7\/i=8\/i=9\/i=10\/i=11)with rfl|rfl|rfl|rfl|rfl|rfl|rfl|rfl|rfl|rfl|rfl|rfl<;>exact⟨_,rfl,rfl,rfl⟩
theorem bAg{w:ByteArray}{m:Nat}(h:∀ i,i<m->∀ p,fmL[i]?=some p->¬w=p.1):(∀ p,fmL[m]?=some p->w=p.1->kdB w=p.2)/\(m=12->kdB w=⟨⟨[63]⟩⟩):=by
 constructor
 .intro p hp hw
  grind [List.find?_eq_some_iff_getElem,List.getElem?_eq_some_iff,kdB]
 .intro hm
  unfold kdB;have e:fmL.find? (λp=>decide (w=p.1))=none:=by
   rw[List.find?_eq_none];intro p hp;obtain⟨i,hi⟩:=I5.1 hp;have:=h i (by have h1:=(B6.1 hi).1;simp_all [fmL]) p hi
   grind
  rw[e]
theorem a102(w:ByteArray):runW progG 79 [.str w] []=some (.str (kdB w),[]):=by
 obtain⟨m,m1,m2,m3⟩:=gW (λi=>match fmL[i]? with|some p => !decide (p.1=w)|none=>false) 12;have hne:∀ i,i<m->∀ p,fmL[i]?=some p->¬w=p.1:=λi hi p hp e=>by
  grind
 obtain⟨k1,k2⟩:=bAg hne;have gr:lE kcL=true:=by kernel_rfl
 have nm:mI kcL=[]:=by kernel_rfl
 have sl:slL kcL=[]:=by kernel_rfl
 have rn:∀ f,mR f kcL=kcL:=λf=>rfl;have ln:kcL.length=24:=by kernel_rfl
 have kc:kcL=[.str AAt,.str ⟨⟨[102]⟩⟩,.str AAu,.str AAH,.str AAv,.str ⟨⟨[110]⟩⟩,.str AAw,.str ⟨⟨[]⟩⟩,.str AAx,.str ⟨⟨[109,110]⟩⟩,.str AAy,.str AAI,.str AAz,.str ⟨⟨[102]⟩⟩,.str AAA,.str ⟨⟨[]⟩⟩,.str AAB,.str ⟨⟨[110]⟩⟩,.str AAC,.str ⟨⟨[109]⟩⟩,.str AAD,.str ⟨⟨[112]⟩⟩,.str AAE,.str ⟨⟨[102]⟩⟩]:=rfl;have lp:∀ i,i<12->(((2*i:Nat):Int)<((24:Nat):Int))=True:=λi hi=>AAa;have hfl:(List.replicate 24 [AV.str ⟨⟨[]⟩⟩]).flatten=[.str ⟨⟨[]⟩⟩,.str ⟨⟨[]⟩⟩,.str ⟨⟨[]⟩⟩,.str ⟨⟨[]⟩⟩,.str ⟨⟨[]⟩⟩,.str ⟨⟨[]⟩⟩,.str ⟨⟨[]⟩⟩,.str ⟨⟨[]⟩⟩,.str ⟨⟨[]⟩⟩,.str ⟨⟨[]⟩⟩,.str ⟨⟨[]⟩⟩,.str ⟨⟨[]⟩⟩,.str ⟨⟨[]⟩⟩,.str ⟨⟨[]⟩⟩,.str ⟨⟨[]⟩⟩,.str ⟨⟨[]⟩⟩,.str ⟨⟨[]⟩⟩,.str ⟨⟨[]⟩⟩,.str ⟨⟨[]⟩⟩,.str ⟨⟨[]⟩⟩,.str ⟨⟨[]⟩⟩,.str ⟨⟨[]⟩⟩,.str ⟨⟨[]⟩⟩,.str ⟨⟨[]⟩⟩]:=rfl;rw[rq 79 x79 rfl];unfold x79;dsimp only;sym =>
  simp[Za,Zb,Zd,Ze,Zf,Zh,Zl,Zm,Zo,Zv,Z8,ZA,ZI,ZS,ZW,Yx,Y4,Y8,YH,YM,YN,XI,XL,XW,Wj,Wv,Wx,W4,WH,Vd,Vr,V5,V6,V7,V9,VF,VG,VJ,VN,VO,VQ,VV,VW,VY,Ua,Ub,Uc,Ud,Ui,Uj,Uo,UC,UR,US,UU,UV,UW,UX,UY,Tb,Tc,Td,Te,Th,Ti,Tj,Tl,Tm,Tn,Tp,Tq,Tr,Ts,Tt,Tu,Tv,Tw,Ty,Tz,T2,T5,T8,TF,TI,TJ,TK,TL,TM,TO,TP,TQ,TR,TS,TT,TZ,Sa,Sc,Sd,Se,Sf,Sq,Sr,S9,SA,SC,SG,SN,SV,SW,SX,SY,SZ,Ra,Rb,Rc,Re,Rf,Rg,Rh,Ri,Rj,Rk,Rl,RZ,Qa,Qb,QQ,hfl]
  tactic =>
   unfold aVe;rw[<-kc];rw[aG m (λi=>[.str w,.sl 0 0 1 24,I (2*i:Nat)]) (λ_=>[aa kcL])]
   .clear kc
    by_cases hm:m=12
    .rw[k2 hm,hm]
     generalize kcL=KC at *;(exact qR gr nm sl rn ln)
    .obtain⟨p,hp,p1,p2⟩:=aQz m AS
     have hw:p.1=w:=by
      grind
     rw[k1 p hp hw.symm];have e1:=jH p.1 w;rw[AAj hw]at e1;have l1:=lp m AS;have l2:(2*m<24)=True:=AAa;have l3:(((2*m:Nat):Int)+1<24)=True:=AAa;have u1:IntKind.i64.wrap (((2*m:Nat):Int)+1)=((2*m+1:Nat):Int):=by grind [aE]
     have l4:(((2*m+1:Nat):Int)<((24:Nat):Int))=True:=AAa;clear m2 m3 hne k1 k2;generalize kcL=KC at *;generalize 2*m+1=M1 at *;generalize 2*m=M0 at *;(exact eK gr nm sl rn ln p1 p2 e1 l1 l2 l4 u1 aF)
   .rfl
   .intro i hi
    obtain⟨p,hp,p1,p2⟩:=aQz i AS;have hw:¬p.1=w:=λe=>hne i hi p hp e.symm;have e1:=jH p.1 w;rw[AAk hw]at e1;have l1:=lp i AS;have u1:IntKind.i64.wrap (((2*i:Nat):Int)+2)=((2*(i+1):Nat):Int):=by grind [aE]
    clear m2 m3 hne k1 k2 kc;generalize 2*(i+1)=M1 at *;generalize 2*i=M0 at *;generalize kcL=KC at *;(exact kN gr nm sl rn ln p1 e1 l1 u1)
   .clear kc
    by_cases hm:m=12
    .rw[hm]
     generalize kcL=KC at *;(exact qR gr nm sl rn ln)
    .obtain⟨p,hp,p1,p2⟩:=aQz m AS
     have hw:p.1=w:=by
      grind
     have e1:=jH p.1 w;rw[AAj hw]at e1;have l1:=lp m AS;have u1:IntKind.i64.wrap (((2*m:Nat):Int)+1)=((2*m+1:Nat):Int):=by grind [aE]
     have l4:(((2*m+1:Nat):Int)<((24:Nat):Int))=True:=AAa;clear m2 m3 hne k1 k2;generalize kcL=KC at *;generalize 2*m+1=M1 at *;generalize 2*m=M0 at *;(exact eK gr nm sl rn ln p1 p2 e1 l1 l4 u1 aF aF)
def nvl(f:List Nat)(i:Nat):Nat:=(f.take i).foldl (λn x=>10*n+(x-48)) 0
theorem aQi{f:List Nat}{i x:Nat}(h:f[i]?=some x):nvl f (i+1)=10*nvl f i+(x-48):=by
 grind [List.take_add_one,nvl]
def dgB(x:Nat):Bool:=decide (48<=x)&&decide (x<=57)
def aEb(s:ByteArray):Int:=if 1<=s.size/\s.size<=5/\¬(1<s.size/\(bN s).getD 0 0=48)/\∀ i,i<s.size->dgB ((bN s).getD i 0)=true then (nvl (bN s) s.size:Int) else -1
theorem aKj{f:List Nat}(h:∀ i,i<f.length->dgB (f.getD i 0)=true):∀ i,i<=f.length->nvl f i<10^i
 | 0,_=>by simp[nvl]
 | i+1,hi=>by
   have ih:=aKj h i AS;obtain⟨x,hx⟩:=dO (l:=f) (i:=i) AS;have hb:=h i AS;rw[C7,hx]at hb;simp only[dgB,G5,B4,AAg]at hb
   grind [aQi]
theorem aPz{i:Nat}(hs:s.size<=1000)(hi:i<s.size)(hb:dgB ((bN s).getD i 0)=true)(hv:nvl (bN s) i<=1000000):bT 0 [0,3,4] (execW progG 81 0 none (match aHZ with | .loop _ a=>a|c=>c) (aY [0,3,4] [.str s,I (nvl (bN s) i:Nat),I (i:Nat)]) []) =
 some ([.str s,I (nvl (bN s) (i+1):Nat),I (i+1:Nat)],[]):=by
 obtain⟨x,x1,x2,x3⟩:=aCx hi;obtain⟨x',h1,_,_⟩:=aBy hi;obtain rfl:x'=x:=AS
 rw[x1]at hb;simp only[dgB,B4,AAg]at hb;have i1:((i:Int)<(s.size:Int))=True:=AAa;have i2:(i<s.size)=True:=AAn hi;have y1:((x':Int)<48)=False:=AAb;have y2:((57:Int)<(x':Int))=False:=AAb;have y3:IntKind.u8.wrap ((x':Int)-48)=(x':Int)-48:=by
  simp[IntKind.wrap,IntKind.bits,IntKind.signed];omega
 have y4:IntKind.i64.wrap ((x':Int)-48)=(x':Int)-48:=aE AS AS;have y5:IntKind.i64.wrap (10*(nvl (bN s) i:Int))=10*(nvl (bN s) i:Int):=aE AS AS;have y6:IntKind.i64.wrap (10*(nvl (bN s) i:Int)+((x':Int)-48))=((10*nvl (bN s) i+(x'-48):Nat):Int):=by grind [aE]
 have up:IntKind.i64.wrap ((i:Int)+1)=(i:Int)+1:=aE AS AS;rw[aQi h1];generalize nvl (bN s) i=v at *;generalize 10*v+(x'-48)=v2 at *;unfold aHZ;dsimp only;(exact gZ i1 i2 x3 y1 y2 y3 y4 y5 y6 up)
theorem a104(hs:s.size<=1000):runW progG 81 [.str s] []=some (I (aEb s),[]):=by
 have c39:=a39 (s.size:Int) 1 5;have bl:=mN s;by_cases h1:1<=s.size/\s.size<=5
 .have d1:(decide ((1:Int)<=(s.size:Int))&&decide ((s.size:Int)<=5))=true:=by simp;omega
  rw[d1]at c39;by_cases h2:1<s.size/\(bN s).getD 0 0=48
  .rw[aEb,if_neg (λh=>h.2.2.1 h2)]
   obtain⟨x,x1,x2,x3⟩:=aCx (s:=s) (i:=0) AS;have t1:((1:Int)<(s.size:Int))=True:=AAa;have t2:((x:Int)=48)=True:=AAa;have t3:(0<s.size)=True:=AAa;have t4:((0:Int)<(s.size:Int))=True:=AAa;rw[rq 81 x81 rfl];unfold x81;dsimp only;(exact iS c39 t1 t2 t3 t4 x3 aF)
  .have pre:∃ b:Bool,((1:Int)<(s.size:Int))=(b=true)/\(b=true->(((s.data.toList.getD 0 0).toNat:Int)=48)=False):=by
    refine⟨decide (1<s.size),by simp;omega,λhb=>?_⟩;have hb:=of_decide_eq_true hb;obtain⟨x,x1,x2,x3⟩:=aCx (s:=s) (i:=0) AS
    grind
   obtain⟨m,m1,m2,m3⟩:=gW (λi=>dgB ((bN s).getD i 0)) s.size;have e0:((s.size:Int)<(s.size:Int))=False:=AAb;have t3:(0<s.size)=True:=AAa;have t4:((0:Int)<(s.size:Int))=True:=AAa;have bd:∀ i,i<m->nvl (bN s) i<=1000000:=λi hi=>by
    have h:=aKj (f:=(bN s).take m) (λj hj=>by
     grind) i (by grind)
    have e:nvl ((bN s).take m) i=nvl (bN s) i:=by unfold nvl;grind
    rw[e]at h;have:10^i<=10^5:=G4 AS AS;omega
   obtain⟨b,hb1,hb2⟩:=pre;have hR:m=s.size->aEb s=(nvl (bN s) s.size:Nat):=λhm=>by
    rw[aEb,if_pos ⟨h1.1,h1.2,h2,λi hi=>m2 i AS⟩]
   have hRn:m<s.size->dgB ((bN s).getD m 0)=false->aEb s = -1:=λhm hb=>by
    rw[aEb,if_neg (λh=>by grind)]
   have rd:=λi (hi:i<m)=>aPz (s:=s) (i:=i) hs AS (m2 i hi) (bd i hi);rw[rq 81 x81 rfl];unfold x81;dsimp only;cases b
   .have hb1:((1:Int)<(s.size:Int))=False:=by grind
    sym =>
     simp[Za,Zb,Zf,Zh,Zl,Zm,Zp,Zq,Zr,Zs,Zt,Zu,Zv,Zy,ZA,ZE,ZK,ZS,Yf,Yi,Yn,Yo,Yp,Yq,Ys,Yz,YF,YH,YK,YM,YN,YV,Xy,XI,Wv,Ww,WF,Vb,Vd,VG,VH,VQ,VX,VY,VZ,Ub,Uc,Ue,Uf,Ut,Uu,Uv,UC,UR,US,UU,UV,UW,UX,UY,Tb,Tc,Td,Te,Tg,Th,Tl,Tm,Tn,Tp,Tq,Tr,Ts,Tt,Tv,Tw,Ty,T2,TB,TC,TF,TJ,TK,TN,TO,TP,TQ,TR,TZ,Sa,S9,SV,SX,SY,SZ,Ra,Rb,Rc,Re,Rf,Rh,Ri,Rk,Rl,QQ,PI,PJ,PK,PL,c39,t3,t4,hb1,e0]
     tactic =>
      unfold aHZ;rw[aG m (λi=>[.str s,I (nvl (bN s) i:Nat),I (i:Nat)]) (λ_=>[])]
      .rcases m3 with hm|⟨hm,hbad⟩
       .rw[hR hm,hm]
        (exact cI e0)
       .rw[hRn hm hbad]
        obtain⟨x,x1,x2,x3⟩:=aCx hm;have i1:((m:Int)<(s.size:Int))=True:=AAa;have i2:(m<s.size)=True:=AAn hm;rw[x1]at hbad;by_cases q:x<48
        .have y1:((x:Int)<48)=True:=AAa
         (exact rR i1 i2 x3 y1)
        .have y1:((x:Int)<48)=False:=AAb
         have y2:((57:Int)<(x:Int))=True:=AAn (by simp[dgB]at hbad;omega);(exact qR i1 i2 x3 y1 y2)
      .rfl
      .exact rd
      .rcases m3 with hm|⟨hm,hbad⟩
       .rw[hm]
        (exact cI e0)
       .obtain⟨x,x1,x2,x3⟩:=aCx hm
        have i1:((m:Int)<(s.size:Int))=True:=AAa;have i2:(m<s.size)=True:=AAn hm;rw[x1]at hbad;by_cases q:x<48
        .have y1:((x:Int)<48)=True:=AAa
         (exact rR i1 i2 x3 y1)
        .have y1:((x:Int)<48)=False:=AAb
         have y2:((57:Int)<(x:Int))=True:=AAn (by simp[dgB]at hbad;omega);(exact qR i1 i2 x3 y1 y2)
   .have hb2:=hb2 rfl
    have hb1:((1:Int)<(s.size:Int))=True:=by grind
    sym =>
     simp[Za,Zb,Zf,Zh,Zl,Zm,Zp,Zq,Zr,Zs,Zt,Zu,Zv,Zy,ZA,ZE,ZK,ZS,Yf,Yi,Yn,Yo,Yp,Yq,Ys,Yz,YF,YH,YK,YM,YN,YV,Xy,XI,Wv,Ww,WF,Vb,Vd,VG,VH,VQ,VX,VY,VZ,Ub,Uc,Ue,Uf,Ut,Uu,Uv,UC,UR,US,UU,UV,UW,UX,UY,Tb,Tc,Td,Te,Tg,Th,Tl,Tm,Tn,Tp,Tq,Tr,Ts,Tt,Tv,Tw,Ty,T2,TB,TC,TF,TJ,TK,TN,TO,TP,TQ,TR,TZ,Sa,S9,SV,SX,SY,SZ,Ra,Rb,Rc,Re,Rf,Rh,Ri,Rk,Rl,QQ,PI,PJ,PK,PL,c39,t3,t4,hb1,hb2,e0]
     tactic =>
      unfold aHZ;rw[aG m (λi=>[.str s,I (nvl (bN s) i:Nat),I (i:Nat)]) (λ_=>[])]
      .rcases m3 with hm|⟨hm,hbad⟩
       .rw[hR hm,hm]
        (exact cI e0)
       .rw[hRn hm hbad]
        obtain⟨x,x1,x2,x3⟩:=aCx hm;have i1:((m:Int)<(s.size:Int))=True:=AAa;have i2:(m<s.size)=True:=AAn hm;rw[x1]at hbad;by_cases q:x<48
        .have y1:((x:Int)<48)=True:=AAa
         (exact rR i1 i2 x3 y1)
        .have y1:((x:Int)<48)=False:=AAb
         have y2:((57:Int)<(x:Int))=True:=AAn (by simp[dgB]at hbad;omega);(exact qR i1 i2 x3 y1 y2)
      .rfl
      .exact rd
      .rcases m3 with hm|⟨hm,hbad⟩
       .rw[hm]
        (exact cI e0)
       .obtain⟨x,x1,x2,x3⟩:=aCx hm
        have i1:((m:Int)<(s.size:Int))=True:=AAa;have i2:(m<s.size)=True:=AAn hm;rw[x1]at hbad;by_cases q:x<48
        .have y1:((x:Int)<48)=True:=AAa
         (exact rR i1 i2 x3 y1)
        .have y1:((x:Int)<48)=False:=AAb
         have y2:((57:Int)<(x:Int))=True:=AAn (by simp[dgB]at hbad;omega);(exact qR i1 i2 x3 y1 y2)
 .rw[aEb,if_neg (λh=>h1 ⟨h.1,h.2.1⟩)]
  have d1:(decide ((1:Int)<=(s.size:Int))&&decide ((s.size:Int)<=5))=false:=by
   grind
  rw[d1]at c39;rw[rq 81 x81 rfl];unfold x81;dsimp only;(exact cI c39)
end
section
variable{F w0 line:ByteArray}{xs:List ByteArray}
theorem aLK(hf:aV true (.str w0) fmE=some (some (.str F))):(w0,F)∈fmL/\kdB w0=F:=by
 grind [aCY,kdB,fmE]
theorem aXD:(fmL.all λp=>decide (p.2≠⟨⟨[63]⟩⟩)&&(List.range p.2.size).all λi=>decide (((p.2.data.toList.getD i 0).toNat:Int)=dk p.2 i))=true:=by kernel_rfl
theorem aLU(h:(w0,F)∈fmL):F≠⟨⟨[63]⟩⟩/\∀ i,i<F.size->((F.data.toList.getD i 0).toNat:Int)=dk F i:=by
 have h:=D5.1 aXD _ h
 grind
def pE(e:Int):AV:=.tup [.fs [],.fs [],I e]
def pV(r:ByteArray×List ByteArray×List Int):AV:=.tup [.fs (rS (r.1::r.2.1)),.fs ((0::r.2.2).map λv=>[I v]),I 0]
theorem aPs(l:Ln line w0 xs F){i:Nat}(hi:i<F.size){y:ByteArray}(hy:xs[i]?=some y)(hn:dk F i=110\/aZ y=true) :
 bT 0 [5,6,7] (execW progG 30 0 none (match aDf with | .loop _ a=>a|c=>c) (aY [5,6,7] [.fs (rS (w0::xs)),.str F,I (i:Nat)]) [])=some ([.fs (rS (w0::xs)),.str F,I (i+1:Nat)],[]):=by
 obtain⟨hl,hF,ok,hs⟩:=l.ws;have fb:=(aLU (aLK l.hf).1).2 i hi;have d1:(i<F.size)=True:=AAn hi;have d3:((i:Int)<(F.size:Int))=True:=AAa;have rl:=eP (w0::xs);rw[D7,hl]at rl;have ra:(rS (w0::xs))[i+1]?=some [.str y]:=by grind [rS]
 have h103:=bBu y (by grind);have up:=cV (i:=i) (n:=2000) AS AS;have up1:IntKind.i64.wrap ((i:Int)+1)=((i+1:Nat):Int):=by rw[up];rfl
 have d4:(((i+1:Nat):Int)<((F.size+1:Nat):Int))=True:=AAa;generalize rS (w0::xs)=R at *;unfold aDf;dsimp only;by_cases h1:dk F i=110
 .have e1:(dk F i=110)=True:=AAn h1
  (exact qR d1 d3 fb e1 up1)
 .have e1:(dk F i=110)=False:=AAo h1
  rw[hn.resolve_left h1]at h103;generalize hi1:i+1=i1 at *;(exact kN d1 d3 fb e1 up1 rl ra h103 d4)
theorem aPd{α:Type}(a:α)(l:List α)(i:Nat)(v:α):aDp (a::l) (i+1) v=a::aDp l i v:=by simp[aDp]
theorem aPr(nR:∀ s,aEb s=(cH s).getD (-1))(l:Ln line w0 xs F){i:Nat}(hi:i<F.size){y:ByteArray}(hy:xs[i]?=some y)(hn:dk F i=110->∃ v,cH y=some v) :
 bT 0 [5,6,8,9] (execW progG 30 0 none (match aFy with | .loop _ a=>a|c=>c) (aY [5,6,8,9] [.fs (rS (w0::xs)),.str F,.sl 0 0 1 (F.size+1),I (i:Nat)]) [aa ((0::kX F xs i).map I)]) =
  some ([.fs (rS (w0::xs)),.str F,.sl 0 0 1 (F.size+1),I (i+1:Nat)],[aa ((0::kX F xs (i+1)).map I)]):=by
 obtain⟨hl,hF,ok,hs⟩:=l.ws;have fb:=(aLU (aLK l.hf).1).2 i hi;have d1:(i<F.size)=True:=AAn hi;have d3:((i:Int)<(F.size:Int))=True:=AAa;have rl:=eP (w0::xs);rw[D7,hl]at rl;have ra:(rS (w0::xs))[i+1]?=some [.str y]:=by grind [rS]
 have c104:=a104 (s:=y) (by grind);have up:=cV (i:=i) (n:=2000) AS AS;have up1:IntKind.i64.wrap ((i:Int)+1)=((i+1:Nat):Int):=by rw[up];rfl
 have d4:(((i+1:Nat):Int)<((F.size+1:Nat):Int))=True:=AAa;have d5:(i+1+1<=F.size+1)=True:=AAa;generalize rS (w0::xs)=R at *;by_cases h1:dk F i=110
 .obtain⟨v,hv⟩:=hn h1
  obtain⟨_,v2,v3,_⟩:=fY hv;rw[nR,hv,G5]at c104;have e1:(dk F i=110)=True:=AAn h1;have st:=aPd 0 (kX F xs i) i v;rw[<-aQj hi hy h1 hv]at st;have nl:(0::kX F xs i).length=F.size+1:=by grind [uD]
  have gt:(aDp (0::kX F xs i) (i+1) v)[i+1]?=some v:=by grind [aAF]
  rw[st]at gt;have sl:(0::kX F xs (i+1)).length=F.size+1:=by grind [uD]
  have vz:(v<0)=False:=AAb;generalize (0:Int)::kX F xs (i+1)=N1 at *;generalize (0:Int)::kX F xs i=N0 at *;unfold aFy;dsimp only;generalize i+1=i1 at *;(exact eD d1 d3 fb e1 up1 rl ra c104 d4 d5 st nl gt sl vz aF aF aF aF aF)
 .have e1:(dk F i=110)=False:=AAo h1
  rw[aQk h1];generalize (0:Int)::kX F xs i=N0 at *;unfold aFy;dsimp only;(exact qR d1 d3 fb e1 up1)
end
def vF(n x:Nat):Nat:=10*n+(x-48)
def vL(l:List UInt8):Nat:=(l.map UInt8.toNat).foldl vF 0
theorem aVu:∀(l:List Nat)(a:Nat),a<=l.foldl vF a
 | [],a=>B5 _
 | x::l,a=>by
   have:=aVu l (vF a x);rw[aB1];unfold vF at *;omega
theorem aWt(l:List UInt8)(c:UInt8):vL (l++[c])=10*vL l+(c.toNat-48):=by
 unfold vL;simp[vF]
theorem aRh:∀(n:Nat)(l:List UInt8),l.length=n->l≠[]->(∀ c∈l,48<=c.toNat/\c.toNat<=57)->(1<l.length->∀ c,l.head?=some c->c.toNat≠48)->Lib.decDigits (vL l)=l
 | 0,l,hn,h0,_,_=>absurd (D0 hn) h0
 | n+1,l,hn,h0,hd,hh=>by
   obtain⟨l',c,rfl⟩:∃ l' c,l=l'++[c]:=⟨_,_,(List.dropLast_concat_getLast h0).symm⟩;rw[E6,aA1]at hn;have hc:=hd c (by simp);have hcc:UInt8.ofNat (48+(c.toNat-48))=c:=by
    simp_all
   rw[aWt];cases l' with
   | nil =>
     show Lib.decDigits (10*0+(c.toNat-48))=[c];rw[Nat.mul_zero,J6,Lib.decDigits,AAq AS,hcc]
   | cons a r =>
     have ha:=hd a (by simp);have hne:=hh (by simp) a (by simp);have hv:1<=vL (a::r):=by
      have:=aVu (r.map UInt8.toNat) (a.toNat-48)
      grind [vL,vF]
     have ih:=aRh n (a::r) AS (by simp) (λx hx=>hd x (I3 _ hx)) (λ_ x hx=>by
      grind)
     rw[Lib.decDigits,AAr AS,show (10*vL (a::r)+(c.toNat-48))/10=vL (a::r) by omega,ih,show (10*vL (a::r)+(c.toNat-48))%10=c.toNat-48 by omega,hcc]
theorem aRi:∀(f n:Nat),n<10^(f+1)->1<=(Lib.decDigits n).length/\(Lib.decDigits n).length<=f+1/\(1<(Lib.decDigits n).length->∀ c,(Lib.decDigits n).head?=some c->c.toNat≠48)
 | f, n, hn=>by
   by_cases h10:n<10
   .rw[Lib.decDigits,AAq h10]
    grind
   .cases f with
    | zero=>omega
    | succ f =>
      obtain⟨i1,i2,i3⟩:=aRi f (n/10) AS;rw[Lib.decDigits,AAr h10];refine⟨by simp,by simp;omega,λ_ c hc=>?_⟩;obtain⟨a,r,hr⟩:=aKJ (n/10);rw[hr]at hc i3;have hca:c=a:=by grind
      subst hca;by_cases h1:1<(c::r).length;·grind
      .have hr0:r=[]:=by grind
       subst hr0;by_cases h100:n/10<10
       .rw[Lib.decDigits,AAq h100]at hr
        grind [tK]
       .rw[Lib.decDigits,AAr h100]at hr
        obtain⟨a',r',hr'⟩:=aKJ (n/10/10)
        grind
theorem aFU(s:ByteArray):aEb s=(cH s).getD (-1):=by
 have bl:=mN s;have hl:s.data.toList.length=s.size:=G7;have bt:∀ i (h:i<s.size),(bN s).getD i 0=(s.data.toList[i]'AS).toNat:=λi h=>by
  grind [bN]
 by_cases hc:1<=s.size/\s.size<=5/\¬(1<s.size/\(bN s).getD 0 0=48)/\∀ i,i<s.size->dgB ((bN s).getD i 0)=true
 .rw[aEb,if_pos hc]
  obtain⟨h1,h2,h3,h4⟩:=hc;have hd:∀ c∈s.data.toList,48<=c.toNat/\c.toNat<=57:=λc hcm=>by
   grind [List.mem_iff_getElem?,dgB]
  have e:nvl (bN s) s.size=vL s.data.toList:=by
   unfold nvl vL;rw[C9 AS];rfl
  have dv:=aRh _ s.data.toList rfl (λh=>by grind) hd (λhlt c hcm=>by
   grind [List.head?_eq_getElem?])
  have bd:=aKj (f:=bN s) (λi hi=>h4 i AS) s.size AS;have p5:10^s.size<=10^5:=G4 AS h2;have hs:dg (nvl (bN s) s.size)=s:=by
   unfold dg;rw[e,dv]
  grind [aTR]
 .rw[aEb,if_neg hc]
  cases hn:cH s with
  | none=>rfl
  | some v =>
    exfalso;obtain⟨_,v0,v1,v2⟩:=fY hn;obtain⟨n,rfl⟩:=M7 v0;rw[aEm]at v2;have hsz:s.size=(Lib.decDigits n).length:=by grind
    have ht:s.data.toList=Lib.decDigits n:=by rw[<-v2]
    obtain⟨s1,s2,s3⟩:=aRi 4 n AS;have da:=aDc 5 n AS
    grind [List.head?_eq_getElem?,dgB]
section
variable{F w0 line:ByteArray}{xs:List ByteArray}
theorem aUP(h:40<line.size):runW progG 30 [.str line] []=some (pE 14,[]):=by
 have t:((40:Int)<(line.size:Int))=True:=AAa;unfold pE;rw[rq 30 x30 rfl];unfold x30;dsimp only;(exact cI t)
theorem aTV{f:ByteArray}{b:Bool}(hf:aBi true (.str ⟨⟨[]⟩⟩) (aV true (.str w0) fmE)=some (.tup [.str f,.bool b])):(b=true->kdB w0=f/\f≠⟨⟨[63]⟩⟩)/\(b=false->kdB w0=⟨⟨[63]⟩⟩):=by
 have h:=aCY (w:=w0) fmL;unfold fmE at hf;rw[h]at hf;cases hx:fmL.find? (λp=>decide (w0=p.1))with
 | none =>
   rw[hx]at hf;have hf:some (AV.tup [.str ⟨⟨[]⟩⟩,.bool false])=some (.tup [.str f,.bool b]):=hf
   grind [kdB]
 | some p =>
   rw[hx]at hf;have hf:some (AV.tup [.str p.2,.bool true])=some (.tup [.str f,.bool b]):=hf
   grind [aLU,kdB]
theorem aUQ{f:ByteArray}{b:Bool}(hs:line.size<=40)(hw:cA line=w0::xs)(hf:aBi true (.str ⟨⟨[]⟩⟩) (aV true (.str w0) fmE)=some (.tup [.str f,.bool b]))(hF:f.size<=4)(hn:b=true->xs.length≠f.size):runW progG 30 [.str line] []=some (pE 13,[]):=by
 have t:((40:Int)<(line.size:Int))=False:=AAb;have c101:=a101 (s:=line) AS;rw[hw]at c101;have c102:=a102 w0;have r0:(rS (w0::xs))[0]?=some [.str w0]:=rfl;have rl:=eP (w0::xs);rw[D7]at rl;have n0:((0:Int)<((xs.length+1:Nat):Int))=True:=AAa;obtain⟨k1,k2⟩:=aTV hf;unfold pE;cases b with
 | false =>
   rw[k2 rfl]at c102;have sq:aN .eql ⟨⟨[63]⟩⟩ ⟨⟨[63]⟩⟩=some (.bool true):=by kernel_rfl
   generalize rS (w0::xs)=R at *;rw[rq 30 x30 rfl];unfold x30;dsimp only;(exact iS t c101 c102 r0 rl n0 sq)
 | true =>
   rw[(k1 rfl).1]at c102;have sq:=jH f ⟨⟨[63]⟩⟩;rw[AAk (k1 rfl).2]at sq;have a1:IntKind.i64.wrap ((f.size:Int)+1)=((f.size+1:Nat):Int):=by grind [aE]
   have ne:(((xs.length+1:Nat):Int)=((f.size+1:Nat):Int))=False:=AAo (by grind);generalize rS (w0::xs)=R at *;rw[rq 30 x30 rfl];unfold x30;dsimp only;(exact kN t c101 c102 r0 rl n0 sq a1 ne)
theorem aVa(l:Ln line w0 xs F){j:Nat}(hj:j<F.size):∃ y,xs[j]?=some y/\xs.getD j ByteArray.empty=y:=by
 have hl:=l.ws.1
 grind
theorem aRZ(l:Ln line w0 xs F):runW progG 30 [.str line] []=some (if (List.range F.size).all (λj=>decide (dk F j=110)||aZ (xs.getD j ByteArray.empty)) then (if (List.range F.size).all (λj=>decide (dk F j=110->cH (xs.getD j ByteArray.empty)≠none)) then pV (w0,xs,kX F xs F.size) else pE 2) else pE 8,[]):=by
 obtain⟨hl,hF,ok,hsz⟩:=l.ws;obtain⟨fm,kd⟩:=aLK l.hf;obtain⟨fne,fb⟩:=aLU fm;have hs:=l.hs;have t:((40:Int)<(line.size:Int))=False:=AAb;have c101:=a101 (s:=line) AS;rw[l.hw]at c101;have c102:=a102 w0;rw[kd]at c102;have r0:(rS (w0::xs))[0]?=some [.str w0]:=rfl;have rl:=eP (w0::xs);rw[D7,hl]at rl;have n0:((0:Int)<((F.size+1:Nat):Int))=True:=AAa;have sq:=jH F ⟨⟨[63]⟩⟩;rw[AAk fne]at sq;have a1:IntKind.i64.wrap ((F.size:Int)+1)=((F.size+1:Nat):Int):=by grind [aE]
 have e0:((F.size:Int)<(F.size:Int))=False:=AAb;have z0:((0:Int)<=((F.size+1:Nat):Int))=True:=AAa;have z1:((8:Int)*((F.size+1:Nat):Int)<=281474976710656)=True:=AAa;have z3:(((F.size+1:Nat):Int)<=((F.size+1:Nat):Int))=True:=AAa;have z4:(((F.size+1:Nat):Int)).toNat=F.size+1:=H7 _;have z2:(((F.size+1:Nat):Int)<=9223372036854775807)=True:=AAa;have z5:(List.replicate (F.size+1) [AV.int .i64 0]).flatten=((0:Int)::kX F xs 0).map I:=by
  grind [aGy,aLB]
 have z6:(0:Int)::kX F xs 0=List.replicate (F.size+1) 0:=by rw[aLB];rfl
 have ra:∀ i y,xs[i]?=some y->(rS (w0::xs))[i+1]?=some [.str y]:=λi y hy=>oC (s:=y) (by grind);have dlt:∀ i,i<F.size->(i<F.size)=True:=λi hi=>AAn hi;have ilt:∀ i:Nat,i<F.size->((i:Int)<(F.size:Int))=True:=λi hi=>AAa;have ilt1:∀ i:Nat,i<F.size->(((i+1:Nat):Int)<((F.size+1:Nat):Int))=True:=λi hi=>AAa;have up1:∀ i:Nat,i<F.size->IntKind.i64.wrap ((i:Int)+1)=((i+1:Nat):Int):=λi hi=>by grind [aE]
 obtain⟨m,m1,m2,m3⟩:=gW (λj=>decide (dk F j=110)||aZ (xs.getD j ByteArray.empty)) F.size;have ok1:∀ i,i<m->∀ y,xs[i]?=some y->dk F i=110\/aZ y=true:=λi hi y hy=>by
  grind
 have gx:∀ i,i<F.size->xs[i]?=some (xs.getD i ByteArray.empty):=λi hi=>by
  grind
 have rd:=λi (hi:i<m)=>aPs l (i:=i) AS (gx i AS) (ok1 i hi _ (gx i AS));rcases m3 with hm|⟨hm,hb⟩
 .subst hm
  have h1:(List.range F.size).all (λj=>decide (dk F j=110)||aZ (xs.getD j ByteArray.empty))=true:=D5.2 λj hj=>m2 j (I2.1 hj);rw[if_pos h1];obtain⟨q,q1,q2,q3⟩:=gW (λj=>decide (dk F j=110->cH (xs.getD j ByteArray.empty)≠none)) F.size;have ok2:∀ i,i<q->∀ y,xs[i]?=some y->dk F i=110->∃ v,cH y=some v:=λi hi y hy hk=>by
   have h:=of_decide_eq_true (q2 i hi) hk;rw[C7,hy]at h;exact M9.1 h
  have rd2:=λi (hi:i<q)=>aPr aFU l (i:=i) AS (gx i AS) (ok2 i hi _ (gx i AS));rcases q3 with hq|⟨hq,hb⟩
  .subst hq
   have h2:(List.range F.size).all (λj=>decide (dk F j=110->cH (xs.getD j ByteArray.empty)≠none))=true:=D5.2 λj hj=>q2 j (I2.1 hj);rw[if_pos h2];show runW progG 30 [.str line] []=some (.tup [.fs (rS (w0::xs)),.fs (((0:Int)::kX F xs F.size).map λv=>[I v]),I 0],[]);have nl:((0:Int)::kX F xs F.size).length=F.size+1:=by grind [uD]
   have ch:bK (((0:Int)::kX F xs F.size).map I) 0 1 (F.size+1)=((0:Int)::kX F xs F.size).map λv=>[I v]:=by
    have:=yW (f:=I) ((0:Int)::kX F xs F.size) []
    grind
   obtain⟨N,hN⟩:∃ N,(0:Int)::kX F xs F.size=N:=⟨_,rfl⟩;rw[hN]at nl ch ⊢;rw[rq 30 x30 rfl];unfold x30;dsimp only;sym =>
    simp[Za,Zb,Zc,Zf,Zg,Zh,Zj,Zl,Zm,Zo,Zp,Zq,Zr,Zv,Zy,ZA,ZE,ZI,ZK,ZL,ZS,ZW,Ya,Yb,Yf,Yi,Yn,Yo,Yp,Yq,Ys,Yw,Yz,Y4,Y5,Y6,Y8,YF,YG,YH,YK,YM,YN,YV,Xj,Xy,XI,XL,XN,XO,Wh,Wv,Ww,Wx,Wz,W3,WF,WH,WJ,WK,WL,WN,WS,WW,WX,WY,Vb,Vd,Vf,Vg,Vj,Vp,V5,V6,V7,V8,VG,VH,VI,VQ,VX,VY,VZ,Ua,Ub,Uc,Ue,Uf,Ut,Uu,Uv,U9,UA,UB,UC,UD,UE,UF,UG,UM,UO,UR,US,UU,UV,UW,UX,Ta,Tb,Tc,Td,Te,Tg,Th,Tl,Tm,Tn,Tp,Tq,Tr,Ts,Tt,Tv,Tw,Ty,Tz,T2,T3,T4,T5,T8,TB,TC,TF,TJ,TK,TN,TO,TP,TQ,TR,TS,TT,TU,TV,TX,TY,TZ,Sa,Sw,Sx,S9,SA,SC,SD,SE,SG,SI,SJ,SN,SV,SW,SX,SY,SZ,Ra,Rb,Rc,Re,Rf,Rh,Ri,Rk,Rl,RZ,Qa,Qd,Qf,Qh,QQ,QS,QV,Pj,Pk,Pm,Pn,Po,Pp,PI,PJ,PK,PL,t,c101,c102,r0,rl,n0,sq,a1]
    tactic =>
     unfold aDf;rw[aG F.size (λi=>[.fs (rS (w0::xs)),.str F,I (i:Nat)]) (λ_=>[])]
     .clear rd
      sym =>
       simp[Za,Zb,Zc,Zf,Zg,Zh,Zj,Zl,Zm,Zo,Zp,Zq,Zr,Zv,Zy,ZA,ZE,ZI,ZK,ZL,ZS,ZW,Ya,Yb,Yf,Yi,Yn,Yo,Yp,Yq,Ys,Yw,Yz,Y4,Y5,Y6,Y8,YF,YG,YH,YK,YM,YN,YV,Xj,Xy,XI,XL,XN,XO,Wh,Wv,Ww,Wx,Wz,W3,WF,WH,WJ,WK,WL,WN,WS,WW,WX,WY,Vb,Vd,Vf,Vg,Vj,Vp,V5,V6,V7,V8,VG,VH,VI,VQ,VX,VY,VZ,Ua,Ub,Uc,Ue,Uf,Ut,Uu,Uv,U9,UA,UB,UC,UD,UE,UF,UG,UM,UO,UR,US,UU,UV,UW,UX,Ta,Tb,Tc,Td,Te,Tg,Th,Tl,Tm,Tn,Tp,Tq,Tr,Ts,Tt,Tv,Tw,Ty,Tz,T2,T3,T4,T5,T8,TB,TC,TF,TJ,TK,TN,TO,TP,TQ,TR,TS,TT,TU,TV,TX,TY,TZ,Sa,Sw,Sx,S9,SA,SC,SD,SE,SG,SI,SJ,SN,SV,SW,SX,SY,SZ,Ra,Rb,Rc,Re,Rf,Rh,Ri,Rk,Rl,RZ,Qa,Qd,Qf,Qh,QQ,QS,QV,Pj,Pk,Pm,Pn,Po,Pp,PI,PJ,PK,PL,e0,rl,z0,z1,z2,z3,z4,z5]
       tactic =>
        unfold aFy;rw[aG F.size (λi=>[.fs (rS (w0::xs)),.str F,.sl 0 0 1 (F.size+1),I (i:Nat)]) (λi=>[aa (((0:Int)::kX F xs i).map I)])]
        .clear rd2
         rw[hN];generalize rS (w0::xs)=R at *;(exact vC e0 nl ch)
        .rw[show ((0:Nat):Int)=0 from rfl]
         rw[z6];rfl
        .exact rd2
        .generalize (0:Int)::kX F xs F.size=N at *
         generalize rS (w0::xs)=R at *;(exact cI e0)
     .rfl
     .exact rd
     ·(exact cI e0)
  .have h2:(List.range F.size).all (λj=>decide (dk F j=110->cH (xs.getD j ByteArray.empty)≠none))=false:=List.all_eq_false.2 ⟨q,I2.2 hq,by grind⟩
   rw[if_neg (by grind)];unfold pE;obtain⟨y,hy,hyd⟩:=aVa l hq;have hbd:dk F q=110/\cH y=none:=by
    grind
   have c104:=a104 (s:=y) (by have:=hsz y (B3 hy);omega);rw[aFU,hbd.2,Option.getD_none]at c104;have fbq:=fb q hq;have e1:(dk F q=110)=True:=AAn hbd.1;have raq:=ra q y hy;have d1:=dlt q hq;have d2:=ilt q hq;have d3:=ilt1 q hq;have d4:=up1 q hq;have d5:(q+1+1<=F.size+1)=True:=AAa;have nl:((0:Int)::kX F xs q).length=F.size+1:=by grind [uD]
   have st:=aPd 0 (kX F xs q) q (-1);have gt:(aDp ((0:Int)::kX F xs q) (q+1) (-1))[q+1]?=some (-1):=by rw[aAF AS,aB5 AS]
   have sl:(aDp ((0:Int)::kX F xs q) (q+1) (-1)).length=F.size+1:=by rw[aAF AS,G6,nl]
   have vz:((-1:Int)<0)=True:=AAa;clear st;rw[rq 30 x30 rfl];unfold x30;dsimp only;sym =>
    simp[Za,Zb,Zc,Zf,Zg,Zh,Zj,Zl,Zm,Zo,Zp,Zq,Zr,Zv,Zy,ZA,ZE,ZI,ZK,ZL,ZS,ZW,Ya,Yb,Yf,Yi,Yn,Yo,Yp,Yq,Ys,Yw,Yz,Y4,Y5,Y6,Y8,YF,YG,YH,YK,YM,YN,YV,Xj,Xy,XI,XL,XN,XO,Wh,Wv,Ww,Wx,Wz,W3,WF,WH,WJ,WK,WL,WN,WS,WW,WX,WY,Vb,Vd,Vf,Vg,Vj,Vp,V5,V6,V7,V8,VG,VH,VI,VQ,VX,VY,VZ,Ua,Ub,Uc,Ue,Uf,Ut,Uu,Uv,U9,UA,UB,UC,UD,UE,UF,UG,UM,UO,UR,US,UU,UV,UW,UX,Ta,Tb,Tc,Td,Te,Tg,Th,Tl,Tm,Tn,Tp,Tq,Tr,Ts,Tt,Tv,Tw,Ty,Tz,T2,T3,T4,T5,T8,TB,TC,TF,TJ,TK,TN,TO,TP,TQ,TR,TS,TT,TU,TV,TX,TY,TZ,Sa,Sw,Sx,S9,SA,SC,SD,SE,SG,SI,SJ,SN,SV,SW,SX,SY,SZ,Ra,Rb,Rc,Re,Rf,Rh,Ri,Rk,Rl,RZ,Qa,Qd,Qf,Qh,QQ,QS,QV,Pj,Pk,Pm,Pn,Po,Pp,PI,PJ,PK,PL,t,c101,c102,r0,rl,n0,sq,a1]
    tactic =>
     unfold aDf;rw[aG F.size (λi=>[.fs (rS (w0::xs)),.str F,I (i:Nat)]) (λ_=>[])]
     .clear rd
      sym =>
       simp[Za,Zb,Zc,Zf,Zg,Zh,Zj,Zl,Zm,Zo,Zp,Zq,Zr,Zv,Zy,ZA,ZE,ZI,ZK,ZL,ZS,ZW,Ya,Yb,Yf,Yi,Yn,Yo,Yp,Yq,Ys,Yw,Yz,Y4,Y5,Y6,Y8,YF,YG,YH,YK,YM,YN,YV,Xj,Xy,XI,XL,XN,XO,Wh,Wv,Ww,Wx,Wz,W3,WF,WH,WJ,WK,WL,WN,WS,WW,WX,WY,Vb,Vd,Vf,Vg,Vj,Vp,V5,V6,V7,V8,VG,VH,VI,VQ,VX,VY,VZ,Ua,Ub,Uc,Ue,Uf,Ut,Uu,Uv,U9,UA,UB,UC,UD,UE,UF,UG,UM,UO,UR,US,UU,UV,UW,UX,Ta,Tb,Tc,Td,Te,Tg,Th,Tl,Tm,Tn,Tp,Tq,Tr,Ts,Tt,Tv,Tw,Ty,Tz,T2,T3,T4,T5,T8,TB,TC,TF,TJ,TK,TN,TO,TP,TQ,TR,TS,TT,TU,TV,TX,TY,TZ,Sa,Sw,Sx,S9,SA,SC,SD,SE,SG,SI,SJ,SN,SV,SW,SX,SY,SZ,Ra,Rb,Rc,Re,Rf,Rh,Ri,Rk,Rl,RZ,Qa,Qd,Qf,Qh,QQ,QS,QV,Pj,Pk,Pm,Pn,Po,Pp,PI,PJ,PK,PL,e0,rl,z0,z1,z2,z3,z4,z5]
       tactic =>
        unfold aFy;rw[aG q (λi=>[.fs (rS (w0::xs)),.str F,.sl 0 0 1 (F.size+1),I (i:Nat)]) (λi=>[aa (((0:Int)::kX F xs i).map I)])]
        .clear rd2
         generalize hN:(0:Int)::kX F xs q=N at *;generalize rS (w0::xs)=R at *;generalize q+1=qq at *;(exact eD d1 d2 d3 d4 d5 fbq e1 raq rl c104 nl gt sl vz aF aF aF aF aF aF)
        .rw[show ((0:Nat):Int)=0 from rfl]
         rw[z6];rfl
        .exact rd2
        .clear rd2
         generalize hN:(0:Int)::kX F xs q=N at *;generalize rS (w0::xs)=R at *;generalize q+1=qq at *;(exact eD d1 d2 d3 d4 d5 fbq e1 raq rl c104 nl gt sl vz aF aF aF aF aF aF)
     .rfl
     .exact rd
     ·(exact cI e0)
 .have h1:(List.range F.size).all (λj=>decide (dk F j=110)||aZ (xs.getD j ByteArray.empty))=false:=List.all_eq_false.2 ⟨m,I2.2 hm,by grind⟩
  rw[if_neg (by grind)];unfold pE;obtain⟨y,hy,hyd⟩:=aVa l hm;have hbd:¬dk F m=110/\aZ y=false:=by
   grind
  have h103:=bBu y (by grind);rw[hbd.2]at h103;have fbq:=fb m hm;have e1:(dk F m=110)=False:=AAo hbd.1;have raq:=ra m y hy;have d1:=dlt m hm;have d2:=ilt m hm;have d3:=ilt1 m hm;have d4:=up1 m hm;rw[rq 30 x30 rfl];unfold x30;dsimp only;sym =>
   simp[Za,Zb,Zc,Zf,Zg,Zh,Zj,Zl,Zm,Zo,Zp,Zq,Zr,Zv,Zy,ZA,ZE,ZI,ZK,ZL,ZS,ZW,Ya,Yb,Yf,Yi,Yn,Yo,Yp,Yq,Ys,Yw,Yz,Y4,Y5,Y6,Y8,YF,YG,YH,YK,YM,YN,YV,Xj,Xy,XI,XL,XN,XO,Wh,Wv,Ww,Wx,Wz,W3,WF,WH,WJ,WK,WL,WN,WS,WW,WX,WY,Vb,Vd,Vf,Vg,Vj,Vp,V5,V6,V7,V8,VG,VH,VI,VQ,VX,VY,VZ,Ua,Ub,Uc,Ue,Uf,Ut,Uu,Uv,U9,UA,UB,UC,UD,UE,UF,UG,UM,UO,UR,US,UU,UV,UW,UX,Ta,Tb,Tc,Td,Te,Tg,Th,Tl,Tm,Tn,Tp,Tq,Tr,Ts,Tt,Tv,Tw,Ty,Tz,T2,T3,T4,T5,T8,TB,TC,TF,TJ,TK,TN,TO,TP,TQ,TR,TS,TT,TU,TV,TX,TY,TZ,Sa,Sw,Sx,S9,SA,SC,SD,SE,SG,SI,SJ,SN,SV,SW,SX,SY,SZ,Ra,Rb,Rc,Re,Rf,Rh,Ri,Rk,Rl,RZ,Qa,Qd,Qf,Qh,QQ,QS,QV,Pj,Pk,Pm,Pn,Po,Pp,PI,PJ,PK,PL,t,c101,c102,r0,rl,n0,sq,a1]
   tactic =>
    unfold aDf;rw[aG m (λi=>[.fs (rS (w0::xs)),.str F,I (i:Nat)]) (λ_=>[])]
    .clear rd
     generalize rS (w0::xs)=R at *;generalize m+1=mm at *;(exact kN d1 d2 d3 d4 fbq e1 raq rl h103)
    .rfl
    .exact rd
    .clear rd
     generalize rS (w0::xs)=R at *;generalize m+1=mm at *;(exact kN d1 d2 d3 d4 fbq e1 raq rl h103)
end
section
variable{s:CSt}{E:Nat->Int}{x line w0:ByteArray}{xs:List ByteArray}{ns:List Int}{B:Option XB}{w:Wd}
theorem aVX:runW progG 85 [.pt 0 0,.str x] [rN]=some (I (-1),[rN]):=by
 unfold rN;rw[rq 85 x85 rfl];unfold x85;dsimp only;sym =>
  simp[Za,Zb,Zf,Zh,Zl,Zm,Zv,Z9,ZA,ZG,ZS,ZW,Yu,Yy,YH,YX,Xz,XI,Wv,WF,Vb,Vd,Vi,V5,V6,V7,VI,VQ,VY,VZ,Ua,Ub,Uc,Ui,Uj,Un,Uo,UC,UR,US,UU,UV,UW,UX,UY,Tb,Tc,Td,Te,Th,Tl,Tn,Tp,Tr,Ts,Tt,Tw,Tx,Ty,Tz,T2,TK,TN,TO,TP,TZ,Sa,SA,SC,SG,SV,SX,SY,Ra,Rb,Rc,Re,Ri,Rk,Rl,QQ]
  tactic =>
   unfold aLb;rw[aG 0 (λi=>[.pt 0 0,.str x,I (i:Nat)]) (λ_=>[aa [.bool true,.nilsl,.nilsl,.nilsl,.nilsl,.nilsl]])];·(exact RT0)
   .rfl
   .omega
   ·(exact RT0)
theorem bBA{j:Int}:runW progG 82 [.pt 0 0,I j] [rN]=some (I 0,[rN]):=by
 unfold rN;rw[rq 82 x82 rfl];unfold x82;dsimp only;sym =>
  simp[Za,Zb,Zf,Zh,Zl,Zm,Zv,Z9,ZA,ZG,ZS,ZW,Yu,Yy,YH,YX,Xz,XI,Wv,WF,Vb,Vi,V5,V6,V7,VI,VQ,VY,VZ,Ua,Ub,Uc,Ui,Uj,Un,Uo,UC,UR,US,UU,UV,UW,UX,UY,Tb,Tc,Td,Te,Th,Tl,Tn,Tp,Tr,Ts,Tt,Tw,Tx,Ty,Tz,T2,TK,TN,TO,TP,TZ,Sa,SA,SC,SG,SV,SX,SY,Ra,Rb,Rc,Re,Ri,Rk,Rl,QQ]
  tactic =>
   unfold aHY;rw[aG 0 (λi=>[.pt 0 0,I j,I 0,I (i:Nat)]) (λ_=>[aa [.bool true,.nilsl,.nilsl,.nilsl,.nilsl,.nilsl]])];·(exact RT0)
   .rfl
   .omega
   ·(exact RT0)
theorem aWa:runW progG 84 [.fs [],.str x] []=some (I (-1),[]):=aSa (x:=x) (L:=[]) (F:=λ_=>[]) (by simp) λi y h=>by simp at h
theorem aUJ{n:List (List AV)}:runW progG 32 [.pt 0 0,.fs [[.str AAz],[.str x]],.fs n] [rN]=some (.tup [.str ⟨⟨[]⟩⟩,I 5],[rN]):=by
 have c:=aVX (x:=x);unfold rN at *;rw[rq 32 vZ rfl];unfold vZ;dsimp only;(exact iS c uT rL xS xT aAo aF)
theorem aNH{n:List (List AV)}:runW progG 32 [.pt 0 0,.fs [[.str AAE],[.str x]],.fs n] [rN]=some (.tup [.str ⟨⟨[]⟩⟩,I 5],[rN]):=by
 have c:=aVX (x:=x);unfold rN at *;rw[rq 32 vZ rfl];unfold vZ;dsimp only;(exact iS c pY nU rJ rK uR aF)
theorem aRQ{n:List (List AV)}:runW progG 32 [.pt 0 0,.fs [[.str AAC],[.str x]],.fs n] [rN]=some (.tup [.str ⟨⟨[]⟩⟩,I 5],[rN]):=by
 have c:=aWa (x:=x);unfold rN;rw[rq 32 vZ rfl];unfold vZ;dsimp only;(exact qR c rI pX uP uQ)
theorem aRR{n:List (List AV)}:runW progG 32 [.pt 0 0,.fs [[.str AAD],[.str x]],.fs n] [rN]=some (.tup [.str ⟨⟨[]⟩⟩,I 5],[rN]):=by
 have c:=aWa (x:=x);unfold rN;rw[rq 32 vZ rfl];unfold vZ;dsimp only;(exact qR c rM pZ uU uV)
theorem aKY{i:Nat}:runW progG 32 [.pt 0 0,.fs [[.str AAB],[.str x]],.fs [[I 0],[I (i:Nat)]]] [rN]=some (.tup [.str ⟨⟨[]⟩⟩,I 5],[rN]):=by
 have e1:((0:Int)<=(i:Int))=True:=AAa;unfold rN;rw[rq 32 vZ rfl];unfold vZ;dsimp only;(exact vC e1 nS mK)
theorem aNG{n:List (List AV)}:runW progG 32 [.pt 0 0,.fs [[.str AAA]],.fs n] [rN]=some (.tup [.str (pJ 0),I 0],[rN]):=by
 have c:=bBA (j := -1);have c2:=rdg (v:=0) AS AS;have na:(⟨⟨Lib.itoa 0⟩⟩:ByteArray)=pJ 0:=rfl;rw[na]at c2;generalize pJ 0=a at *;unfold rN at *;rw[rq 32 vZ rfl];unfold vZ;dsimp only;(exact vC c c2 xR)
theorem aZG{e:Int}(h:Rd line (.inl e)):runW progG 30 [.str line] []=some (.tup [.fs [],.fs [],I e],[])/\0<e/\e<100:=by
 cases h with
 | long h=>exact⟨aUP h,by omega,by omega⟩
 | form hs hw hf hF hn=>exact⟨aUQ hs hw hf hF hn,by omega,by omega⟩
 | name l hn =>
   rename_i w0 F xs;have h:=aRZ l;rw[if_neg (λq=>by
    grind)]at h
   exact⟨h,by omega,by omega⟩
 | num l hn hm =>
   rename_i w0 F xs;have h:=aRZ l;rw[if_pos (D5.2 λj hj=>by grind),if_neg (λq=>by
    grind)]at h
   exact⟨h,by omega,by omega⟩
theorem aZF(h:Rd line (.inr (w0,xs,ns))):runW progG 30 [.str line] []=some (.tup [.fs ([.str w0]::sr xs),.fs ([I 0]::ns.map λv=>[I v]),I 0],[]):=by
 cases h with
 | ok l hn hm =>
   rename_i F;have h:=aRZ l;rw[if_pos (D5.2 λj hj=>by grind),if_pos (D5.2 λj hj=>AAj λhk=>by
    grind)]at h
   exact h
theorem aRg:(fL s w).book=s.book:=by
 cases w<;>first|rfl|(unfold fL;grind)
def SyR(s:CSt)(E:Nat->Int)(B:Option XB)(line:ByteArray)(r:ByteArray×CSt):Prop :=
 ∃ E' B',RB r.2 E' B'/\EOk r.2 E'/\runW progG 9 [.pt 0 0,.str line] [B]=some (.str r.1,[B'])
theorem oN(hB:RB s E B)(gs:cY s)(eo:EOk s E){ws ns:List (List AV)}(ha:w.asks=false)(c64:runW progG 30 [.str line] []=some (.tup [.fs ws,.fs ns,I 0],[]))(r0:ws[0]?=some [.str w0])(c65:runW progG 31 [.str w0] []=some (.bool false,[]))(d:Does s E w ws ns):SyR s E B line (qZ mD s line (.inr w)):=by
 unfold qZ;dsimp only;rw[ha];cases hc:dC s w with
 | some e =>
   have he:=aEI hc;have he2:0<e/\e<100:=by
    simp only[lV,C4,H6,AAh]at he;omega
   have r:=aZh hB gs c64 r0 c65 (k:=0) AS rfl (d.1 e hc) AS;rw[if_pos AS]at r;exact⟨E,B,hB,eo,r⟩
 | none =>
   obtain⟨k,E',hk,eo',c68⟩:=d.2 hc;have r:=aZh hB gs c64 r0 c65 hk aRg c68 AS;rw[if_neg (λq=>q rfl)]at r;rw[if_neg I9];dsimp only;by_cases hf:s.book.length=300
   .rw[if_pos hf]at r ⊢
    exact⟨E,B,hB,eo,r⟩
   .rw[if_neg hf]at r ⊢
    exact⟨E',_,.inl rfl,eo',r⟩
theorem oO(hB:RB s E B)(eo:EOk s E){ws ns:List (List AV)}(ha:w.asks=true)(c64:runW progG 30 [.str line] []=some (.tup [.fs ws,.fs ns,I 0],[]))(r0:ws[0]?=some [.str w0])(c65:runW progG 31 [.str w0] []=some (.bool true,[])) (d:match aAw mD s w with
 | .inl e=>e=5/\∃ a,runW progG 32 [.pt 0 0,.fs ws,.fs ns] [B]=some (.tup [.str a,I 5],[B])
 | .inr a=>runW progG 32 [.pt 0 0,.fs ws,.fs ns] [B]=some (.tup [.str a,I 0],[B])):SyR s E B line (qZ mD s line (.inr w)):=by
 unfold qZ;dsimp only;rw[ha,if_pos rfl];cases hc:aAw mD s w with
 | inl e =>
   rw[hc]at d;obtain⟨rfl,a,c66⟩:=d;exact⟨E,B,hB,eo,aZi (mA hB) c64 r0 c65 c66 AS⟩
 | inr a =>
   rw[hc]at d;exact⟨E,B,hB,eo,aZi (mA hB) c64 r0 c65 d AS⟩
theorem aCJ{a b c a' b' c':AV}(h:AV.agg [a,b,c] = .agg [a',b',c']):a=a'/\b=b'/\c=c':=by
 grind
theorem eR{a b:List (List AV)}(h:AV.fs a = .fs b):a=b:=by injection h
theorem jG{a b:ByteArray}(h:AV.str a = .str b):a=b:=by injection h
theorem a22(hB:RB s E B)(gs:cY s)(eo:EOk s E):SyR s E B line (qZ mD s line (rd line)):=by
 have h:=aLs line;cases hr:rd line with
 | inl e =>
   rw[hr]at h;obtain⟨c64,he⟩:=aZG h;exact⟨E,B,hB,eo,bCC (mA hB) c64 he⟩
 | inr w =>
   rw[hr]at h;obtain⟨w0,xs,ns,h,iw⟩:=h;have c64:=aZF h;clear h hr;generalize sr xs=rx at *;generalize (ns.map λv=>[I v])=rn at *;cases w with
   | farmer x =>
     obtain⟨z0,iw⟩:=iw;obtain⟨q1,q2,q3⟩:=aCJ iw;obtain rfl:=jG q1;obtain rfl:=eR q2;obtain rfl:=eR q3;exact oN hB gs eo rfl c64 rfl (aNK) (aNF gs eo)
   | wagon x y a b =>
     obtain⟨⟨a0,a1,b0,b1,_,_⟩,u1,u2,z0,z1,iw⟩:=iw;obtain⟨q1,q2,q3⟩:=aCJ iw;obtain rfl:=jG q1;obtain rfl:=eR q2;obtain rfl:=eR q3;exact oN hB gs eo rfl c64 rfl (aRU) (aRN gs eo ⟨a0,a1⟩ ⟨b0,b1⟩)
   | void i =>
     obtain⟨u1,iw⟩:=iw;obtain⟨q1,q2,q3⟩:=aCJ iw;obtain rfl:=jG q1;obtain rfl:=eR q2;obtain rfl:=eR q3;exact oN hB gs eo rfl c64 rfl (aUM) (aUI gs eo)
   | close =>
     obtain⟨q1,q2,q3⟩:=aCJ iw;obtain rfl:=jG q1;obtain rfl:=eR q2;obtain rfl:=eR q3;exact oN hB gs eo rfl c64 rfl (aRY) (aRP gs eo)
   | meter x n =>
     obtain⟨hn,u1,z0,iw⟩:=iw;obtain⟨q1,q2,q3⟩:=aCJ iw;obtain rfl:=jG q1;obtain rfl:=eR q2;obtain rfl:=eR q3;exact oN hB gs eo rfl c64 rfl (aRX) (aRO gs eo hn)
   | pan x a b =>
     obtain⟨⟨a0,a1,b0,b1⟩,u1,u2,z0,iw⟩:=iw;obtain⟨q1,q2,q3⟩:=aCJ iw;obtain rfl:=jG q1;obtain rfl:=eR q2;obtain rfl:=eR q3;exact oN hB gs eo rfl c64 rfl (aYh) (aYf gs eo ⟨a0,a1⟩ ⟨b0,b1⟩)
   | net x =>
     obtain⟨z0,iw⟩:=iw;obtain⟨q1,q2,q3⟩:=aCJ iw;obtain rfl:=jG q1;obtain rfl:=eR q2;obtain rfl:=eR q3;refine oO hB eo rfl c64 rfl (aYi) ?_;unfold aAw;dsimp only;rcases hB with rfl|⟨rfl,rfl⟩
     .obtain⟨d1,d2⟩:=aYg (E:=E) (x:=x) gs (n:=[[I 0],[I z0]])
      cases hx:bR (s.farmers.map (·.1)) x with
      | none =>
        rw[cQ.2 hx];exact⟨rfl,_,d1 hx⟩
      | some i =>
        obtain⟨v,hp,hv⟩:=mW hx;rw[hv];exact d2 i _ hx hp
     .exact⟨rfl,_,aUJ⟩
   | used x =>
     obtain⟨z0,iw⟩:=iw;obtain⟨q1,q2,q3⟩:=aCJ iw;obtain rfl:=jG q1;obtain rfl:=eR q2;obtain rfl:=eR q3;refine oO hB eo rfl c64 rfl (aUN) ?_;unfold aAw;dsimp only;rcases hB with rfl|⟨rfl,rfl⟩
     .obtain⟨d1,d2⟩:=aUK (E:=E) (x:=x) gs (n:=[[I 0],[I z0]])
      cases hx:bR (s.meters.map (·.1)) x with
      | none =>
        grind [cQ]
      | some i =>
        obtain⟨v,hp,hv⟩:=mW hx
        grind
     .exact⟨rfl,_,aRQ⟩
   | loss x =>
     obtain⟨z0,iw⟩:=iw;obtain⟨q1,q2,q3⟩:=aCJ iw;obtain rfl:=jG q1;obtain rfl:=eR q2;obtain rfl:=eR q3;refine oO hB eo rfl c64 rfl (aUO) ?_;unfold aAw;dsimp only;rcases hB with rfl|⟨rfl,rfl⟩
     .obtain⟨d1,d2⟩:=aUL (E:=E) (x:=x) gs (n:=[[I 0],[I z0]])
      cases hx:bR (s.pans.map (·.1)) x with
      | none =>
        grind [cQ]
      | some i =>
        obtain⟨v,hp,hv⟩:=mW hx
        grind
     .exact⟨rfl,_,aRR⟩
   | power x =>
     obtain⟨z0,iw⟩:=iw;obtain⟨q1,q2,q3⟩:=aCJ iw;obtain rfl:=jG q1;obtain rfl:=eR q2;obtain rfl:=eR q3;refine oO hB eo rfl c64 rfl (aRW) ?_;unfold aAw;dsimp only;rcases hB with rfl|⟨rfl,rfl⟩
     .obtain⟨d1,d2⟩:=aRT (E:=E) (x:=x) gs (n:=[[I 0],[I z0]])
      cases hx:bR (s.farmers.map (·.1)) x with
      | none =>
        rw[cQ.2 hx];exact⟨rfl,_,d1 hx⟩
      | some i =>
        obtain⟨v,hp,hv⟩:=mW hx;rw[hv];exact d2 i _ hx hp
     .exact⟨rfl,_,aNH⟩
   | total =>
     obtain⟨q1,q2,q3⟩:=aCJ iw;obtain rfl:=jG q1;obtain rfl:=eR q2;obtain rfl:=eR q3;refine oO hB eo rfl c64 rfl (aRV) ?_;unfold aAw;dsimp only;rcases hB with rfl|⟨rfl,rfl⟩;·exact aRS gs
     .exact aNG
   | ticket i =>
     obtain⟨u1,iw⟩:=iw;obtain⟨q1,q2,q3⟩:=aCJ iw;obtain rfl:=jG q1;obtain rfl:=eR q2;obtain rfl:=eR q3;refine oO hB eo rfl c64 rfl (aNJ) ?_;unfold aAw;dsimp only;rcases hB with rfl|⟨rfl,rfl⟩;·grind [aNI]
     .exact⟨rfl,_,aKY⟩
end
section
variable{s:CSt}{E:Nat->Int}{K:List ByteArray}{B:Option XB}
def rnP(K:List ByteArray)(i:Nat):Nat:=min (5*i) K.length+i
theorem aWz:∀ i,kP K (i+1)=kP K i++pgB (pgs K i) (6*i):=λ_=>rfl
theorem aTA(h41:∀{ls:List ByteArray}{row:Nat},1<=ls.length->ls.length<=1000->row<=10000->(∀ s∈ls,s.size<=40/\prL (bN s)=true)->runW progG 39 [.fs (rS ls),I (row:Int)] []=some (.str (pgB ls row),[])){RF RT RM RP:List (List AV)}(hK:K.length<=300)(hp:∀ s∈K,s.size<=40/\prL (bN s)=true){i:Nat}(hi:i<yL K) :
 bT 1 [0,3,4,5] (execW progG 11 1 none (match aFz with | .loop _ a=>a|c=>c) (aY [0,3,4,5] [.pt 0 0,.str (kP K i),I (rnP K i:Nat),I (5*i:Nat)]) [aa [.bool true,.fs RF,.fs RT,.fs RM,.fs RP,.fs (rS K)]]) =
 some ([.pt 0 0,.str (kP K (i+1)),I (rnP K (i+1):Nat),I (5*(i+1):Nat)],[aa [.bool true,.fs RF,.fs RT,.fs RM,.fs RP,.fs (rS K)]]):=by
 have np:yL K=(K.length+4)/5:=rfl;obtain⟨_,z1,z2⟩:=aAC K i;have pl:=aHm K i;have ps:=aAX (pgs K i) (6*i);have r6:rnP K i=6*i:=by unfold rnP;omega
 have c41:=h41 (ls:=pgs K i) (row:=6*i) AS AS AS λs hs=>hp s (List.mem_of_mem_drop (aA5 hs));have sa:=eA (a:=kP K i) (b:=pgB (pgs K i) (6*i)) AS;rw[<-aWz]at sa;have rl:=eP K;have ra:(rS K).all (λr=>r.length==1)=true:=(aKf K).2;have i1:(((5*i:Nat):Int)<(K.length:Int))=True:=AAa;have w1:IntKind.i64.wrap (((5*i:Nat):Int)+5)=((5*(i+1):Nat):Int):=by grind [aE]
 have e1:((5*(i+1):Nat):Int)=((5*i+5:Nat):Int):=rfl;have l1:(rS (pgs K i)).length=(pgs K i).length:=eP _;have w2:IntKind.i64.wrap (((pgs K i).length:Int)+1)=(((pgs K i).length+1:Nat):Int):=by grind [aE]
 have w3:IntKind.i64.wrap (((6*i:Nat):Int)+(((pgs K i).length+1:Nat):Int))=((rnP K (i+1):Nat):Int):=by
  rw[aE AS AS];unfold rnP;omega
 have dr:∀ h,h=min K.length (5*(i+1))->((rS K).drop (5*i)).take (h-5*i)=rS (pgs K i):=λh hh=>by
  unfold pgs rS
  grind [List.map_take,List.map_drop,List.take_of_length_le]
 have g0:((0:Int)<=((5*i:Nat):Int))=True:=AAa;have n1:(((5*i:Nat):Int)).toNat=5*i:=H7 _;rw[r6];by_cases hk:¬5*(i+1)<K.length
 .have m1:(((5*(i+1):Nat):Int)<(K.length:Int))=False:=AAb
  have d:=dr K.length AS;have g1:(((5*i:Nat):Int)<=(K.length:Int))=True:=AAa;have g2:((K.length:Int)<=(K.length:Int))=True:=AAa;have n2:((K.length:Int)).toNat=K.length:=H7 _;have g3:((0:Int)<=(K.length:Int))=True:=AAa;have g4:(5*i<=K.length)=True:=AAa;clear dr hp h41 e1 r6;generalize rnP K (i+1)=RN at *;generalize kP K (i+1)=S2 at *;generalize kP K i=S1 at *;generalize pgB (pgs K i) (6*i)=PG at *;generalize rS (pgs K i)=RQ at *;generalize (pgs K i).length=q at *;generalize rS K=RK at *;generalize 5*(i+1)=i5 at *;generalize 5*i=i0 at *;generalize 6*i=i6 at *;unfold aFz;dsimp only;(exact eD c41 sa rl ra i1 w1 l1 w2 w3 m1 d g0 g1 g2 g3 g4 n1 n2 aF aF)
 .have m1:(((5*(i+1):Nat):Int)<(K.length:Int))=True:=AAa
  have d:=dr (5*(i+1)) AS;have g1:(((5*i:Nat):Int)<=((5*(i+1):Nat):Int))=True:=AAa;have g2:(((5*(i+1):Nat):Int)<=(K.length:Int))=True:=AAa;have n2:(((5*(i+1):Nat):Int)).toNat=5*(i+1):=H7 _;have g3:((0:Int)<=((5*(i+1):Nat):Int))=True:=AAa;have g4:(5*i<=5*(i+1))=True:=AAa;have g5:(5*(i+1)<=K.length)=True:=AAa;clear dr hp h41 e1 r6;generalize rnP K (i+1)=RN at *;generalize kP K (i+1)=S2 at *;generalize kP K i=S1 at *;generalize pgB (pgs K i) (6*i)=PG at *;generalize rS (pgs K i)=RQ at *;generalize (pgs K i).length=q at *;generalize rS K=RK at *;generalize 5*(i+1)=i5 at *;generalize 5*i=i0 at *;generalize 6*i=i6 at *;unfold aFz;dsimp only;(exact eD c41 sa rl ra i1 w1 l1 w2 w3 m1 d g0 g1 g2 g3 g4 g5 n1 n2 aF)
theorem a24(h41:∀{ls:List ByteArray}{row:Nat},1<=ls.length->ls.length<=1000->row<=10000->(∀ s∈ls,s.size<=40/\prL (bN s)=true)->runW progG 39 [.fs (rS ls),I (row:Int)] []=some (.str (pgB ls row),[]))(hB:RB s E B)(hK:s.book.length<=300)(hp:∀ l∈s.book,l.size<=40/\prL (bN l)=true):runW progG 11 [.pt 0 0] [B]=some (.str (kA s.book),[B]):=by
 have hd:(AAG:ByteArray)=kP s.book 0:=rfl;have np:yL s.book=(s.book.length+4)/5:=rfl;have sv:kA s.book=kP s.book (yL s.book):=rfl;rw[sv];rcases hB with rfl|⟨rfl,rfl⟩
 .have rl:=eP s.book
  have e0:(((5*yL s.book:Nat):Int)<(s.book.length:Int))=False:=AAb;have r0:((rnP s.book 0:Nat):Int)=0:=by rfl
  unfold rC;generalize fQ (gV s E) s.tickets.length=RT at *;generalize fQ (nN s) s.meters.length=RM at *;generalize fQ (nK s) s.pans.length=RP at *;generalize rS (fN s)=RF at *;have rd:=λi hi=>aTA h41 (K:=s.book) (RF:=RF) (RT:=RT) (RM:=RM) (RP:=RP) hK hp (i:=i) hi;generalize s.book=K at *;rw[rq 11 x11 rfl];unfold x11;dsimp only;sym =>
   simp[Za,Zb,Zf,Zh,Zl,Zm,Zp,Zr,Zv,Zy,Z9,ZA,ZD,ZE,ZG,ZS,ZW,Yq,Ys,Yu,Yw,Yy,YH,YX,Xp,Xz,XL,Wx,WH,Vd,Vi,V5,V6,V7,VH,VI,VQ,VY,VZ,Ua,Ub,Uc,Ui,Uj,Un,Uo,UC,UR,US,UU,UV,UW,UX,UY,Tb,Tc,Td,Te,Tg,Th,Tl,Tn,Tp,Tr,Ts,Tt,Tw,Tx,Ty,Tz,T2,TB,TK,TN,TO,TP,TZ,Sa,SA,SC,SG,SV,SX,SY,SZ,Ra,Rb,Rc,Re,Ri,Rk,Rl,Rq,QQ,rl]
   tactic =>
    unfold aFz;rw[aG (yL K) (λi=>[.pt 0 0,.str (kP K i),I (rnP K i:Nat),I (5*i:Nat)]) (λ_=>[aa [.bool true,.fs RF,.fs RT,.fs RM,.fs RP,.fs (rS K)]])];·(exact kJ e0 rl)
    .rfl
    .exact rd
    ·(exact kJ e0 rl)
 .have h0:kP (CSt.book dP) (yL (CSt.book dP))=AAG:=rfl
  rw[h0];unfold rN;rw[rq 11 x11 rfl];unfold x11;dsimp only;sym =>
   simp[Za,Zb,Zf,Zh,Zl,Zm,Zp,Zr,Zv,Zy,Z9,ZA,ZD,ZE,ZG,ZS,ZW,Yq,Ys,Yu,Yw,Yy,YH,YX,Xp,Xz,XL,Wx,WH,Vd,Vi,V5,V6,V7,VH,VI,VQ,VY,VZ,Ua,Ub,Uc,Ui,Uj,Un,Uo,UC,UR,US,UU,UV,UW,UX,UY,Tb,Tc,Td,Te,Tg,Th,Tl,Tn,Tp,Tr,Ts,Tt,Tw,Tx,Ty,Tz,T2,TB,TK,TN,TO,TP,TZ,Sa,SA,SC,SG,SV,SX,SY,SZ,Ra,Rb,Rc,Re,Ri,Rk,Rl,Rq,QQ]
   tactic =>
    unfold aFz;rw[aG 0 (λi=>[.pt 0 0,.str AAG,I 0,I (i:Nat)]) (λ_=>[aa [.bool true,.nilsl,.nilsl,.nilsl,.nilsl,.nilsl]])];·(exact RT0)
    .rfl
    .omega
    ·(exact RT0)
theorem a20:runW progG 21 [] []=some (.pt 0 0,[rN]):=by
 unfold rN;rw[rq 21 x21 rfl];unfold x21;dsimp only;(exact RT0)
end
def BkL(l:ByteArray):Prop:=l.size<=40/\prL (bN l)=true
theorem aBC(c:UInt8):∀(l:List UInt8)(b:UInt8),b∈l->b=c\/∃ w∈eC c l,b∈w
 | [],b,h=>by cases h
 | a::r,b,h=>by
   unfold eC;by_cases ha:a=c
   .rw[if_pos ha]
    rcases C4.1 h with h|h;·grind
    .exact(aBC c r b h).imp id λ⟨w,h1,h2⟩=>⟨w,D8 _ h1,h2⟩
   .rw[if_neg ha]
    have ih:=aBC c r b;cases hs:eC c r with
    | nil =>
      rw[hs]at ih;rcases C4.1 h with h|h;all_goals simp_all
    | cons x l =>
      rw[hs]at ih;rcases C4.1 h with h|h;·simp_all
      grind
def prB(w:ByteArray):Prop:=∀ b∈w.data.toList,32<=b.toNat/\b.toNat<=126
theorem aTL{w:ByteArray}(h:prB w):prL (bN w)=true:=by
 grind [prL,bN,prB]
theorem bBj:(fmL.all λp=>p.1.data.toList.all λb=>decide (32<=b.toNat)&&decide (b.toNat<=126))=true:=by kernel_rfl
theorem aTT{w:ByteArray}(h:aZ w=true):prB w:=λb hb=>by
 unfold aZ at h;simp only[B4,D5,I2]at h;obtain⟨i,hi⟩:=I5.1 hb;have hl:w.data.toList.length=w.size:=G7
 grind [aAi,bN]
theorem aXe{w:ByteArray}{v:Int}(h:cH w=some v):prB w:=λb hb=>by
 obtain⟨_,v0,v1,v2⟩:=fY h;obtain⟨n,rfl⟩:=M7 v0;rw[aEm]at v2;have:=aDc 5 n AS b (by grind);omega
theorem aZr{line w0:ByteArray}{xs:List ByteArray}{ns:List Int}(h:Rd line (.inr (w0,xs,ns))):BkL line:=by
 cases h with
 | ok l hn hm =>
   rename_i F;refine⟨l.hs,aTL λb hb=>?_⟩;rcases aBC 32 _ b hb with rfl|⟨w,h1,h2⟩;·decide
   .have hw:(⟨⟨w⟩⟩:ByteArray)∈cA line:=F8.2 ⟨w,h1,rfl⟩
    rw[l.hw]at hw;rcases C4.1 hw with hw|hw
    .have:=D5.1 (D5.1 bBj _ (aLK l.hf).1) b (by grind)
     grind
    .obtain⟨j,hj⟩:=I5.1 hw
     have hjl:=(B6.1 hj).1;have hjF:j<F.size:=by rw[<-l.ws.1];exact hjl
     have e:xs.getD j ByteArray.empty=⟨⟨w⟩⟩:=by grind
     have hn:=hn j hjF;have hm:=hm j hjF;rw[e]at hn hm;rcases hn with hk|hn
     .obtain⟨v,hv⟩:=hm hk
      exact aXe hv b h2
     .exact aTT hn b h2
theorem aXZ{P:CSt->ByteArray->Int}{s:CSt}{line:ByteArray}(h:∀ l∈s.book,BkL l):∀ l∈(qZ P s line (rd line)).2.book,BkL l:=by
 have hr:=aLs line;revert hr;cases rd line with
 | inl e=>exact λ_=>h
 | inr w =>
   intro ⟨w0,xs,ns,hd,_⟩;unfold qZ
   grind [aZr]
theorem q12{vs:List AV}{h:XH}(hl:vs.length<=24):runW aB 4 vs h=eY none x4.res x4.ownR h.length (execW aB 4 h.length none x4.body (aX (if x4.ownA then vs else kI vs)) h):=cJ rfl hl h rfl
def lgB(ls:List ByteArray):Nat->Bool
 | 0=>decide (40<ls.length)
 | i+1=>lgB ls i||decide (100<(ls.getD i qF).size)
theorem w12{ls:List ByteArray}(hn:ls.length<=9223372036854775807):runW aB 4 [.fs (rS ls)] []=some (.bool (lgB ls ls.length),[]):=by
 rw[q12 (by simp)];unfold x4;dsimp only;have rl:=eP ls;have e0:((ls.length:Int)<(ls.length:Int))=False:=AAb;have d40:decide ((40:Int)<(ls.length:Int))=decide (40<ls.length):=decide_eq_decide.2 AS;sym =>
  simp[Za,Zb,Zf,Zh,Zl,Zm,Zv,ZA,ZS,Yw,YK,Vg,VH,Tg,Tr,T2,TZ,Sa,SV,SX,Rb,Rc,Rk,Rl,rl]
  tactic =>
   unfold aYo;rw[aG ls.length (λi=>[.fs (rS ls),.bool (lgB ls i),I (i:Nat)]) (λ_=>[])];·(exact kJ e0 rl)
   .have l0:lgB ls 0=decide (40<ls.length):=rfl
    (exact vC rl l0 d40)
   .intro i hi
    obtain⟨s,hs⟩:=dO (l:=ls) (i:=i) hi;have sx:=oC hs;have g1:ls.getD i qF=s:=by grind
    have i1:((i:Int)<(ls.length:Int))=True:=AAa;have i2:(i<(rS ls).length)=True:=AAa;have a2:IntKind.i64.wrap ((i:Int)+1)=(i:Int)+1:=aE AS AS;have ls1:lgB ls (i+1)=(lgB ls i||decide (100<s.size)):=by rw[lgB,g1]
    have d100:decide ((100:Int)<(s.size:Int))=decide (100<s.size):=decide_eq_decide.2 AS;rw[ls1];cases lgB ls i with
    | true =>
      rw[Bool.true_or];(exact qR rl sx i1 i2 a2)
    | false =>
      rw[Bool.false_or];(exact iS rl sx i1 i2 a2 d100 aF)
   ·(exact kJ e0 rl)
theorem bBf(l:List ByteArray):lE [.fs (rS l)]=true:=rfl
theorem g12{ls:List ByteArray}(hn:ls.length<=9223372036854775807):runW progG 4 [.fs (rS ls)] []=some (.bool (lgB ls ls.length),[]):=(cM (d:=iO (pmRun 4)) rfl rfl _ _).trans (aHb (bBf _) (.bool _) (w12 hn))
theorem g41{ls:List ByteArray}{row:Nat}(h0:1<=ls.length)(h1:ls.length<=1000)(hr:row<=10000)(hg:∀ s∈ls,s.size<=40/\prL (bN s)=true):runW progG 39 [.fs (rS ls),I (row:Int)] []=some (.str (pgB ls row),[]):=(cM (d:=iO (pmRun 39)) rfl rfl _ _).trans (aHb rfl (.str _) (w41 h0 h1 hr hg))
def Alk(s:CSt)(E:Nat->Int)(B:Option XB):Prop:=RB s E B/\EOk s E/\cY s/\∀ l∈s.book,BkL l
theorem aMn:Alk dP (λ_=>0) rN:=⟨.inr ⟨rfl,rfl⟩,⟨λx=>rfl,λi=>⟨Int.le_refl 0,by grind⟩⟩,aJb,λl hl=>by simp[dP]at hl⟩
theorem aHS{s:CSt}{E:Nat->Int}{B:Option XB}(h:Alk s E B)(line:ByteArray):∃ E' B',Alk (sayA s line).2 E' B'/\runW progG 9 [.pt 0 0,.str line] [B]=some (.str (sayA s line).1,[B']):=by
 obtain⟨hB,eo,gs,hb⟩:=h;obtain⟨E',B',h1,h2,h3⟩:=a22 (line:=line) hB gs eo;have hr:=aLs line;refine⟨E',B',⟨h1,h2,aJa gs λw hw=>?_,aXZ hb⟩,h3⟩;rw[hw]at hr;obtain⟨_,_,_,_,iw⟩:=hr
 grind
def bR0:XCode:=match aIa with | .loop _ a=>a|c=>c
def vR(r:ByteArray)(i:Nat)(L:List ByteArray)(m:Nat):List AV:=[.str r,I (r.size/45:Nat),aSL L,I (m:Nat),I (6*i:Nat)]
section
variable{r:ByteArray}{i m:Nat}{L:List ByteArray}
theorem aXH{r:ByteArray}{i hi:Nat}(h:hi=min r.size (270*(i+1))):fK r (270*i) hi=zG r i:=by
 unfold fK zG;have hl:(r.data.toList.drop (270*i)).length=r.size-270*i:=by simp_all
 grind
theorem aVw(hs:shF r.size=0):r.size%45=0/\r.size/45%6≠1:=by
 grind [shF]
theorem aIw(hr:r.size<=3000)(hs:shF r.size=0)(hi:i<npF r):∃ n hi lo i0 i6:Nat,r.size/45=n/\6*i=i0/\6*(i+1)=i6/\(((i0:Int)<(n:Int))=True/\IntKind.i64.wrap ((i0:Int)*45)=(lo:Int)/\IntKind.i64.wrap ((i0:Int)+5)=((i0+5:Nat):Int)/\IntKind.i64.wrap (((i0+5:Nat):Int)+1)=(i6:Int)/\IntKind.i64.wrap ((i0:Int)+6)=(i6:Int))/\fK r lo hi=zG r i /\
 (lo<=hi/\hi<=r.size)/\(((i6:Int)<(n:Int))=True/\IntKind.i64.wrap ((i6:Int)*45)=(hi:Int)\/((i6:Int)<(n:Int))=False/\IntKind.i64.wrap ((n:Int)*45)=(hi:Int)):=by
 obtain⟨h1,h2⟩:=aVw hs;unfold npF at hi;refine⟨r.size/45,min r.size (270*(i+1)),270*i,6*i,6*(i+1),rfl,rfl,rfl,⟨AAa,?_,?_,?_,?_⟩,aXH rfl,by omega,?_⟩;·grind [aE]
 .grind [aE]
 .grind [aE]
 .grind [aE]
 .by_cases h:6*(i+1)<r.size/45
  .exact .inl ⟨AAa,by grind [aE]⟩
  .exact .inr ⟨AAb,by grind [aE]⟩
theorem aZk{e:Int}(hr:r.size<=3000)(hs:shF r.size=0)(hi:i<npF r)(hp:mnP (zG r i) (6*i:Nat) = .inl e):reX rsL false 0 (execW progG 7 0 none bR0 (aY [5,6,7,8,9] (vR r i L m)) (aGL L))=erL e:=by
 have c17:=g17 (s:=zG r i) (row:=((6*i:Nat):Int)) (by grind [aDX]);rw[aHv,hp]at c17;have c17:runW progG 20 [.str (zG r i),I (6*i:Nat)] []=some (.tup [.fs [],I 0,I e],[]):=c17;have e0:(e=0)=False:=AAo (aQn hp);obtain⟨n,hi,lo,i0,i6,q1,q2,q3,⟨t1,w1,w2,w3,w4⟩,ex,⟨h1,h2⟩,hm⟩:=aIw hr hs hi;clear hp;unfold bR0 aIa vR;dsimp only;rw[q2]at c17;rw[q1,q2];have g0:((0:Int)<=(lo:Int))=True:=AAa;have g1:((lo:Int)<=(hi:Int))=True:=AAa;have g2:((hi:Int)<=(r.size:Int))=True:=AAa;have n1:((lo:Int)).toNat=lo:=H7 _;have n2:((hi:Int)).toNat=hi:=H7 _;unfold aSL aGL;rcases hm with ⟨m1,w5⟩|⟨m1,w5⟩;all_goals split
 all_goals (exact eD t1 w1 w2 w3 w5 m1 g0 g1 g2 n1 n2 ex c17 e0 @aEA aU aR aT aF aF)
theorem aZj{p:List ByteArray×Nat}(hr:r.size<=3000)(hs:shF r.size=0)(hi:i<npF r)(hL:L.length<=1000)(hm:m<=1000)(hp:mnP (zG r i) (6*i:Nat) = .inr p):bT 0 [5,6,7,8,9] (execW progG 7 0 none bR0 (aY [5,6,7,8,9] (vR r i L m)) (aGL L))=some (vR r (i+1) (L++p.1) (m+p.2),aGL (L++p.1)):=by
 have c17:=g17 (s:=zG r i) (row:=((6*i:Nat):Int)) (by grind [aDX]);rw[aHv,hp]at c17;have c17:runW progG 20 [.str (zG r i),I (6*i:Nat)] []=some (.tup [.fs (rS p.1),I (p.2:Nat),I 0],[]):=c17;obtain⟨l1,l2,m2⟩:=aHu hp;obtain⟨l,d⟩:=p;dsimp only at l1 l2 m2 c17 ⊢;obtain⟨n,hi,lo,i0,i6,y1,y2,y3,⟨t1,w1,w2,w3,w4⟩,ex,⟨h1,h2⟩,hmm⟩:=aIw hr hs hi;have k1:IntKind.i64.wrap ((m:Int)+(d:Int))=((m+d:Nat):Int):=by grind [aE]
 have q1:=aVA l;have q2:=aVz l;have q3:=eP l;have q4:=aLi L l;have q5:=bP L;have q6:=bP (L++l);have q8:=bY L;have hne:L++l≠[]:=λh=>by
  simp_all
 have q9:(L++l).length=L.length+l.length:=E6;have b2:((L.length+l.length)*16<=1099511627776)=True:=AAa;have b3:(L.length+l.length<=1099511627776)=True:=AAa;have b4:(l.length*16<=1099511627776)=True:=AAa;have b5:(l.length<=1099511627776)=True:=AAa;have b6:(l.length=0)=False:=AAb;have g0:((0:Int)<=(lo:Int))=True:=AAa;have g1:((lo:Int)<=(hi:Int))=True:=AAa;have g2:((hi:Int)<=(r.size:Int))=True:=AAa;have n1:((lo:Int)).toNat=lo:=H7 _;have n2:((hi:Int)).toNat=hi:=H7 _;unfold vR;rw[aGw hne,aGx hne,q9,y1,y2,y3];rw[y2]at c17;clear hp;unfold bR0 aIa;dsimp only;by_cases h0:L=[]
 .subst h0
  have w2':bQ []=[]:=rfl;rw[w2',D4,D4]at q4;rw[D4]at q6 ⊢;have s0:aSL [] = .nilsl:=if_pos rfl;have g0':aGL []=[]:=if_pos rfl;have z9:(([]:List ByteArray).length+l.length)=l.length:=by simp
  rw[s0,g0',z9];rcases hmm with ⟨m1,w5⟩|⟨m1,w5⟩;all_goals (exact iW t1 w1 w2 w3 w4 w5 m1 g0 g1 g2 n1 n2 ex c17 k1 q1 q2 q3 q6 b4 b5 b6 aU aR aT aF)
 .rw[aGw h0,aGx h0]
  rcases hmm with ⟨m1,w5⟩|⟨m1,w5⟩;all_goals (sym=>(simp[cN,cO,eZ,Za,Zb,Zf,Zh,Zl,Zm,Zn,Zo,Zv,ZA,ZO,ZR,ZT,Yf,Yi,Ym,Yn,Yo,Y7,Y8,YA,YG,YH,YM,YN,Xm,XI,XL,XW,Wv,Wx,Wz,W3,W4,V5,V6,V7,V8,VG,VI,VJ,VN,VO,VQ,VV,VW,VX,VY,VZ,Ua,Ub,Uc,Ud,Ue,Uf,Ui,Uj,Uo,Ut,Uu,Uv,Th,Ti,Tj,Tl,Tm,Tn,Ts,Tt,Tu,Tv,Tw,Ty,Tz,T2,T5,T8,TB,TF,TI,TJ,TN,TO,TP,TQ,TR,Si,Sj,Sz,S5,S6,S7,S8,SN,SO,SP,SQ,SS,SU,SV,SX,SZ,Rb,Rc,Rg,Rj,Rk,Rl,RI,RJ,RO,RR,RZ,Qb,PI,PJ,PK,PL,t1,w1,w2,w3,w4,w5,m1,g0,g1,g2,n1,n2,ex,c17,k1,q1,q2,q3,q4,q5,q6,q8,b2,b3,aU,aR,aT];all_goals tactic=>exact rfl))
end
noncomputable def ldE:Int ⊕ (CSt×Nat)->AV×XH
 | .inl e=>(.tup [.nilpt,I 0,I e],[])
 | .inr p=>(.tup [.pt 0 0,I (p.2:Nat),I 0],[gK p.1])
theorem aTZ{r:ByteArray}:lfB r (npF r)=⟨⟨[]⟩⟩:=by
 unfold lfB npF;rw[List.drop_of_length_le];rw[G7];show r.size<=_;omega
theorem bDq{r:ByteArray}(hr:r.size<=3000):runW progG 6 [.str (hdB++r)] []=some (ldE (ldV r)):=by
 have c72:=g72 r;have c73:=bBP hr;have e0:aIc = .loop [3,5,8,9] b31:=rfl;have e1:aJF = .loop [2,3,58,59,60] aNB:=rfl;have c19:=g19;have ne:aN .neq (⟨⟨[]⟩⟩:ByteArray) ⟨#[]⟩=some (.bool false):=by kernel_rfl
 unfold ldV;by_cases hs:shF r.size=0
 .rw[if_neg (λh=>h hs)]
  rw[hs]at c73;rw[rq 6 x6 rfl];unfold x6;dsimp only;sym =>
   simp[Za,Zb,Zf,Zg,Zh,Zj,Zl,Zm,Zv,ZA,ZE,ZR,ZS,Yf,Yi,Yn,Yo,Ys,Yx,Yy,Yz,Y7,YG,YH,XI,XL,XN,XX,XZ,Wa,Wv,Ww,Wx,Wz,W5,W7,W8,WF,WH,WJ,WM,WO,Vb,Vd,Vf,Vi,Vk,V5,VF,VG,VH,VI,VJ,VN,VO,VP,VQ,VV,VW,VX,VY,VZ,Ua,Ub,Uc,Ud,Ue,Uf,Ui,Ut,Uu,Uv,UC,UE,UF,UG,UR,US,UU,UV,UW,UX,Ta,Tb,Tc,Td,Te,Tg,Th,Ti,Tj,Tl,Tm,Tn,Tr,Ts,Tt,Tu,Tv,Tw,Ty,Tz,T2,T5,TB,TC,TI,TJ,TK,TN,TO,TP,TQ,TR,TU,TV,TZ,Sa,S9,SV,SW,SX,SY,SZ,Ra,Rb,Rc,Re,Rf,Ri,Rk,Rl,Qb,QQ,Pj,Pk,Pm,Pn,Po,Pp,PI,PJ,PK,PL,PN,PO,c72,c73]
   tactic =>
    rw[e0,aEh (vs:=v31 r 0 [] 0) (H:=aGL []) ?_]
    .have pg:=aHn (V:=v31 r) (H:=aGL) hr (aZD hr) (aZE hr) (k:=npF r) (i:=0) (m:=0) (L:=[]) AS (by simp) AS
     cases hf:fdP r (npF r) 0 [] 0 with
     | inl c =>
       rw[hf]at pg;exact aGI pg
     | inr p =>
       rw[hf]at pg;obtain⟨pl,pm⟩:=aKz (by simp) AS hf;have n12:npF r<=12:=by unfold npF;omega
       dsimp only at pg;rw[pg];unfold lpX v31;rw[aTZ];have gr:=bP p.1;obtain⟨A,md⟩:=p;dsimp only at pl pm gr ⊢;by_cases h0:A=[]
       .subst h0
        rw[show aSL [] = .nilsl from rfl,show aGL []=[] from rfl,show fdS dP []=some dP from rfl];show _=some ((AV.tup [.pt 0 0,I (md:Nat),I 0],[gK dP]):AV×XH);unfold gK at *;generalize IsClk dP=K0 at *;unfold b31 aIc aJF;dsimp only;(exact vC ne c19 @sY)
       .rw[aGw h0,aGx h0]
        have sy:=aGJ (V:=aIi A.length md) (R:=λs H=>H=w31h A s) (A:=A) (λhx hR h=>⟨_,rfl,hR▸aYU AS hx h⟩) (λhx hR h=>hR▸aYV AS hx h) A (j:=0) (s:=dP) (H:=w31h A dP) (by simp) AS rfl;unfold b31 aIc;dsimp only;sym =>
         simp[Za,Zb,Zf,Zg,Zh,Zj,Zl,Zm,Zv,ZA,ZE,ZR,ZS,Yf,Yi,Yn,Yo,Ys,Yx,Yy,Yz,Y7,YG,YH,XI,XL,XN,XX,XZ,Wa,Wv,Ww,Wx,Wz,W5,W7,W8,WF,WH,WJ,WM,WO,Vb,Vd,Vf,Vi,Vk,V5,VF,VG,VH,VI,VJ,VN,VO,VP,VQ,VV,VW,VX,VY,VZ,Ua,Ub,Uc,Ud,Ue,Uf,Ui,Ut,Uu,Uv,UC,UE,UF,UG,UR,US,UU,UV,UW,UX,Ta,Tb,Tc,Td,Te,Tg,Th,Ti,Tj,Tl,Tm,Tn,Tr,Ts,Tt,Tu,Tv,Tw,Ty,Tz,T2,T5,TB,TC,TI,TJ,TK,TN,TO,TP,TQ,TR,TU,TV,TZ,Sa,S9,SV,SW,SX,SY,SZ,Ra,Rb,Rc,Re,Rf,Ri,Rk,Rl,Qb,QQ,Pj,Pk,Pm,Pn,Po,Pp,PI,PJ,PK,PL,PN,PO,ne,c19,gr,aU,aR,aT]
         tactic =>
          rw[e1,aEh (vs:=aIi A.length md 0) (H:=w31h A dP) ?_]
          .cases hf2:fdS dP A with
           | none =>
             rw[hf2]at sy;exact aGI sy
           | some s2 =>
             rw[hf2]at sy;obtain⟨_,rfl,sy⟩:=sy;rw[sy];show _=some ((AV.tup [.pt 0 0,I (md:Nat),I 0],[gK s2]):AV×XH);have t1:((A.length:Int)<(A.length:Int))=False:=AAb;unfold lpX aIi w31h gK;generalize IsClk s2=K2;unfold aNB aJF;dsimp only;(exact qR t1 gr aU aR aT)
          rfl
    rfl
 .have:shF r.size=20:=by unfold shF at hs ⊢;omega
  rw[if_pos hs];rw[this]at c73;rw[rq 6 x6 rfl];unfold x6;dsimp only;(exact kJ c72 c73)
def hdL:List UInt8:=[122,97,102,114,97,32,49,52,10]
noncomputable def fiV(f:ByteArray):Int ⊕ (CSt×Nat):=if Lib.hasPrefix f.data.toList hdL=true then ldV ⟨⟨f.data.toList.drop 9⟩⟩ else .inl 13
theorem aQJ{f:ByteArray}(h:Lib.hasPrefix f.data.toList hdL=true):f=hdB++⟨⟨f.data.toList.drop 9⟩⟩:=by
 have hp:hdL <+: f.data.toList:=by
  simpa [Lib.hasPrefix]using h
 obtain⟨t,ht⟩:=hp;apply ByteArray.ext;apply Array.ext';rw[aB7,Array.toList_append,<-ht];rfl
theorem bBl{f:ByteArray}(hr:f.size<=3000):runW progG 6 [.str f] []=some (ldE (fiV f)):=by
 unfold fiV;by_cases h:Lib.hasPrefix f.data.toList hdL=true
 .rw[if_pos h]
  have e:=aQJ h;obtain⟨r,hr2⟩:∃ r:ByteArray,(⟨⟨f.data.toList.drop 9⟩⟩:ByteArray)=r:=⟨_,rfl⟩;rw[hr2]at e ⊢;have hz:r.size<=3000:=by
   grind
  rw[e];exact bDq hz
 .rw[if_neg h]
  have hf:Lib.hasPrefix f.data.toList hdL=false:=by grind
  have c72:∃ x:ByteArray,runW progG 18 [.str f,.str ⟨#[122,97,102,114,97,32,49,52,10]⟩] []=some (.tup [.str x,.bool false],[]):=by
   rw[cM (d:=iO sL) rfl rfl]
   simp_all [sL,hdL]
  obtain⟨x,c72⟩:=c72;rw[rq 6 x6 rfl];unfold x6;dsimp only;unfold ldE;(exact cI c72)
def bR1:XCode:=match aMv with | .loop _ a=>a|c=>c
def wR(N md j:Nat):List AV:=[.sl 0 0 1 N,I (md:Nat),.pt 1 0,I (j:Nat)]
def hR(A:List ByteArray)(B:Option XB):XH:=[aa (bQ A),B]
theorem ry{A:List ByteArray}{j md n n':Nat}{x a:ByteArray}{B B':Option XB}(hN:A.length<=1000)(hx:A[j]?=some x)(hB:Shp n B)(hB':Shp n' B')(c22:runW progG 9 [.pt 0 0,.str x] [B]=some (.str a,[B'])) :
 (a=okA->bT 0 [7,8,13,14] (execW progG 7 0 none bR1 (aY [7,8,13,14] (wR A.length md j)) (hR A B))=some (wR A.length md (j+1),hR A B'))/\(a≠okA->reX rsL false 0 (execW progG 7 0 none bR1 (aY [7,8,13,14] (wR A.length md j)) (hR A B))=erL 22):=by
 have hj:j<A.length:=(B6.1 hx).1;have hx2:(bQ A)[j]?=some (.str x):=by simp_all [bQ]
 have t1:((j:Int)<(A.length:Int))=True:=AAa;have a1:=cV hj AS;have gr:=bP A;have sq:aN .neq a ⟨#[111,107]⟩=some (.bool (!decide (a=okA))):=fW a _;generalize A.length=N at *;unfold wR hR bR1 aMv;dsimp only;constructor
 .intro h
  rw[AAj h]at sq;have sq:aN .neq a ⟨#[111,107]⟩=some (.bool false):=sq;rcases hB with ⟨a,b,c,d,e,_,rfl⟩|⟨_,rfl⟩;all_goals rcases hB' with ⟨a',b',c',d',e',_,rfl⟩|⟨_,rfl⟩
  all_goals (exact kN t1 a1 hx2 c22 sq gr aU aR aT)
 .intro h
  rw[AAk h]at sq;have sq:aN .neq a ⟨#[111,107]⟩=some (.bool true):=sq;rcases hB with ⟨a,b,c,d,e,_,rfl⟩|⟨_,rfl⟩;all_goals rcases hB' with ⟨a',b',c',d',e',_,rfl⟩|⟨_,rfl⟩
  all_goals (exact kN t1 hx2 c22 sq gr @aEA aU aR aT)
def LdR(f:ByteArray):Int ⊕ (CSt×Nat)->Prop
 | .inl e=>runW progG 7 [.str f] []=erL e
 | .inr p=>∃ E B,Alk p.1 E B/\runW progG 7 [.str f] []=some (.tup [.pt 0 0,I (p.2:Nat),I 0],[B])
theorem lr7{r:ByteArray}(hr:r.size<=3000):LdR (hdB++r) (ldV r):=by
 have hz:hdB.size=9:=rfl;have fz:(hdB++r).size=9+r.size:=by grind
 have s1:(((hdB++r).size:Int)<9)=False:=AAb;have s2:((9:Int)<=((hdB++r).size:Int))=True:=AAa;have x1:fK (hdB++r) 0 9=hdB:=bBp hdB r;have x2:fK (hdB++r) 9 (hdB++r).size=r:=aVU hdB r;have sq:aN .neq hdB ⟨#[122,97,102,114,97,32,49,52,10]⟩=some (.bool false):=by kernel_rfl
 obtain⟨n,hn⟩:∃ n,r.size/45=n:=⟨_,rfl⟩;have d1:lQ (r.size:Int) 45=(n:Int):=by grind [lQ]
 have w1:IntKind.i64.wrap (n:Int)=(n:Int):=aE AS AS;have d2:tmZ (r.size:Int) 45=((r.size%45:Nat):Int):=iT r.size 45;have d3:tmZ (n:Int) 6=((n%6:Nat):Int):=iT n 6;generalize hdB++r=f at *;unfold ldV;by_cases hs:shF r.size=0
 .rw[if_neg (λh=>h hs)]
  obtain⟨h1,h2⟩:=aVw hs;rw[h1]at d2;rw[hn]at h2;have t3:(((n%6:Nat):Int)=1)=False:=AAb;have w2:IntKind.i64.wrap ((n:Int)+5)=((n+5:Nat):Int):=aE AS AS;have d4:lQ ((n+5:Nat):Int) 6=(((n+5)/6:Nat):Int):=zY (n+5) 6;have w3:IntKind.i64.wrap (((n+5)/6:Nat):Int)=(((n+5)/6:Nat):Int):=aE AS AS;have w4:IntKind.i64.wrap ((n:Int)-(((n+5)/6:Nat):Int))=((n-(n+5)/6:Nat):Int):=by grind [aE]
  have t4:(300<((n-(n+5)/6:Nat):Int))=False:=AAb;have e0:aIa = .loop [5,6,7,8,9] bR0:=rfl;have e1:aMv = .loop [7,8,13,14] bR1:=rfl;have c20:=a20;have t5:(((6*npF r:Nat):Int)<(n:Int))=False:=AAo (by unfold npF;omega);have pg:=aHn (V:=vR r) (H:=aGL) hr (aZj hr hs) (aZk hr hs) (k:=npF r) (i:=0) (m:=0) (L:=[]) AS (by simp) AS;rcases hf:fdP r (npF r) 0 [] 0 with c|⟨A,md⟩
  .rw[hf]at pg
   show runW progG 7 [.str f] []=erL c;rw[rq 7 x7 rfl];unfold x7;dsimp only;sym =>
    simp[cN,cO,eZ,Za,Zb,Zf,Zh,Zl,Zm,Zn,Zp,Zr,Zt,Zv,Zy,ZA,ZO,ZS,Yf,Yi,Yn,Yo,Yp,Yq,Yx,Yy,Yz,Y8,Y9,YF,YG,YH,YK,YX,YZ,Xk,XI,XN,XX,XZ,Wa,Wv,Wz,W5,W7,W8,WF,WJ,WM,WO,Vb,Vd,Vf,Vi,Vk,V5,VF,VH,VJ,VN,VO,VP,VQ,VV,VW,VX,VY,VZ,Ua,Ub,Uc,Ud,Ue,Uf,Ui,Uj,Uo,Ut,Uu,Uv,UC,UR,US,UU,UV,UW,UX,Ta,Tb,Tc,Td,Te,Tg,Th,Ti,Tj,Tl,Tm,Tn,Tr,Ts,Tt,Tu,Tv,Tw,Ty,Tz,T2,T5,TB,TC,TF,TI,TJ,TK,TN,TO,TP,TQ,TR,TU,TV,TZ,Sa,Sg,Si,Sj,S9,SV,SW,SX,SY,SZ,Ra,Rb,Rc,Re,Rf,Ri,Rk,Rl,RI,RJ,RO,RR,Qb,QQ,PI,PJ,PK,PL,s1,s2,x1,x2,sq,d1,w1,d2,d3,t3,w2,d4,w3,w4,t4]
    tactic =>
     rw[e0,aEh (vs:=vR r 0 [] 0) (H:=aGL []) ?_];·exact aGI pg
     .rw[show vR r 0 [] 0=[.str r,I (n:Nat),.nilsl,I 0,I 0] by unfold vR;rw[hn];rfl]
      rfl
  .rw[hf]at pg
   obtain⟨pl,pm⟩:=aKz (by simp) AS hf;have n12:npF r<=12:=by unfold npF;omega
   dsimp only at pl pm pg ⊢;by_cases h0:A=[]
   .subst h0
    refine⟨_,_,aMn,?_⟩;show runW progG 7 [.str f] []=some (.tup [.pt 0 0,I (md:Nat),I 0],[rN]);rw[rq 7 x7 rfl];unfold x7;dsimp only;sym =>
     simp[cN,cO,eZ,Za,Zb,Zf,Zh,Zl,Zm,Zn,Zp,Zr,Zt,Zv,Zy,ZA,ZO,ZS,Yf,Yi,Yn,Yo,Yp,Yq,Yx,Yy,Yz,Y8,Y9,YF,YG,YH,YK,YX,YZ,Xk,XI,XN,XX,XZ,Wa,Wv,Wz,W5,W7,W8,WF,WJ,WM,WO,Vb,Vd,Vf,Vi,Vk,V5,VF,VH,VJ,VN,VO,VP,VQ,VV,VW,VX,VY,VZ,Ua,Ub,Uc,Ud,Ue,Uf,Ui,Uj,Uo,Ut,Uu,Uv,UC,UR,US,UU,UV,UW,UX,Ta,Tb,Tc,Td,Te,Tg,Th,Ti,Tj,Tl,Tm,Tn,Tr,Ts,Tt,Tu,Tv,Tw,Ty,Tz,T2,T5,TB,TC,TF,TI,TJ,TK,TN,TO,TP,TQ,TR,TU,TV,TZ,Sa,Sg,Si,Sj,S9,SV,SW,SX,SY,SZ,Ra,Rb,Rc,Re,Rf,Ri,Rk,Rl,RI,RJ,RO,RR,Qb,QQ,PI,PJ,PK,PL,s1,s2,x1,x2,sq,d1,w1,d2,d3,t3,w2,d4,w3,w4,t4]
     tactic =>
      rw[e0,aEh (vs:=vR r 0 [] 0) (H:=aGL []) ?_]
      .rw[pg]
       unfold lpX vR rN at *;rw[hn,show aSL [] = .nilsl from rfl,show aGL []=[] from rfl];unfold bR0 aIa aMv;dsimp only;(exact vC t5 c20 @sY)
      .rw[show vR r 0 [] 0=[.str r,I (n:Nat),.nilsl,I 0,I 0] by unfold vR;rw[hn];rfl]
       rfl
   .have gr:=bP A
    have sy:=aGJ (V:=wR A.length md) (R:=λs H=>∃ E B,Alk s E B/\H=hR A B) (A:=A) (K:=7) (Ls:=[7,8,13,14]) (a:=bR1)
     (λ{j x s H} hx hR h=>by
      obtain⟨E,B,ha,rfl⟩:=hR;obtain⟨E',B',ha',c⟩:=aHS ha x;exact⟨_,⟨E',B',ha',rfl⟩,(ry AS hx (mA ha.1) (mA ha'.1) c).1 h⟩)
     (λ{j x s H} hx hR h=>by
      obtain⟨E,B,ha,rfl⟩:=hR;obtain⟨E',B',ha',c⟩:=aHS ha x;exact(ry AS hx (mA ha.1) (mA ha'.1) c).2 h) A (j:=0) (s:=dP) (H:=hR A rN) (by simp) AS ⟨_,_,aMn,rfl⟩
    have st:∀{q:AV×XH},eY none rsL false 0 (qJ (vB 2 (lpX progG 7 0 none [7,8,13,14] bR1 (wR A.length md 0) (hR A rN))) (execW progG 7 0 none (.seq (.reg [] false [⟨0,(some 87),(.mv (.t 13)),none⟩,⟨0,(some 88),(.mv (.t 8)),none⟩,⟨0,(some 2),(.mv (.t 87)),none⟩,⟨0,(some 3),(.mv (.t 88)),none⟩,⟨0,(some 4),(.mv (.c (.int .i64 0))),none⟩]) .ret)))=some q->runW progG 7 [.str f] []=some q:=λ{q} hq=>by
     rw[rq 7 x7 rfl];unfold x7;dsimp only;sym =>
      simp[cN,cO,eZ,Za,Zb,Zf,Zh,Zl,Zm,Zn,Zp,Zr,Zt,Zv,Zy,ZA,ZO,ZS,Yf,Yi,Yn,Yo,Yp,Yq,Yx,Yy,Yz,Y8,Y9,YF,YG,YH,YK,YX,YZ,Xk,XI,XN,XX,XZ,Wa,Wv,Wz,W5,W7,W8,WF,WJ,WM,WO,Vb,Vd,Vf,Vi,Vk,V5,VF,VH,VJ,VN,VO,VP,VQ,VV,VW,VX,VY,VZ,Ua,Ub,Uc,Ud,Ue,Uf,Ui,Uj,Uo,Ut,Uu,Uv,UC,UR,US,UU,UV,UW,UX,Ta,Tb,Tc,Td,Te,Tg,Th,Ti,Tj,Tl,Tm,Tn,Tr,Ts,Tt,Tu,Tv,Tw,Ty,Tz,T2,T5,TB,TC,TF,TI,TJ,TK,TN,TO,TP,TQ,TR,TU,TV,TZ,Sa,Sg,Si,Sj,S9,SV,SW,SX,SY,SZ,Ra,Rb,Rc,Re,Rf,Ri,Rk,Rl,RI,RJ,RO,RR,Qb,QQ,PI,PJ,PK,PL,s1,s2,x1,x2,sq,d1,w1,d2,d3,t3,w2,d4,w3,w4,t4]
      tactic =>
       rw[e0,aEh (vs:=vR r 0 [] 0) (H:=aGL []) ?_]
       .rw[pg,aGx h0]
        unfold lpX vR;rw[hn,aGw h0];unfold bR0 aIa;dsimp only;unfold rN at *;sym =>
         simp[cN,cO,eZ,Za,Zb,Zf,Zh,Zl,Zm,Zn,Zp,Zr,Zt,Zv,Zy,ZA,ZO,ZS,Yf,Yi,Yn,Yo,Yp,Yq,Yx,Yy,Yz,Y8,Y9,YF,YG,YH,YK,YX,YZ,Xk,XI,XN,XX,XZ,Wa,Wv,Wz,W5,W7,W8,WF,WJ,WM,WO,Vb,Vd,Vf,Vi,Vk,V5,VF,VH,VJ,VN,VO,VP,VQ,VV,VW,VX,VY,VZ,Ua,Ub,Uc,Ud,Ue,Uf,Ui,Uj,Uo,Ut,Uu,Uv,UC,UR,US,UU,UV,UW,UX,Ta,Tb,Tc,Td,Te,Tg,Th,Ti,Tj,Tl,Tm,Tn,Tr,Ts,Tt,Tu,Tv,Tw,Ty,Tz,T2,T5,TB,TC,TF,TI,TJ,TK,TN,TO,TP,TQ,TR,TU,TV,TZ,Sa,Sg,Si,Sj,S9,SV,SW,SX,SY,SZ,Ra,Rb,Rc,Re,Rf,Ri,Rk,Rl,RI,RJ,RO,RR,Qb,QQ,PI,PJ,PK,PL,t5,c20,gr,aU,aR,aT]
         tactic =>
          rw[e1,aEh (vs:=wR A.length md 0) (H:=hR A (aa [.bool true,.nilsl,.nilsl,.nilsl,.nilsl,.nilsl])) ?_];·exact hq
          rfl
       .rw[show vR r 0 [] 0=[.str r,I (n:Nat),.nilsl,I 0,I 0] by unfold vR;rw[hn];rfl]
        rfl
    cases hf2:fdS dP A with
    | none =>
      rw[hf2]at sy;exact st (aGI sy)
    | some s2 =>
      rw[hf2]at sy;obtain⟨H',⟨E,B,ha,rfl⟩,sy⟩:=sy;refine⟨E,B,ha,st ?_⟩;rw[sy];have t1:((A.length:Int)<(A.length:Int))=False:=AAb;unfold lpX wR hR;unfold bR1 aMv;dsimp only;rcases mA ha.1 with ⟨a,b,c,d,e,_,rfl⟩|⟨_,rfl⟩;all_goals (exact qR t1 gr aU aR aT)
 .rw[if_pos hs]
  show runW progG 7 [.str f] []=erL 20;have hq:r.size%45≠0\/r.size%45=0/\n%6=1:=by unfold shF at hs;omega
  rw[rq 7 x7 rfl];unfold x7;dsimp only;rcases hq with hq|⟨hq,h6⟩
  .have t2:(((r.size%45:Nat):Int)=0)=False:=AAb
   (exact kN s1 s2 x1 x2 sq d1 w1 d2 t2)
  .rw[hq]at d2
   rw[h6]at d3;(exact kN s1 s2 x1 x2 sq d1 w1 d2 d3)
theorem fi7{f:ByteArray}(hr:f.size<=3000):LdR f (fiV f):=by
 unfold fiV;by_cases h:Lib.hasPrefix f.data.toList hdL=true
 .rw[if_pos h]
  have e:=aQJ h;obtain⟨r,hr2⟩:∃ r:ByteArray,(⟨⟨f.data.toList.drop 9⟩⟩:ByteArray)=r:=⟨_,rfl⟩;rw[hr2]at e ⊢;have hz:r.size<=3000:=by
   grind
  rw[e];exact lr7 hz
 .rw[if_neg h]
  show runW progG 7 [.str f] []=erL 13;by_cases hz:f.size<9
  .have s1:((f.size:Int)<9)=True:=AAa
   rw[rq 7 x7 rfl];unfold x7;dsimp only;(exact cI s1)
  .have s1:((f.size:Int)<9)=False:=AAb
   have s2:((9:Int)<=(f.size:Int))=True:=AAa;have sq:aN .neq (fK f 0 9) ⟨#[122,97,102,114,97,32,49,52,10]⟩=some (.bool true):=by
    rw[fW,AAk];·rfl
    intro e;apply h;have e2:f.data.toList.take 9=hdL:=AAs (λb:ByteArray=>b.data.toList) e;unfold Lib.hasPrefix
    grind
   rw[rq 7 x7 rfl];unfold x7;dsimp only;(exact vC s1 s2 sq)
abbrev lB(L:List ByteArray):Option XB:=some (.blk true (.cells true (bQ L)))
noncomputable def gT3s(L:List ByteArray)(s:CSt)(A:List ByteArray):XH:=if A.length=0 then [gK s,lB L] else [gK s,lB L,aa (bQ A)]
section
variable{L:List ByteArray}{s:CSt}{i:Nat}
theorem aTz(hn:L.length<1000)(hi:i<L.length):bT 2 [0,1,5,6] (execW progG 17 2 none (match aLd with | .loop _ a=>a|c=>c) (aY [0,1,5,6] [.pt 0 0,.sl 1 0 1 L.length,sLb 2 i,I (i:Nat)]) (gT3s L (runL s (L.take i)) (ansL s (L.take i)))) =
 some ([.pt 0 0,.sl 1 0 1 L.length,sLb 2 (i+1),I (i+1:Nat)],gT3s L (runL s (L.take (i+1))) (ansL s (L.take (i+1)))):=by
 obtain⟨x,hx⟩:=dO (l:=L) (i:=i) hi;have hr:(bQ L)[i]?=some (.str x):=by grind [bQ]
 have rl:=bY L;have gl:=bP L;obtain⟨u1,u2⟩:=aCQ (s:=s) hx;have c21:=g21 (runL s (L.take i)) x;have al:(ansL s (L.take i)).length=i:=by grind [aET]
 have t1:((i:Int)<(L.length:Int))=True:=AAa;have up:=cV (i:=i) (n:=1000) AS AS;have s1:sLb 2 (i+1) = .sl 2 0 1 (i+1):=if_neg AS;have sc:bQ (ansL s (L.take i)++[(sayA (runL s (L.take i)) x).1])=bQ (ansL s (L.take i))++[.str (sayA (runL s (L.take i)) x).1]:=(aTa _ _).symm;have g1:gT3s L (runL s (L.take (i+1))) (ansL s (L.take (i+1)))=[gK (sayA (runL s (L.take i)) x).2,lB L,aa (bQ (ansL s (L.take i))++[.str (sayA (runL s (L.take i)) x).1])]:=by
  unfold gT3s
  grind
 rw[s1,g1];have gr:=bP (ansL s (L.take i));have tl:(bQ (ansL s (L.take i))).length=i:=by rw[bY,al]
 have b2:((i+1)*16<=1099511627776)=True:=AAa;have b3:(i+1<=1099511627776)=True:=AAa;unfold gT3s gK at *;rw[al];clear u1 u2 g1 sc al;generalize sayA (runL s (L.take i)) x=q at *;obtain⟨q1,q2⟩:=q;dsimp only at c21 ⊢;generalize IsClk q2=K2 at *;generalize ansL s (L.take i)=A at *;generalize runL s (L.take i)=s1 at *;generalize IsClk s1=K1 at *;unfold aLd;dsimp only;rcases aD6 i with rfl|hp
 .have s0:sLb 2 0 = .nilsl:=rfl
  have e0:A=[]:=by cases A with
   | nil=>rfl
   | cons a r=>simp[bQ]at tl
  subst e0;have z0:bQ ([]:List ByteArray)=[]:=rfl;have t1:((0:Int)<(L.length:Int))=True:=t1;have e0:((0:Nat):Int)=0:=rfl;rw[s0,if_pos rfl,z0,e0];(exact kN hr rl gl t1 c21 aU aR aT aF)
 .have s0:sLb 2 i = .sl 2 0 1 i:=if_neg AS
  rw[s0,if_neg AS];(exact eK hr rl gl t1 up c21 gr tl b2 b3 aU aR aT)
theorem bBS(hn:L.length<1000):runW progG 17 [.pt 0 0,.sl 1 0 1 L.length] [gK s,lB L]=some (.fs (rS (ansL s L)),[gK (runL s L),lB L]):=by
 have rl:=bY L;have gl:=bP L;have o1:=λi hi=>aTz (L:=L) (s:=s) (i:=i) hn hi;have tk:L.take L.length=L:=C9 (B5 _);have al:(ansL s L).length=L.length:=aET;have gr:=bP (ansL s L);have ch:=wJ (ansL s L);have ln:=bY (ansL s L);have tn:((L.length:Int)<(L.length:Int))=False:=AAb;have s0:sLb 2 0 = .nilsl:=rfl;have g0:gT3s L (runL s (L.take 0)) (ansL s (L.take 0))=[gK s,lB L]:=rfl;rw[bEQ (by simp[x17])];unfold x17;dsimp only;sym =>
  simp[cN,cO,eZ,Za,Zb,Zf,Zh,Zl,Zm,Zv,ZA,ZS,Yx,YH,YX,XO,W3,WL,WN,WY,Vg,Vh,Vi,Vj,V5,V8,VQ,VY,VZ,Ua,Ub,Uc,Ui,Uj,Un,Uo,U9,UA,UB,UC,UD,UM,UO,UR,US,UU,UV,UW,UX,UY,Tb,Tc,Td,Te,Th,Tl,Tn,Tp,Tr,Ts,Tt,Tw,Tx,Ty,Tz,T2,TF,TK,TN,TO,TP,TZ,Sa,S9,SV,SX,SY,Ra,Rb,Rc,Re,Ri,Rk,Rl,RZ,Qa,Qd,QQ,QS,QV,PN,PO,PP]
  tactic =>
   unfold aLd;rw[aG L.length (λi=>[.pt 0 0,.sl 1 0 1 L.length,sLb 2 i,I (i:Nat)]) (λi=>gT3s L (runL s (L.take i)) (ansL s (L.take i)))]
   .rw[tk]
    unfold gT3s gK;rw[al]at ch;generalize runL s L=s2 at *;generalize IsClk s2=K1 at *;generalize ansL s L=A at *;rw[al];rcases aD6 L.length with hz|hp
    .have e0:A=[]:=D0 AS
     subst e0;have r0:rS []=[]:=rfl;rw[hz]at tn ⊢;have s1:sLb 2 0 = .nilsl:=rfl;rw[s1,r0,if_pos rfl];(exact iS rl gl hz tn aU aR aT)
    .have s1:sLb 2 L.length = .sl 2 0 1 L.length:=if_neg AS
     rw[s1,if_neg AS];(exact gZ rl gl tn gr ch ln al aU aR aT)
   .rfl
   .exact o1
   ·(exact vC rl gl tn)
end
end Go.Proofs.YtfcdcgplogojbaaGreatDoor
