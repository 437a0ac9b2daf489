/- Parts of a proof, joined. No statement of the seed is proved here. -/
import Derived.Test.YtfcdcgplogojbaaGreatDoorH9
set_option linter.unusedSimpArgs false
set_option linter.unusedVariables false
set_option linter.unusedSectionVars false
set_option maxRecDepth 100000
set_option maxHeartbeats 4000000
namespace Go.Proofs.YtfcdcgplogojbaaGreatDoor
section
open Go Go.DL
theorem bES{vs:List AV}{h:XH}(hl:vs.length<=x5.N):runW progG 5 vs h=eY none x5.res x5.ownR h.length (execW progG 5 h.length none x5.body (aX (if x5.ownA then vs else kI vs)) h):=cJ rfl hl h rfl
abbrev bS(l:List UInt8):ByteArray:=⟨⟨l⟩⟩
def spW(n:Nat):ByteArray:=bS (List.replicate n 32)
theorem c34:runW progG 12 [I 32] []=some (.str (spW 32),[]):=bU.2 ⟨400,by kernel_rfl⟩
theorem bFi:runW progG 12 [I 35] []=some (.str (spW 35),[]):=bU.2 ⟨400,by kernel_rfl⟩
def wl0:List ByteArray:=[bS [102,97,114,109,101,114,32,97],bS [99,108,111,115,101]]
abbrev w1B:ByteArray:=(bS [50,49,49,49,102,97,114,109,101,114,32,97]++spW 32)++bS [10]
abbrev w2B:ByteArray:=(bS [49,49,51,52,99,108,111,115,101]++spW 35)++bS [10]
abbrev w3B:ByteArray:=(bS [49,56,50,49,74,78,98,97,75,114,32,97]++spW 32)++bS [10]
abbrev w4B:ByteArray:=(bS [49,49,51,52,99,108,111,122,101]++spW 35)++bS [10]
theorem bFk:runW progG 13 [.fs (rS wl0),I 0] []=some (.tup [.str ((w1B++w2B)++w3B),I 0],[]):=bU.2 ⟨400,by kernel_rfl⟩
theorem m1w:mnV ((w1B++w4B)++w3B) 0 = .tup [.fs (rS wl0),I 1,I 0]:=by kernel_rfl
theorem m2w:mnV ((w4B++w4B)++w3B) 0=vY 19:=by kernel_rfl
def wkL:List ByteArray:=[bS [102,97,114,109,101,114,32,97,110,97],bS [102,97,114,109,101,114,32,98,111],bS [102,97,114,109,101,114,32,97,110,97],bS [119,97,103,111,110,32,119,49,32,49,53,48,48,48,32,53,48,48,48,32,97,110,97],bS [119,97,103,111,110,32,119,49,32,49,52,48,48,48,32,53,53,48,49,32,98,111],bS [119,97,103,111,110,32,119,49,32,49,52,48,48,48,32,53,53,48,48,32,98,111],bS [119,97,103,111,110,32,119,50,32,51,48,48,48,32,52,48,48,48,32,97,110,97],bS [119,97,103,111,110,32,119,50,32,52,48,48,48,32,51,48,48,48,32,101,118,101],bS [119,97,103,111,110,32,119,50,32,57,48,48,48,32,51,48,48,48,32,98,111],bS [110,101,116,32,98,111],bS [116,111,116,97,108],bS [112,111,119,101,114,32,97,110,97],bS [112,111,119,101,114,32,98,111],bS [116,105,99,107,101,116,32,48],bS [118,111,105,100,32,48],bS [116,105,99,107,101,116,32,48],bS [116,111,116,97,108],bS [99,108,111,115,101],bS [118,111,105,100,32,49],bS [118,111,105,100,32,48],bS [118,111,105,100,32,51],bS [99,108,111,115,101],bS [109,101,116,101,114,32,109,32,57,57,57,57,48],bS [117,115,101,100,32,109],bS [109,101,116,101,114,32,109,32,49,53],bS [117,115,101,100,32,109],bS [112,97,110,32,112,32,57,48,48,32,56,55,48],bS [112,97,110,32,112,32,49,48,48,32,49,48,49],bS [108,111,115,115,32,112],bS [110,101,116,32,32,98,111],bS [110,101,116,32,66,111],bS [119,97,103,111,110,32,119,51,32,49,32,48,50,32,98,111],bS [115,117,103,97,114]]
def wkA:List ByteArray:=[bS [111,107],bS [111,107],bS [110,111,32,54],bS [111,107],bS [110,111,32,50,50],bS [111,107],bS [110,111,32,49,48],bS [110,111,32,53],bS [111,107],bS [49,52,53,48,48],bS [50,52,53,48,48],bS [48],bS [50],bS [119,49,32,97,110,97,32,49,48,48,48,48],bS [111,107],bS [119,49,32,97,110,97,32,49,48,48,48,48,32,118,111,105,100],bS [49,52,53,48,48],bS [111,107],bS [110,111,32,50,51],bS [110,111,32,54],bS [110,111,32,53],bS [110,111,32,52],bS [111,107],bS [48],bS [111,107],bS [50,53],bS [111,107],bS [110,111,32,49,48],bS [51,48],bS [110,111,32,49,51],bS [110,111,32,56],bS [110,111,32,50],bS [110,111,32,49,51]]
noncomputable def sW:CSt:=runL dP wkL
theorem aWl:ansL dP wkL=wkA:=by kernel_rfl
theorem aSN:fiV (kA sW.book) = .inr (sW,0):=by kernel_rfl
theorem aWk:decide ((kA sW.book).size<=3000)=true:=by kernel_rfl
theorem aWj:sayA (runL dP wkL) (bS [110,101,116,32,98,111])=(bS [49,52,53,48,48],runL dP wkL):=by kernel_rfl
theorem bFj:runW progG 15 [.fs (rS wkA),.sl 0 0 1 33] [lB wkA]=some (.bool true,[lB wkA]):=bU.2 ⟨400,by kernel_rfl⟩
theorem qQ{a b c:ByteArray}(h:a++b=c)(hs:c.size<=1000):aN .add a b=some (.str c):=by
 grind [eA]
theorem qP{a b c:ByteArray}(h:a++b=c):c.size=a.size+b.size:=by grind
theorem w13:runW progG 5 [] []=some (.bool true,[]):=by
 have z32:(spW 32).size=32:=rfl;have YO:(spW 35).size=35:=rfl;have p1:(bS [50,49,49,49,102,97,114,109,101,114,32,97]).size=12:=rfl;have p2:(bS [49,49,51,52,99,108,111,115,101]).size=9:=rfl;have p3:(bS [49,56,50,49,74,78,98,97,75,114,32,97]).size=12:=rfl;have p4:(bS [49,49,51,52,99,108,111,122,101]).size=9:=rfl;have p5:(bS [10]).size=1:=rfl;have h34:=c34;have h34b:=bFi;have h14:=bFk;have h16:=m1w;have h16b:=m2w;unfold w1B w2B w3B w4B at *;generalize spW 32=S at *;generalize spW 35=T at *;obtain⟨a1,ha1⟩:∃ u,bS [50,49,49,49,102,97,114,109,101,114,32,97]++S=u:=⟨_,rfl⟩;obtain⟨b1,hb1⟩:∃ u,a1++bS [10]=u:=⟨_,rfl⟩;obtain⟨a2,ha2⟩:∃ u,bS [49,49,51,52,99,108,111,115,101]++T=u:=⟨_,rfl⟩;obtain⟨b2,hb2⟩:∃ u,a2++bS [10]=u:=⟨_,rfl⟩;obtain⟨a3,ha3⟩:∃ u,bS [49,56,50,49,74,78,98,97,75,114,32,97]++S=u:=⟨_,rfl⟩;obtain⟨b3,hb3⟩:∃ u,a3++bS [10]=u:=⟨_,rfl⟩;obtain⟨a4,ha4⟩:∃ u,bS [49,49,51,52,99,108,111,122,101]++T=u:=⟨_,rfl⟩;obtain⟨b4,hb4⟩:∃ u,a4++bS [10]=u:=⟨_,rfl⟩;obtain⟨e1,he1⟩:∃ u,b1++b2=u:=⟨_,rfl⟩;obtain⟨e2,he2⟩:∃ u,e1++b3=u:=⟨_,rfl⟩;obtain⟨f1,hf1⟩:∃ u,b1++b4=u:=⟨_,rfl⟩;obtain⟨f2,hf2⟩:∃ u,f1++b3=u:=⟨_,rfl⟩;obtain⟨g1,hg1⟩:∃ u,b4++b4=u:=⟨_,rfl⟩;obtain⟨g2,hg2⟩:∃ u,g1++b3=u:=⟨_,rfl⟩;simp only[ha1,hb1,ha2,hb2,ha3,hb3,ha4,hb4,he1,he2,hf1,hf2,hg1,hg2]at h14 h16 h16b;have VW:=qP ha1;have U8:=qP hb1;have VX:=qP ha2;have zb2:=qP hb2;have VY:=qP ha3;have zb3:=qP hb3;have za4:=qP ha4;have U9:=qP hb4;have TY:=qP he1;have TZ:=qP he2;have S5:=qP hf1;have S6:=qP hf2;have Rl:=qP hg1;have zg2:=qP hg2;have sa1:=qQ ha1 AS;have sb1:=qQ hb1 AS;have sa2:=qQ ha2 AS;have sb2:=qQ hb2 AS;have sa3:=qQ ha3 AS;have sb3:=qQ hb3 AS;have sa4:=qQ ha4 AS;have sb4:=qQ hb4 AS;have se1:=qQ he1 AS;have se2:=qQ he2 AS;have sf1:=qQ hf1 AS;have sf2:=qQ hf2 AS;have sg1:=qQ hg1 AS;have sg2:=qQ hg2 AS;have k16:=g16 (s:=f2) (row:=0) AS;have k16b:=g16 (s:=g2) (row:=0) AS;rw[h16]at k16;rw[h16b]at k16b;unfold vY at k16b;have ne:=fW e2 e2;rw[AAj rfl]at ne;have ne:aN .neq e2 e2=some (.bool false):=ne;clear ha1 hb1 ha2 hb2 ha3 hb3 ha4 hb4 he1 he2 hf1 hf2 hg1 hg2 VW U8 VX zb2 VY zb3 za4 U9 TY TZ S5 S6 Rl zg2 h16 h16b;have c18:=bEP (a:=wl0) (b:=wl0) (by decide);rw[AAj rfl]at c18;have c19:=g19;have c31:=bBS (L:=wkL) (s:=dP) (by decide);rw[aWl]at c31;have c23:=g23 sW;have c25:=bBl (of_decide_eq_true aWk);rw[aSN]at c25;have c25:runW progG 6 [.str (kA sW.book)] []=some (.tup [.pt 0 0,I 0,I 0],[gK sW]):=c25;have c21:=g21 sW (bS [110,101,116,32,98,111]);have e21:sayA sW (bS [110,101,116,32,98,111])=(bS [49,52,53,48,48],sW):=aWj;rw[e21]at c21;change runW progG 17 [.pt 0 0,.sl 1 0 1 33] [gK dP,lB wkL]=some (.fs (rS wkA),[gK sW,lB wkL])at c31;have c18b:=bFj;have c23n:runW progG 10 [.pt 0 0] [gK dP]=some (.str hdB,[gK dP]):=g23 dP;have eh:aN .eql hdB ⟨#[122,97,102,114,97,32,49,52,10]⟩=some (.bool true):=by kernel_rfl
 have en:aN .eql (bS [49,52,53,48,48]) ⟨#[49,52,53,48,48]⟩=some (.bool true):=by kernel_rfl
 have es:=jH (kA sW.book) (kA sW.book);rw[AAj rfl]at es;have es:aN .eql (kA sW.book) (kA sW.book)=some (.bool true):=es;generalize kA sW.book=F at *;generalize hRA:rS wkA=RA at c31;have c18c:runW progG 15 [.fs RA,.sl 0 0 1 33] [lB wkA]=some (.bool true,[lB wkA]):=by grind
 clear c18b hRA;generalize hRB:rS wl0=RB at k16;have c18d:runW progG 15 [.fs RB,.fs (rS wl0)] []=some (.bool true,[]):=by grind
 clear c18 hRB;simp only[rS,lB,bQ,wkL,wkA,wl0,E7,aA8]at c31 c18c c18d h14;have fr:(List.replicate 33 [AV.str ⟨⟨[]⟩⟩]).flatten=[.str ⟨⟨[]⟩⟩,.str ⟨⟨[]⟩⟩,.str ⟨⟨[]⟩⟩,.str ⟨⟨[]⟩⟩,.str ⟨⟨[]⟩⟩,.str ⟨⟨[]⟩⟩,.str ⟨⟨[]⟩⟩,.str ⟨⟨[]⟩⟩,.str ⟨⟨[]⟩⟩,.str ⟨⟨[]⟩⟩,.str ⟨⟨[]⟩⟩,.str ⟨⟨[]⟩⟩,.str ⟨⟨[]⟩⟩,.str ⟨⟨[]⟩⟩,.str ⟨⟨[]⟩⟩,.str ⟨⟨[]⟩⟩,.str ⟨⟨[]⟩⟩,.str ⟨⟨[]⟩⟩,.str ⟨⟨[]⟩⟩,.str ⟨⟨[]⟩⟩,.str ⟨⟨[]⟩⟩,.str ⟨⟨[]⟩⟩,.str ⟨⟨[]⟩⟩,.str ⟨⟨[]⟩⟩,.str ⟨⟨[]⟩⟩,.str ⟨⟨[]⟩⟩,.str ⟨⟨[]⟩⟩,.str ⟨⟨[]⟩⟩,.str ⟨⟨[]⟩⟩,.str ⟨⟨[]⟩⟩,.str ⟨⟨[]⟩⟩,.str ⟨⟨[]⟩⟩,.str ⟨⟨[]⟩⟩]:=rfl;dsimp only at fr;unfold gK at *;generalize IsClk sW=K1 at *;generalize sW=s at *;generalize IsClk dP=K0 at *;generalize dP=s0 at *;generalize hdB=hh at *;rw[bES (by simp[x5])];unfold x5;dsimp only;(sym=>(simp[cN,cO,eZ,Za,Zb,Zd,Ze,Zf,Zg,Zh,Zj,Zl,Zm,Zo,Zp,Zq,Zr,Zv,Zy,Z8,ZA,ZE,ZR,Yf,Yi,Yn,Yo,Yp,Yq,Ys,Y7,YF,YG,XI,XJ,XL,XO,XW,XX,Wj,Wv,Ww,Wx,Wz,W3,W4,W5,WG,WK,WL,WM,WU,WY,Vc,Vg,Vi,Vr,V5,V8,V9,VD,VF,VG,VI,VJ,VK,VL,VN,VP,VQ,VV,VW,VX,VY,VZ,Ua,Ub,Uc,Ue,Uf,Ug,Ui,Uj,Uo,Ut,Uu,Uv,Uw,U9,UA,UB,UC,UD,UE,UF,UG,UM,UO,UR,US,UU,UV,UW,UX,UY,Tb,Tc,Td,Te,Tl,Tn,Tr,Ts,Tt,Tu,Tv,Tw,Ty,Tz,T2,T5,T8,TB,TF,TI,TJ,TL,TM,TN,TO,TP,TQ,TR,TS,TT,TZ,Sc,Sd,Se,Sf,Sq,Sr,Ss,Su,SN,SV,SW,SX,SY,SZ,Rc,Rk,Rl,Qj,Qm,Qn,Qo,QQ,QS,QV,Pj,Pk,Pm,Pn,Po,Pp,PI,PJ,PK,PL,PN,PO,fr,h34,h34b,sa1,sb1,sa2,sb2,sa3,sb3,sa4,sb4,se1,se2,sf1,sf2,sg1,sg2,h14,k16,k16b,ne,c18d,c19,c31,c18c,c23,c25,c21,c23n,eh,en,es];all_goals tactic=>exact rfl))
theorem bFp(line:ByteArray):runW progG 9 [.nilpt,.str line] []=some (.str (wC 9),[]):=by
 have c:=a63 (e:=9) AS AS;rw[rq 9 x9 rfl];unfold x9;dsimp only;(exact cI c)
theorem bFo:runW progG 11 [.nilpt] []=some (.str ⟨⟨[]⟩⟩,[]):=by
 rw[rq 11 x11 rfl];unfold x11;dsimp only;(exact RT0)
theorem aZg{s0:CSt}{E0:Nat->Int}{B0:Option XB}(h0:Alk s0 E0 B0)(L:List ByteArray):∀ n,n<=L.length->∃ Bs:Nat->Option XB,Bs 0=B0/\(∀ i,i<=n->∃ E,Alk (runL s0 (L.take i)) E (Bs i))/\∀ i,i<n->∀ x,L[i]?=some x->runW progG 9 [.pt 0 0,.str x] [Bs i]=some (.str (sayA (runL s0 (L.take i)) x).1,[Bs (i+1)])
 | 0, _=>⟨λ_=>B0, rfl, λi hi=>⟨_, by obtain rfl:i=0:=AS;exact h0⟩,λi hi=>absurd hi AS⟩
 | n+1,hn=>by
   obtain⟨Bs,b0,h1,h2⟩:=aZg h0 L n AS;obtain⟨x,hx⟩:=dO (l:=L) (i:=n) AS;obtain⟨E,ha⟩:=h1 n (B5 _);obtain⟨E',B',a1,a2⟩:=aHS ha x;have u:=(aCQ (s:=s0) hx).1;refine⟨λi=>if i=n+1 then B' else Bs i,by grind,λi hi=>?_,λi hi y hy=>?_⟩
   .dsimp only
    by_cases hin:i=n+1;·grind
    .rw[if_neg hin];exact h1 i AS
   grind
def bL:XCode:=match aGB with | .loop _ a=>a|c=>c
theorem aWL{L:List ByteArray}{i:Nat}(hn:L.length<=1000)(hi:i<L.length){x:ByteArray}(hx:L[i]?=some x){s:CSt}{B B':Option XB}{n m:Nat}(hB:Shp n B)(hB':Shp m B')(c22:runW progG 9 [.pt 0 0,.str x] [B]=some (.str (sayA s x).1,[B'])) :
 bT 0 [1,5,8,11] (execW progG 3 0 none bL (aY [1,5,8,11] [.fs (rS L),.pt 0 0,.pt 1 0,I (i:Nat)]) [gK s,B]) =
 some ([.fs (rS L),.pt 0 0,.pt 1 0,I (i+1:Nat)],[gK (sayA s x).2,B']):=by
 have rl:=eP L;have ra:=oC hx;have t1:((i:Int)<(L.length:Int))=True:=AAa;have t2:(i<(rS L).length)=True:=AAa;have up:=cV (i:=i) (n:=1000) AS AS;have c21:=g21 s x;have sq:=fW (sayA s x).1 (sayA s x).1;have sq:aN .neq (sayA s x).1 (sayA s x).1=some (.bool false):=by grind
 unfold gK at *;generalize sayA s x=q at *;obtain⟨q1,q2⟩:=q;dsimp only at *;generalize IsClk q2=K2 at *;generalize IsClk s=K1 at *;unfold bL aGB;dsimp only;rcases hB with ⟨a,b,c,d,e,_,rfl⟩|⟨_,rfl⟩;all_goals rcases hB' with ⟨a',b',c',d',e',_,rfl⟩|⟨_,rfl⟩
 all_goals (exact kN rl ra t1 t2 up c21 c22 sq aF)
theorem aTy{L:List ByteArray}{i:Nat}(hn:L.length<=1000)(hi:i<L.length) :
 bT 0 [1,5,8,11] (execW progG 3 0 none bL (aY [1,5,8,11] [.fs (rS L),.nilpt,.nilpt,I (i:Nat)]) []) =
 some ([.fs (rS L),.nilpt,.nilpt,I (i+1:Nat)],[]):=by
 obtain⟨x,hx⟩:=dO (l:=L) (i:=i) hi;have rl:=eP L;have ra:=oC hx;have t1:((i:Int)<(L.length:Int))=True:=AAa;have t2:(i<(rS L).length)=True:=AAa;have up:=cV (i:=i) (n:=1000) AS AS;have c21:=bEU x;have c22:=bFp x;have sq:aN .neq (wC 9) (wC 9)=some (.bool false):=by
  grind [fW]
 generalize wC 9=a at *;unfold bL aGB;dsimp only;(exact kN rl ra t1 t2 up c21 c22 sq aF)
theorem aWm{f:ByteArray}{ls:List ByteArray}(hf:f.size<=9223372036854775807)(hn:ls.length<=9223372036854775807):runW progG 3 [.str f,.fs (rS ls)] []=some (.bool true,[]):=by
 have c12:=g12 hn;have c13:=w13;have rl:=eP ls;by_cases hz:f.size<=3000
 .have z1:(3000<(f.size:Int))=False:=AAb
  cases hl:lgB ls ls.length with
  | true =>
    rw[hl]at c12;rw[rq 3 x3 rfl];unfold x3;dsimp only;(exact vC z1 c12 c13)
  | false =>
    rw[hl]at c12;by_cases hL:ls.length<=10
    .have z2:(10<(ls.length:Int))=False:=AAb
     have c25:=bBl hz;have c26:=fi7 hz;have t1:((ls.length:Int)<(ls.length:Int))=False:=AAb;have e0:aGB = .loop [1,5,8,11] bL:=rfl;rcases hv:fiV f with e|⟨s0,md⟩
     .rw[hv]at c25 c26
      have c25:runW progG 6 [.str f] []=some (.tup [.nilpt,I 0,I e],[]):=c25;have c26:runW progG 7 [.str f] []=some (.tup [.nilpt,I 0,I e],[]):=c26;have c23:=bET;have c24:=bFo;have se:aN .eql ⟨⟨[]⟩⟩ ⟨⟨[]⟩⟩=some (.bool true):=by kernel_rfl
      have rd:=λi hi=>aTy (L:=ls) (i:=i) AS hi;rw[rq 3 x3 rfl];unfold x3;dsimp only;sym =>
       simp[cN,cO,eZ,Za,Zb,Zf,Zg,Zh,Zj,Zl,Zm,Zp,Zq,Zr,Zt,Zv,Zy,ZA,ZB,ZD,ZR,ZS,Yf,Yi,Yn,Yo,Yp,Yq,Yr,Yw,Yz,Y7,YG,YH,YK,Xp,XJ,XL,XO,XX,Wa,Wv,Ww,Wx,Wz,W3,W5,W8,WG,WH,WK,WM,WO,Vc,Vd,Vg,Vi,Vk,V5,V8,VF,VG,VH,VI,VJ,VL,VN,VP,VQ,VV,VW,VX,VY,VZ,Ua,Ub,Uc,Ue,Uf,Ug,Ui,Uj,Uo,Ut,Uu,Uv,Uw,UC,UE,UF,UG,UR,US,UU,UV,UW,UX,UY,Tb,Tc,Td,Te,Tg,Th,Tl,Tm,Tn,Tp,Tr,Ts,Tt,Tu,Tv,Tw,Ty,Tz,T2,TB,TI,TJ,TK,TN,TO,TP,TQ,TR,TZ,Sa,S9,SV,SW,SX,SY,SZ,Ra,Rb,Rc,Re,Rf,Ri,Rk,Rl,Rp,Rq,QN,QO,QQ,Pj,Pk,Pm,Pn,Po,Pp,PI,PJ,PK,PL,PN,PO,z1,z2,c12,c25,c26,rl]
       tactic =>
        rw[e0,aG ls.length (λi=>[.fs (rS ls),.nilpt,.nilpt,I (i:Nat)]) (λ_=>[])]
        .unfold bL aGB
         dsimp only;(exact iS t1 rl c23 c24 se c13 aF)
        .rfl
        .exact rd
        .unfold bL aGB
         dsimp only;(exact kJ t1 rl)
     .rw[hv]at c25 c26
      have c25:runW progG 6 [.str f] []=some (.tup [.pt 0 0,I (md:Nat),I 0],[gK s0]):=c25;obtain⟨E0,B0,h0,c26⟩:=c26;dsimp only at h0 c26;obtain⟨Bs,b0,b1,b2⟩:=aZg h0 ls ls.length (B5 _);obtain⟨E,hB,eo,gs,bk⟩:=b1 ls.length (B5 _);have c23:=g23 (runL s0 (ls.take ls.length));have c24:=a24 g41 hB gs.book bk;have shB:=mA hB;have sh0:=mA h0.1;have sq:=jH (kA (runL s0 (ls.take ls.length)).book) (kA (runL s0 (ls.take ls.length)).book);rw[AAj rfl]at sq
      have rd:∀ i,i<ls.length->bT 0 [1,5,8,11] (execW progG 3 0 none bL (aY [1,5,8,11] [.fs (rS ls),.pt 0 0,.pt 1 0,I (i:Nat)]) [gK (runL s0 (ls.take i)),Bs i]) =
       some ([.fs (rS ls),.pt 0 0,.pt 1 0,I (i+1:Nat)],[gK (runL s0 (ls.take (i+1))),Bs (i+1)]):=λi hi=>by
       obtain⟨x,hx⟩:=dO (l:=ls) (i:=i) hi;obtain⟨_,q1,_⟩:=b1 i AS;obtain⟨_,q2,_⟩:=b1 (i+1) AS;rw[(aCQ (s:=s0) hx).1];exact aWL AS hi hx (mA q1) (mA q2) (b2 i hi x hx)
      rw[rq 3 x3 rfl];unfold x3;dsimp only;rcases sh0 with ⟨a,b,c,d,e,_,rfl⟩|⟨_,rfl⟩
      all_goals
       sym =>
        simp[cN,cO,eZ,Za,Zb,Zf,Zg,Zh,Zj,Zl,Zm,Zp,Zq,Zr,Zt,Zv,Zy,ZA,ZB,ZD,ZR,ZS,Yf,Yi,Yn,Yo,Yp,Yq,Yr,Yw,Yz,Y7,YG,YH,YK,Xp,XJ,XL,XO,XX,Wa,Wv,Ww,Wx,Wz,W3,W5,W8,WG,WH,WK,WM,WO,Vc,Vd,Vg,Vi,Vk,V5,V8,VF,VG,VH,VI,VJ,VL,VN,VP,VQ,VV,VW,VX,VY,VZ,Ua,Ub,Uc,Ue,Uf,Ug,Ui,Uj,Uo,Ut,Uu,Uv,Uw,UC,UE,UF,UG,UR,US,UU,UV,UW,UX,UY,Tb,Tc,Td,Te,Tg,Th,Tl,Tm,Tn,Tp,Tr,Ts,Tt,Tu,Tv,Tw,Ty,Tz,T2,TB,TI,TJ,TK,TN,TO,TP,TQ,TR,TZ,Sa,S9,SV,SW,SX,SY,SZ,Ra,Rb,Rc,Re,Rf,Ri,Rk,Rl,Rp,Rq,QN,QO,QQ,Pj,Pk,Pm,Pn,Po,Pp,PI,PJ,PK,PL,PN,PO,z1,z2,c12,c25,c26,rl]
        tactic =>
         rw[e0,aG ls.length (λi=>[.fs (rS ls),.pt 0 0,.pt 1 0,I (i:Nat)]) (λi=>[gK (runL s0 (ls.take i)),Bs i])]
         .generalize kA (runL s0 (ls.take ls.length)).book=SB at *
          unfold gK at *;generalize IsClk (runL s0 (ls.take ls.length))=K1 at *;generalize runL s0 (ls.take ls.length)=s1 at *;clear b1 b2 rd hB;generalize Bs ls.length=B at *;unfold bL aGB;dsimp only;rcases shB with ⟨a,b,c,d,e,_,rfl⟩|⟨_,rfl⟩;all_goals (exact iS t1 rl c23 c24 sq c13 aF)
         .rw[show runL s0 (ls.take 0)=s0 from rfl,b0]
          rfl
         .exact rd
         .unfold bL aGB
          dsimp only;(exact kJ t1 rl)
    .have z2:(10<(ls.length:Int))=True:=AAa
     rw[rq 3 x3 rfl];unfold x3;dsimp only;(exact qR z1 c12 rl z2 c13)
 .have z1:(3000<(f.size:Int))=True:=AAa
  rw[rq 3 x3 rfl];unfold x3;dsimp only;(exact kJ z1 c13)
end
section
open Go Go.DL Go.ChangeShapes Go.WideShapes Go.ChangeAt Go.RowKit
theorem aDM{H:Type}{enc:TypeId×Value->H}{a:Assume}{C:Checked}{os:Os}{f:FuncId}{fn:Func}{s:ChangeSpec}{X:World->Array Value->Prop}
 (hX:∀(w w':World)(args:Array Value),w.heap=w'.heap->X w args->X w' args)
 (own:ownKnob C.prog.godebug=none) (started:os.Started) (noInit:C.prog.inits.idxOf? f=none) (hfn:C.prog.funcs[f]?=some fn)
 (witness:∃(w:World)(tape:Tape)(i:Input),w.os=os/\(w.forCall tape i).Shaped C.prog/\i.vars=[]/\Input.okWide C.prog (w.forCall tape i) .any w.heap.size f i /\
  ((s.pre enc C.prog fn [] false (w.forCall tape i).memory i.args/\X (w.forCall tape i).memory i.args)/\sizedMet enc C.prog fn (OpenSpec.ofChange s) false (w.forCall tape i).memory i.args)/\a.holds C.prog (lone (Frame.enter C.prog f i.args .normal) [] (w.forCall tape i)))
 (contract:∀(W:World)(base:Nat)(args:Array Value)(ds gs:List (DataW H))(before:List MemPlace),
  (∀(j:Nat) t v,fn.params[j]?=some t->args[j]?=some v->Value.okWide C.prog W .any base t v) ->
  DataW.Whole enc C.prog fn.params.toList s.vars false W args.toList ds gs before->X W args->W.ShapedOpen C.prog ->
  Calls C.prog f args W λe W'=>∃ v,e = .returned v/\s.post enc C.prog fn false true false false W args v W') :
 ReturnsInHanded a C os f .any (λw args=>(s.pre enc C.prog fn [] false w args/\X w args)/\sizedMet enc C.prog fn (OpenSpec.ofChange s) false w args) (s.post enc C.prog fn false true false false):=by
 refine returnsInHanded_of_calls own started noInit witness ?_;rintro w tape i _ hsh _ ⟨_,_,_,fn',hfn',_,_,_,_,hval⟩ ⟨⟨⟨ds,gs,before,hw,_⟩,hx⟩,_⟩ _;cases hfn'.symm.trans hfn;exact(contract _ _ _ ds gs before hval (DataW.Whole.of_heap (by rfl) hw) (hX _ _ _ (by rfl) hx) hsh).mono λe W' ⟨v,he,hp⟩=>by
  grind [ChangeSpec.post_blind]
theorem aIx{α:Type}{f:α->List AV}{r:List CT}(key:∀ row:List AV,row.length=r.length->(∀(i:Nat)(c:CT)(a:AV),r[i]?=some c->row[i]?=some a->Sh c a)->∃ x,row=f x):∀{rows:List (List AV)},(∀ row∈rows,row.length=r.length) ->
 (∀ row∈rows,∀(i:Nat)(c:CT)(a:AV),r[i]?=some c->row[i]?=some a->Sh c a)->∃ l:List α,rows=l.map f
 | [],_,_=>⟨[],rfl⟩
 | a::rows,h1,h2=>by
   obtain⟨l,rfl⟩:=aIx key (rows:=rows) (λrow hr=>h1 row (by simp[hr])) (λrow hr=>h2 row (by simp[hr]));obtain⟨x,rfl⟩:=key a (h1 a (by simp)) (h2 a (by simp));exact⟨x::l,rfl⟩
theorem aZf{α:Type}{f:α->List AV}{r:List CT}(key:∀ row:List AV,row.length=r.length->(∀(i:Nat)(c:CT)(a:AV),r[i]?=some c->row[i]?=some a->Sh c a)->∃ x,row=f x){a:AV}(h:Sh (.sl r) a):∃ l:List α,a = .fs (l.map f)/\l.length<=maxLen:=by
 cases h with
 | sl _ rows h1 hn h2 =>
   obtain⟨l,rfl⟩:=aIx key h1 h2
   grind
theorem aRG{F:Nat->Prop}{w:World}:Args F w [] #[]:=⟨rfl,λi a' v' h1 h2=>by simp at h1⟩
theorem aGu{F:Nat->Prop}{w:World}{a:AV}{v:Value}{xs:List AV}{vs:List Value}(h:Rv F w a v)(hs:Args F w xs vs.toArray):Args F w (a::xs) (v::vs).toArray:=by
 grind [Args]
theorem aVT:Flat Tryz.prog 9 [.str]:=.str Tryz.underlying9
theorem aXE:Flat Tryz.prog 22 [.sl [.str]]:=.sl Tryz.underlying22 aVT (by kernel_rfl) (by decide)
theorem aOK{a:AV}(h:Sh .str a):∃ s:ByteArray,a = .str s/\s.size<=9223372036854775807:=by
 cases h with
 | str s h=>exact⟨s,rfl,h⟩
theorem aYY:∀ row:List AV,row.length=([.str]:List CT).length->(∀(i:Nat)(c:CT)(a:AV),([.str]:List CT)[i]?=some c->row[i]?=some a->Sh c a)->∃ x:ByteArray,row=[.str x]:=by
 intro row hl h;match row,hl with
 | [a0],_ =>
   obtain⟨s,rfl,_⟩:=aOK (h 0 _ _ rfl rfl)
   grind
theorem aSX{a:AV}(h:Sh (.sl [.str]) a):∃ ls:List ByteArray,a = .fs (rS ls)/\ls.length<=9223372036854775807:=by
 obtain⟨ls,rfl,hn⟩:=aZf aYY h;exact⟨ls,rfl,hn⟩
end
end Go.Proofs.YtfcdcgplogojbaaGreatDoor
