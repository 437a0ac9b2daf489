/- Parts of a proof, joined: N3 N20 N10 N11 N12 N21 N22 N23 NE N26 N25 N24. No statement of the seed is proved here. -/
import Derived.KernelRfl
import Derived.Test.YtmapgnepfgnphaaGreatDoorH9
set_option linter.unusedSimpArgs false
set_option linter.unusedVariables false
set_option linter.unusedSectionVars false
set_option maxRecDepth 100000
set_option maxHeartbeats 4000000
namespace Go.Proofs.YtmapgnepfgnphaaGreatDoor
section
open Go Go.DL
abbrev nK(n:Nat):List UInt8:=tF 6 n
def lW(b:Nat):UInt8:=UInt8.ofNat (97+b%4)
def lnQ(b c:Nat):List UInt8:=match c%7 with
 | 0=>[110,101,116,32]++[lW b]
 | 1=>[116,111,116,97,108]
 | 2=>[116,105,99,107,101,116,32]++nK (c%8)
 | 3=>[117,115,101,100,32]++[lW b]
 | 4=>[108,111,115,115,32]++[lW b]
 | 5=>[112,111,119,101,114,32]++[lW b]
 | _=>[98,108,111,111,109]
def lnN(a b c d:Nat):List UInt8:=match a%12 with
 | 0=>[102,97,114,109,101,114,32]++[lW b]
 | 1=>[102,97,114,109,101,114,32]++[lW b]
 | 6=>[118,111,105,100,32]++nK (c%8)
 | 7=>if c<64 then [99,108,111,115,101] else [118,111,105,100,32]++nK (c%8)
 | 8=>(([109,101,116,101,114,32]++[lW b])++[32])++nK (390*c)
 | 9=>(([109,101,116,101,114,32]++[lW b])++[32])++nK (390*c)
 | 10=>(((([112,97,110,32]++[lW b])++[32])++nK (10+c))++[32])++nK d
 | 11=>lnQ b c
 | _=>(((((([119,97,103,111,110,32,119]++nK (c%3))++[32])++nK (4000+5*d+40*c))++[32])++nK (4000+5*d))++[32])++[lW b]
theorem aIf{vs:List AV}{h:XH}(hl:vs.length≤x32.N):runW progG 32 vs h=gV none x32.res x32.ownR h.length (execW progG 32 h.length none x32.body (aV (if x32.ownA then vs else lO vs)) h):=dS rfl hl h rfl
theorem nM{a b:List UInt8}(h:a.length+b.length≤1000000):aQ .add ⟨⟨a⟩⟩ ⟨⟨b⟩⟩=some (.str ⟨⟨a++b⟩⟩):=by
 rw[oJ (by rw[rH,rH];exact h),aIX]
theorem mD{n:Nat}(h:n≤99999):(nK n).length≤6:=(g33 6 n AM AM AM).1
theorem aGN{n:Nat}(h:n≤99999):runW progG 33 [I (n:Nat)] []=some (.str ⟨⟨nK n⟩⟩,[]):=(g33 6 n AM AM AM).2
abbrev nA(a b c d:Nat):AV:=.agg [.int .u8 (a:Int),.int .u8 (b:Int),.int .u8 (c:Int),.int .u8 (d:Int)]
theorem aCR(b:Nat):Option.map (fun l=>AV.str { data:={ toList:=l } }) (gT [.int .u8 ((97+b%4:Nat):Int)])=some (.str ⟨⟨[lW b]⟩⟩):=aOO AM
section
variable{a b c d:Nat}
theorem aIb(b:Nat):qL (b:Int) 4=((b%4:Nat):Int):=kB b 4
theorem aIa(b:Nat):IntKind.u8.wrap (97+((b%4:Nat):Int))=((97+b%4:Nat):Int):=by
 have h:=aIQ (c:=97+b%4) AM;rw[show ((97+b%4:Nat):Int)=97+((b%4:Nat):Int) by omega]at h ⊢;exact h
theorem a12{a k:Nat}(h:a%12=k):qL (a:Int) 12=(k:Int):=by rw[←h];exact kB a 12
theorem aSc(ha:a%12=0∨a%12=1):runW progG 32 [nA a b c d] []=some (.str ⟨⟨[102,97,114,109,101,114,32]++[lW b]⟩⟩,[]):=by
 have b1:=aIb b;have b2:=aIa b;have b3:=aCR b;have s1:=nM (a:=[102,97,114,109,101,114,32]) (b:=[lW b]) (by simp);generalize b%4=m at *;generalize lW b=q at *;rw[aIf (by simp[x32])];unfold x32;dsimp only;rcases ha with ha|ha
 ·have a1:qL (a:Int) 12=0:=a12 ha
  (exact RT5 a1 b1 b2 b3 s1)
 ·have a1:qL (a:Int) 12=1:=a12 ha
  (exact RT5 a1 b1 b2 b3 s1)
theorem aIR(ha:a%12=2∨a%12=3∨a%12=4∨a%12=5)(hc:c<256)(hd:d<256):runW progG 32 [nA a b c d] []=some (.str ⟨⟨(((((([119,97,103,111,110,32,119]++nK (c%3))++[32])++nK (4000+5*d+40*c))++[32])++nK (4000+5*d))++[32])++[lW b]⟩⟩,[]):=by
 have b1:=aIb b;have b2:=aIa b;have b3:=aCR b;have l1:=mD (n:=c%3) AM;have l2:=mD (n:=4000+5*d+40*c) AM;have l3:=mD (n:=4000+5*d) AM;have g1:=aGN (n:=c%3) AM;have g2:=aGN (n:=4000+5*d+40*c) AM;have g3:=aGN (n:=4000+5*d) AM;have e1:IntKind.i64.wrap (d:Int)=(d:Int):=aI AM AM;have e2:IntKind.i64.wrap (5*(d:Int))=5*(d:Int):=aI AM AM;have e3:IntKind.i64.wrap (4000+5*(d:Int))=((4000+5*d:Nat):Int):=by rw[aI AM AM];omega
 have e4:IntKind.i64.wrap (c:Int)=(c:Int):=aI AM AM;have e5:qL (c:Int) 3=((c%3:Nat):Int):=kB c 3;have e6:IntKind.i64.wrap (40*(c:Int))=40*(c:Int):=aI AM AM;have e7:IntKind.i64.wrap (((4000+5*d:Nat):Int)+40*(c:Int))=((4000+5*d+40*c:Nat):Int):=by rw[aI AM AM];omega
 generalize nK (c%3)=z1 at *;generalize nK (4000+5*d+40*c)=z2 at *;generalize nK (4000+5*d)=z3 at *;obtain⟨y1,i1⟩:∃ y,[119,97,103,111,110,32,119]++z1=y:=⟨_,rfl⟩;obtain⟨y2,i2⟩:∃ y,y1++[32]=y:=⟨_,rfl⟩;obtain⟨y3,i3⟩:∃ y,y2++z2=y:=⟨_,rfl⟩;obtain⟨y4,i4⟩:∃ y,y3++[32]=y:=⟨_,rfl⟩;obtain⟨y5,i5⟩:∃ y,y4++z3=y:=⟨_,rfl⟩;obtain⟨y6,i6⟩:∃ y,y5++[32]=y:=⟨_,rfl⟩;have j1:=AAt List.length i1;have j2:=AAt List.length i2;have j3:=AAt List.length i3;have j4:=AAt List.length i4;have j5:=AAt List.length i5;have j6:=AAt List.length i6;simp only[B6,C8,J3]at j1 j2 j3 j4 j5 j6;have s1:=nM (a:=[119,97,103,111,110,32,119]) (b:=z1) (by simp;omega);have s2:=nM (a:=y1) (b:=[32]) (by simp;omega);have s3:=nM (a:=y2) (b:=z2) AM;have s4:=nM (a:=y3) (b:=[32]) (by simp;omega);have s5:=nM (a:=y4) (b:=z3) AM;have s6:=nM (a:=y5) (b:=[32]) (by simp;omega);have s7:=nM (a:=y6) (b:=[lW b]) (by simp;omega);rw[i1]at s1 ⊢;rw[i2]at s2 ⊢;rw[i3]at s3 ⊢;rw[i4]at s4 ⊢;rw[i5]at s5 ⊢;rw[i6]at s6 ⊢;clear i1 i2 i3 i4 i5 i6 j1 j2 j3 j4 j5 j6;generalize y6++[lW b]=y7 at *;generalize c%3=r at *;generalize 4000+5*d+40*c=u2 at *;generalize 4000+5*d=u3 at *;generalize b%4=m at *;generalize lW b=q at *;rw[aIf (by simp[x32])];unfold x32;dsimp only;rcases ha with ha|ha|ha|ha
 ·have a1:qL (a:Int) 12=2:=a12 ha
  (exact lV a1 b1 b2 b3 e1 e2 e3 e4 e5 e6 e7 g1 g2 g3 s1 s2 s3 s4 s5 s6 s7 aE aE aE aE aE)
 ·have a1:qL (a:Int) 12=3:=a12 ha
  (exact lV a1 b1 b2 b3 e1 e2 e3 e4 e5 e6 e7 g1 g2 g3 s1 s2 s3 s4 s5 s6 s7 aE aE aE aE aE)
 ·have a1:qL (a:Int) 12=4:=a12 ha
  (exact lV a1 b1 b2 b3 e1 e2 e3 e4 e5 e6 e7 g1 g2 g3 s1 s2 s3 s4 s5 s6 s7 aE aE aE aE aE)
 ·have a1:qL (a:Int) 12=5:=a12 ha
  (exact lV a1 b1 b2 b3 e1 e2 e3 e4 e5 e6 e7 g1 g2 g3 s1 s2 s3 s4 s5 s6 s7 aE aE aE aE aE)
theorem aSa(ha:a%12=6∨a%12=7∧¬c<64)(hc:c<256):runW progG 32 [nA a b c d] []=some (.str ⟨⟨[118,111,105,100,32]++nK (c%8)⟩⟩,[]):=by
 have b1:=aIb b;have b2:=aIa b;have b3:=aCR b;have l1:=mD (n:=c%8) AM;have g1:=aGN (n:=c%8) AM;have e4:IntKind.i64.wrap (c:Int)=(c:Int):=aI AM AM;have e5:qL (c:Int) 8=((c%8:Nat):Int):=kB c 8;have s1:=nM (a:=[118,111,105,100,32]) (b:=nK (c%8)) (by simp;omega);generalize nK (c%8)=z1 at *;generalize c%8=r at *;generalize b%4=m at *;generalize lW b=q at *;rw[aIf (by simp[x32])];unfold x32;dsimp only;rcases ha with ha|⟨ha,h6⟩
 ·have a1:qL (a:Int) 12=6:=a12 ha
  (exact RT9 a1 b1 b2 b3 e4 e5 g1 s1 aE)
 ·have a1:qL (a:Int) 12=7:=a12 ha
  have e6:((c:Int)<64)=False:=AAb;(exact RT9 a1 b1 b2 b3 e4 e5 e6 g1 s1)
theorem aVv(ha:a%12=7)(h6:c<64):runW progG 32 [nA a b c d] []=some (.str AAx,[]):=by
 have b1:=aIb b;have b2:=aIa b;have b3:=aCR b;have e6:((c:Int)<64)=True:=AAa;generalize b%4=m at *;generalize lW b=q at *;rw[aIf (by simp[x32])];unfold x32;dsimp only;have a1:qL (a:Int) 12=7:=a12 ha;(exact RT5 a1 b1 b2 b3 e6)
theorem aSb(ha:a%12=8∨a%12=9)(hc:c<256):runW progG 32 [nA a b c d] []=some (.str ⟨⟨(([109,101,116,101,114,32]++[lW b])++[32])++nK (390*c)⟩⟩,[]):=by
 have b1:=aIb b;have b2:=aIa b;have b3:=aCR b;have l1:=mD (n:=390*c) AM;have g1:=aGN (n:=390*c) AM;have e4:IntKind.i64.wrap (c:Int)=(c:Int):=aI AM AM;have e5:IntKind.i64.wrap (390*(c:Int))=((390*c:Nat):Int):=by rw[aI AM AM];omega
 have s1:=nM (a:=[109,101,116,101,114,32]) (b:=[lW b]) (by simp);have s2:=nM (a:=[109,101,116,101,114,32]++[lW b]) (b:=[32]) (by simp);have s3:=nM (a:=([109,101,116,101,114,32]++[lW b])++[32]) (b:=nK (390*c)) (by simp;omega);generalize (([109,101,116,101,114,32]++[lW b])++[32])++nK (390*c)=y3 at *;generalize ([109,101,116,101,114,32]++[lW b])++[32]=y2 at *;generalize [109,101,116,101,114,32]++[lW b]=y1 at *;generalize nK (390*c)=z1 at *;generalize 390*c=r at *;generalize b%4=m at *;generalize lW b=q at *;rw[aIf (by simp[x32])];unfold x32;dsimp only;rcases ha with ha|ha
 ·have a1:qL (a:Int) 12=8:=a12 ha
  (exact aUQ a1 b1 b2 b3 e4 e5 g1 s1 s2 s3)
 ·have a1:qL (a:Int) 12=9:=a12 ha
  (exact aUQ a1 b1 b2 b3 e4 e5 g1 s1 s2 s3)
theorem aVu(ha:a%12=10)(hc:c<256)(hd:d<256):runW progG 32 [nA a b c d] []=some (.str ⟨⟨(((([112,97,110,32]++[lW b])++[32])++nK (10+c))++[32])++nK d⟩⟩,[]):=by
 have b1:=aIb b;have b2:=aIa b;have b3:=aCR b;have l1:=mD (n:=10+c) AM;have l2:=mD (n:=d) AM;have g1:=aGN (n:=10+c) AM;have g2:=aGN (n:=d) AM;have e4:IntKind.i64.wrap (c:Int)=(c:Int):=aI AM AM;have e5:IntKind.i64.wrap (10+(c:Int))=((10+c:Nat):Int):=by rw[aI AM AM];omega
 have e6:IntKind.i64.wrap (d:Int)=(d:Int):=aI AM AM;have s1:=nM (a:=[112,97,110,32]) (b:=[lW b]) (by simp);have s2:=nM (a:=[112,97,110,32]++[lW b]) (b:=[32]) (by simp);have s3:=nM (a:=([112,97,110,32]++[lW b])++[32]) (b:=nK (10+c)) (by simp;omega);have s4:=nM (a:=(([112,97,110,32]++[lW b])++[32])++nK (10+c)) (b:=[32]) (by simp;omega);have s5:=nM (a:=((([112,97,110,32]++[lW b])++[32])++nK (10+c))++[32]) (b:=nK d) (by simp;omega);generalize (((([112,97,110,32]++[lW b])++[32])++nK (10+c))++[32])++nK d=y5 at *;generalize ((([112,97,110,32]++[lW b])++[32])++nK (10+c))++[32]=y4 at *;generalize (([112,97,110,32]++[lW b])++[32])++nK (10+c)=y3 at *;generalize ([112,97,110,32]++[lW b])++[32]=y2 at *;generalize [112,97,110,32]++[lW b]=y1 at *;generalize nK (10+c)=z1 at *;generalize nK d=z2 at *;generalize 10+c=r at *;generalize b%4=m at *;generalize lW b=q at *;rw[aIf (by simp[x32])];unfold x32;dsimp only;have a1:qL (a:Int) 12=10:=a12 ha;(exact aPb a1 b1 b2 b3 e4 e5 e6 g1 g2 s1 s2 s3 s4 s5 aE aE aE aE aE aE)
theorem aVt(ha:a%12=11)(hc:c<256):runW progG 32 [nA a b c d] []=some (.str ⟨⟨lnQ b c⟩⟩,[]):=by
 have b1:=aIb b;have b2:=aIa b;have b3:=aCR b;have l1:=mD (n:=c%8) AM;have g1:=aGN (n:=c%8) AM;have e4:IntKind.i64.wrap (c:Int)=(c:Int):=aI AM AM;have e5:qL (c:Int) 8=((c%8:Nat):Int):=kB c 8;have a1:qL (a:Int) 12=11:=a12 ha;have e7:qL (c:Int) 7=((c%7:Nat):Int):=kB c 7;have s1:=nM (a:=[110,101,116,32]) (b:=[lW b]) (by simp);have s2:=nM (a:=[116,105,99,107,101,116,32]) (b:=nK (c%8)) (by simp;omega);have s3:=nM (a:=[117,115,101,100,32]) (b:=[lW b]) (by simp);have s4:=nM (a:=[108,111,115,115,32]) (b:=[lW b]) (by simp);have s5:=nM (a:=[112,111,119,101,114,32]) (b:=[lW b]) (by simp);unfold lnQ;have hj:c%7<7:=J4 _ (by decide);generalize nK (c%8)=z1 at *;generalize c%8=r at *;generalize b%4=m at *;generalize lW b=q at *;rw[aIf (by simp[x32])];unfold x32;dsimp only;generalize c%7=j at *;have hj:j=0∨j=1∨j=2∨j=3∨j=4∨j=5∨j=6:=AM
 rcases hj with rfl|rfl|rfl|rfl|rfl|rfl|rfl
 ·have e7:qL (c:Int) 7=0:=e7
  (exact aAb a1 b1 b2 b3 e4 e5 e7 g1 s1 s2 s3 s4 s5)
 ·have e7:qL (c:Int) 7=1:=e7
  (exact aAb a1 b1 b2 b3 e4 e5 e7 g1 s1 s2 s3 s4 s5)
 ·have e7:qL (c:Int) 7=2:=e7
  (exact aAb a1 b1 b2 b3 e4 e5 e7 g1 s1 s2 s3 s4 s5)
 ·have e7:qL (c:Int) 7=3:=e7
  (exact aAb a1 b1 b2 b3 e4 e5 e7 g1 s1 s2 s3 s4 s5)
 ·have e7:qL (c:Int) 7=4:=e7
  (exact aAb a1 b1 b2 b3 e4 e5 e7 g1 s1 s2 s3 s4 s5)
 ·have e7:qL (c:Int) 7=5:=e7
  (exact aAb a1 b1 b2 b3 e4 e5 e7 g1 s1 s2 s3 s4 s5)
 ·have e7:qL (c:Int) 7=6:=e7
  (exact aAb a1 b1 b2 b3 e4 e5 e7 g1 s1 s2 s3 s4 s5)
theorem w32(hb:b<256)(hc:c<256)(hd:d<256):runW progG 32 [nA a b c d] []=some (.str ⟨⟨lnN a b c d⟩⟩,[]):=by
 have ha:a%12<12:=J4 _ (by decide);obtain⟨k,hk⟩:∃ k,a%12=k:=⟨_,rfl⟩;unfold lnN;rw[hk]at ha ⊢;have h:k=0∨k=1∨k=2∨k=3∨k=4∨k=5∨k=6∨k=7∨k=8∨k=9∨k=10∨k=11:=AM
 rcases h with rfl|rfl|rfl|rfl|rfl|rfl|rfl|rfl|rfl|rfl|rfl|rfl;·exact aSc (.inl hk)
 ·exact aSc (.inr hk)
 ·exact aIR (.inl hk) hc hd
 ·exact aIR (.inr (.inl hk)) hc hd
 ·exact aIR (.inr (.inr (.inl hk))) hc hd
 ·exact aIR (.inr (.inr (.inr hk))) hc hd
 ·exact aSa (.inl hk) hc
 ·by_cases h:c<64
  ·simp only[if_pos h];exact aVv hk h
  ·simp only[if_neg h];exact aSa (.inr ⟨hk,h⟩) hc
 ·exact aSb (.inl hk) hc
 ·exact aSb (.inr hk) hc
 ·exact aVu hk hc hd
 ·exact aVt hk hc
end
theorem bBj{vs:List AV}{h:XH}(hl:vs.length≤26):runW progG 18 vs h=gV none x18.res x18.ownR h.length (execW progG 18 h.length none x18.body (aV (if x18.ownA then vs else lO vs)) h):=dS rfl hl h rfl
theorem aXQ{a b:List ByteArray}(hb:b.length<1000000000):runW progG 18 [.fs (rS a),.fs (rS b)] []=some (.bool (decide (a=b)),[]):=by
 have la:=sD a;have lb:=sD b;rw[bBj (by simp)];unfold x18;dsimp only;by_cases hl:a.length=b.length
 ·have e1:((a.length:Int)=(b.length:Int))=True:=AAa
  obtain⟨m,m1,m2,m3⟩:=aEt a b b.length;have z:=Sm (n:=(b.length:Int));sym =>
   simp[fW,fX,lS,Za,Zb,Zf,Zh,Zi,Zl,Zm,Zv,ZA,ZH,ZR,ZX,ZY,Yv,Y4,Y5,Y7,YF,YG,YM,YN,YU,Xz,XI,XN,Wu,Wv,Wz,WF,WZ,Vd,V9,VA,VI,VN,VO,VQ,VR,Uu,UE,UF,UH,UI,UJ,UK,UL,UO,UP,UQ,UR,UT,UU,UV,UW,UX,UY,UZ,Ta,Tb,Tc,Td,Te,Th,Tj,Tl,Tm,Tw,Tx,T0,T4,T5,T8,T9,TA,TB,TC,TJ,TK,Sm,Sq,Sr,Su,S7,S8,S9,SA,SB,SC,SD,SE,SF,SG,SI,SJ,SK,SL,SM,SN,Qh,la,lb,e1]
   tactic =>
    unfold aRX;rw[aS m (fun i=>[.fs (rS a),.fs (rS b),I (i:Nat)]) (fun _=>[])]
    ·rcases m3 with rfl|m3
     ·have hab:a=b:=J5 fun i=>by
       by_cases hi:i<b.length;·exact m2 i hi
       ·rw[D5 AM,D5 AM]
      have d:decide (a=b)=true:=AAl hab;rw[d];(exact RT4 la lb z hl)
     ·have hm:m<b.length:=by
       by_cases hm:m<b.length;·exact hm
       ·exact absurd (by rw[D5 AM,D5 AM]) m3
      have d:decide (a=b)=false:=AAm fun h=>m3 (by rw[h]);rw[d];obtain⟨x,hx⟩:=gF (l:=a) (i:=m) AM;obtain⟨y,hy⟩:=gF (l:=b) (i:=m) hm;have hxy:=jJ x y;rw[AAm (fun h=>m3 (by rw[hx,hy,h]):¬x=y)]at hxy;have ax:=aAl hx;have ay:=aAl hy;have i1:((m:Int)<(b.length:Int))=True:=AAa;have i2:((m:Int)<(a.length:Int))=True:=AAa;(exact RT7 la lb ax ay hxy i1 i2)
    ·(exact RT1 la)
    ·intro i hi
     have hib:i<b.length:=AM
     obtain⟨y,hy⟩:=gF (l:=b) hib;have hx:a[i]?=some y:=by rw[m2 i hi];exact hy
     have ax:=aAl hx;have ay:=aAl hy;have hxy:=jJ y y;rw[AAl (rfl:y=y)]at hxy;have i1:((i:Int)<(b.length:Int))=True:=AAa;have i2:((i:Int)<(a.length:Int))=True:=AAa;have a2:=kT hib AM;(exact RT9 la lb ax ay hxy i1 i2 a2 aE)
    ·rcases m3 with rfl|m3
     ·(exact RT4 la lb z hl)
     ·have hm:m<b.length:=by
       by_cases hm:m<b.length;·exact hm
       ·exact absurd (by rw[D5 AM,D5 AM]) m3
      obtain⟨x,hx⟩:=gF (l:=a) (i:=m) AM;obtain⟨y,hy⟩:=gF (l:=b) (i:=m) hm;have hxy:=jJ x y;rw[AAm (fun h=>m3 (by rw[hx,hy,h]):¬x=y)]at hxy;have ax:=aAl hx;have ay:=aAl hy;have i1:((m:Int)<(b.length:Int))=True:=AAa;have i2:((m:Int)<(a.length:Int))=True:=AAa;(exact RT7 la lb ax ay hxy i1 i2)
 ·have e1:((a.length:Int)=(b.length:Int))=False:=AAb
  have d:decide (a=b)=false:=AAm fun h=>hl (by rw[h]);rw[d];(exact RT3 la lb e1)
def rNt(l:List (Nat×Nat×Nat×Nat)):List (List AV):=l.map fun t=>[.int .u8 (t.1:Int),.int .u8 (t.2.1:Int),.int .u8 (t.2.2.1:Int),.int .u8 (t.2.2.2:Int)]
theorem aJk(l:List (Nat×Nat×Nat×Nat)):(rNt l).length=l.length:=by simp[rNt]
theorem aTu{l:List (Nat×Nat×Nat×Nat)}{i a b c d:Nat}(h:l[i]?=some (a,b,c,d)):(rNt l)[i]?=some [.int .u8 (a:Int),.int .u8 (b:Int),.int .u8 (c:Int),.int .u8 (d:Int)]:=by
 unfold rNt;rw[A6,h];rfl
abbrev Nt:=Nat×Nat×Nat×Nat
def Nt8(l:List Nt):Prop:=∀ x∈l,x.1<256∧x.2.1<256∧x.2.2.1<256∧x.2.2.2<256
def ln1(t:Nt):ByteArray:=⟨⟨lnN t.1 t.2.1 t.2.2.1 t.2.2.2⟩⟩
def bI(l:List Nt):List ByteArray:=(l.take 25).map ln1
def zA(b i:Nat):AV:=if i=0 then .nilsl else .sl b 0 1 i
def gLb(A:List ByteArray):XH:=if A.length=0 then [] else [some (.blk true (.cells true (fI A)))]
theorem aTf{A:List ByteArray}{i:Nat}{x:ByteArray}(h:A[i]?=some x):fI (A.take (i+1))=fI (A.take i)++[.str x]:=by
 unfold fI;rw[I7,h,F6];rfl
theorem bBh{vs:List AV}{h:XH}(hl:vs.length≤x29.N):runW progG 29 vs h=gV none x29.res x29.ownR h.length (execW progG 29 h.length none x29.body (aV (if x29.ownA then vs else lO vs)) h):=dS rfl hl h rfl
theorem aXS{vs:List AV}{h:XH}(hl:vs.length≤x31.N):runW progG 31 vs h=gV none x31.res x31.ownR h.length (execW progG 31 h.length none x31.body (aV (if x31.ownA then vs else lO vs)) h):=dS rfl hl h rfl
theorem aTg(A:List ByteArray):fI (A.take 0)=[]:=rfl
section
variable{l:List Nt}{i:Nat}
theorem aQV{a b c d:Nat}(h:l[i]?=some (a,b,c,d))(hi:i<25):(bI l)[i]?=some ⟨⟨lnN a b c d⟩⟩:=by
 unfold bI;rw[A6,aH3 hi,h];rfl
theorem yD(l:List Nt):(bI l).length=min 25 l.length:=by simp[bI]
theorem aQt(hb:Nt8 l)(hi:i<(bI l).length):dL 0 [0,3,4] (execW progG 29 0 none (match aIO with | .loop _ a=>a|c=>c) (bH [0,3,4] [.fs (rNt l),zA 0 i,I (i:Nat)]) (gLb ((bI l).take i))) =
 some ([.fs (rNt l),zA 0 (i+1),I (i+1:Nat)],gLb ((bI l).take (i+1))):=by
 have hl:=yD l;obtain⟨⟨a,b,c,d⟩,ht⟩:∃ t,l[i]?=some t:=⟨_,A4 AM⟩;obtain⟨_,h2,h3,h4⟩:=hb _ (A5 ht);have h2:b<256:=h2;have h3:c<256:=h3;have h4:d<256:=h4;have hr:=aTu ht;have rl:=aJk l;have c32:=w32 (a:=a) h2 h3 h4;have t1:((i:Int)<(l.length:Int))=True:=AAa;have t2:((i:Int)<25)=True:=AAa;have up:=kT (i:=i) (n:=30) AM AM;have s1:zA 0 (i+1) = .sl 0 0 1 (i+1):=if_neg AM;have g1:gLb ((bI l).take (i+1))=[some (.blk true (.cells true (fI ((bI l).take i)++[.str ⟨⟨lnN a b c d⟩⟩])))]:=by
  unfold gLb;rw[if_neg (by rw[G5];omega),aTf (aQV ht AM)]
 rw[s1,g1];generalize (⟨⟨lnN a b c d⟩⟩:ByteArray)=z at *;unfold aIO;dsimp only;rcases I4 i with rfl|hp
 ·have s0:zA 0 0 = .nilsl:=rfl
  have g0:gLb ((bI l).take 0)=[]:=rfl;rw[s0,g0,aTg];have t1:((0:Int)<(l.length:Int))=True:=t1;have e0:((0:Nat):Int)=0:=rfl;rw[e0];(exact RT4 hr rl t1 c32)
 ·have s0:zA 0 i = .sl 0 0 1 i:=if_neg AM
  have tl:(fI ((bI l).take i)).length=i:=by rw[gI,G5];omega
  have g0:gLb ((bI l).take i)=[some (.blk true (.cells true (fI ((bI l).take i))))]:=if_neg (by rw[G5];omega);have gr:=eJ ((bI l).take i);have b2:((i+1)*16≤1099511627776)=True:=AAa;have b3:(i+1≤1099511627776)=True:=AAa;rw[s0,g0];(exact aAb hr rl t1 t2 up c32 gr tl b2 b3 bX bV bW)
theorem w29(hb:Nt8 l):runW progG 29 [.fs (rNt l)] []=some (.fs (rS (bI l)),[]):=by
 have hl:=yD l;have rl:=aJk l;have o1:=fun i hi=>aQt (i:=i) hb hi;have ex:(((bI l).length:Int)<(l.length:Int))=False∨(((bI l).length:Int)<(l.length:Int))=True∧(((bI l).length:Int)<25)=False:=by
  by_cases h:(bI l).length<l.length;·exact .inr ⟨AAa,AAb⟩
  ·exact .inl (AAb)
 have tk:(bI l).take (bI l).length=bI l:=B5 (A8 _);have gr:=eJ (bI l);have ch:=aBh (bI l);have ln:=gI (bI l);rw[bBh (by simp[x29])];unfold x29;dsimp only;sym =>
  simp[fW,fX,lS,Za,Zb,Zf,Zh,Zl,Zm,Zp,Zq,Zs,Zv,Zy,ZA,ZR,Yo,Yp,Yv,YG,YU,Xz,XN,XY,Wu,Wz,W6,WK,WM,WV,Vd,Vh,V1,V4,V9,VI,VN,VO,VP,VQ,VR,Ur,Us,Ut,Uu,Uv,U9,UB,UE,UF,UH,UI,UJ,UK,UL,UO,UP,UQ,UR,UT,UU,UV,UW,UX,UZ,Ta,Tc,Td,Te,Th,Tj,Tm,T0,T4,T5,T8,T9,TA,TB,TC,TJ,TK,S7,S9,SA,SC,SD,SE,SF,SK,SL,SM,SN,Rp,Rq,Rs,Qh,Qj,Ql]
  tactic =>
   unfold aIO;rw[aS (bI l).length (fun i=>[.fs (rNt l),zA 0 i,I (i:Nat)]) (fun i=>gLb ((bI l).take i))]
   ·rw[tk]
    rcases I4 (bI l).length with hz|hp
    ·have e0:bI l=[]:=B8 hz
     rw[e0]at ex ⊢;have s0:zA 0 ([]:List ByteArray).length = .nilsl:=rfl;have g0:gLb []=[]:=rfl;have r0:rS []=[]:=rfl;rw[s0,g0,r0];rcases ex with ex|⟨ex,ex2⟩
     ·have ex:((0:Int)<(l.length:Int))=False:=ex
      (exact RT2 rl ex)
     ·exact absurd ex2 (by decide)
    ·have s0:zA 0 (bI l).length = .sl 0 0 1 (bI l).length:=if_neg AM
     have g0:gLb (bI l)=[some (.blk true (.cells true (fI (bI l))))]:=if_neg AM;rw[s0,g0];generalize bI l=A at *;rcases ex with ex|⟨ex,ex2⟩;·(exact RT9 rl ex gr ch ln bX bV bW aE)
     ·(exact RT9 rl ex ex2 gr ch ln bX bV bW)
   ·have s0:zA 0 0 = .nilsl:=rfl
    have g0:gLb ((bI l).take 0)=[]:=rfl;rw[s0,g0];(exact RT0)
   ·exact o1
   ·rcases ex with ex|⟨ex,ex2⟩
    ·(exact RT2 rl ex)
    ·(exact RT3 rl ex ex2)
end
noncomputable def runL(s:dR):List ByteArray→dR
 | []=>s
 | x::r=>runL (sayA s x).2 r
noncomputable def ansL(s:dR):List ByteArray→List ByteArray
 | []=>[]
 | x::r=>(sayA s x).1::ansL (sayA s x).2 r
theorem xL:∀{L:List ByteArray}{s:dR}{i:Nat}{x:ByteArray},L[i]?=some x→runL s (L.take (i+1))=(sayA (runL s (L.take i)) x).2∧ansL s (L.take (i+1))=ansL s (L.take i)++[(sayA (runL s (L.take i)) x).1]
 | [],s,i,x,h=>by simp at h
 | y::r,s,0,x,h=>by
   obtain rfl:y=x:=by simpa using h
   exact⟨rfl,rfl⟩
 | y::r,s,i+1,x,h=>by
   obtain⟨h1,h2⟩:=xL (L:=r) (s:=(sayA s y).2) (i:=i) (x:=x) (by simpa using h);exact⟨h1,AAt ((sayA s y).1 :: ·) h2⟩
theorem pH:∀{L:List ByteArray}{s:dR},(ansL s L).length=L.length
 | [],_=>rfl
 | x::r,s=>AAt (· + 1) (pH (L:=r))
noncomputable def gT31(s:dR)(A:List ByteArray):XH:=if A.length=0 then [gK s] else [gK s,some (.blk true (.cells true (fI A)))]
section
variable{L:List ByteArray}{s:dR}{i:Nat}
theorem aQs(hn:L.length<1000)(hi:i<L.length):dL 1 [0,1,5,6] (execW progG 31 1 none (match aAZ with | .loop _ a=>a|c=>c) (bH [0,1,5,6] [.pt 0 0,.fs (rS L),zA 1 i,I (i:Nat)]) (gT31 (runL s (L.take i)) (ansL s (L.take i)))) =
 some ([.pt 0 0,.fs (rS L),zA 1 (i+1),I (i+1:Nat)],gT31 (runL s (L.take (i+1))) (ansL s (L.take (i+1)))):=by
 obtain⟨x,hx⟩:=gF (l:=L) (i:=i) hi;have hr:=aAl hx;have rl:=sD L;obtain⟨u1,u2⟩:=xL (s:=s) hx;have c21:=g21 (runL s (L.take i)) x;have al:(ansL s (L.take i)).length=i:=by rw[pH,G5];omega
 have t1:((i:Int)<(L.length:Int))=True:=AAa;have up:=kT (i:=i) (n:=1000) AM AM;have s1:zA 1 (i+1) = .sl 1 0 1 (i+1):=if_neg AM;have sc:fI (ansL s (L.take i)++[(sayA (runL s (L.take i)) x).1])=fI (ansL s (L.take i))++[.str (sayA (runL s (L.take i)) x).1]:=(aIY _ _).symm;have g1:gT31 (runL s (L.take (i+1))) (ansL s (L.take (i+1)))=[gK (sayA (runL s (L.take i)) x).2,some (.blk true (.cells true (fI (ansL s (L.take i))++[.str (sayA (runL s (L.take i)) x).1])))]:=by
  unfold gT31;rw[u2,if_neg (by simp),u1,sc]
 rw[s1,g1];have gr:=eJ (ansL s (L.take i));have tl:(fI (ansL s (L.take i))).length=i:=by rw[gI,al]
 have b2:((i+1)*16≤1099511627776)=True:=AAa;have b3:(i+1≤1099511627776)=True:=AAa;unfold gT31 gK at *;rw[al];clear u1 u2 g1 sc al;generalize sayA (runL s (L.take i)) x=q at *;obtain⟨q1,q2⟩:=q;dsimp only at c21 ⊢;generalize IsClk q2=K2 at *;generalize ansL s (L.take i)=A at *;generalize runL s (L.take i)=s1 at *;generalize IsClk s1=K1 at *;unfold aAZ;dsimp only;rcases I4 i with rfl|hp
 ·have s0:zA 1 0 = .nilsl:=rfl
  have e0:A=[]:=by cases A with
   | nil=>rfl
   | cons a r=>simp[fI]at tl
  subst e0;have z0:fI ([]:List ByteArray)=[]:=rfl;have t1:((0:Int)<(L.length:Int))=True:=t1;have e0:((0:Nat):Int)=0:=rfl;rw[s0,if_pos rfl,z0,e0];(exact RT4 hr rl t1 c21)
 ·have s0:zA 1 i = .sl 1 0 1 i:=if_neg AM
  rw[s0,if_neg AM];(exact aAb hr rl t1 up c21 gr tl b2 b3 bX bV bW aE)
theorem w31(hn:L.length<1000):runW progG 31 [.pt 0 0,.fs (rS L)] [gK s]=some (.fs (rS (ansL s L)),[gK (runL s L)]):=by
 have rl:=sD L;have o1:=fun i hi=>aQs (L:=L) (s:=s) (i:=i) hn hi;have tk:L.take L.length=L:=B5 (A8 _);have al:(ansL s L).length=L.length:=pH;have gr:=eJ (ansL s L);have ch:=aBh (ansL s L);have ln:=gI (ansL s L);have tn:((L.length:Int)<(L.length:Int))=False:=AAb;have s0:zA 1 0 = .nilsl:=rfl;have g0:gT31 (runL s (L.take 0)) (ansL s (L.take 0))=[gK s]:=rfl;rw[aXS (by simp[x31])];unfold x31;dsimp only;sym =>
  simp[fW,fX,lS,Za,Zb,Zf,Zh,Zl,Zm,Zv,ZA,ZR,Yv,YG,YU,Xz,XN,XW,XY,Wu,Wz,W4,W6,WK,WM,WV,Vd,Vf,Vh,V1,V4,V9,VB,VG,VI,VL,VN,VO,VP,VQ,VR,VX,Uc,Ur,Us,Ut,Uu,Uv,U9,UB,UE,UF,UH,UI,UJ,UK,UL,UO,UP,UQ,UR,UT,UU,UV,UW,UX,UZ,Ta,Tc,Td,Te,Th,Ti,Tj,Tl,Tm,T0,T3,T5,T8,T9,TA,TB,TC,TJ,TK,Sm,S7,S9,SA,SC,SD,SE,SF,SK,SL,SM,SN,Rp,Rq,Rs,Qh,Qj,Ql,Pc,Pd,Pe]
  tactic =>
   unfold aAZ;rw[aS L.length (fun i=>[.pt 0 0,.fs (rS L),zA 1 i,I (i:Nat)]) (fun i=>gT31 (runL s (L.take i)) (ansL s (L.take i)))]
   ·rw[tk]
    unfold gT31 gK;rw[al]at ch;generalize runL s L=s2 at *;generalize IsClk s2=K1 at *;generalize ansL s L=A at *;rw[al];rcases I4 L.length with hz|hp
    ·have e0:A=[]:=B8 AM
     subst e0;have r0:rS []=[]:=rfl;rw[hz]at tn ⊢;have s1:zA 1 0 = .nilsl:=rfl;rw[s1,r0,if_pos rfl];(exact RT3 rl hz tn)
    ·have s1:zA 1 L.length = .sl 1 0 1 L.length:=if_neg AM
     rw[s1,if_neg AM];(exact RT9 rl tn gr ch ln al bX bV bW)
   ·rw[s0,g0]
    (exact RT0)
   ·exact o1
   ·(exact RT2 rl tn)
end
theorem bBi{vs:List AV}{h:XH}(hl:vs.length≤x25.N):runW progG 25 vs h=gV none x25.res x25.ownR h.length (execW progG 25 h.length none x25.body (aV (if x25.ownA then vs else lO vs)) h):=dS rfl hl h rfl
structure Fil(R P:Nat→ByteArray)(Ls:Nat→List ByteArray)(M:Nat→Nat)(n:Nat):Prop where
 emp:R n=⟨⟨[]⟩⟩
 stp:∀ i,i<n→R i=P i++R (i+1)
 full:∀ i,i+1<n→(P i).size=270
 pos:∀ i,i<n→0<(P i).size∧(P i).size≤270
 men:∀ i,i<n→mnV (P i) (6*i:Nat) = .tup [.fs (rS (Ls i)),I (M i:Nat),I 0]
 ls:∀ i,i<n→0<(Ls i).length∧(Ls i).length≤5
 md:∀ i,i<n→M i≤1
 sz:(R 0).size≤100000
 np:n≤100
def Lu(Ls:Nat→List ByteArray):Nat→List ByteArray
 | 0=>[]
 | i+1=>Lu Ls i++Ls i
def Mu(M:Nat→Nat):Nat→Nat
 | 0=>0
 | i+1=>Mu M i+M i
section
variable{R P:Nat→ByteArray}{Ls:Nat→List ByteArray}{M:Nat→Nat}{n:Nat}
theorem aSz(a b:ByteArray):mC (a++b) 0 a.size=a:=by
 rw[←aFA];apply aJ2;simp
theorem aYc(a b:ByteArray):mC (a++b) a.size (a++b).size=b:=by
 unfold mC;rw[M3,aD5,E8,List.drop_left' (by rw[D4];rfl),B5 (by rw[D4];show b.size≤_;omega)]
theorem Fil.szs(f:Fil R P Ls M n):∀ i,i≤n→(R i).size≤100000
 | 0,_=>f.sz
 | i+1,h=>by
   have:=f.szs i AM;rw[f.stp i AM,E8]at this;omega
theorem Fil.lu(f:Fil R P Ls M n):∀ i,i≤n→(Lu Ls i).length≤5*i∧i≤(Lu Ls i).length
 | 0,_=>by simp[Lu]
 | i+1,h=>by
   have:=f.lu i AM;have:=f.ls i AM;rw[Lu,B6];omega
theorem Fil.mu(f:Fil R P Ls M n):∀ i,i≤n→Mu M i≤i
 | 0,_=>A8 _
 | i+1,h=>by
   have:=f.mu i AM;have:=f.md i AM;rw[Mu];omega
def aHm(Ls:Nat→List ByteArray)(i:Nat):AV:=if i=0 then .nilsl else .sl 0 0 1 (Lu Ls i).length
def aHn(Ls:Nat→List ByteArray)(i:Nat):XH:=if i=0 then [] else [some (.blk true (.cells true (fI (Lu Ls i))))]
theorem aSj(l:List ByteArray):(rS l).flatten=fI l:=by
 unfold rS fI;induction l with
 | nil=>rfl
 | cons a l ih=>simp only[D7,I3,ih];rfl
theorem aSk(l:List ByteArray):(rS l).all (fun r=>r.length==1)=true:=by
 unfold rS;rw[C7];intro r hr;obtain⟨s,_,rfl⟩:=D6.1 hr;rfl
theorem aEE(a b:List ByteArray):fI a++fI b=fI (a++b):=by simp[fI]
theorem aQu(f:Fil R P Ls M n){i:Nat}(hi:i<n):dL 0 [3,5,8,9] (execW progG 25 0 none (match aFQ with | .loop _ a=>a|c=>c) (bH [3,5,8,9] [I (Mu M i:Nat),.str (R i),aHm Ls i,I (6*i:Nat)]) (aHn Ls i)) =
 some ([I (Mu M (i+1):Nat),.str (R (i+1)),aHm Ls (i+1),I (6*(i+1):Nat)],aHn Ls (i+1)):=by
 obtain⟨p1,p2⟩:=f.pos i hi;have st:=f.stp i hi;have z0:=f.szs i AM;obtain⟨l1,l2⟩:=f.ls i hi;obtain⟨u1,u2⟩:=f.lu i AM;have m1:=f.mu i AM;have m2:=f.md i hi;have hnp:=f.np;have rz:(R i).size=(P i).size+(R (i+1)).size:=by rw[st,E8]
 have ne:aQ .neq (R i) ⟨#[]⟩=some (.bool true):=by
  rw[jJ,AAm]
  ·rfl
  intro e;have:=AAt ByteArray.size e;rw[rz]at this;have h0:(⟨#[]⟩:ByteArray).size=0:=rfl;omega
 have e1:mC (R i) 0 (P i).size=P i:=by rw[st];exact aSz _ _
 have e2:mC (R i) (P i).size (R i).size=R (i+1):=by rw[st];exact aYc _ _
 have c16:=g16 (s:=P i) (row:=((6*i:Nat):Int)) AM;rw[f.men i hi]at c16;have k1:IntKind.i64.wrap ((Mu M i:Int)+(M i:Int))=((Mu M (i+1):Nat):Int):=by rw[aI AM AM,Mu];omega
 have k2:IntKind.i64.wrap (((6*i:Nat):Int)+6)=((6*(i+1):Nat):Int):=by rw[aI AM AM];omega
 have q1:=aSk (Ls i);have q2:=aSj (Ls i);have q3:=sD (Ls i);have q4:=aEE (Lu Ls i) (Ls i);have q5:=eJ (Lu Ls i);have q6:=eJ (Lu Ls (i+1));have q8:=gI (Lu Ls i);have q9:(Lu Ls (i+1)).length=(Lu Ls i).length+(Ls i).length:=by rw[Lu,B6]
 have s1:aHm Ls (i+1) = .sl 0 0 1 (Lu Ls (i+1)).length:=if_neg AM;have g1:aHn Ls (i+1)=[some (.blk true (.cells true (fI (Lu Ls (i+1)))))]:=if_neg AM;have q4:fI (Lu Ls i)++fI (Ls i)=fI (Lu Ls (i+1)):=q4;have b1:(((P i).size:Int)≤((R i).size:Int))=True:=AAa;have b2:(((Lu Ls i).length+(Ls i).length)*16≤1099511627776)=True:=AAa;have b3:((Lu Ls i).length+(Ls i).length≤1099511627776)=True:=AAa;have b4:((Ls i).length*16≤1099511627776)=True:=AAa;have b5:((Ls i).length≤1099511627776)=True:=AAa;have b6:((Ls i).length=0)=False:=AAb;have hb:((270:Int)<((R i).size:Int))=True∧(P i).size=270∨((270:Int)<((R i).size:Int))=False∧(P i).size=(R i).size:=by
  by_cases hl:i+1<n
  ·have h1:=f.full i hl
   have h2:=(f.pos (i+1) hl).1;have h3:(R (i+1)).size=(P (i+1)).size+(R (i+1+1)).size:=by rw[f.stp (i+1) hl,E8]
   exact .inl ⟨AAa,h1⟩
  ·have h1:i+1=n:=AM
   have h2:(R (i+1)).size=0:=by rw[h1,f.emp];rfl
   exact .inr ⟨AAb,by omega⟩
 rw[s1,g1,q9];unfold aFQ;dsimp only;by_cases h0:i=0
 ·subst h0
  have s0:aHm Ls 0 = .nilsl:=rfl;have g0:aHn Ls 0=[]:=rfl;have w0:Lu Ls 0=[]:=rfl;have w1:Mu M 0=0:=rfl;have w2:fI []=[]:=rfl;rw[w0,w2,G7]at q4;rw[s0,g0,w1,w0];rw[w1]at k1;have k1:IntKind.i64.wrap (0+(M 0:Int))=((Mu M (0+1):Nat):Int):=k1;have c16:runW progG 16 [.str (P 0),I 0] []=some (.tup [.fs (rS (Ls 0)),I (M 0:Nat),I 0],[]):=c16;have z9:(([]:List ByteArray).length+(Ls 0).length)=(Ls 0).length:=by simp
  rw[z9];generalize Lu Ls (0+1)=L1 at *;generalize Mu M (0+1)=M1 at *;generalize R (0+1)=R1 at *;rcases hb with ⟨b7,b8⟩|⟨b7,b8⟩
  ·rw[b8]at e1 e2 b1
   have b1:((270:Int)≤((R 0).size:Int))=True:=b1;have e1:mC (R 0) 0 (Int.toNat 270)=P 0:=e1;have e2:mC (R 0) (Int.toNat 270) (R 0).size=R1:=e2;(exact kO ne b7 b1 e1 e2 c16 k1 k2 q1 q2 q3 q4 q6 b4 b5 b6 bX bV bW aE)
  ·rw[b8]at e1 e2 b1
   (exact kO ne b7 b1 e1 e2 c16 k1 k2 q1 q2 q3 q4 q6 b4 b5 b6 bX bV bW aE)
 ·have s0:aHm Ls i = .sl 0 0 1 (Lu Ls i).length:=if_neg h0
  have g0:aHn Ls i=[some (.blk true (.cells true (fI (Lu Ls i))))]:=if_neg h0;rw[s0,g0];generalize Lu Ls (i+1)=L1 at *;generalize Lu Ls i=L0 at *;generalize Mu M (i+1)=M1 at *;generalize R (i+1)=R1 at *;rcases hb with ⟨b7,b8⟩|⟨b7,b8⟩
  ·rw[b8]at e1 e2 b1
   have b1:((270:Int)≤((R i).size:Int))=True:=b1;have e1:mC (R i) 0 (Int.toNat 270)=P i:=e1;have e2:mC (R i) (Int.toNat 270) (R i).size=R1:=e2;(exact kO ne b7 b1 e1 e2 c16 k1 k2 q1 q2 q3 q4 q5 q6 q8 b2 b3 bX bV bW)
  ·rw[b8]at e1 e2 b1
   (exact kO ne b7 b1 e1 e2 c16 k1 k2 q1 q2 q3 q4 q5 q6 q8 b2 b3 bX bV bW)
end
abbrev xW:ByteArray:=⟨⟨[111,107]⟩⟩
theorem aQJ:aQ .neq xW ⟨#[111,107]⟩=some (.bool false):=by kernel_rfl
section
variable{R P:Nat→ByteArray}{Ls:Nat→List ByteArray}{M:Nat→Nat}{n:Nat}{st:Nat→dR}{A:List ByteArray}
theorem g72(r:ByteArray):runW progG 72 [.str (hdB++r),.str ⟨#[122,97,102,114,97,32,49,52,10]⟩] []=some (.tup [.str r,.bool true],[]):=by
 rw[eL (d:=mU oP) rfl rfl];show oP _ _=_;unfold oP;have e:(hdB++r).data.toList=[122,97,102,114,97,32,49,52,10]++r.data.toList:=by rw[M3,aD5];rfl
 dsimp only;rw[e];have h1:Lib.hasPrefix ([122,97,102,114,97,32,49,52,10]++r.data.toList) [122,97,102,114,97,32,49,52,10]=true:=by
  simp[Lib.hasPrefix]
 have h2:Lib.trimPrefix ([122,97,102,114,97,32,49,52,10]++r.data.toList) [122,97,102,114,97,32,49,52,10]=r.data.toList:=by
  simp[Lib.trimPrefix,Lib.hasPrefix]
 show some (AV.tup [.str ⟨⟨Lib.trimPrefix _ [122,97,102,114,97,32,49,52,10]⟩⟩,.bool (Lib.hasPrefix _ [122,97,102,114,97,32,49,52,10])],([]:XH))=_;rw[h1,h2]
theorem aML{N:Nat}{md:Nat}(hA:A.length=N)(hN:N≤1000)(hs:∀ j line,A[j]?=some line→sayA (st j) line=(xW,st (j+1))){j:Nat}(hj:j<N):dL 0 [2,3,58,59,60] (execW progG 25 0 none (match aIP with | .loop _ a=>a|c=>c) (bH [2,3,58,59,60] [.pt 0 0,I (md:Nat),.sl 1 0 1 N,I (N:Nat),I (j:Nat)]) [gK (st j),some (.blk true (.cells true (fI A)))]) =
 some ([.pt 0 0,I (md:Nat),.sl 1 0 1 N,I (N:Nat),I (j+1:Nat)],[gK (st (j+1)),some (.blk true (.cells true (fI A)))]):=by
 obtain⟨line,hl⟩:=gF (l:=A) (i:=j) AM;have h2:=hs j line hl;have c21:=g21 (st j) line;rw[h2]at c21;dsimp only at c21;have hx:(fI A)[j]?=some (.str line):=by unfold fI;rw[A6,hl];rfl
 have t1:((j:Int)<(N:Int))=True:=AAa;have a1:=kT hj AM;have gr:=eJ A;have o1:=aQJ;unfold gK at *;generalize IsClk (st (j+1))=K2 at *;generalize IsClk (st j)=K1 at *;unfold aIP;dsimp only;(exact uO t1 a1 hx c21 o1 gr bX bV bW)
theorem w25(f:Fil R P Ls M n)(hn:0<n)(h0:st 0=dV)(hs:∀ j line,(Lu Ls n)[j]?=some line→sayA (st j) line=(xW,st (j+1)))(hsh:runW progG 73 [I ((R 0).size:Nat)] []=some (I 0,[])) :
 runW progG 25 [.str (hdB++R 0)] []=some (.tup [.pt 0 0,I (Mu M n:Nat),I 0],[gK (st (Lu Ls n).length)]):=by
 have c72:=g72 (R 0);have c19:=g19;obtain⟨u1,u2⟩:=f.lu n (A8 _);have hnp:=f.np;have s1:aHm Ls n = .sl 0 0 1 (Lu Ls n).length:=if_neg AM;have g1:aHn Ls n=[some (.blk true (.cells true (fI (Lu Ls n))))]:=if_neg AM;have gr:=eJ (Lu Ls n);obtain⟨N,hN⟩:∃ N,(Lu Ls n).length=N:=⟨_,rfl⟩;rw[hN]at s1 u1 u2 ⊢;have rb:=fun j (hj:j<N)=>aML (md:=Mu M n) hN AM hs hj;have em:=f.emp;have ne:aQ .neq (⟨⟨[]⟩⟩:ByteArray) ⟨#[]⟩=some (.bool false):=by kernel_rfl
 rw[bBi (by simp[x25])];unfold x25;dsimp only;sym =>
  simp[Za,Zb,Zf,Zg,Zh,Zj,Zl,Zm,Zv,ZA,ZD,ZQ,ZR,Ye,Yh,Ym,Yn,Yr,Yw,Yy,Y6,YF,YG,YU,Xz,XJ,XM,XO,XW,XY,Wu,Wv,Ww,Wy,W3,W4,W6,WE,WG,WI,WL,WY,Va,Vc,Vf,V1,V7,V8,V9,VA,VB,VC,VF,VG,VH,VI,VK,VL,VM,VN,VO,VP,VQ,VR,VS,VT,VU,VX,VY,Ud,Ug,Uh,Ui,Uu,Uw,Ux,Uy,UE,UF,UH,UI,UJ,UK,UN,UO,UP,UQ,UR,UT,UU,UV,UW,UX,UZ,Ta,Tc,Td,Te,Tf,Tg,Th,Tj,Tl,Tm,Tq,Tw,T3,T4,T5,T8,T9,TA,TB,TC,TF,TG,TJ,TK,Sm,S7,S8,S9,SA,SB,SC,SD,SE,SF,SK,SL,SM,SN,Rr,Qh,Qw,Qx,Qz,Q0,QA,QB,QX,QY,QZ,Pa,Pc,Pd,c72,hsh]
  tactic =>
   unfold aFQ;rw[aS n (fun i=>[I (Mu M i:Nat),.str (R i),aHm Ls i,I (6*i:Nat)]) (fun i=>aHn Ls i)]
   ·rw[s1,g1,em]
    sym =>
     simp[Za,Zb,Zf,Zg,Zh,Zj,Zl,Zm,Zv,ZA,ZD,ZQ,ZR,Ye,Yh,Ym,Yn,Yr,Yw,Yy,Y6,YF,YG,YU,Xz,XJ,XM,XO,XW,XY,Wu,Wv,Ww,Wy,W3,W4,W6,WE,WG,WI,WL,WY,Va,Vc,Vf,V1,V7,V8,V9,VA,VB,VC,VF,VG,VH,VI,VK,VL,VM,VN,VO,VP,VQ,VR,VS,VT,VU,VX,VY,Ud,Ug,Uh,Ui,Uu,Uw,Ux,Uy,UE,UF,UH,UI,UJ,UK,UN,UO,UP,UQ,UR,UT,UU,UV,UW,UX,UZ,Ta,Tc,Td,Te,Tf,Tg,Th,Tj,Tl,Tm,Tq,Tw,T3,T4,T5,T8,T9,TA,TB,TC,TF,TG,TJ,TK,Sm,S7,S8,S9,SA,SB,SC,SD,SE,SF,SK,SL,SM,SN,Rr,Qh,Qw,Qx,Qz,Q0,QA,QB,QX,QY,QZ,Pa,Pc,Pd,ne,c19,gr,bX,bV,bW]
     tactic =>
      unfold aIP;rw[aS N (fun j=>[.pt 0 0,I (Mu M n:Nat),.sl 1 0 1 N,I (N:Nat),I (j:Nat)]) (fun j=>[gK (st j),some (.blk true (.cells true (fI (Lu Ls n))))])]
      ·have t1:((N:Int)<(N:Int))=False:=AAb
       unfold gK;generalize IsClk (st N)=K1 at *;(exact RS5 t1 gr bX bV bW)
      ·rw[h0]
       unfold gK;generalize IsClk dV=K1 at *;(exact vI gr bX bV bW)
      ·intro j hj
       exact rb j hj
      ·have t1:((N:Int)<(N:Int))=False:=AAb
       (exact dM t1)
   ·have s0:aHm Ls 0 = .nilsl:=rfl
    have g0:aHn Ls 0=[]:=rfl;have m0:Mu M 0=0:=rfl;rw[s0,g0,m0];(exact wO)
   ·intro i hi
    exact aQu f hi
   ·rw[em]
    (exact dM ne)
end
section
variable{B:List ByteArray}{st:Nat→dR}
def aMJ(B:List ByteArray):Nat→ByteArray
 | 0=>⟨⟨[]⟩⟩
 | k+1=>pgB (vE B (dK B-(k+1))) (6*(dK B-(k+1)))++aMJ B k
def rB(B:List ByteArray)(i:Nat):ByteArray:=aMJ B (dK B-i)
theorem aHP{i:Nat}(hi:i<dK B):rB B i=pgB (vE B i) (6*i)++rB B (i+1):=by
 unfold rB;rw[show dK B-i=(dK B-(i+1))+1 by omega,aMJ,show dK B-(dK B-(i+1)+1)=i by omega]
theorem aHQ:rB B (dK B)=⟨⟨[]⟩⟩:=by unfold rB;rw[J8];rfl
theorem aRE(a:ByteArray):a++(⟨⟨[]⟩⟩:ByteArray)=a:=by
 apply aJ2;rw[M3];exact Array.append_empty
theorem aVS:∀ i,i≤dK B→mE B i++rB B i=hdB++rB B 0
 | 0,_=>rfl
 | i+1,h=>by
   rw[←aVS i AM,aHP (i:=i) AM,mE,ByteArray.append_assoc]
theorem aBm:bJ B=hdB++rB B 0:=by
 rw[←aVS (dK B) (A8 _),aHQ,aRE];rfl
theorem aWM:∀ i,Lu (vE B) i=B.take (5*i)
 | 0=>rfl
 | i+1=>by
   rw[Lu,aWM i,vE,show 5*(i+1)=5*i+5 by omega,aJ3]
theorem aFp:Lu (vE B) (dK B)=B:=by
 rw[aWM];exact B5 (by unfold dK;omega)
theorem aWx:∀ i,Mu (fun _=>0) i=0
 | 0=>rfl
 | i+1=>by rw[Mu,aWx i]
theorem xM:∀ k,k≤dK B→(aMJ B k).size=45*((B.length-5*(dK B-k))+k)
 | 0,_=>by
   show 0=_;unfold dK;omega
 | k+1,h=>by
   rw[aMJ,E8,oQ,kP,xM k AM];unfold dK at *;omega
theorem aNp{i:Nat}{l:ByteArray}(h:l∈vE B i):l∈B:=O3 (I1 h)
theorem aYa(hB:∀ l∈B,zO l=0)(h5:B.length≤300):Fil (rB B) (fun i=>pgB (vE B i) (6*i)) (vE B) (fun _=>0) (dK B):=by
 have np:dK B=(B.length+4)/5:=rfl;refine⟨aHQ,fun i hi=>aHP hi,fun i hi=>?_,fun i hi=>?_,fun i hi=>?_,fun i hi=>?_,fun i _=>by omega,?_,by omega⟩;·rw[oQ,kP];omega
 ·rw[oQ,kP];omega
 ·exact aQQ (fun l hl=>hB l (aNp hl)) (by rw[kP];omega) (by rw[kP];omega) AM
 ·rw[kP];omega
 ·unfold rB
  rw[xM _ AM];omega
theorem aYH(hB:∀ l∈B,zO l=0)(h1:1≤B.length)(h5:B.length≤300)(h0:st 0=dV)(hs:∀ j line,B[j]?=some line→sayA (st j) line=(xW,st (j+1)))(hsh:runW progG 73 [I ((45*(B.length+dK B):Nat):Int)] []=some (I 0,[])) :
 runW progG 25 [.str (bJ B)] []=some (.tup [.pt 0 0,I 0,I 0],[gK (st B.length)]):=by
 have np:dK B=(B.length+4)/5:=rfl;have h:=w25 (st:=st) (aYa hB h5) AM h0 (by rw[aFp];exact hs) (by
  have e:(rB B 0).size=45*(B.length+dK B):=by unfold rB;rw[xM _ AM];omega
  rw[e];exact hsh)
 rw[aFp,aWx,←aBm]at h;exact h
end
theorem sJ(a:List Nat):(rE a).size=a.length:=by
 unfold rE;rw[rH,A7]
section
variable(B:List ByteArray)(av:List Nat)(q:Nat)
def pgN(i:Nat):ByteArray:=pgB (vE B i) (6*i)
def kp(i:Nat):Nat:=if i<av.length then av.getD i 0%(pgN B i).size else 0
def vp(i:Nat):Nat:=((bN (pgN B i)).getD (kp B av i) 0+(1+q%255))%256
def dP(i:Nat):List Nat:=(bN (pgN B i)).set (kp B av i) (vp B av q i)
def vR:Nat→List Nat
 | 0=>bN hdB
 | i+1=>vR i++dP B av q i
def dD(i:Nat):List Nat:=vR B av q i++bN (rB B i)
def aEV:Nat→List Nat
 | 0=>[]
 | k+1=>dP B av q (dK B-(k+1))++aEV k
def rD(i:Nat):ByteArray:=rE (aEV B av q (dK B-i))
variable{B av q}{i:Nat}
theorem aNo(hi:i<dK B):1≤(vE B i).length∧(vE B i).length≤5∧(i+1<dK B→(vE B i).length=5):=by
 rw[kP];unfold dK at hi ⊢;omega
theorem kY(hi:i<dK B):(pgN B i).size=((vE B i).length+1)*45∧90≤(pgN B i).size∧(pgN B i).size≤270∧(i+1<dK B→(pgN B i).size=270):=by
 obtain⟨h1,h2,h3⟩:=aNo hi;have e:(pgN B i).size=((vE B i).length+1)*45:=aJt;exact⟨e,by omega,by omega,fun h=>by rw[e,h3 h]⟩
theorem aNM(hi:i<dK B):kp B av i<(pgN B i).size:=by
 obtain⟨_,h,_⟩:=kY hi;unfold kp;split;·exact J4 _ AM
 ·omega
theorem aCG:(dP B av q i).length=(pgN B i).size:=by unfold dP;rw[C9,lU]
theorem aUu:Byt (dP B av q i):=aQd (wM _) (J4 _ (by decide))
theorem aJp:∀{i},i<dK B→(vR B av q i).length=9+270*i
 | 0,_=>by unfold vR;rw[lU];rfl
 | i+1,hi=>by
   have h1:=(kY (B:=B) (i:=i) AM).2.2.2 hi;unfold vR;rw[B6,aJp AM,aCG,h1];omega
theorem aYi(hi:i<dK B):bN (rB B i)=bN (pgN B i)++bN (rB B (i+1)):=by
 rw[aHP hi,aFL];rfl
theorem aUw:dD B av q 0=bN (bJ B):=by
 unfold dD vR;rw[aBm,aFL]
theorem aUv:dD B av q (dK B)=vR B av q (dK B):=by
 unfold dD;rw[aHQ];exact I5 _
theorem aSB(hi:i<dK B):(dD B av q i)[9+270*i+kp B av i]?=some ((bN (pgN B i)).getD (kp B av i) 0)∧(dD B av q i).set (9+270*i+kp B av i) (vp B av q i)=dD B av q (i+1):=by
 have h1:=aNM (av:=av) hi;have h2:=aJp (B:=B) (av:=av) (q:=q) hi;have h3:(bN (pgN B i)).length=(pgN B i).size:=lU _;unfold dD;rw[aYi hi];constructor
 ·rw[B9 AM,F9 AM,show 9+270*i+kp B av i-(vR B av q i).length=kp B av i by omega,A1]
  obtain⟨x,hx⟩:=gF (l:=bN (pgN B i)) (i:=kp B av i) AM;rw[hx];rfl
 ·rw[O0 _ _ AM,List.set_append_left _ _ AM,show 9+270*i+kp B av i-(vR B av q i).length=kp B av i by omega]
  show _=(vR B av q i++dP B av q i)++_;unfold dP;rw[M7]
theorem aFB:∀{i},i≤dK B→(dD B av q i).length=(bJ B).size
 | 0,_=>by rw[aUw,lU]
 | i+1,hi=>by rw[←(aSB (B:=B) (av:=av) (q:=q) (i:=i) AM).2,C9,aFB AM]
theorem aTp(k:Nat):aEV B av q (k+1)=dP B av q (dK B-(k+1))++aEV B av q k:=rfl
theorem aTz(i:Nat):vR B av q (i+1)=vR B av q i++dP B av q i:=rfl
theorem aJo:∀ i,i≤dK B→vR B av q (dK B)=vR B av q (dK B-i)++aEV B av q i
 | 0,_=>by unfold aEV;simp
 | k+1,hi=>by
   rw[aJo k AM,aTp,←M7,←aTz,show dK B-(k+1)+1=dK B-k by omega]
theorem aOr:rE (dD B av q (dK B))=hdB++rD B av q 0:=by
 rw[aUv,aJo (dK B) (A8 _),J8,←aJx];unfold rD vR;rw[aCf,aB3]
theorem yZ:(bJ B).size=9+45*(B.length+dK B)∧(∀ i,i<dK B→9+270*i+(pgN B i).size≤(bJ B).size∧min ((bJ B).size-(9+270*i)) 270=(pgN B i).size)∧(bJ B).size≤9+270*dK B:=by
 have h:=xM (B:=B) (dK B) (A8 _);have e:(bJ B).size=9+45*(B.length+dK B):=by
  rw[aBm,E8];unfold rB;rw[aB3,h];have:hdB.size=9:=rfl;rw[J8];omega
 refine⟨e,fun i hi=>?_,?_⟩
 ·obtain⟨h1,_⟩:=kY hi
  rw[kP]at h1;rw[h1,e];unfold dK at hi ⊢;omega
 ·rw[e];unfold dK;omega
theorem aVM{x:Nat}(hx:x<256):(x+(1+q%255))%256≠x:=by
 have:=J4 q (show 0<255 by decide);omega
theorem aZx(hB:∀ l∈B,zO l=0)(h5:B.length≤300)(hi:i<dK B):mnV (rE (dP B av q i)) (6*i:Nat) = .tup [.fs (rS (vE B i)),I 1,I 0]:=by
 obtain⟨p1,p2,_⟩:=aNo hi;obtain⟨z1,_⟩:=kY hi;have hk:=aNM (av:=av) hi;have hn:6*i≤1000:=by unfold dK at hi;omega
 have gl:∀ l∈vE B i,zO l=0:=fun l hl=>hB l (aNp hl);have hr:kp B av i/45≤(vE B i).length:=by
  rw[z1]at hk;have:=(Nat.div_lt_iff_lt_mul (show 0<45 by decide)).2 hk;omega
 have hkj:kp B av i=kp B av i/45*45+kp B av i%45:=AM
 have hj:=J4 (kp B av i) (show 0<45 by decide);have bn:bN (rE (dP B av q i))=(bN (pgB (vE B i) (6*i))).set (kp B av i/45*45+kp B av i%45) (vp B av q i):=by
  rw[aFK aUu,←hkj];rfl
 refine aTM gl p1 p2 hn (by rw[sJ,aCG,z1]) (r:=kp B av i/45) hr (fun j hj2 hne=>?_) ?_;·rw[bn,aJf hj,if_neg hne,aES hj2]
 ·rw[bn,aJf hj,if_pos rfl,aES hr]
  have hx:(bN (pgN B i))[kp B av i]?=(rwO (vE B i) (6*i) (kp B av i/45))[kp B av i%45]?:=by
   rw[←aES hr,aTo hj,←hkj];rfl
  obtain⟨x,e⟩:=gF (l:=bN (pgN B i)) (i:=kp B av i) (by rw[lU];exact hk);refine aQe (x:=x) (sT _ (zV hr)) (aFy gl _ (zV hr)) hj (by rw[←e,hx];rfl) ?_;unfold vp;rw[A1,e,H7];exact aVM (wM _ _ _ e)
theorem aTv(hi:i<dK B):rD B av q i=rE (dP B av q i)++rD B av q (i+1):=by
 unfold rD;rw[show dK B-i=(dK B-(i+1))+1 by omega,aEV,←aJx,show dK B-(dK B-(i+1)+1)=i by omega]
theorem aGj:∀{k},k≤dK B→(aEV B av q k).length≤270*k
 | 0,_=>A8 _
 | k+1,hk=>by
   obtain⟨_,_,h,_⟩:=kY (B:=B) (i:=dK B-(k+1)) AM;unfold aEV;rw[B6,aCG];have:=aGj (k:=k) AM;omega
theorem aXZ(hB:∀ l∈B,zO l=0)(h5:B.length≤300):Fil (rD B av q) (fun i=>rE (dP B av q i)) (vE B) (fun _=>1) (dK B) where
 emp:=by unfold rD;rw[J8];rfl
 stp:=fun i hi=>aTv hi
 full:=fun i hi=>by
  show (rE _).size=270;rw[sJ,aCG];exact(kY AM).2.2.2 hi
 pos:=fun i hi=>by
  obtain⟨_,h1,h2,_⟩:=kY hi;show 0<(rE _).size∧(rE _).size≤270;rw[sJ,aCG];omega
 men:=fun i hi=>aZx hB h5 hi
 ls:=fun i hi=>by obtain⟨h1,h2,_⟩:=aNo hi;exact⟨h1,h2⟩
 md:=fun i hi=>A8 _
 sz:=by
  have:=aGj (B:=B) (av:=av) (q:=q) (A8 _);unfold rD;rw[sJ,aB3];have:dK B≤60:=by unfold dK;omega
  omega
 np:=by unfold dK;omega
theorem aWw:∀ i,Mu (fun _=>1) i=i
 | 0=>rfl
 | i+1=>by rw[Mu,aWw i]
theorem aYG{st:Nat→dR}(hB:∀ l∈B,zO l=0)(h1:1≤B.length)(h5:B.length≤300)(h0:st 0=dV)(hs:∀ j line,B[j]?=some line→sayA (st j) line=(xW,st (j+1)))(hsh:runW progG 73 [I ((45*(B.length+dK B):Nat):Int)] []=some (I 0,[])) :
 runW progG 25 [.str (rE (dD B av q (dK B)))] []=some (.tup [.pt 0 0,I (dK B:Nat),I 0],[gK (st B.length)]):=by
 have hz:(rD B av q 0).size=45*(B.length+dK B):=by
  have h2:=AAt ByteArray.size (aOr (B:=B) (av:=av) (q:=q));rw[sJ,aFB (A8 _),E8,(yZ (B:=B)).1]at h2;have:hdB.size=9:=rfl;omega
 rw[←hz]at hsh;have h:=w25 (aXZ (av:=av) (q:=q) hB h5) (by unfold dK;omega) h0 (fun j line hl=>hs j line (by rw[aFp]at hl;exact hl)) hsh;rw[aWw,aFp]at h;rw[aOr];exact h
end
def pB8(l:List UInt8):Prop:=∀ b∈l,32≤b.toNat∧b.toNat≤126
theorem fP{a b:List UInt8}(ha:pB8 a)(hb:pB8 b):pB8 (a++b):=fun x hx=>(A9.1 hx).elim (ha x) (hb x)
theorem aJV{n:Nat}(h:n≤99999):∀ b∈nK n,48≤b.toNat∧b.toNat≤57:=by
 unfold nK;rw[yK 6 n AM AM];exact aJU 6 n AM
theorem aRt{n:Nat}(h:n≤99999):pB8 (nK n):=fun b hb=>by
 have:=aJV h b hb;omega
theorem gW{a b:List UInt8}(ha:pB8 a)(hb:pB8 b)(hl:∀ x∈b,33≤x.toNat)(h0:b≠[])(hn:a.length+b.length≤40):zO ⟨⟨a++b⟩⟩=0:=by
 have hb2:=List.dropLast_concat_getLast h0;have m:=List.getLast_mem h0;have z:=AAt List.length hb2;rw[B6,aA2]at z;refine aTT (f:=(a++b.dropLast).map UInt8.toNat) (x:=(b.getLast h0).toNat) ?_ ?_ ?_ ?_
 ·unfold bN
  show (a++b).map UInt8.toNat=_
  conv=>lhs;rw[←hb2]
  simp
 ·rw[A7,B6];omega
 ·unfold prL
  rw[C7];intro x hx;obtain⟨y,hy,rfl⟩:=D6.1 hx;have:=fP ha hb y ((A9.1 hy).elim (fun h=>H8 _ h) fun h=>F7 _ ((List.dropLast_sublist _).subset h));rw[A3,AAh,AAh];exact this
 ·exact⟨hl _ m,(hb _ m).2⟩
theorem wE{n:Nat}(h:n≤99999):pB8 (nK n)∧(∀ x∈nK n,33≤x.toNat)∧nK n≠[]∧(nK n).length≤6:=by
 refine⟨aRt h,fun x hx=>by have:=aJV h x hx;omega,fun e=>?_,mD h⟩;unfold nK at e;rw[yK 6 n AM AM]at e;obtain⟨c,r,hc⟩:=aUt n;rw[hc]at e;cases e
theorem aQS(b:Nat):pB8 [lW b]∧(∀ x∈[lW b],33≤x.toNat):=by
 have h:(lW b).toNat=97+b%4:=by
  unfold lW;simp[aE3];omega
 constructor
 ·intro x hx
  rw[B2.1 hx,h];omega
 ·intro x hx
  rw[B2.1 hx,h];omega
theorem gJ{l:List UInt8}(h:(l.all fun b=>decide (32≤b.toNat)&&decide (b.toNat≤126))=true):pB8 l:=fun b hb=>by
 have:=C7.1 h b hb;rw[A3,AAh,AAh]at this;exact this
theorem aQW{a b c d:Nat}(hc:c<256)(hd:d<256):zO ⟨⟨lnN a b c d⟩⟩=0:=by
 have h12:a%12<12:=J4 _ (by decide);obtain⟨q1,q2⟩:=aQS b;have l1:([lW b]:List UInt8).length=1:=rfl;have d8:=wE (n:=c%8) AM;have d3:=wE (n:=c%3) AM;have df:=wE (n:=4000+5*d+40*c) AM;have de:=wE (n:=4000+5*d) AM;have dm:=wE (n:=390*c) AM;have dp:=wE (n:=10+c) AM;have dq:=wE (n:=d) AM;have s1:pB8 [32]:=gJ (by decide);unfold lnN;split;·exact gW (gJ (by decide)) q1 q2 (by simp) (by simp)
 ·exact gW (gJ (by decide)) q1 q2 (by simp) (by simp)
 ·exact gW (gJ (by decide)) d8.1 d8.2.1 d8.2.2.1 (by have:=d8.2.2.2;simp;omega)
 ·split
  ·rfl
  ·exact gW (gJ (by decide)) d8.1 d8.2.1 d8.2.2.1 (by have:=d8.2.2.2;simp;omega)
 ·exact gW (fP (fP (gJ (by decide)) q1) s1) dm.1 dm.2.1 dm.2.2.1 (by have:=dm.2.2.2;simp;omega)
 ·exact gW (fP (fP (gJ (by decide)) q1) s1) dm.1 dm.2.1 dm.2.2.1 (by have:=dm.2.2.2;simp;omega)
 ·exact gW (fP (fP (fP (fP (gJ (by decide)) q1) s1) dp.1) s1) dq.1 dq.2.1 dq.2.2.1 (by have:=dp.2.2.2;have:=dq.2.2.2;simp;omega)
 ·unfold lnQ
  split;·exact gW (gJ (by decide)) q1 q2 (by simp) (by simp)
  ·rfl
  ·exact gW (gJ (by decide)) d8.1 d8.2.1 d8.2.2.1 (by have:=d8.2.2.2;simp;omega)
  ·exact gW (gJ (by decide)) q1 q2 (by simp) (by simp)
  ·exact gW (gJ (by decide)) q1 q2 (by simp) (by simp)
  ·exact gW (gJ (by decide)) q1 q2 (by simp) (by simp)
  ·rfl
 ·exact gW (fP (fP (fP (fP (fP (fP (gJ (by decide)) d3.1) s1) df.1) s1) de.1) s1) q1 q2 (by simp) (by have:=d3.2.2.2;have:=df.2.2.2;have:=de.2.2.2;simp;omega)
theorem aKO{l:List Nt}(hb:Nt8 l):∀ x∈bI l,zO x=0:=fun x hx=>by
 unfold bI at hx;obtain⟨t,ht,rfl⟩:=D6.1 hx;obtain⟨_,_,h3,h4⟩:=hb t (I1 ht);exact aQW h3 h4
theorem aMz(s:dR)(x:ByteArray):((sayA s x).2=s)∨(sayA s x).1=xW∧(sayA s x).2.book=s.book++[x]:=by
 unfold sayA vN;split;·exact .inl rfl
 ·split
  ·split<;>exact .inl rfl
  ·split
   ·exact .inl rfl
   ·split
    ·exact .inl rfl
    ·exact .inr ⟨rfl,rfl⟩
theorem aTm{s:dR}{x:ByteArray}(h:(sayA s x).1≠xW):(sayA s x).2=s:=(aMz s x).elim id fun q=>absurd q.1 h
structure Rep(s:dR)(n:Nat):Prop where
 run:runL dV s.book=s
 ok:∀ j x,s.book[j]?=some x→sayA (runL dV (s.book.take j)) x=(xW,runL dV (s.book.take (j+1)))
 good:∀ x∈s.book,zO x=0
 len:s.book.length≤n
theorem aBD:∀{A:List ByteArray}{s:dR}{x:ByteArray},runL s (A++[x])=(sayA (runL s A) x).2
 | [],_,_=>rfl
 | y::r,s,x=>aBD (A:=r)
theorem aQy:Rep dV 0:=⟨rfl,fun j x h=>by simp[dV]at h,fun x h=>by simp[dV]at h,A8 _⟩
theorem Rep.step{s:dR}{n:Nat}(r:Rep s n){x:ByteArray}(hx:zO x=0):Rep (sayA s x).2 (n+1):=by
 rcases aMz s x with h|⟨h1,h2⟩;·rw[h];exact⟨r.run,r.ok,r.good,J6 r.len⟩
 ·have hl:=r.len
  refine⟨?_,?_,?_,?_⟩;·rw[h2,aBD,r.run]
  ·rw[h2]
   intro j y hy;by_cases hj:j<s.book.length
   ·rw[F9 hj]at hy
    rw[G1 AM,G1 AM];exact r.ok j y hy
   ·by_cases hj2:j=s.book.length
    ·subst hj2
     rw[B9 (A8 _),J8]at hy;obtain rfl:x=y:=by simpa using hy
     rw[G1 (A8 _),B5 (A8 _),B5 (by simp),aBD,r.run];exact Prod.ext h1 rfl
    ·rw[D5 (by simp;omega)]at hy;cases hy
  ·rw[h2]
   intro y hy;rcases A9.1 hy with hy|hy;·exact r.good y hy
   ·rw[B2.1 hy];exact hx
  ·rw[h2];simp;exact hl
theorem aFb{L:List ByteArray}(hL:∀ x∈L,zO x=0):∀ i,i≤L.length→Rep (runL dV (L.take i)) i
 | 0,_=>aQy
 | i+1,hi=>by
   obtain⟨x,hx⟩:=gF (l:=L) (i:=i) AM;rw[(xL hx).1];exact(aFb hL i AM).step (hL x (A5 hx))
theorem s73:∀ n:Nat,n<26→dB progG 400 73 [I ((45*(n+(n+4)/5):Nat):Int)] []=some (I 0,[])
 | 0,_=>by kernel_rfl
 | 1,_=>by kernel_rfl
 | 2,_=>by kernel_rfl
 | 3,_=>by kernel_rfl
 | 4,_=>by kernel_rfl
 | 5,_=>by kernel_rfl
 | 6,_=>by kernel_rfl
 | 7,_=>by kernel_rfl
 | 8,_=>by kernel_rfl
 | 9,_=>by kernel_rfl
 | 10,_=>by kernel_rfl
 | 11,_=>by kernel_rfl
 | 12,_=>by kernel_rfl
 | 13,_=>by kernel_rfl
 | 14,_=>by kernel_rfl
 | 15,_=>by kernel_rfl
 | 16,_=>by kernel_rfl
 | 17,_=>by kernel_rfl
 | 18,_=>by kernel_rfl
 | 19,_=>by kernel_rfl
 | 20,_=>by kernel_rfl
 | 21,_=>by kernel_rfl
 | 22,_=>by kernel_rfl
 | 23,_=>by kernel_rfl
 | 24,_=>by kernel_rfl
 | 25,_=>by kernel_rfl
 | n+26,h=>by omega
theorem aVs{B:List ByteArray}(h:B.length≤25):runW progG 73 [I ((45*(B.length+dK B):Nat):Int)] []=some (I 0,[]):=dI.2 ⟨400,s73 B.length AM⟩
theorem aSd:runW progG 25 [.str hdB] []=some (.tup [.pt 0 0,I 0,I 0],[gK dV]):=dI.2 ⟨400,by kernel_rfl⟩
theorem aJA{s:dR}(r:Rep s 25):runW progG 25 [.str (bJ s.book)] []=some (.tup [.pt 0 0,I 0,I 0],[gK s]):=by
 rcases I4 s.book.length with h0|h1
 ·have e:s.book=[]:=B8 h0
  have hr:=r.run;rw[e]at hr ⊢;have:dV=s:=hr;rw[←this];exact aSd
 ·have h:=aYH (st:=fun j=>runL dV (s.book.take j)) r.good h1 (by have:=r.len;omega) rfl r.ok (aVs r.len)
  rw[B5 (A8 _),r.run]at h;exact h
theorem aTQ{s:dR}(r:Rep s 25)(av:List Nat)(q:Nat):runW progG 25 [.str (rE (dD s.book av q (dK s.book)))] []=some (.tup [.pt 0 0,I (dK s.book:Nat),I 0],[gK s]):=by
 rcases I4 s.book.length with h0|h1
 ·have e:s.book=[]:=B8 h0
  have hr:=r.run;rw[e]at hr ⊢;have:dV=s:=hr;rw[←this];have e2:rE (dD [] av q (dK []))=hdB:=by
   show rE (dD [] av q 0)=hdB;rw[aUw,aCf];rfl
  rw[e2];exact aSd
 ·have h:=aYG (av:=av) (q:=q) (st:=fun j=>runL dV (s.book.take j)) r.good h1 (by have:=r.len;omega) rfl r.ok (aVs r.len)
  rw[B5 (A8 _),r.run]at h;exact h
def zF(l:List Nat):List (List AV):=l.map fun(n:Nat)=>[.int .u16 (n:Int)]
theorem aMZ(l:List Nat):(zF l).length=l.length:=by simp[zF]
theorem aQA{l:List Nat}{i n:Nat}(h:l[i]?=some n):(zF l)[i]?=some [.int .u16 (n:Int)]:=by simp[zF,h]
theorem aQK:xW=⟨#[111,107]⟩:=rfl
section
variable{m:List Nt}{av:List Nat}{q:Nat}{L:List ByteArray}{s:dR}{i:Nat}
theorem aQp(hn:L.length<100)(hi:i<L.length):dL 0 [1,2,3,9,32,33,34] (execW progG 9 0 none (match aLw with | .loop _ a=>a|c=>c) (bH [1,2,3,9,32,33,34] [.fs (rNt m),.fs (zF av),.int .u8 (q:Int),.pt 0 0,.fs (rS L),I (L.length:Nat),I (i:Nat)]) [gK (runL dV (L.take i))]) =
 some ([.fs (rNt m),.fs (zF av),.int .u8 (q:Int),.pt 0 0,.fs (rS L),I (L.length:Nat),I (i+1:Nat)],[gK (runL dV (L.take (i+1)))]):=by
 obtain⟨x,hx⟩:=gF (l:=L) (i:=i) hi;have hr:=aAl hx;have rl:=sD L;rw[(xL (s:=dV) hx).1];generalize runL dV (L.take i)=s at *;have c21:=g21 s x;have c23:=g23 s;have up:=kT (i:=i) (n:=100) AM AM;have t1:((i:Int)<(L.length:Int))=True:=AAa;have es:=jJ (bJ s.book) (bJ s.book);rw[AAl rfl]at es;have es:aQ .neq (bJ s.book) (bJ s.book)=some (.bool false):=es;generalize bJ s.book=F at *;unfold aLw;dsimp only;by_cases ha:(sayA s x).1=xW
 ·rw[ha]at c21
  have eo:aQ .neq xW ⟨#[111,107]⟩=some (.bool false):=by kernel_rfl
  generalize (sayA s x).2=s2 at *;unfold gK at *;generalize IsClk s2=K2 at *;generalize IsClk s=K1 at *;(exact RT7 hr rl t1 up c21 c23 eo)
 ·have e2:=aTm ha
  have eo:aQ .neq (sayA s x).1 ⟨#[111,107]⟩=some (.bool true):=by
   rw[←aQK,jJ,AAm ha];rfl
  rw[e2]at c21 ⊢;generalize (sayA s x).1=a at *;unfold gK at *;generalize IsClk s=K1 at *;(exact RT9 hr rl t1 up c21 c23 eo es aE)
theorem aQo{B:List ByteArray}(h5:B.length≤25)(hq:q<256)(ha:∀ n∈av,n<65536)(hi:i<dK B):dL 0 [1,2,3,9,14,15,16,17] (execW progG 9 0 none (match aPh with | .loop _ a=>a|c=>c) (bH [1,2,3,9,14,15,16,17] [.fs (rNt m),.fs (zF av),.int .u8 (q:Int),.pt 0 0,.str (bJ B),.sl 1 0 1 (bJ B).size,I (i:Nat),I (9+270*i:Nat)]) [gK s,some (.blk true (.cells true (bT (dD B av q i))))]) =
 some ([.fs (rNt m),.fs (zF av),.int .u8 (q:Int),.pt 0 0,.str (bJ B),.sl 1 0 1 (bJ B).size,I (i+1:Nat),I (9+270*(i+1):Nat)],[gK s,some (.blk true (.cells true (bT (dD B av q (i+1)))))]):=by
 obtain⟨z1,z2,z3⟩:=yZ (B:=B);obtain⟨z4,z5⟩:=z2 i hi;obtain⟨_,z6,z7,_⟩:=kY hi;have kl:=aNM (av:=av) hi;obtain⟨d1,d2⟩:=aSB (av:=av) (q:=q) hi;have dl:=aFB (B:=B) (av:=av) (q:=q) (i:=i) AM;have np:dK B≤10:=by unfold dK;omega
 have x256:=wM (pgN B i) (kp B av i);obtain⟨x,hx⟩:=gF (l:=bN (pgN B i)) (i:=kp B av i) (by rw[lU];exact kl);have x256:=x256 x hx;have hv:vp B av q i=(x+(1+q%255))%256:=by unfold vp;rw[A1,hx,H7]
 have hg:(bN (pgN B i)).getD (kp B av i) 0=x:=by rw[A1,hx,H7]
 rw[hg]at d1;have q255:=J4 q (show 0<255 by decide);have ux:=aIT d1;have us:=aHt (l:=dD B av q i) (i:=9+270*i+kp B av i) (x:=vp B av q i) AM;rw[d2,hv]at us;have hk:kp B av i=if i<av.length then av.getD i 0%(pgN B i).size else 0:=rfl
 have lu:(bT (dD B av q i)).length=(bJ B).size:=by rw[aN,dl]
 generalize dD B av q (i+1)=D2 at *;generalize dD B av q i=D1 at *;generalize kp B av i=k at *;generalize (pgN B i).size=sz at *;generalize bJ B=F at *;obtain⟨n,hn⟩:∃ n,F.size=n:=⟨_,rfl⟩;rw[hn]at lu z1 z3 z4 z5 ⊢;have ru:=aMZ av;have t1:(((9+270*i:Nat):Int)<(n:Int))=True:=AAa;have w1:IntKind.i64.wrap ((n:Int)-((9+270*i:Nat):Int))=((n-(9+270*i):Nat):Int):=by rw[aI AM AM];omega
 have w2:IntKind.i64.wrap (((9+270*i:Nat):Int)+(k:Int))=((9+270*i+k:Nat):Int):=by rw[aI AM AM];omega
 have v3w:qL (q:Int) 255=((q%255:Nat):Int):=kB q 255;have w4:IntKind.u8.wrap (1+((q%255:Nat):Int))=((1+q%255:Nat):Int):=by
  simp[IntKind.wrap,IntKind.bits,IntKind.signed];omega
 have w5:IntKind.u8.wrap ((x:Int)+((1+q%255:Nat):Int))=(((x+(1+q%255))%256:Nat):Int):=by
  simp[IntKind.wrap,IntKind.bits,IntKind.signed]
 have v6w:IntKind.i64.wrap (((9+270*i:Nat):Int)+270)=((9+270*(i+1):Nat):Int):=by rw[aI AM AM];omega
 have up:=kT (i:=i) (n:=100) AM AM;have i1:(((9+270*i+k:Nat):Int)<(n:Int))=True:=AAa;have i2:(9+270*i+k+1≤n)=True:=AAa;have gr:=bL D1;have n0:((sz:Int)=0)=False:=AAb;generalize (x+(1+q%255))%256=X at *;generalize 1+q%255=Z at *;generalize 9+270*(i+1)=fr2 at *;generalize hfr:9+270*i=fr at *;generalize fr+k=P at *;unfold gK;generalize IsClk s=K1;unfold aPh;dsimp only;by_cases hl:i<av.length
 ·obtain⟨a,hai⟩:=gF (l:=av) (i:=i) hl
  have a16:=ha a (A5 hai);rw[if_pos hl,A1,hai,H7]at hk;have hr:=aQA hai;have t2:((i:Int)<(av.length:Int))=True:=AAa;have v7w:IntKind.i64.wrap (a:Int)=(a:Int):=aI AM AM;have v8w:qL (a:Int) (sz:Int)=(k:Int):=by rw[hk];exact kB a sz
  by_cases hm:270<n-fr
  ·have e270:sz=270:=AM
   subst e270;have mm:((270:Int)<((n-fr:Nat):Int))=True:=AAa;have v8w:qL (a:Int) 270=(k:Int):=v8w;(exact lV hn t1 w1 w2 v3w w4 w5 v6w v7w v8w up i1 i2 gr mm t2 hr ru ux us lu cN cH cG cO aE)
  ·have es:n-fr=sz:=AM
   rw[es]at w1;have mm:((270:Int)<(sz:Int))=False:=AAb;(exact lV hn t1 w1 w2 v3w w4 w5 v6w v7w v8w n0 up i1 i2 gr mm t2 hr ru ux us lu cN cH cG cO)
 ·rw[if_neg hl]at hk
  subst hk;have t2:((i:Int)<(av.length:Int))=False:=AAb;have w2:IntKind.i64.wrap ((fr:Int)+0)=(P:Int):=w2;by_cases hm:270<n-fr
  ·have mm:((270:Int)<((n-fr:Nat):Int))=True:=AAa
   (exact lV hn t1 w1 w2 v3w w4 w5 v6w up i1 i2 gr mm t2 ru ux us lu cN cH cG cO aE aE aE aE)
  ·have es:n-fr=sz:=AM
   rw[es]at w1;have mm:((270:Int)<(sz:Int))=False:=AAb;(exact lV hn t1 w1 w2 v3w w4 w5 v6w up i1 i2 gr mm t2 ru ux us lu cN cH cG cO aE aE aE aE)
end
end
section
open Go Go.DL Go.ChangeShapes Go.WideShapes Go.ChangeAt Go.RowKit
abbrev a4T:List CT:=[.int .u8,.int .u8,.int .u8,.int .u8]
theorem aUg:Flat Tryz.prog 70 a4T:=.array (n:=4) Tryz.underlying70 aXX (by kernel_rfl) (by kernel_rfl)
theorem aOk:Flat Tryz.prog 61 [.sl a4T]:=.sl Tryz.underlying61 aUg (by kernel_rfl) (by decide)
abbrev N8(x:Nat×Nat×Nat×Nat):Prop:=x.1<256∧x.2.1<256∧x.2.2.1<256∧x.2.2.2<256
theorem aZw:∀ row:List AV,row.length=a4T.length→(∀(i:Nat)(c:CT)(a:AV),a4T[i]?=some c→row[i]?=some a→Sh c a)→∃ x:{ x:Nat×Nat×Nat×Nat // N8 x },row=[.int .u8 (x.1.1:Int),.int .u8 (x.1.2.1:Int),.int .u8 (x.1.2.2.1:Int),.int .u8 (x.1.2.2.2:Int)]:=by
 intro row hl h;match row,hl with
 | [a0,a1,a2,a3],_ =>
   cases h 0 _ _ rfl rfl with
   | int _ n0 q0 =>
   cases h 1 _ _ rfl rfl with
   | int _ n1 q1 =>
   cases h 2 _ _ rfl rfl with
   | int _ n2 q2 =>
   cases h 3 _ _ rfl rfl with
   | int _ n3 q3 =>
   obtain⟨m0,rfl,b0⟩:=aFX q0;obtain⟨m1,rfl,b1⟩:=aFX q1;obtain⟨m2,rfl,b2⟩:=aFX q2;obtain⟨m3,rfl,b3⟩:=aFX q3;exact⟨⟨(m0,m1,m2,m3),b0,b1,b2,b3⟩,rfl⟩
theorem aGx{a:AV}(h:Sh (.sl a4T) a):∃ us:List (Nat×Nat×Nat×Nat),(∀ v∈us,N8 v)∧a = .fs (rNt us):=by
 obtain⟨us,h1,_⟩:=aSg aZw h;refine⟨us.map (·.1),fun v hv=>?_,by rw[h1];unfold rNt;rw[aB4];rfl⟩;obtain⟨x,_,rfl⟩:=D6.1 hv;exact x.2
theorem aUi:Flat Tryz.prog 53 [.int .u16]:=.int Tryz.underlying53
theorem aUh:Flat Tryz.prog 62 [.sl [.int .u16]]:=.sl Tryz.underlying62 aUi (by kernel_rfl) (by decide)
theorem aZo:∀ row:List AV,row.length=([.int .u16]:List CT).length→(∀(i:Nat)(c:CT)(a:AV),([.int .u16]:List CT)[i]?=some c→row[i]?=some a→Sh c a)→∃ x:{ x:Nat // x<65536 },row=[.int .u16 (x.1:Int)]:=by
 intro row hl h;match row,hl with
 | [a0],_ =>
   cases h 0 _ _ rfl rfl with
   | int _ n0 q0 =>
   obtain⟨m0,rfl,b0⟩:=aSV q0;exact⟨⟨m0,b0⟩,rfl⟩
theorem aPN{a:AV}(h:Sh (.sl [.int .u16]) a):∃ us:List Nat,(∀ v∈us,v<65536)∧a = .fs (zF us):=by
 obtain⟨us,h1,_⟩:=aSg aZo h;refine⟨us.map (·.1),fun v hv=>?_,by rw[h1];unfold zF;rw[aB4];rfl⟩;obtain⟨x,_,rfl⟩:=D6.1 hv;exact x.2
end
section
open Go Go.DL
abbrev lB(L:List ByteArray):Option XB:=some (.blk true (.cells true (fI L)))
noncomputable def gT3s(L:List ByteArray)(s:dR)(A:List ByteArray):XH:=if A.length=0 then [gK s,lB L] else [gK s,lB L,some (.blk true (.cells true (fI A)))]
section
variable{L:List ByteArray}{s:dR}{i:Nat}
theorem aQr(hn:L.length<1000)(hi:i<L.length):dL 2 [0,1,5,6] (execW progG 31 2 none (match aAZ with | .loop _ a=>a|c=>c) (bH [0,1,5,6] [.pt 0 0,.sl 1 0 1 L.length,zA 2 i,I (i:Nat)]) (gT3s L (runL s (L.take i)) (ansL s (L.take i)))) =
 some ([.pt 0 0,.sl 1 0 1 L.length,zA 2 (i+1),I (i+1:Nat)],gT3s L (runL s (L.take (i+1))) (ansL s (L.take (i+1)))):=by
 obtain⟨x,hx⟩:=gF (l:=L) (i:=i) hi;have hr:(fI L)[i]?=some (.str x):=by unfold fI;rw[A6,hx];rfl
 have rl:=gI L;have gl:=eJ L;obtain⟨u1,u2⟩:=xL (s:=s) hx;have c21:=g21 (runL s (L.take i)) x;have al:(ansL s (L.take i)).length=i:=by rw[pH,G5];omega
 have t1:((i:Int)<(L.length:Int))=True:=AAa;have up:=kT (i:=i) (n:=1000) AM AM;have s1:zA 2 (i+1) = .sl 2 0 1 (i+1):=if_neg AM;have sc:fI (ansL s (L.take i)++[(sayA (runL s (L.take i)) x).1])=fI (ansL s (L.take i))++[.str (sayA (runL s (L.take i)) x).1]:=(aIY _ _).symm;have g1:gT3s L (runL s (L.take (i+1))) (ansL s (L.take (i+1)))=[gK (sayA (runL s (L.take i)) x).2,lB L,some (.blk true (.cells true (fI (ansL s (L.take i))++[.str (sayA (runL s (L.take i)) x).1])))]:=by
  unfold gT3s;rw[u2,if_neg (by simp),u1,sc]
 rw[s1,g1];have gr:=eJ (ansL s (L.take i));have tl:(fI (ansL s (L.take i))).length=i:=by rw[gI,al]
 have b2:((i+1)*16≤1099511627776)=True:=AAa;have b3:(i+1≤1099511627776)=True:=AAa;unfold gT3s gK at *;rw[al];clear u1 u2 g1 sc al;generalize sayA (runL s (L.take i)) x=q at *;obtain⟨q1,q2⟩:=q;dsimp only at c21 ⊢;generalize IsClk q2=K2 at *;generalize ansL s (L.take i)=A at *;generalize runL s (L.take i)=s1 at *;generalize IsClk s1=K1 at *;unfold aAZ;dsimp only;rcases I4 i with rfl|hp
 ·have s0:zA 2 0 = .nilsl:=rfl
  have e0:A=[]:=by cases A with
   | nil=>rfl
   | cons a r=>simp[fI]at tl
  subst e0;have z0:fI ([]:List ByteArray)=[]:=rfl;have t1:((0:Int)<(L.length:Int))=True:=t1;have e0:((0:Nat):Int)=0:=rfl;rw[s0,if_pos rfl,z0,e0];(exact RT9 hr rl gl t1 c21 bX bV bW aE)
 ·have s0:zA 2 i = .sl 2 0 1 i:=if_neg AM
  rw[s0,if_neg AM];(exact aAb hr rl gl t1 up c21 gr tl b2 b3 bX bV bW)
theorem aYF(hn:L.length<1000):runW progG 31 [.pt 0 0,.sl 1 0 1 L.length] [gK s,lB L]=some (.fs (rS (ansL s L)),[gK (runL s L),lB L]):=by
 have rl:=gI L;have gl:=eJ L;have o1:=fun i hi=>aQr (L:=L) (s:=s) (i:=i) hn hi;have tk:L.take L.length=L:=B5 (A8 _);have al:(ansL s L).length=L.length:=pH;have gr:=eJ (ansL s L);have ch:=aBh (ansL s L);have ln:=gI (ansL s L);have tn:((L.length:Int)<(L.length:Int))=False:=AAb;have s0:zA 2 0 = .nilsl:=rfl;have g0:gT3s L (runL s (L.take 0)) (ansL s (L.take 0))=[gK s,lB L]:=rfl;rw[aXS (by simp[x31])];unfold x31;dsimp only;sym =>
  simp[fW,fX,lS,Za,Zb,Zf,Zh,Zl,Zm,Zv,ZA,ZR,Yw,YG,YU,Xz,XN,XO,XW,XY,Wu,Wz,W3,W4,W6,WK,WM,WV,Vd,Ve,Vf,Vh,V1,V4,V9,VB,VG,VI,VL,VN,VO,VP,VQ,VR,VX,VY,Uc,Ud,Ur,Us,Ut,Uu,Uv,U9,UB,UE,UF,UH,UI,UJ,UK,UL,UO,UP,UQ,UR,UT,UU,UV,UW,UX,UZ,Ta,Tc,Td,Te,Tf,Tg,Th,Ti,Tj,Tl,Tm,T0,T3,T5,T8,T9,TA,TB,TC,TJ,TK,Sm,S7,S9,SA,SC,SD,SE,SF,SK,SL,SM,SN,Rp,Rq,Rs,Qh,Qj,Ql,Pc,Pd,Pe]
  tactic =>
   unfold aAZ;rw[aS L.length (fun i=>[.pt 0 0,.sl 1 0 1 L.length,zA 2 i,I (i:Nat)]) (fun i=>gT3s L (runL s (L.take i)) (ansL s (L.take i)))]
   ·rw[tk]
    unfold gT3s gK;rw[al]at ch;generalize runL s L=s2 at *;generalize IsClk s2=K1 at *;generalize ansL s L=A at *;rw[al];rcases I4 L.length with hz|hp
    ·have e0:A=[]:=B8 AM
     subst e0;have r0:rS []=[]:=rfl;rw[hz]at tn ⊢;have s1:zA 2 0 = .nilsl:=rfl;rw[s1,r0,if_pos rfl];(exact RT7 rl gl hz tn bX bV bW)
    ·have s1:zA 2 L.length = .sl 2 0 1 L.length:=if_neg AM
     rw[s1,if_neg AM];(exact aUQ rl gl tn gr ch ln al bX bV bW)
   ·rw[s0,g0]
    (exact RT5 rl gl bX bV bW)
   ·exact o1
   ·(exact RT3 rl gl tn)
end
theorem bBk{vs:List AV}{h:XH}(hl:vs.length≤x13.N):runW progG 13 vs h=gV none x13.res x13.ownR h.length (execW progG 13 h.length none x13.body (aV (if x13.ownA then vs else lO vs)) h):=dS rfl hl h rfl
abbrev bS(l:List UInt8):ByteArray:=⟨⟨l⟩⟩
def spS(n:Nat):ByteArray:=bS (List.replicate n 32)
theorem c34:runW progG 34 [I 32] []=some (.str (spS 32),[]):=dI.2 ⟨400,by kernel_rfl⟩
theorem bBx:runW progG 34 [I 35] []=some (.str (spS 35),[]):=dI.2 ⟨400,by kernel_rfl⟩
def wl0:List ByteArray:=[bS [102,97,114,109,101,114,32,97],bS [99,108,111,115,101]]
abbrev w1B:ByteArray:=(bS [50,49,49,49,102,97,114,109,101,114,32,97]++spS 32)++bS [10]
abbrev w2B:ByteArray:=(bS [49,49,51,52,99,108,111,115,101]++spS 35)++bS [10]
abbrev w3B:ByteArray:=(bS [49,56,50,49,74,78,98,97,75,114,32,97]++spS 32)++bS [10]
abbrev w4B:ByteArray:=(bS [49,49,51,52,99,108,111,122,101]++spS 35)++bS [10]
theorem bBz:runW progG 14 [.fs (rS wl0),I 0] []=some (.tup [.str ((w1B++w2B)++w3B),I 0],[]):=dI.2 ⟨400,by kernel_rfl⟩
theorem m1w:mnV ((w1B++w4B)++w3B) 0 = .tup [.fs (rS wl0),I 1,I 0]:=by kernel_rfl
theorem m2w:mnV ((w4B++w4B)++w3B) 0=erV 19:=by kernel_rfl
def wkL:List ByteArray:=[bS [102,97,114,109,101,114,32,97,110,97],bS [102,97,114,109,101,114,32,98,111],bS [102,97,114,109,101,114,32,97,110,97],bS [119,97,103,111,110,32,119,49,32,49,53,48,48,48,32,53,48,48,48,32,97,110,97],bS [119,97,103,111,110,32,119,49,32,49,52,48,48,48,32,53,53,48,49,32,98,111],bS [119,97,103,111,110,32,119,49,32,49,52,48,48,48,32,53,53,48,48,32,98,111],bS [119,97,103,111,110,32,119,50,32,51,48,48,48,32,52,48,48,48,32,97,110,97],bS [119,97,103,111,110,32,119,50,32,52,48,48,48,32,51,48,48,48,32,101,118,101],bS [119,97,103,111,110,32,119,50,32,57,48,48,48,32,51,48,48,48,32,98,111],bS [110,101,116,32,98,111],bS [116,111,116,97,108],bS [112,111,119,101,114,32,97,110,97],bS [112,111,119,101,114,32,98,111],bS [116,105,99,107,101,116,32,48],bS [118,111,105,100,32,48],bS [116,105,99,107,101,116,32,48],bS [116,111,116,97,108],bS [99,108,111,115,101],bS [118,111,105,100,32,49],bS [118,111,105,100,32,48],bS [118,111,105,100,32,51],bS [99,108,111,115,101],bS [109,101,116,101,114,32,109,32,57,57,57,57,48],bS [117,115,101,100,32,109],bS [109,101,116,101,114,32,109,32,49,53],bS [117,115,101,100,32,109],bS [112,97,110,32,112,32,57,48,48,32,56,55,48],bS [112,97,110,32,112,32,49,48,48,32,49,48,49],bS [108,111,115,115,32,112],bS [110,101,116,32,32,98,111],bS [110,101,116,32,66,111],bS [119,97,103,111,110,32,119,51,32,49,32,48,50,32,98,111],bS [115,117,103,97,114]]
def wkA:List ByteArray:=[bS [111,107],bS [111,107],bS [110,111,32,54],bS [111,107],bS [110,111,32,50,50],bS [111,107],bS [110,111,32,49,48],bS [110,111,32,53],bS [111,107],bS [49,52,53,48,48],bS [50,52,53,48,48],bS [48],bS [50],bS [119,49,32,97,110,97,32,49,48,48,48,48],bS [111,107],bS [119,49,32,97,110,97,32,49,48,48,48,48,32,118,111,105,100],bS [49,52,53,48,48],bS [111,107],bS [110,111,32,50,51],bS [110,111,32,54],bS [110,111,32,53],bS [110,111,32,52],bS [111,107],bS [48],bS [111,107],bS [50,53],bS [111,107],bS [110,111,32,49,48],bS [51,48],bS [110,111,32,49,51],bS [110,111,32,56],bS [110,111,32,50],bS [110,111,32,49,51]]
noncomputable def sW:dR:=runL dV wkL
theorem aSP:ansL dV wkL=wkA:=by kernel_rfl
theorem aPG:(wkL.all fun x=>decide (zO x=0))=true:=by kernel_rfl
theorem aSO:decide ((runL dV wkL).book.length≤25)=true:=by kernel_rfl
theorem aSN:sayA (runL dV wkL) (bS [110,101,116,32,98,111])=(bS [49,52,53,48,48],runL dV wkL):=by kernel_rfl
theorem bBy:runW progG 18 [.fs (rS wkA),.sl 0 0 1 33] [lB wkA]=some (.bool true,[lB wkA]):=dI.2 ⟨400,by kernel_rfl⟩
theorem aSM:Rep sW 25:=by
 have h:=aFb (L:=wkL) (fun x hx=>of_decide_eq_true (C7.1 aPG x hx)) 33 (by decide);have e:wkL.take 33=wkL:=rfl;rw[e]at h;exact⟨h.run,h.ok,h.good,of_decide_eq_true aSO⟩
theorem nW{a b c:ByteArray}(h:a++b=c)(hs:c.size≤1000):aQ .add a b=some (.str c):=by
 rw[←h];rw[←h,E8]at hs;exact oJ AM
theorem nV{a b c:ByteArray}(h:a++b=c):c.size=a.size+b.size:=by rw[←h,E8]
theorem w13:runW progG 13 [] []=some (.bool true,[]):=by
 have z32:(spS 32).size=32:=rfl;have YO:(spS 35).size=35:=rfl;have p1:(bS [50,49,49,49,102,97,114,109,101,114,32,97]).size=12:=rfl;have p2:(bS [49,49,51,52,99,108,111,115,101]).size=9:=rfl;have p3:(bS [49,56,50,49,74,78,98,97,75,114,32,97]).size=12:=rfl;have p4:(bS [49,49,51,52,99,108,111,122,101]).size=9:=rfl;have p5:(bS [10]).size=1:=rfl;have h34:=c34;have h34b:=bBx;have h14:=bBz;have h16:=m1w;have h16b:=m2w;unfold w1B w2B w3B w4B at *;generalize spS 32=S at *;generalize spS 35=T at *;obtain⟨a1,ha1⟩:∃ u,bS [50,49,49,49,102,97,114,109,101,114,32,97]++S=u:=⟨_,rfl⟩;obtain⟨b1,hb1⟩:∃ u,a1++bS [10]=u:=⟨_,rfl⟩;obtain⟨a2,ha2⟩:∃ u,bS [49,49,51,52,99,108,111,115,101]++T=u:=⟨_,rfl⟩;obtain⟨b2,hb2⟩:∃ u,a2++bS [10]=u:=⟨_,rfl⟩;obtain⟨a3,ha3⟩:∃ u,bS [49,56,50,49,74,78,98,97,75,114,32,97]++S=u:=⟨_,rfl⟩;obtain⟨b3,hb3⟩:∃ u,a3++bS [10]=u:=⟨_,rfl⟩;obtain⟨a4,ha4⟩:∃ u,bS [49,49,51,52,99,108,111,122,101]++T=u:=⟨_,rfl⟩;obtain⟨b4,hb4⟩:∃ u,a4++bS [10]=u:=⟨_,rfl⟩;obtain⟨e1,he1⟩:∃ u,b1++b2=u:=⟨_,rfl⟩;obtain⟨e2,he2⟩:∃ u,e1++b3=u:=⟨_,rfl⟩;obtain⟨f1,hf1⟩:∃ u,b1++b4=u:=⟨_,rfl⟩;obtain⟨f2,hf2⟩:∃ u,f1++b3=u:=⟨_,rfl⟩;obtain⟨g1,hg1⟩:∃ u,b4++b4=u:=⟨_,rfl⟩;obtain⟨g2,hg2⟩:∃ u,g1++b3=u:=⟨_,rfl⟩;simp only[ha1,hb1,ha2,hb2,ha3,hb3,ha4,hb4,he1,he2,hf1,hf2,hg1,hg2]at h14 h16 h16b;have VL:=nV ha1;have Uo:=nV hb1;have VM:=nV ha2;have zb2:=nV hb2;have VN:=nV ha3;have zb3:=nV hb3;have za4:=nV ha4;have Ur:=nV hb4;have TI:=nV he1;have TJ:=nV he2;have Si:=nV hf1;have Sj:=nV hf2;have SN:=nV hg1;have zg2:=nV hg2;have sa1:=nW ha1 AM;have sb1:=nW hb1 AM;have sa2:=nW ha2 AM;have sb2:=nW hb2 AM;have sa3:=nW ha3 AM;have sb3:=nW hb3 AM;have sa4:=nW ha4 AM;have sb4:=nW hb4 AM;have se1:=nW he1 AM;have se2:=nW he2 AM;have sf1:=nW hf1 AM;have sf2:=nW hf2 AM;have sg1:=nW hg1 AM;have sg2:=nW hg2 AM;have k16:=g16 (s:=f2) (row:=0) AM;have k16b:=g16 (s:=g2) (row:=0) AM;rw[h16]at k16;rw[h16b]at k16b;unfold erV at k16b;have ne:=jJ e2 e2;rw[AAl rfl]at ne;have ne:aQ .neq e2 e2=some (.bool false):=ne;clear ha1 hb1 ha2 hb2 ha3 hb3 ha4 hb4 he1 he2 hf1 hf2 hg1 hg2 VL Uo VM zb2 VN zb3 za4 Ur TI TJ Si Sj SN zg2 h16 h16b;have c18:=aXQ (a:=wl0) (b:=wl0) (by decide);rw[AAl rfl]at c18;have c19:=g19;have c31:=aYF (L:=wkL) (s:=dV) (by decide);rw[aSP]at c31;have c23:=g23 sW;have c25:=aJA aSM;have c21:=g21 sW (bS [110,101,116,32,98,111]);have e21:sayA sW (bS [110,101,116,32,98,111])=(bS [49,52,53,48,48],sW):=aSN;rw[e21]at c21;change runW progG 31 [.pt 0 0,.sl 1 0 1 33] [gK dV,lB wkL]=some (.fs (rS wkA),[gK sW,lB wkL])at c31;have c18b:=bBy;have c23n:runW progG 23 [.pt 0 0] [gK dV]=some (.str hdB,[gK dV]):=g23 dV;have eh:aQ .eql hdB ⟨#[122,97,102,114,97,32,49,52,10]⟩=some (.bool true):=by kernel_rfl
 have en:aQ .eql (bS [49,52,53,48,48]) ⟨#[49,52,53,48,48]⟩=some (.bool true):=by kernel_rfl
 have es:=tQ (bJ sW.book) (bJ sW.book);rw[AAl rfl]at es;have es:aQ .eql (bJ sW.book) (bJ sW.book)=some (.bool true):=es;generalize bJ sW.book=F at *;generalize hRA:rS wkA=RA at c31;have c18c:runW progG 18 [.fs RA,.sl 0 0 1 33] [lB wkA]=some (.bool true,[lB wkA]):=by rw[←hRA];exact c18b
 clear c18b hRA;generalize hRB:rS wl0=RB at k16;have c18d:runW progG 18 [.fs RB,.fs (rS wl0)] []=some (.bool true,[]):=by rw[←hRB];exact c18
 clear c18 hRB;simp only[rS,lB,fI,wkL,wkA,wl0,D7,aE7]at c31 c18c c18d h14;have fr:(List.replicate 33 [AV.str ⟨⟨[]⟩⟩]).flatten=[.str ⟨⟨[]⟩⟩,.str ⟨⟨[]⟩⟩,.str ⟨⟨[]⟩⟩,.str ⟨⟨[]⟩⟩,.str ⟨⟨[]⟩⟩,.str ⟨⟨[]⟩⟩,.str ⟨⟨[]⟩⟩,.str ⟨⟨[]⟩⟩,.str ⟨⟨[]⟩⟩,.str ⟨⟨[]⟩⟩,.str ⟨⟨[]⟩⟩,.str ⟨⟨[]⟩⟩,.str ⟨⟨[]⟩⟩,.str ⟨⟨[]⟩⟩,.str ⟨⟨[]⟩⟩,.str ⟨⟨[]⟩⟩,.str ⟨⟨[]⟩⟩,.str ⟨⟨[]⟩⟩,.str ⟨⟨[]⟩⟩,.str ⟨⟨[]⟩⟩,.str ⟨⟨[]⟩⟩,.str ⟨⟨[]⟩⟩,.str ⟨⟨[]⟩⟩,.str ⟨⟨[]⟩⟩,.str ⟨⟨[]⟩⟩,.str ⟨⟨[]⟩⟩,.str ⟨⟨[]⟩⟩,.str ⟨⟨[]⟩⟩,.str ⟨⟨[]⟩⟩,.str ⟨⟨[]⟩⟩,.str ⟨⟨[]⟩⟩,.str ⟨⟨[]⟩⟩,.str ⟨⟨[]⟩⟩]:=rfl;dsimp only at fr;unfold gK at *;generalize IsClk sW=K1 at *;generalize sW=s at *;generalize IsClk dV=K0 at *;generalize dV=s0 at *;generalize hdB=hh at *;rw[bBk (by simp[x13])];unfold x13;dsimp only;(sym=>(simp[fW,fX,lS,Za,Zb,Zd,Ze,Zf,Zg,Zh,Zj,Zl,Zm,Zo,Zp,Zq,Zr,Zv,Zy,Z8,ZA,ZD,ZQ,Ye,Yh,Ym,Yn,Yo,Yp,Yr,Y6,YE,YF,Xz,XI,XJ,XN,XO,XW,Wi,Wu,Wv,Ww,Wy,Wz,W3,W4,WF,WJ,WK,WL,WS,WV,WZ,Vd,Vf,Vp,V1,V4,V5,V6,V7,V8,VA,VB,VC,VD,VF,VH,VI,VK,VL,VM,VN,VO,VP,VQ,VR,VT,VU,VV,VX,VY,Ud,Ug,Uh,Ui,Uj,Ur,Us,Ut,Uu,Uv,Uw,Ux,Uy,U9,UB,UE,UF,UH,UI,UJ,UK,UL,UO,UP,UQ,UR,UX,UZ,Tc,Td,Te,Tf,Tg,Th,Tj,Tl,Tm,Tq,Tt,Tw,T0,T3,T4,T6,T7,T8,T9,TA,TB,TC,TD,TE,TJ,TL,TM,TN,TO,TW,TX,TY,TZ,Sz,S7,S8,S9,SA,SB,SE,SM,SN,Rz,RF,RG,RH,Qh,Qj,Ql,Qw,Qx,Qz,Q0,QA,QB,QX,QY,QZ,Pa,Pc,Pd,fr,h34,h34b,sa1,sb1,sa2,sb2,sa3,sb3,sa4,sb4,se1,se2,sf1,sf2,sg1,sg2,h14,k16,k16b,ne,c18d,c19,c31,c18c,c23,c25,c21,c23n,eh,en,es];all_goals tactic=>exact rfl))
def aQB(x:UInt8):List ByteArray:=[bS [110,101,116,32,x],bS [117,115,101,100,32,x],bS [108,111,115,115,32,x],bS [112,111,119,101,114,32,x]]
def qstL:List ByteArray:=[bS [116,111,116,97,108]]++(aQB 97++aQB 98++aQB 99++aQB 100)++[48,49,50,51,52,53,54,55].map fun d=>bS [116,105,99,107,101,116,32,d]
theorem aBQ:qstL.length=25:=rfl
theorem c30:runW progG 30 [] []=some (.sl 0 0 1 25,[some (.blk true (.cells true (fI qstL)))]):=dI.2 ⟨400,by kernel_rfl⟩
theorem gq9{vs:List AV}{h:XH}(hl:vs.length≤x9.N):runW progG 9 vs h=gV none x9.res x9.ownR h.length (execW progG 9 h.length none x9.body (aV (if x9.ownA then vs else lO vs)) h):=dS rfl hl h rfl
theorem w9{l m:List Nt}{av:List Nat}{q:Nat}(hb:Nt8 l)(hm:Nt8 m)(ha:∀ n∈av,n<65536)(hq:q<256):runW progG 9 [.fs (rNt l),.fs (rNt m),.fs (zF av),.int .u8 (q:Int)] []=some (.bool true,[]):=by
 have ll:=yD l;have r:Rep (runL dV (bI l)) 25:=by
  have h:=aFb (aKO hb) (bI l).length (A8 _);rw[B5 (A8 _)]at h;exact⟨h.run,h.ok,h.good,by have:=h.len;omega⟩
 have o1:=fun i hi=>aQp (m:=m) (av:=av) (q:=q) (L:=bI l) (i:=i) AM hi;have c19:=g19;have c29:=w29 hb;have c29m:=w29 hm;have l1:=sD (bI l);have tk:(bI l).take (bI l).length=bI l:=B5 (A8 _);obtain⟨s,hs⟩:∃ s,runL dV (bI l)=s:=⟨_,rfl⟩;rw[hs]at r;have c23:=g23 s;have c25:=aJA r;have c25d:=aTQ r av q;have np:dK s.book≤5:=by have:=r.len;unfold dK;omega
 obtain⟨z1,_,z3⟩:=yZ (B:=s.book);have o2:=fun i hi=>aQo (m:=m) (s:=s) (i:=i) r.len hq ha hi;have d0:=aUw (B:=s.book) (av:=av) (q:=q);have dl:=aFB (B:=s.book) (av:=av) (q:=q) (i:=dK s.book) (A8 _);have ef:mC (bJ s.book) 0 9=hdB:=by
  rw[aBm];exact aSz hdB _
 have br:=aUI (bJ s.book);rw[←d0]at br;obtain⟨DE,hDE⟩:∃ DE,dD s.book av q (dK s.book)=DE:=⟨_,rfl⟩;rw[hDE]at dl c25d;have bu:=yP (f:=DE);have gE:=bL DE;have lE:(bT DE).length=(bJ s.book).size:=by rw[aN,dl]
 have tE:List.take (bJ s.book).size (List.drop 0 (bT DE))=bT DE:=B5 (by rw[aC2,lE];exact A8 _);have hE:(⟨⟨DE.map UInt8.ofNat⟩⟩:ByteArray)=rE DE:=rfl;generalize rE DE=x at *;have es:=jJ (bJ s.book) (bJ s.book);rw[AAl rfl]at es;have es:aQ .neq (bJ s.book) (bJ s.book)=some (.bool false):=es;have ml:=yD m;have l2:=sD (bI m);have lm:(qstL++bI m++qstL).length=50+(bI m).length:=by rw[B6,B6,aBQ];omega
 have c31:=w31 (L:=qstL++bI m++qstL) (s:=s) AM;have ct:=aXQ (a:=ansL s (qstL++bI m++qstL)) (b:=ansL s (qstL++bI m++qstL)) (by rw[pH];omega);rw[AAl rfl]at ct;have c23e:=g23 (runL s (qstL++bI m++qstL));have ee:=tQ (bJ (runL s (qstL++bI m++qstL)).book) (bJ (runL s (qstL++bI m++qstL)).book);rw[AAl rfl]at ee;have ee:aQ .eql (bJ (runL s (qstL++bI m++qstL)).book) (bJ (runL s (qstL++bI m++qstL)).book)=some (.bool true):=ee;generalize bJ (runL s (qstL++bI m++qstL)).book=FE at *;generalize runL s (qstL++bI m++qstL)=sE at *;generalize ansL s (qstL++bI m++qstL)=AE at *;have q1:=aSk (bI m);have q2:=aSj (bI m);have q4:fI qstL++fI (bI m)=fI (qstL++bI m):=aEE _ _;have q5:fI (qstL++bI m)++fI qstL=fI (qstL++bI m++qstL):=aEE _ _;have y1:=gI qstL;rw[aBQ]at y1;have y2:=gI (qstL++bI m);rw[B6,aBQ]at y2;have y3:=gI (qstL++bI m++qstL);rw[lm]at y3;have yc:=aBh (qstL++bI m++qstL);rw[lm]at yc;have f1:=eJ qstL;have f2:=eJ (qstL++bI m);have f3:=eJ (qstL++bI m++qstL);have g1:((25+(bI m).length)*16≤1099511627776)=True:=AAa;have g2:(25+(bI m).length≤1099511627776)=True:=AAa;have g3:((50+(bI m).length)*16≤1099511627776)=True:=AAa;have g4:(50+(bI m).length≤1099511627776)=True:=AAa;have g5:25+(bI m).length+25=50+(bI m).length:=AM
 have tq:List.take 25 (List.drop 0 (fI qstL))=fI qstL:=B5 (by rw[aC2,y1];exact A8 _);have k1:((((bJ s.book).size:Nat):Int)<9)=False:=AAb;have k2:((9:Int)≤(((bJ s.book).size:Nat):Int))=True:=AAa;have k3:aQ .neq hdB ⟨#[122,97,102,114,97,32,49,52,10]⟩=some (.bool false):=by kernel_rfl
 have k4:IntKind.i64.wrap (((bJ s.book).size:Int)-9)=((45*(s.book.length+dK s.book):Nat):Int):=by have:=r.len;rw[aI AM AM];omega
 have k5:qL ((45*(s.book.length+dK s.book):Nat):Int) 45=0:=by
  have h:=kB (45*(s.book.length+dK s.book)) 45;rw[Nat.mul_mod_right]at h;exact h
 have k6:(((9+270*dK s.book:Nat):Int)<(((bJ s.book).size:Nat):Int))=False:=AAb;have k7:(((bI l).length:Int)<((bI l).length:Int))=False:=AAb;have k8:(((bJ s.book).size*1:Nat)≤(bJ s.book).size)=True:=AAa;have hd0:(hdB++rB s.book 0)=bJ s.book:=(aBm (B:=s.book)).symm;generalize 45*(s.book.length+dK s.book)=kk at *;generalize bJ s.book=F at *;rw[gq9 (by simp[x9])];unfold x9;dsimp only;sym =>
  simp[fW,fX,lS,Za,Zb,Zf,Zg,Zh,Zj,Zl,Zm,Zn,Zo,Zp,Zq,Zr,Zv,Zy,ZA,ZN,ZQ,ZR,ZU,Ye,Yh,Yl,Ym,Yn,Yo,Yp,Yv,Yy,Y6,Y8,YF,YG,Xj,Xz,XI,XJ,XN,XO,XW,Wu,Wv,Ww,Wy,Wz,W3,W4,WF,WJ,WK,WL,WV,WW,WY,WZ,Vd,Vf,V1,V2,V3,V4,V7,V8,V9,VA,VB,VC,VD,VF,VG,VH,VI,VK,VL,VM,VN,VO,VP,VQ,VR,VS,VT,VU,VV,VX,VY,Ud,Ug,Uh,Ui,Uj,Ur,Us,Ut,Uu,Uv,Uw,Ux,Uy,U8,U9,UB,UE,UF,UH,UI,UJ,UK,UL,UO,UP,UQ,UR,UT,UU,UV,UW,UX,UZ,Ta,Tc,Td,Te,Tf,Tg,Th,Tj,Tl,Tm,Tq,Tt,Tw,T0,T3,T4,T5,T8,T9,TA,TB,TC,TJ,TK,TP,TQ,TR,Se,Sf,Sg,Si,Sk,Sl,Sm,Sz,S2,S3,S4,S5,S7,S8,S9,SA,SB,SC,SD,SE,SF,SK,SL,SM,SN,Rf,Rg,Rh,Ri,Rj,Rk,Rp,Rq,Rr,Rs,Qh,Qj,Ql,Qw,Qx,Qz,Q0,QA,QB,QT,QU,QV,QX,QY,QZ,Pa,Pc,Pd,Pe,c19,c29,l1]
  tactic =>
   unfold aLw;rw[aS (bI l).length (fun i=>[.fs (rNt m),.fs (zF av),.int .u8 (q:Int),.pt 0 0,.fs (rS (bI l)),I ((bI l).length:Nat),I (i:Nat)]) (fun i=>[gK (runL dV ((bI l).take i))])]
   ·rw[tk,hs]
    clear o1;unfold gK at *;sym =>
     simp[fW,fX,lS,Za,Zb,Zf,Zg,Zh,Zj,Zl,Zm,Zn,Zo,Zp,Zq,Zr,Zv,Zy,ZA,ZN,ZQ,ZR,ZU,Ye,Yh,Yl,Ym,Yn,Yo,Yp,Yv,Yy,Y6,Y8,YF,YG,Xj,Xz,XI,XJ,XN,XO,XW,Wu,Wv,Ww,Wy,Wz,W3,W4,WF,WJ,WK,WL,WV,WW,WY,WZ,Vd,Vf,V1,V2,V3,V4,V7,V8,V9,VA,VB,VC,VD,VF,VG,VH,VI,VK,VL,VM,VN,VO,VP,VQ,VR,VS,VT,VU,VV,VX,VY,Ud,Ug,Uh,Ui,Uj,Ur,Us,Ut,Uu,Uv,Uw,Ux,Uy,U8,U9,UB,UE,UF,UH,UI,UJ,UK,UL,UO,UP,UQ,UR,UT,UU,UV,UW,UX,UZ,Ta,Tc,Td,Te,Tf,Tg,Th,Tj,Tl,Tm,Tq,Tt,Tw,T0,T3,T4,T5,T8,T9,TA,TB,TC,TJ,TK,TP,TQ,TR,Se,Sf,Sg,Si,Sk,Sl,Sm,Sz,S2,S3,S4,S5,S7,S8,S9,SA,SB,SC,SD,SE,SF,SK,SL,SM,SN,Rf,Rg,Rh,Ri,Rj,Rk,Rp,Rq,Rr,Rs,Qh,Qj,Ql,Qw,Qx,Qz,Q0,QA,QB,QT,QU,QV,QX,QY,QZ,Pa,Pc,Pd,Pe,k7,c23,k1,k2,ef,k3,k4,k5,br]
     tactic =>
      unfold aPh;rw[aS (dK s.book) (fun i=>[.fs (rNt m),.fs (zF av),.int .u8 (q:Int),.pt 0 0,.str F,.sl 1 0 1 F.size,I (i:Nat),I (9+270*i:Nat)]) (fun i=>[some (.gh s (IsClk s)),some (.blk true (.cells true (bT (dD s.book av q i))))])]
      ·rw[hDE]
       clear o2;generalize IsClk sE=K2 at *;generalize IsClk s=K1 at *;(sym=>(simp[fW,fX,lS,Za,Zb,Zf,Zg,Zh,Zj,Zl,Zm,Zn,Zo,Zp,Zq,Zr,Zv,Zy,ZA,ZN,ZQ,ZR,ZU,Ye,Yh,Yl,Ym,Yn,Yo,Yp,Yv,Yy,Y6,Y8,YF,YG,Xj,Xz,XI,XJ,XN,XO,XW,Wu,Wv,Ww,Wy,Wz,W3,W4,WF,WJ,WK,WL,WV,WW,WY,WZ,Vd,Vf,V1,V2,V3,V4,V7,V8,V9,VA,VB,VC,VD,VF,VG,VH,VI,VK,VL,VM,VN,VO,VP,VQ,VR,VS,VT,VU,VV,VX,VY,Ud,Ug,Uh,Ui,Uj,Ur,Us,Ut,Uu,Uv,Uw,Ux,Uy,U8,U9,UB,UE,UF,UH,UI,UJ,UK,UL,UO,UP,UQ,UR,UT,UU,UV,UW,UX,UZ,Ta,Tc,Td,Te,Tf,Tg,Th,Tj,Tl,Tm,Tq,Tt,Tw,T0,T3,T4,T5,T8,T9,TA,TB,TC,TJ,TK,TP,TQ,TR,Se,Sf,Sg,Si,Sk,Sl,Sm,Sz,S2,S3,S4,S5,S7,S8,S9,SA,SB,SC,SD,SE,SF,SK,SL,SM,SN,Rf,Rg,Rh,Ri,Rj,Rk,Rp,Rq,Rr,Rs,Qh,Qj,Ql,Qw,Qx,Qz,Q0,QA,QB,QT,QU,QV,QX,QY,QZ,Pa,Pc,Pd,Pe,k6,c25,c25d,bu,gE,lE,tE,hE,k8,es,c23,c30,c29m,l2,q1,q2,q4,q5,y1,y2,y3,yc,f1,f2,f3,g1,g2,g3,g4,g5,tq,c31,ct,c23e,ee,w13,cN,cH,cG,cO,bX,bV,bW];all_goals tactic=>exact rfl))
      ·rw[show ((0:Nat):Int)=0 from rfl,show ((9+270*0:Nat):Int)=9 from rfl]
       generalize IsClk s=K1 at *;(exact RT5 br cN cH cG cO)
      ·exact o2
      ·(exact RT1 k6)
   ·rw[show (bI l).take 0=[] from rfl,show runL dV []=dV from rfl,show ((0:Nat):Int)=0 from rfl]
    (exact RT1 l1)
   ·exact o1
   ·(exact RT1 k7)
end
end Go.Proofs.YtmapgnepfgnphaaGreatDoor
