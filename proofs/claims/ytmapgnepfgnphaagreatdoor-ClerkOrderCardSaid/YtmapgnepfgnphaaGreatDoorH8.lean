/- Parts of a proof, joined: Q17 Q18 Q19 Q20 Q21 Q22 Y2 Q23 Q24 Q25 Q26 Q27 Q28 Q29 Q30 Q31 Q32 Q33 Q34 Q35 Q36 Q37 Q38 Q39 Q40 Q41 Q42 R1 R2 R3 R4 R5 R6 R7 R8 R9 R10 R11 O1 S2 S1 S3 S4 LD S5 S6 S7 S8. No statement of the seed is proved here. -/
import Derived.Lib.AtoiAllCases
import Derived.KernelRfl
import Derived.Test.YtmapgnepfgnphaaGreatDoorH7
set_option linter.unusedSimpArgs false
set_option linter.unusedVariables false
set_option linter.unusedSectionVars false
namespace Go.Proofs.YtmapgnepfgnphaaGreatDoor
open Go Go.DL
set_option maxRecDepth 100000
set_option maxHeartbeats 4000000
variable {h h' h1:XH} {L:CL} {s:dA} {x:ByteArray}
def Clo (n:Nat):ABlk→Prop
 | .cells _ xs=>∀ b cs,n≤b→sV b cs xs=xs
 | .map _ es=>∀ b cs,n≤b→(es.map fun p=>(qU b cs p.1,qU b cs p.2))=es
 | _=>False
def Frz (n:Nat) (h hh:XH):Prop:=∀ j c,aE h j=some c→Clo n c→aE hh j=some c
theorem Fr.frz (f:Fr [] h h') {n:Nat}:Frz n h h':=fun j c hc _=>f.keepS hc (by simp)
theorem Frz.trans {n:Nat} (a:Frz n h h1) (b:Frz n h1 h'):Frz n h h':=fun j c hc hn=>b j c (a j c hc hn) hn
theorem aMq {b j:Nat} {cs:List AV} {c:ABlk} (hc:aE h j=some c) (hn:Clo b c):aE (h.map (fzO b cs)) j=some c:=by
 obtain⟨g,hg⟩:=aC hc
 have h2:hat (h.map (fzO b cs)) j=fzO b cs (hat h j):=by
  unfold hat
  rw[List.getD_eq_getElem?_getD,List.getD_eq_getElem?_getD,List.getElem?_map]
  cases h[j]?<;>rfl
 unfold aE
 rw[h2,hg]
 cases g with
 | true=>cases c<;>rfl
 | false=>cases c with
   | cells w xs=>show some (ABlk.cells w (sV b cs xs))=_;rw[hn b cs (Nat.le_refl _)]
   | map w es=>show some (ABlk.map w (es.map fun p=>(qU b cs p.1,qU b cs p.2)))=_;rw[hn b cs (Nat.le_refl _)]
   | _=>exact hn.elim
theorem Clo.mono {n b:Nat} {c:ABlk} (h:Clo n c) (hb:n≤b):Clo b c:=by
 cases c with
 | cells w xs=>exact fun b' cs hb'=>h b' cs (Nat.le_trans hb hb')
 | map w es=>exact fun b' cs hb'=>h b' cs (Nat.le_trans hb hb')
 | _=>exact h
theorem Frz.fz {n b:Nat} {cs:List AV} (hb:n≤b):Frz n h (h.map (fzO b cs)):=fun j c hc hn=>aMq hc (hn.mono hb)
theorem Frz.app {n:Nat} (f:Frz n h h') (k:XH):Frz n h (h'++k):=f.trans (Fr.app h' k).frz
theorem aHT {n:Int} (h : -9223372036854775808≤n∧n≤9223372036854775807):runW aD 57 [I n] []=some (.str ⟨⟨Lib.itoa n⟩⟩,[]):=by
 rw[p57];unfold yC;dsimp only;rw[if_pos h]
theorem oG:cF .eql ⟨⟨[116,111,116,97,108]⟩⟩ ⟨⟨[116,111,116,97,108]⟩⟩=some (.bool true):=by kernel_rfl
theorem aBP:cF .eql ⟨⟨[110,101,116]⟩⟩ ⟨⟨[116,111,116,97,108]⟩⟩=some (.bool false):=by kernel_rfl
theorem aEo:cF .eql ⟨⟨[110,101,116]⟩⟩ ⟨⟨[110,101,116]⟩⟩=some (.bool true):=by kernel_rfl
theorem wY:cF .eql ⟨⟨[112,111,119,101,114]⟩⟩ ⟨⟨[116,111,116,97,108]⟩⟩=some (.bool false):=by kernel_rfl
theorem aBO:cF .eql ⟨⟨[112,111,119,101,114]⟩⟩ ⟨⟨[110,101,116]⟩⟩=some (.bool false):=by kernel_rfl
theorem aAh:cF .eql ⟨⟨[112,111,119,101,114]⟩⟩ ⟨⟨[117,115,101,100]⟩⟩=some (.bool false):=by kernel_rfl
theorem aAi:cF .eql ⟨⟨[112,111,119,101,114]⟩⟩ ⟨⟨[108,111,115,115]⟩⟩=some (.bool false):=by kernel_rfl
theorem wZ:cF .eql ⟨⟨[112,111,119,101,114]⟩⟩ ⟨⟨[112,111,119,101,114]⟩⟩=some (.bool true):=by kernel_rfl
theorem aNT (ly:Lays h L s) {z0:Int} {i:Nat} {y:Int} (hx:fC (s.farmers.map (·.1)) x=some i) (hy:s.farmers[i]?=some (x,y)) (hb : -9223372036854775808≤y∧y≤9223372036854775807):runW aD 62 [.pt L.c 0,.agg [.str ⟨⟨[110,101,116]⟩⟩,.fs [[.str x]],.fs [[I z0]]]] h=some (.str ⟨⟨Lib.itoa y⟩⟩,h++[some (.blk true (.cells true [.str ⟨⟨[110,101,116]⟩⟩,.fs [[.str x]],.fs [[I z0]]]))]):=by
 obtain⟨n,hn⟩:∃ n,h.length=n:=⟨_,rfl⟩
 obtain⟨g,hc⟩:=aC ly.hc
 unfold eG at hc
 have cn:(L.c<n)=True:=eq_true (by rw[←hn];exact aI ly.hc)
 obtain⟨e,v,he,hv,hev,call⟩:=(ly.ext [some (.blk true (.cells true [.str ⟨⟨[110,101,116]⟩⟩,.fs [[.str x]],.fs [[I z0]]]))]).f.getf hx
 rw[List.getElem?_map,hy]at hv
 cases hv
 have hev2:=ly.f.he he (v:=[I y]) (by rw[List.getElem?_map,hy];rfl)
 obtain⟨ge,hee⟩:=aC hev2
 have en:(e<n)=True:=eq_true (by rw[←hn];exact aI hev2)
 have c57:=aHT hb
 rw[qY 62 x62 rfl,hn];unfold x62;dsimp only
 (exact RS9 hn hc cn call hee en c57 aBP aEo)
theorem aHQ {c:Nat} {z0 k:Int} {hh:XH} (call:runW aD 98 [.pt c 0,.str x] (h++[some (.blk true (.cells true [.str ⟨⟨[112,111,119,101,114]⟩⟩,.fs [[.str x]],.fs [[I z0]]]))])=some (I k,hh)) (hb : -9223372036854775808≤k∧k≤9223372036854775807):runW aD 62 [.pt c 0,.agg [.str ⟨⟨[112,111,119,101,114]⟩⟩,.fs [[.str x]],.fs [[I z0]]]] h=some (.str ⟨⟨Lib.itoa k⟩⟩,hh):=by
 obtain⟨n,hn⟩:∃ n,h.length=n:=⟨_,rfl⟩
 have c57:=aHT hb
 rw[qY 62 x62 rfl,hn];unfold x62;dsimp only
 (exact RS8 hn call c57 wY aBO aAh aAi wZ)
variable {h h' h1:XH} {L:CL} {s:dA} {x:ByteArray}
theorem zA {b:Nat} {cs:List AV}:∀ (l:List ByteArray),sV b cs (l.map .str)=l.map .str
 | []=>rfl
 | k::r=>by simp only[List.map_cons,sV,qU,zA r]
theorem aGf {b:Nat} {cs:List AV}:∀ (l:List Nat),sV b cs (l.map fun e=>.pt e 0)=l.map fun e=>.pt e 0
 | []=>rfl
 | k::r=>by simp only[List.map_cons,sV,qU,aGf r]
theorem aET {b k n:Nat} {cs:List AV} (hk:0<n→k<b):qU b cs (jW k n)=jW k n:=by
 unfold jW
 by_cases h:n=0
 ·rw[if_pos h];rfl
 ·rw[if_neg h]
  show (if k=b∧_ then _ else _)=_
  rw[if_neg (by have:=hk (by omega);omega)]
theorem aKb {b:Nat} {cs:List AV}:∀ (ks:List ByteArray) (es:List Nat),(ent ks es).map (fun p=>(qU b cs p.1,qU b cs p.2))=ent ks es
 | [],_=>rfl
 | _::_,[]=>rfl
 | k::ks,e::es=>congrArg (_ :: ·) (aKb ks es)
theorem Od.frz {l:OL} {ks:List ByteArray} {vs:List (List AV)} {t:Int} (od:Od h l ks vs t) (f:Frz h.length h h') (hv:∀ v∈vs,∀ b cs,sV b cs v=v):Od h' l ks vs t:=by
 refine⟨⟨fun p hp=>f p.1 p.2 (od.hd.1 p hp) ?_,od.hd.2⟩,od.ek,od.vk⟩
 unfold qO at hp
 rw[List.mem_cons,List.mem_cons,List.mem_append]at hp
 rcases hp with rfl|rfl|hp|hp
 ·intro b cs hb
  have:=od.lts.2.2.1
  simp only[sV,aET (fun hk=>Nat.lt_of_lt_of_le (this hk) hb)]
  rfl
 ·exact fun b cs _=>aKb _ _
 ·unfold sBk at hp
  split at hp
  ·cases hp
  ·rw[List.mem_singleton]at hp
   subst hp
   exact fun b cs _=>zA _
 ·obtain⟨i,e,v,_,h2,rfl⟩:=aEY hp
  exact fun b cs _=>hv v (List.mem_of_getElem? h2) b cs
theorem Lays.frz (ly:Lays h L s) (f:Frz h.length h h'):Lays h' L s where
 hc:=f _ _ ly.hc fun b cs hb=>by
  unfold eG
  simp only[sV,aET (fun hk=>Nat.lt_of_lt_of_le (ly.tk.lts.1 hk) hb),aET (fun hk=>Nat.lt_of_lt_of_le (aI (ly.bk hk)) hb)]
  rfl
 tk:=⟨ly.tk.el,fun hk=>f _ _ (ly.tk.hb hk) fun b cs _=>aGf _,fun i e k he hk=>f _ _ (ly.tk.he i e k he hk) fun b cs _=>rfl,ly.tk.nd,ly.tk.nb⟩
 bk hk:=f _ _ (ly.bk hk) fun b cs _=>zA _
 f:=ly.f.frz f fun v hv b cs=>by obtain⟨p,_,rfl⟩:=List.mem_map.1 hv;rfl
 m:=ly.m.frz f fun v hv b cs=>by obtain⟨p,_,rfl⟩:=List.mem_map.1 hv;rfl
 p:=ly.p.frz f fun v hv b cs=>by obtain⟨p,_,rfl⟩:=List.mem_map.1 hv;rfl
 w:=ly.w.frz f fun v hv b cs=>by obtain⟨p,_,rfl⟩:=List.mem_map.1 hv;rfl
 dj:=ly.dj
end Go.Proofs.YtmapgnepfgnphaaGreatDoor
namespace Go.DL
mutual
theorem vO (s:Nat→Option Nat):∀ v:AV,(∀ b∈gI v,s b=some b)→rnA s v=v
 | .agg cs,h=>by simp only[gI]at h;simp only[rnA,fK s cs h]
 | .tup cs,h=>by simp only[gI]at h;simp only[rnA,fK s cs h]
 | .sl b o z n,h=>by simp only[rnA,h b (by simp[gI])]
 | .pt b o,h=>by simp only[rnA,h b (by simp[gI])]
 | .mp b,h=>by simp only[rnA,h b (by simp[gI])]
 | .ch b,h=>by simp only[rnA,h b (by simp[gI])]
 | .sb b n,h=>by simp only[rnA,h b (by simp[gI])]
 | .bp b,h=>by simp only[rnA,h b (by simp[gI])]
 | .fn f first cap,h=>by
   simp only[gI,List.mem_append]at h
   cases f with
   | yield l=>simp only[rnA,h l (.inl (by simp)),fK s first fun b hb=>h b (.inr (.inl hb)),fK s cap fun b hb=>h b (.inr (.inr hb))]
   | _=>simp only[rnA,fK s first fun b hb=>h b (.inr (.inl hb)),fK s cap fun b hb=>h b (.inr (.inr hb))]
 | .ifc t v,h=>by simp only[gI]at h;simp only[rnA,vO s v h]
 | .int ..,_=>by simp only[rnA]
 | .bool _,_=>by simp only[rnA]
 | .str _,_=>by simp only[rnA]
 | .fs _,_=>by simp only[rnA]
 | .fp ..,_=>by simp only[rnA]
 | .nilsl,_=>by simp only[rnA]
 | .nilpt,_=>by simp only[rnA]
 | .nilmap,_=>by simp only[rnA]
 | .nilfn,_=>by simp only[rnA]
 | .nilifc,_=>by simp only[rnA]
 | .any,_=>by simp only[rnA]
theorem fK (s:Nat→Option Nat):∀ vs:List AV,(∀ b∈iK vs,s b=some b)→kC s vs=vs
 | [],_=>by simp only[kC]
 | v::r,h=>by
   simp only[iK,List.mem_append]at h
   simp only[kC,vO s v fun b hb=>h b (.inl hb),fK s r fun b hb=>h b (.inr hb)]
end
theorem aBZ (s:Nat→Option Nat) (x:Option XB) (h:∀ b∈nmO x,s b=some b):xN s x=x:=by
 cases x with
 | none=>rfl
 | some x =>
   cases x with
   | blk g y=>cases g with
     | true=>cases y<;>rfl
     | false=>cases y with
       | cells w cs =>
         show some (XB.blk false (.cells w (kC s cs)))=_
         rw[fK s cs h]
       | map w es =>
         show some (XB.blk false (.map w (es.map fun p=>(rnA s p.1,rnA s p.2))))=_
         have:(es.map fun p=>(rnA s p.1,rnA s p.2))=es:=by
          have h2:∀ p∈es,(rnA s p.1,rnA s p.2)=p:=fun p hp=>by
           have h3:∀ b,b∈gI p.1++gI p.2→s b=some b:=fun b hb=>h b (List.mem_flatMap.2 ⟨p,hp,hb⟩)
           rw[vO s p.1 fun b hb=>h3 b (List.mem_append_left _ hb),vO s p.2 fun b hb=>h3 b (List.mem_append_right _ hb)]
          rw[List.map_congr_left h2];simp
         rw[this]
       | _=>rfl
   | loop K site vs st =>
     show some (XB.loop K site (kC s vs) st)=_
     rw[fK s vs h]
   | gh st p=>rfl
def Cd (h:XH):Prop:=∀ x∈h,∀ b∈nmO x,b<h.length
theorem iA {h k:XH}:bK h.length (h++k)=h:=by
 induction h with
 | nil=>rfl
 | cons x r ih=>show x::bK r.length (r++k)=_;rw[ih]
theorem xV {h:XH} {k:Nat}:∀ (n:Nat) (l acc:List Nat),(∀ b∈l,b<k)→bR h k n l acc=acc
 | 0,_,_,_=>rfl
 | n+1,[],_,_=>rfl
 | n+1,b::r,acc,h1=>by
   unfold bR
   rw[if_pos (.inl (h1 b (by simp)))]
   exact xV n r acc fun c hc=>h1 c (by simp[hc])
theorem aCk {h:XH} (cd:Cd h) {acc:List Nat}:h.map (xN (keepS h.length acc))=h:=by
 have:∀ x∈h,xN (keepS h.length acc) x=x:=fun x hx=>aBZ _ x fun b hb=>by
  unfold keepS;rw[if_pos (cd x hx b hb)]
 rw[List.map_congr_left this];simp
theorem aJW {h k:XH} {n:Nat} (hn:h.length=n) (cd:Cd h) {L:List Nat} {e:aB} (hv:∀ b∈iK (L.map e),b<n):cG n L (some (.normal,e,h++k))=some (L.map e,h):=by
 subst hn
 have h1:bS h.length (L.map e) (h++k)=[]:=by
  unfold bS
  rw[iA]
  refine xV _ _ _ fun b hb=>?_
  rw[List.mem_append]at hb
  rcases hb with hb|hb
  ·exact hv b hb
  ·obtain⟨x,hx,hb⟩:=List.mem_flatMap.1 hb
   exact cd x hx b hb
 rw[SM]
 unfold rB gU iM
 rw[h1,iA,aCk cd]
 rw[fK _ _ fun b hb=>by unfold keepS;rw[if_pos (hv b hb)]]
 simp
end Go.DL
namespace Go.Proofs.YtmapgnepfgnphaaGreatDoor
open Go Go.DL
set_option maxRecDepth 100000
set_option maxHeartbeats 4000000
variable {h h' h1:XH} {L:CL} {s:dA} {x:ByteArray}
theorem yR {h k:XH} {n:Nat} (hn:h.length=n) (cd:Cd h) {L:List Nat} {r:Option (DX×aB×XH)} {vs:List AV} (hx:tV L r=some (.normal,vs,h++k)) (hv:∀ b∈iK vs,b<n):cG n L r=some (vs,h):=by
 unfold tV at hx
 rw[Option.map_eq_some_iff]at hx
 obtain⟨⟨x,e,h2⟩,rfl,he⟩:=hx
 simp only[Prod.mk.injEq]at he
 obtain⟨rfl,rfl,rfl⟩:=he
 exact aJW hn cd hv
theorem aHe {h:XH} {n:Nat} (hn:h.length=n) (cd:Cd h) {L:List Nat} {r:Option (DX×aB×XH)} {vs:List AV} (hx:tV L r=some (.normal,vs,h)) (hv:∀ b∈iK vs,b<n):cG n L r=some (vs,h) :=
 yR (k:=[]) hn cd (by rw[List.append_nil];exact hx) hv
def aBF (s:dA):Int:=(s.farmers.map (·.2)).sum
theorem aAF {B:Int}:∀ {l:List Int},(∀ v∈l,-B≤v∧v≤B) → -(B*l.length)≤l.sum∧l.sum≤B*l.length
 | [],_=>by simp
 | v::r,h=>by
   have h1:=h v (by simp)
   have h2:=aAF fun w hw=>h w (List.mem_cons_of_mem v hw)
   rw[List.sum_cons,List.length_cons]
   have:B*((r.length+1:Nat):Int)=B*(r.length:Int)+B:=by
    rw[Int.natCast_add,Int.mul_add];simp
   omega
theorem aBb {l:List ByteArray} (nd:l.Nodup) {i:Nat} {k:ByteArray} (hk:l[i]?=some k):fC l k=some i:=by
 obtain⟨j,hj⟩:=aMl (List.mem_of_getElem? hk)
 have h1:=fG hj
 rw[hj]
 exact congrArg some ((List.getElem?_inj (List.getElem?_eq_some_iff.1 h1).1 nd).1 (h1.trans hk.symm))
theorem aHP (ly:Lays h L s) (cd:Cd h) (hk:0<s.farmers.length) (hk9:s.farmers.length≤9) (nd:(s.farmers.map (·.1)).Nodup) (hb:∀ p∈s.farmers,-1000000000≤p.2∧p.2≤1000000000):runW aD 62 [.pt L.c 0,.agg [.str ⟨⟨[116,111,116,97,108]⟩⟩,.fs [],.fs []]] h=some (.str ⟨⟨Lib.itoa (aBF s)⟩⟩,h):=by
 obtain⟨n,hn⟩:∃ n,h.length=n:=⟨_,rfl⟩
 obtain⟨g,hc⟩:=aC ly.hc
 unfold eG at hc
 have lc:L.c<n:=by rw[←hn];exact aI ly.hc
 have cn:(L.c<n)=True:=eq_true lc
 obtain⟨gw,hwo⟩:=ly.f.ho
 rw[List.length_map,pT hk]at hwo
 obtain⟨gb,hfb⟩:=ly.f.hb (by rw[List.length_map];exact hk)
 have lo:L.f.o<n:=by rw[←hn];exact ly.f.lts.1
 have lb:L.f.b<n:=by rw[←hn];exact ly.f.lts.2.2.1 (by rw[List.length_map];exact hk)
 have won:(L.f.o<n)=True:=eq_true lo
 have bd:∀ i,-9000000000≤((s.farmers.map (·.2)).take i).sum∧((s.farmers.map (·.2)).take i).sum≤9000000000:=fun i=>by
  have h1:=aAF (B:=1000000000) (l:=(s.farmers.map (·.2)).take i) fun v hv=>by
   obtain⟨p,hp,rfl⟩:=List.mem_map.1 (List.mem_of_mem_take hv)
   exact hb p hp
  have h2:((s.farmers.map (·.2)).take i).length≤9:=by rw[List.length_take,List.length_map];omega
  omega
 have nv:∀ i:Nat,∀ b∈iK [.pt L.c 0,I ((s.farmers.map (·.2)).take i).sum,.sl L.f.b 0 1 s.farmers.length,I s.farmers.length,I (i:Nat)],b<n:=by
  intro i b hb2
  simp only[iK,gI,List.append_nil,List.nil_append,List.cons_append,List.mem_cons,List.not_mem_nil,or_false]at hb2
  rcases hb2 with rfl|rfl
  ·exact lc
  ·exact lb
 have fin:((s.farmers.map (·.2)).take s.farmers.length).sum=aBF s:=by
  rw[List.take_of_length_le (by simp)];rfl
 have bs:=bd s.farmers.length
 rw[fin]at bs
 have c57:=aHT (n:=aBF s) (by omega)
 rw[qY 62 x62 rfl,hn];unfold x62;dsimp only
 have klt:((s.farmers.length:Int)<(s.farmers.length:Int))=False:=eq_false (by omega)
 sym =>
  simp[Za,Zb,Zd,Zf,Zg,Zh,Zj,Zl,Zm,Zo,Zv,Zz,Z9,ZA,ZG,ZI,ZS,ZV,Ye,Yh,Ym,Yn,Yt,Yw,Yz,Y7,YG,YM,YN,Xt,Xu,Wa,Wb,Wc,Wm,Wo,WG,Vc,Vd,Vf,Vh,Vr,V5,V6,V7,VC,VD,VE,VL,VO,VQ,VV,VW,Ui,Uj,Uk,Uw,Uy,Uz,U0,UH,UI,UL,UM,UN,UO,UQ,UR,UU,UV,UW,UX,UZ,Ta,Tb,Td,Te,Ti,Tl,Tm,Tp,Tw,T0,T1,T4,T5,T6,T7,T8,T9,TA,TF,TG,TQ,TR,Sg,Si,Sj,Sn,Su,Sz,S9,SA,SB,SC,SD,SE,SF,SG,SJ,SL,SN,SO,Rq,Rr,Qg,Qu,Qw,Qy,Qz,Q0,QA,QV,QW,QX,QY,QZ,Pe,Pj,Pl,Po,Pp,hn,hc,cn,hwo,won,oG]
  tactic =>
   unfold aHC
   rw[bH s.farmers.length (fun i=>[.pt L.c 0,I ((s.farmers.map (·.2)).take i).sum,.sl L.f.b 0 1 s.farmers.length,I s.farmers.length,I (i:Nat)]) (fun _=>h)]
   ·rw[fin]
    (exact RS3 hn klt c57)
   ·exact yR hn cd (k:=[some (.blk true (.cells true [.str ⟨⟨[116,111,116,97,108]⟩⟩,.fs [],.fs []]))]) rfl (nv 0)
   ·intro i hi
    obtain⟨⟨q,y⟩,hq⟩:∃ p,s.farmers[i]?=some p:=⟨_,List.getElem?_eq_getElem hi⟩
    have hqk:(s.farmers.map (·.1))[i]?=some q:=by rw[List.getElem?_map,hq];rfl
    have hx:=aBb nd hqk
    obtain⟨e,v,he,hv,hev,call⟩:=ly.f.getf hx
    rw[List.getElem?_map,hq]at hv
    cases hv
    have hev:aE h e=some (.cells true [I y]):=hev
    obtain⟨ge,hee⟩:=aC hev
    have t1:((i:Int)<(s.farmers.length:Int))=True:=eq_true (by omega)
    have mq1:Option.map Prod.fst (some (q,y))=some q:=rfl
    have mq2:Option.map AV.str (some q)=some (.str q):=rfl
    have hs1:((s.farmers.map (·.2)).take (i+1)).sum=((s.farmers.map (·.2)).take i).sum+y:=by
     rw[List.take_add_one,List.getElem?_map,hq];simp
    have b1:=bd (i+1)
    rw[hs1]at b1
    have a1:IntKind.i64.wrap (((s.farmers.map (·.2)).take i).sum+y)=((s.farmers.map (·.2)).take i).sum+y:=aS (by omega) (by omega)
    have a2:IntKind.i64.wrap ((i:Int)+1)=((i+1:Nat):Int):=by rw[aS (by omega) (by omega)];rfl
    refine aHe hn cd ?_ (nv (i+1))
    rw[hs1]
    generalize ((s.farmers.map (·.2)).take i).sum=S0 at *
    (exact aMW hn t1 hfb hq mq1 mq2 hc hwo call hee a1 a2)
   ·(exact RS2 hn klt)
theorem aGz (ly:Lays h L s) (cd:Cd h) (hk:s.farmers.length=0):runW aD 62 [.pt L.c 0,.agg [.str ⟨⟨[116,111,116,97,108]⟩⟩,.fs [],.fs []]] h=some (.str ⟨⟨Lib.itoa (aBF s)⟩⟩,h):=by
 have h0:s.farmers=[]:=List.eq_nil_of_length_eq_zero hk
 have hs:aBF s=0:=by unfold aBF;rw[h0];rfl
 rw[hs]
 obtain⟨n,hn⟩:∃ n,h.length=n:=⟨_,rfl⟩
 obtain⟨g,hc⟩:=aC ly.hc
 unfold eG at hc
 have lc:L.c<n:=by rw[←hn];exact aI ly.hc
 have cn:(L.c<n)=True:=eq_true lc
 obtain⟨gw,hwo⟩:=ly.f.ho
 have hv:jW L.f.b (s.farmers.map (·.1)).length = .nilsl:=by rw[List.length_map,hk];rfl
 rw[hv]at hwo
 have lo:L.f.o<n:=by rw[←hn];exact ly.f.lts.1
 have won:(L.f.o<n)=True:=eq_true lo
 have nv:∀ b∈iK [.pt L.c 0,I 0,.nilsl,I 0,I 0],b<n:=by
  intro b hb2
  simp only[iK,gI,List.append_nil,List.nil_append,List.cons_append,List.mem_cons,List.not_mem_nil,or_false]at hb2
  rw[hb2];exact lc
 have c57:=aHT (n:=0) (by decide)
 rw[qY 62 x62 rfl,hn];unfold x62;dsimp only
 sym =>
  simp[Za,Zb,Zf,Zh,Zl,Zm,Zo,Zv,Zz,Z9,ZA,ZG,ZS,ZV,Ye,Yh,Ym,Yn,Yt,Yx,YG,Xt,Xu,Wa,Wb,Wc,Wm,Wo,Vc,Vd,Vf,Vh,Vr,V5,V6,V7,VC,VD,VE,VL,VO,VQ,VV,VW,Ui,Uj,Uk,UH,UI,UL,UM,UN,UO,UQ,UR,UU,UV,UW,UX,UZ,Ta,Tb,Td,Te,Ti,Tp,T1,T4,T5,T6,T7,T8,T9,TA,TF,TG,TQ,TR,Si,Sj,Sn,Su,Sz,S9,SA,SB,SD,SE,SF,SG,SJ,SL,SN,SO,QW,QX,QY,QZ,Pe,Pj,Pl,Po,Pp,hn,hc,cn,hwo,won,oG]
  tactic =>
   unfold aHC
   rw[bH 0 (fun _=>[.pt L.c 0,I 0,.nilsl,I 0,I 0]) (fun _=>h)]
   ·(exact RS2 hn c57)
   ·exact yR hn cd (k:=[some (.blk true (.cells true [.str ⟨⟨[116,111,116,97,108]⟩⟩,.fs [],.fs []]))]) rfl nv
   ·intro i hi;omega
   ·(exact wC hn)
inductive Wd where
 | farmer (x:ByteArray)
 | wagon (name owner:ByteArray) (full empty:Int)
 | void (i:Nat)
 | close
 | meter (x:ByteArray) (n:Int)
 | pan (x:ByteArray) (a b:Int)
 | net (x:ByteArray)
 | total
 | ticket (i:Nat)
 | used (x:ByteArray)
 | loss (x:ByteArray)
 | power (x:ByteArray)
def Wd.asks:Wd→Bool
 | .net _ | .total | .ticket _ | .used _ | .loss _ | .power _=>true
 | _=>false
def IsW:Wd→AV→Prop
 | .farmer x,v=>∃ z0:Int,v = .agg [.str ⟨⟨[102,97,114,109,101,114]⟩⟩,.fs [[.str x]],.fs [[I z0]]]
 | .wagon x y a b,v=>(0≤a∧a≤99999∧0≤b∧b≤99999∧x.size≤10∧y.size≤10)∧∃ (u1 u2:ByteArray) (z0 z1:Int),v = .agg [.str ⟨⟨[119,97,103,111,110]⟩⟩,.fs [[.str x],[.str u1],[.str u2],[.str y]],.fs [[I z0],[I a],[I b],[I z1]]]
 | .void i,v=>∃ u1:ByteArray,v = .agg [.str ⟨⟨[118,111,105,100]⟩⟩,.fs [[.str u1]],.fs [[I (i:Nat)]]]
 | .close,v=>v = .agg [.str ⟨⟨[99,108,111,115,101]⟩⟩,.fs [],.fs []]
 | .meter x n,v=>(0≤n∧n≤99999)∧∃ (u1:ByteArray) (z0:Int),v = .agg [.str ⟨⟨[109,101,116,101,114]⟩⟩,.fs [[.str x],[.str u1]],.fs [[I z0],[I n]]]
 | .pan x a b,v=>(0≤a∧a≤99999∧0≤b∧b≤99999)∧∃ (u1 u2:ByteArray) (z0:Int),v = .agg [.str ⟨⟨[112,97,110]⟩⟩,.fs [[.str x],[.str u1],[.str u2]],.fs [[I z0],[I a],[I b]]]
 | .net x,v=>∃ z0:Int,v = .agg [.str ⟨⟨[110,101,116]⟩⟩,.fs [[.str x]],.fs [[I z0]]]
 | .total,v=>v = .agg [.str ⟨⟨[116,111,116,97,108]⟩⟩,.fs [],.fs []]
 | .ticket i,v=>∃ u1:ByteArray,v = .agg [.str ⟨⟨[116,105,99,107,101,116]⟩⟩,.fs [[.str u1]],.fs [[I (i:Nat)]]]
 | .used x,v=>∃ z0:Int,v = .agg [.str ⟨⟨[117,115,101,100]⟩⟩,.fs [[.str x]],.fs [[I z0]]]
 | .loss x,v=>∃ z0:Int,v = .agg [.str ⟨⟨[108,111,115,115]⟩⟩,.fs [[.str x]],.fs [[I z0]]]
 | .power x,v=>∃ z0:Int,v = .agg [.str ⟨⟨[112,111,119,101,114]⟩⟩,.fs [[.str x]],.fs [[I z0]]]
def eD {α:Type} (l:List (ByteArray×α)) (x:ByteArray):Option α:=(fC (l.map (·.1)) x).bind fun i=>l[i]?.map (·.2)
theorem aAC {α:Type} {l:List (ByteArray×α)} {x:ByteArray}:eD l x=none↔fC (l.map (·.1)) x=none:=by
 unfold eD
 cases h:fC (l.map (·.1)) x with
 | none=>simp
 | some i =>
   obtain⟨y,hy⟩:=yI h
   simp[hy]
theorem iY {α:Type} {l:List (ByteArray×α)} {x:ByteArray} {y:α} (h:eD l x=some y):∃ i,fC (l.map (·.1)) x=some i∧l[i]?=some (x,y):=by
 unfold eD at h
 cases hn:fC (l.map (·.1)) x with
 | none=>rw[hn]at h;cases h
 | some i =>
   obtain⟨z,hz⟩:=yI hn
   rw[hn,Option.bind_some,hz]at h
   cases h
   exact⟨i,rfl,hz⟩
def qW (s:dA):Wd→Option Int
 | .farmer x=>if (eD s.farmers x).isSome then some 6 else if s.farmers.length=9 then some 15 else none
 | .wagon x y a b=>match eD s.farmers y with
   | none=>some 5
   | some _=>if ¬b≤a then some 10 else match eD s.wagons x with
     | none=>none
     | some e=>if e-500≤b∧b≤e+500 then none else some 22
 | .void i=>match s.tickets[i]? with
   | none=>some 5
   | some k=>if k.void then some 6 else if i<s.closed then some 23 else none
 | .close=>if s.closed<s.tickets.length then none else some 4
 | .meter x _=>if (eD s.meters x).isNone∧s.meters.length=5 then some 15 else none
 | .pan x a b=>if ¬b≤a then some 10 else if (eD s.pans x).isNone∧s.pans.length=5 then some 15 else none
 | _=>none
def doW (s:dA):Wd→dA
 | .farmer x=>{ s with farmers:=s.farmers++[(x,0)] }
 | .wagon x y a b=>dM s x y a b
 | .void i=>match s.tickets[i]? with
   | none=>s
   | some k=>{ s with tickets:=s.tickets.set i { k with void:=true },farmers:=lA s.farmers k.farmer (-k.net) }
 | .close=>{ s with closed:=s.tickets.length }
 | .meter x n=>{ s with meters:=iS (mtr n) (n,0) x s.meters }
 | .pan x a b=>{ s with pans:=lA s.pans x (a-b) }
 | _=>s
def aBz (l:List CTk) (x:ByteArray):Int:=(l.map fun k=>if k.farmer=x∧k.void=false then k.net else 0).sum
structure nS (s:dA):Prop where
 book:s.book.length≤300
 nf:(s.farmers.map (·.1)).Nodup
 lf:s.farmers.length≤9
 lm:s.meters.length≤5
 lp:s.pans.length≤5
 lw:s.wagons.length≤s.book.length
 lt:s.tickets.length≤s.book.length
 cl:s.closed≤s.tickets.length
 bf:∀ p∈s.farmers,-(100000*s.book.length:Int)≤p.2∧p.2≤100000*s.book.length
 bm:∀ p∈s.meters,0≤p.2.1∧p.2.1≤99999∧0≤p.2.2∧p.2.2≤100000*s.book.length
 bp:∀ p∈s.pans,0≤p.2∧p.2≤100000*s.book.length
 bw:∀ p∈s.wagons,0≤p.2∧p.2≤99999
 bt:∀ k∈s.tickets,0≤k.net∧k.net≤99999∧k.farmer∈s.farmers.map (·.1)∧k.wagon.size≤10∧k.farmer.size≤10
 fs:∀ p∈s.farmers,p.2=aBz s.tickets p.1
variable {h h' h1:XH} {L:CL} {s:dA} {x:ByteArray} {w:Wd} {v:AV}
theorem aDE {α:Type} {o:Option α} (h:¬o.isSome=true):o=none:=by cases o with
 | none=>rfl
 | some _=>exact absurd rfl h
variable {h h' h1:XH} {L:CL} {s:dA} {x:ByteArray} {w:Wd} {v:AV}
theorem eP {h k:XH} (i:Nat) {g:Bool} {c:ABlk} (hk:k[i]?=some (some (.blk g c))):aE (h++k) (h.length+i)=some c:=by
 rw[eQ,if_neg (by omega),show h.length+i-h.length=i by omega]
 unfold aE hat
 rw[List.getD_eq_getElem?_getD,hk];rfl
theorem aFQ (ly:Lays h L s) {bs:List Nat} (hb:∀ b∈bs,h.length≤b):Out L s bs:=fun b hm hp=>by
 obtain⟨j,hj⟩:=aX.1 hp
 have:=ly.lt j b hj
 have:=hb b hm
 omega
theorem aTr {h k:XH} (i:Nat) {c:XB} (hk:k[i]?=some (some c)):(hat (h++k) (h.length+i)).isSome=true:=by
 rw[aPb]
 unfold hat
 rw[List.getD_eq_getElem?_getD,hk];rfl
theorem aKC {h k k2:XH} (i:Nat) {c:XB} (hk:k[i]?=some (some c)):(hat ((h++k)++k2) (h.length+i)).isSome=true:=by
 rw[List.append_assoc]
 exact aTr i (c:=c) (by rw[List.getElem?_append_left (List.getElem?_eq_some_iff.1 hk).1];exact hk)
abbrev aNb (g:Nat):Prop:=g=88∨g=92∨g=128∨g=130∨g=132∨g=135
def aGt (h:XH) (L:CL) (s:dA) (v:AV) (s':dA):Prop:=∃ (g:Nat) (caps:List AV) (h1:XH),runW aD 61 [.pt L.c 0,v] h=some (.fn (.func g) [] caps,h1)∧aNb g∧Fr [] h h1 ∧
 ∃ h2 L2,runW aD g caps h1=some (.tup [],h2)∧Lays h2 L2 s'∧L2.c=L.c∧Fr (rE L s) h1 h2∧Sb h1.length L s L2 s'
theorem aFe {x:ByteArray} (ly:Lays h L s) (gs:nS s) (hw:IsW (.farmer x) v) (hc:qW s (.farmer x)=none):aGt h L s v (doW s (.farmer x)):=by
 have lbk:=gs.book
 obtain⟨z0,rfl⟩:=hw
 unfold qW at hc
 dsimp only at hc
 split at hc
 ·cases hc
 ·rename_i hs
  split at hc
  ·cases hc
  ·rename_i h9
   have hx:=aAC.1 (aDE hs)
   have ly1:=ly.ext [some (.blk false (.cells true [.pt L.c 0])),some (.blk true (.cells true [.str ⟨⟨[102,97,114,109,101,114]⟩⟩,.fs [[.str x]],.fs [[I z0]]]))]
   obtain⟨h2,L2,q1,q2,q3,q4,q5⟩:=w88 ly1 (b0:=h.length+0) (b1:=h.length+1) (aFQ ly (by intro b hb;simp at hb;omega)) (eP 0 rfl) (eP 1 rfl) hx (by have:=gs.lf;omega)
   exact⟨88,_,_,aGA ly hx h9,by decide,Fr.app h _,h2,L2,q1,q2,q3,q4,q5⟩
theorem aHr {x y:ByteArray} {a b:Int} (ly:Lays h L s) (gs:nS s) (hw:IsW (.wagon x y a b) v) (hc:qW s (.wagon x y a b)=none):aGt h L s v (doW s (.wagon x y a b)):=by
 have lbk:=gs.book
 obtain⟨hb,u1,u2,z0,z1,rfl⟩:=hw
 have ly2:=ly.ext [some (.blk false (.cells true [.pt L.c 0])),some (.blk true (.cells true [.str ⟨⟨[119,97,103,111,110]⟩⟩,.fs [[.str x],[.str u1],[.str u2],[.str y]],.fs [[I z0],[I a],[I b],[I z1]]]))]
 unfold qW at hc
 dsimp only at hc
 split at hc
 ·cases hc
 ·rename_i f hf
  obtain⟨j,hj,hjf⟩:=iY hf
  split at hc
  ·cases hc
  ·rename_i hle
   have hle:=Classical.not_not.1 hle
   have hww:∀ i q,fC (s.wagons.map (·.1)) x=some i→(s.wagons.map (·.2))[i]?=some q→q-500≤b∧b≤q+500:=by
    intro i q hi hq
    have:eD s.wagons x=some q:=by
     unfold eD
     rw[hi,Option.bind_some]
     rw[List.getElem?_map]at hq
     exact hq
    rw[this]at hc
    dsimp only at hc
    split at hc
    ·rename_i hne;exact hne
    ·cases hc
   obtain⟨fe,hfe,q0⟩:=w90 (f:=⟨⟨[119,97,103,111,110]⟩⟩) (name:=x) (t1:=u1) (t2:=u2) (z:=z0) (z2:=z1) ly2 hj hle hww gs.bw
   have ly3:=ly2.ext (aMO L.c ⟨⟨[119,97,103,111,110]⟩⟩ x u1 u2 y z0 a b z1 [some (.blk false (.cells true [.pt fe 0]))])
   have hfb:=gs.bf _ (List.mem_of_getElem? hjf)
   simp only at hfb
   obtain⟨h2,L2,q1,q2,q3,q4,q5⟩:=aUe (j:=j) (fe:=fe) (v:=f) (name:=x) (owner:=y) (full:=a) (empty:=b) ly3 (aFQ ly2 (by intro b hb;simp only[List.length_append,List.length_cons,List.length_nil,List.mem_cons,List.not_mem_nil,or_false]at hb ⊢;omega)) (eP 0 rfl) (eP 2 rfl) (eP 4 rfl) (eP 6 rfl) (eP 3 rfl) (eP 5 rfl) hfe hj hjf (by omega) (by have:=gs.lw;omega) (by have:=gs.lt;omega)
   exact⟨128,_,_,aHR q0 (aKC 0 rfl) (aKC 1 rfl),by decide,(Fr.app h _).add _,h2,L2,q1,q2,q3,q4,q5⟩
end Go.Proofs.YtmapgnepfgnphaaGreatDoor
namespace Go.Proofs.YtmapgnepfgnphaaGreatDoor
open Go Go.DL Go.Proofs.Tryz
set_option maxRecDepth 10000
section
variable {B:Base} {D:Nat→Option XFn} {Y:Nat→Option YI} {r:Nat→Option Nat} {h:XH} {H:Hp} {F:Nat→Prop} {w:World}
theorem aCZ (ok:XOk prog D) (B:Base) (Y:Nat→Option YI) (hY:YOk prog B D Y):Go.DL.FnS prog B D Y (runW D)∧YS prog B D Y (runYW D):=by
 refine⟨fun r h H K xs as' v h' sh hA hx=>?_,fun r h H fv fv' xs as' v h' sh hfv hA hx=>?_⟩
 ·obtain⟨n,hn⟩:=eK.1 hx
  exact(lH ok n B Y hY).1 r h H K xs as' v h' sh hA hn
 ·obtain⟨n,hn⟩:=pM.1 hx
  exact(lH ok n B Y hY).2 r h H fv fv' xs as' v h' sh hfv hA hn
theorem aKh {i:aAu} (sh:SH D Y r h H) {r1:Nat→Option Nat} {e1 env1:aB} {h1:XH} {H1:Hp} (ha:Agree h.length r r1) (sr:SR D Y r1 e1 h1 env1 H1) {v:AV} (hx:eL i.res e1 (aE h1)=some v) :
 ∃ v1,eL i.res env1 H1=some v1∧∃ v' H'',Shift (upd anyE 0 v1) H1 (upd anyE 0 v') H''∧cS D Y r v h1 v' H'':=by
 obtain⟨v0',k1,k2⟩:=vP sr hx
 exact⟨v0',k1,v0',H1,fun F w a st re=>⟨F,Ext.refl _ _ _,st,re⟩,r1,fun b c hb=>ha b c (sh.dom b c hb) hb,sr.sh,k2⟩
def aNN (D:Nat→Option XFn) (d:XFn) (c o k:Nat) (e:aB) (h1 h3:XH) (v:AV):Prop :=
 (∃ x e2 h2,(∀ id,x ≠ .exit id)∧execW D 21 k none b21 e h1=some (x,e2,h2)∧oV saySay (runW D) (runYW D) (.pt c o) saySay.zero false h2=some h3∧eL saySay.res e2 (aE h3)=some v) ∨
 (∃ v0 e2 h2,PanX prog D d k b21 e h1 (.ifc 110 v0) e2 h2∧oV saySay (runW D) (runYW D) (.pt c o) v0 true h2=some h3∧eL saySay.res e2 (aE h3)=some v)
theorem aLS (ok:XOk prog D) {d21:XFn} (hD:D 21=some d21) (hN:d21.N=41) {xs as':List AV} {v:AV} {h1 h3:XH} {e1:aB} {c o:Nat} (hlen:xs.length≤41)
 (hx1:cZ (runW D) (runYW D) saySay.pre (aW (nJ xs)) h=some (e1,h1)) (he1:e1 4 = .pt c o) (hc:c<h1.length) (hbody:aNN D d21 c o h1.length (upd e1 7 .any) h1 h3 v) (hY:YOk prog B D Y) (sh:SH D Y r h H) (hA:RnL D Y r xs as'):FnW B prog 21 as' H (cS D Y r v h3):=by
 have hm:=ok.mixed
 obtain⟨hf,hy⟩:=aCZ ok B Y hY
 have hA1:=hA.nz
 refine FnW.nz (FnW.shift ⟨fun vs w=>call21 vs w,fun F w vs hB st hAr=>?_⟩)
 have hsz:(vs++Array.replicate (f21.ntmps-vs.size) undef).size=41:=by
  have h1:=hAr.1
  have h2:=hA1.1
  rw[eV,List.length_map]at h2
  have:xs.length≤41:=hlen
  rw[aNH];simp;omega
 have hre:=sT (N:=41) (nt:=f21.ntmps-vs.size) hB hAr
 have RS0:=eH (P:=prog) (B:=B) hf hy saySay.pre r _ h _ H e1 h1 (fun env' H'=>∃ r',DL.Sub r r'∧SR D Y r' e1 h1 env' H') rfl ⟨sh,fX hA1⟩ hx1 (fun r' env' H' hs sr'=>⟨r',hs,sr'⟩)
 refine callsIn_of_wp_marks func21 aKy trivial (wpIn_seq (gO (B:=B) (r:=none) (N:=41) (draw:=false) hm aNG hsz hB st hre RS0 ?_))
 rintro a1 F1 w1 env1 H1 p1 p2 p3 p4 p5 ⟨r1,p6,p7⟩
 show (Code.seq (.region 1 r21_1 false) code21).wpIn Fence.wide 0 prog _ a1 w1
 have hB1:=hB.step st p3
 have h4:=p7.re 4
 have he1':e1 4 = .pt c o:=he1
 rw[he1']at h4
 obtain⟨b,hrb,henv4⟩:∃ b,r1 c=some b∧env1 4 = .pt b o:=by
  generalize env1 4=z at h4
  cases h4 with
  | pt _ b _ hb=>exact⟨b,hb,rfl⟩
 refine wpIn_seq (wpIn_region ?_)
 rw[aQF,show List.range 2=[0,1] from rfl,wpOpsIn_cons]
 obtain⟨o0,g1,g2⟩:=aOR
 obtain⟨o1,k1,k2,k3,k4⟩:=aTl
 refine wU (r:=none) (B:=B) (N:=41) (K:=fun env' H'=>env'=aM env1 (some 7) (.fn (.func 56) [] [.pt b o])∧H'=H1) (eS g1 g2) rfl (fun k hk=>by simp at hk;omega) p1 hB1 p4 p5 ?_ ?_
 ·rw[aDq,iV rfl]
  simp only[aA,List.map_nil,List.map_cons,aG,henv4,optW_some,dY]
  exact⟨by trivial,by trivial⟩
 rintro a2 F2 w2 env2 H2 s1 s2 s3 s4 s5 ⟨rfl,rfl⟩
 rw[wpOpsIn_cons]
 unfold wpOpIn
 simp only[k1]
 have hw:Region.wanted o1 (yielded r21_1 a2.tmps)=true:=by unfold Region.wanted;rw[k3]
 rw[if_pos hw]
 have h7:a2.eval (.tmp 7) = .func (.func 56) #[] #[.pointer (some ⟨b,o,none⟩)]:=by
  have:=s5.rv 7
  simp only[aM,upd,if_true]at this
  show a2.tmps.getD 7 undef=_
  generalize a2.tmps.getD 7 undef=z at this
  cases this with
  | fn _ _ _ fv cv hl1 hl2 q1 q2 =>
    have e1:fv = #[]:=by
     rcases fv with ⟨_|⟨a,l⟩⟩
     ·rfl
     ·simp at hl1
    have e2:cv = #[.pointer (some ⟨b,o,none⟩)]:=by
     rcases cv with ⟨_|⟨a,_|⟨a',l⟩⟩⟩
     ·simp at hl2
     ·have:=q2 0 _ a rfl rfl
      cases this;rfl
     ·simp at hl2
    rw[e1,e2]
 refine⟨fun _ _=>trivial,?_⟩
 have hsem:(o1.semAt Fence.wide.round a2.eval).run prog w2 = .ok (.defer { target:=.fn (.func 56) #[.pointer (some ⟨b,o,none⟩)],args := #[] }) w2:=by
  have:Fence.wide.round=none:=rfl
  rw[this,Oper.semAt_none]
  simp[execOp,resolve,k4,h7,Deferred.ofValue]
 rw[hsem,Oper.uponIn_defer,k2]
 have hdf:a2.defers=[]:=by rw[s2,p2]
 obtain⟨T,hT⟩:∃ T:List Deferred,T=[{ target:=.fn (.func 56) #[.pointer (some ⟨b,o,none⟩)],args := #[] }]:=⟨_,rfl⟩
 have hact:Act.put { a2 with defers:={ target:=.fn (.func 56) #[.pointer (some ⟨b,o,none⟩)],args := #[] }::a2.defers } none undef={ tmps:=a2.tmps,defers:=T }:=by
  rw[hdf,hT];rfl
 rw[hact]
 show code21.wpIn Fence.wide 0 prog _ { tmps:=a2.tmps,defers:=T } w2
 have hB2:=hB1.step p4 s3
 have E2:=p3.trans s3
 have sr2:SR D Y r1 (upd e1 7 .any) h1 (aM env1 (some 7) (.fn (.func 56) [] [.pt b o])) H2:=⟨p7.sh,fun j=>by
  simp only[upd,aM]
  split
  ·exact .any _
  ·exact p7.re j⟩
 have ag1:Agree h.length r r1:=p6.agree _
 have out:∀ (F':Nat→Prop) (w':World) (H':Hp) (env':aB) (tmps:Array Value) (ds:List Deferred) (r3:Nat→Option Nat) (e2:aB) (h2:XH) (u:FrameMode) (v0 v0':AV) (t:Bool) (cval:Value),u ≠ .run→Ext F w H F' w' H'→St F' w' H'→RE F' w' env' { tmps:=tmps,defers:=[] } →
  Mk w2.heap.size T F' H' w' ds→Agree h1.length r1 r3→SR D Y r3 e2 h2 env' H'→Rn D Y r3 v0 v0'→oV saySay (runW D) (runYW D) (.pt c o) v0 t h2=some h3→eL saySay.res e2 (aE h3)=some v →
  ((t=true∧u = .panicking (pnc cval)∧Rv F' w' (.ifc 110 v0') cval)∨(t=false∧u = .returning∧v0' = .agg [.int .i64 0])) →
  LeavesInM Fence.wide 0 prog f21 tmps (nQ F w H fun v1 H1=>∃ v' H'',Shift (upd anyE 0 v1) H1 (upd anyE 0 v') H''∧cS D Y r v h3 v' H'') ds u w':=by
  intro F' w' H' env' tmps ds r3 e2 h2 u v0 v0' t cval hu he st' re' mk ag sr3 hv0 hh hret hcase
  obtain⟨ms,q1,q2,q3⟩:=mk.ex
  rw[q1]
  refine qG (env:=env') (S:=fun w'=>(t=true∧u = .panicking (pnc cval)∧Rv F' w' (.ifc 110 v0') cval)∨(t=false∧u = .returning∧v0' = .agg [.int .i64 0])) (fun w w' hu hs=>?_) hu E2.le (fun w'' hs'' he' st'' re''=>?_) ms w' hcase he st' re' q2 q3
  ·rcases hs with ⟨a1,a2,a3⟩|hs
   ·exact .inl ⟨a1,a2,a3.up hu⟩
   ·exact .inr hs
  rw[hT]
  refine⟨hu,.inr ⟨fun hd=>by simp[Fence.wide]at hd,_,_,56,#[.pointer (some ⟨b,o,none⟩)],rfl,?_,fun _ _=>trivial,?_⟩⟩
  ·have:=call56 #[Value.pointer (some ⟨b,o,none⟩)] w''
   first|exact this|simpa [invoke]using this
  ·refine aJY hf hy hm (hB.step st he') st'' sr3.sh (ag c b hc hrb) rfl rfl rfl hv0 hh hs'' ?_
   intro F4 w4 H4 r4 u' hset t2 t3 t4 t5
   show LeavesInM Fence.wide 0 prog f21 tmps _ [] (settle u') w4
   rw[hset]
   have re4:RE F4 w4 env' { tmps:=tmps,defers:=[] }:=re''.up (t2.up st'')
   have sr4:SR D Y r4 e2 h3 env' H4:=⟨t5,fun j=>(sr3.re j).mono t4⟩
   have ag4:Agree h.length r r4:=fun b1 c1 hb1 hr1=>t4 _ _ (ag b1 c1 (p7.sh.dom b1 c1 (p6 b1 c1 hr1)) (p6 b1 c1 hr1))
   obtain⟨v1,x1,x2⟩:=aKh sh ag4 sr4 hret
   obtain⟨cv,y1,y2⟩:=oI t3 re4 aNl x1
   exact⟨cv,y1,cv,v1,F4,H4,rfl,he'.trans t2,t3,y2,x2⟩
 rcases hbody with ⟨x,e2,h2,hne,hex,hh,hret⟩|⟨v0,e2,h2,hpan,hh,hret⟩
 ·have hWD:=uS (Q:=fun x' env3 H3=>x'=x∧∃ r3,Agree h1.length r1 r3∧SR D Y r3 e2 h2 env3 H3) ok hD hex hY aMh (aL aMj) sr2 (fun r' env' H' ha sr'=>⟨rfl,r',ha,sr'⟩)
  have hW:=hWD code21 (by rw[hN];exact pX) F2 w2 { tmps:=a2.tmps,defers:=T } w2.heap.size T hB2 (Nat.le_refl _) (by rw[hN];exact s1) s4 s5 Mk.nil
  refine wpIn_mono hW ?_
  rintro e a' w' ⟨x',env',F',H',z1,z2,z3,z4,z5,z6,rfl,r3,z7,z8⟩
  have fin:=fun(hu:True)=>out F' w' H' env' a'.tmps a'.defers r3 e2 h2 .returning _ _ false undef (by simp) (E2.trans z3) z4 z5 z6 z7 z8 ((oN saySay.zero rfl)) hh hret (.inr ⟨rfl,rfl,rfl⟩)
  cases e with
  | normal=>exact fin trivial
  | ret=>exact fin trivial
  | exit id=>simp only at z1;subst z1;exact(hne id rfl).elim
  | goto l=>exact z1.elim
  | panic c=>exact z1.elim
  | outgrown=>exact z1.elim
 ·have hWD:=hpan aMh (aL aMj) B Y r1 _ _ (fun v' env3 H3=>∃ r3,Agree h1.length r1 r3∧SR D Y r3 e2 h2 env3 H3∧Rn D Y r3 (.ifc 110 v0) v') hY sr2 (fun r' v' env' H' ha sr' hv'=>⟨r',ha,sr',hv'⟩)
  have hW:=hWD code21 (by rw[hN];exact pX) F2 w2 { tmps:=a2.tmps,defers:=T } w2.heap.size T hB2 (Nat.le_refl _) (by rw[hN];exact s1) s4 s5 Mk.nil
  refine wpIn_mono hW ?_
  rintro e a' w' ⟨cv,vv,env',F',H',rfl,z3,z4,z5,z9,z6,r3,z7,z8,ZE⟩
  cases ZE with
  | ifc _ _ v0' hv0' =>
  exact out F' w' H' env' a'.tmps a'.defers r3 e2 h2 (.panicking (pnc cv)) v0 v0' true cv (by simp) (E2.trans z3) z4 z5 z6 z7 z8 hv0' hh hret (.inl ⟨rfl,rfl,z9⟩)
end
end Go.Proofs.YtmapgnepfgnphaaGreatDoor
namespace Go.Proofs.YtmapgnepfgnphaaGreatDoor
open Go Go.DL
set_option maxRecDepth 100000
set_option maxHeartbeats 4000000
variable {h h' h1 h2:XH} {L:CL} {s:dA} {x line:ByteArray} {w:Wd} {v:AV}
theorem w59 (ly:Lays h L s):runW aD 59 [.pt L.c 0] h=some (.bool false,h):=by
 obtain⟨g,hc⟩:=aC ly.hc
 unfold eG at hc
 rw[qY 59 x59 rfl];unfold x59;dsimp only
 (exact wC hc)
theorem aKN {run:bT} {runY:cO} {ops:List DOper} {e:aB} {h:XH}:cZ run runY ops e h=xo none run runY ops e h:=rfl
theorem aGb {n:Nat}:oV saySay (runW aD) (runYW aD) (.pt n 0) saySay.zero false h=some (h++[some (.blk true (.cells true [I 0]))]):=by
 unfold oV saySay kY tP yT
 dsimp only
 rw[aKN]
 obtain⟨k,hk⟩:∃ n,h.length=n:=⟨_,rfl⟩
 (exact wC hk)
def noA (e:Int):ByteArray:=(⟨⟨[110,111,32]⟩⟩:ByteArray)++⟨⟨Lib.itoa e⟩⟩
def aCQ (c n:Nat) (line:ByteArray):aB:=upd (upd (aW [.pt c 0,.str line]) 4 (.pt n 0)) 7 .any
def sU:XH:=[some (.blk true (.cells true [.str ⟨⟨[]⟩⟩]))]
theorem IsW.shape (hw:IsW w v):∃ f r1 r2,v = .agg [.str f,.fs r1,.fs r2]:=by
 cases w with
 | farmer x=>obtain⟨_,rfl⟩:=hw;exact⟨_,_,_,rfl⟩
 | wagon x y a b=>obtain⟨_,_,_,_,_,rfl⟩:=hw;exact⟨_,_,_,rfl⟩
 | void i=>obtain⟨_,rfl⟩:=hw;exact⟨_,_,_,rfl⟩
 | close=>cases hw;exact⟨_,_,_,rfl⟩
 | meter x n=>obtain⟨_,_,_,rfl⟩:=hw;exact⟨_,_,_,rfl⟩
 | pan x a b=>obtain⟨_,_,_,_,rfl⟩:=hw;exact⟨_,_,_,rfl⟩
 | net x=>obtain⟨_,rfl⟩:=hw;exact⟨_,_,_,rfl⟩
 | total=>cases hw;exact⟨_,_,_,rfl⟩
 | ticket i=>obtain⟨_,rfl⟩:=hw;exact⟨_,_,_,rfl⟩
 | used x=>obtain⟨_,rfl⟩:=hw;exact⟨_,_,_,rfl⟩
 | loss x=>obtain⟨_,rfl⟩:=hw;exact⟨_,_,_,rfl⟩
 | power x=>obtain⟨_,rfl⟩:=hw;exact⟨_,_,_,rfl⟩
def wB (f:ByteArray) (r1 r2:List (List AV)):XH:=[some (.blk true (.cells true [.str ⟨⟨[]⟩⟩])),some (.blk true (.cells true [.str f,.fs r1,.fs r2]))]
theorem Lays.bookNew (ly:Lays h L s) {n m:Nat} {line a:ByteArray} {g g1 g2 g3:Bool} {cs:List AV} (hm:h.length=m) (hn:n∉rE L s) (hnl:n<m) (hcs:cs=eG { L with kb:=m+1 } { s with book:=s.book++[line] }) (hh:h'=((lV h L.kb s.book.length).set L.c (some (.blk g (.cells true cs)))).set n (some (.blk g3 (.cells true [.str a])))++[some (.blk g1 (.cells true [.str line])),some (.blk g2 (.cells true (s.book.map .str++[.str line])))]) :
 Lays h' { L with kb:=m+1 } { s with book:=s.book++[line] }∧aE h' n=some (.cells true [.str a]):=by
 subst hm hcs
 have cl:=aI ly.hc
 have cn:L.c≠n:=fun q=>hn (aX.2 ⟨0,by simp[px,q]⟩)
 have hl:(((lV h L.kb s.book.length).set L.c (some (.blk g (.cells true (eG { L with kb:=h.length+1 } { s with book:=s.book++[line] }))))).set n (some (.blk g3 (.cells true [.str a])))).length=h.length:=by rw[List.length_set,List.length_set,iB]
 have l1:Lays (h.set n (some (.blk g3 (.cells true [.str a])))) L s:=ly.fr ((Fr.refl [n] h).set (by simp) _) fun j b hb hm=>hn (by rw[List.mem_singleton]at hm;rw[←hm];exact aX.2 ⟨j,hb⟩)
 have fr:Fr (L.c::kL L.kb s.book.length) (h.set n (some (.blk g3 (.cells true [.str a])))) h':=by
  refine⟨fun b hb hnm=>?_,?_⟩
  ·rw[List.length_set]at hb
   rw[hh,eQ,hl,if_pos hb,cR,cR]
   rw[List.mem_cons,not_or]at hnm
   by_cases hbn:b=n
   ·rw[if_pos hbn,if_pos (by rw[List.length_set,iB];exact hnl),cR,if_pos hbn,if_pos hnl]
   ·rw[if_neg hbn,if_neg hnm.1,aMi hnm.2,cR,if_neg hbn]
  ·rw[hh,List.length_append,hl,List.length_set];simp
 refine⟨l1.bookApp (kb':=h.length+1) (by rw[List.length_set];omega) ?_ ?_ fr,?_⟩
 ·rw[hh,eQ,hl,if_pos cl,cR,if_neg cn,cR,if_pos rfl,if_pos (by rw[iB];exact cl)]
 ·rw[hh,eQ,hl,if_neg (by omega),show h.length+1-h.length=1 by omega];rfl
 ·rw[hh,eQ,hl,if_pos hnl,cR,if_pos rfl,if_pos (by rw[List.length_set,iB];exact hnl)]
theorem aDQ {L:List Nat} {r:Option (DX×aB×XH)} {x:DX} {vs:List AV} {h:XH} (hx:tV L r=some (x,vs,h)):∃ e,r=some (x,e,h)∧L.map e=vs:=by
 unfold tV at hx
 rw[Option.map_eq_some_iff]at hx
 obtain⟨⟨x1,e,h2⟩,rfl,he⟩:=hx
 simp only[Prod.mk.injEq]at he
 obtain⟨rfl,rfl,rfl⟩:=he
 exact⟨e,rfl,rfl⟩
theorem aLT {n m:Nat} {f:ByteArray} {r1 r2:List (List AV)} {L3:CL} {s3:dA} (ly:Lays h L s) (hn:h.length=n) (hp:runW aD 60 [.str line] []=some (.agg [.str f,.fs r1,.fs r2],[])) {g:Nat} {caps:List AV} {hc h3:XH} (call:runW aD 61 [.pt L.c 0,.agg [.str f,.fs r1,.fs r2]] (h++wB f r1 r2)=some (.fn (.func g) [] caps,hc)) (hg:aNb g) (call2:runW aD g caps hc=some (.tup [],h3)) (hlt:s.book.length<300)
 (lyc:Lays hc L s) (ly3:Lays h3 L3 s3) (hL:L3.c=L.c) (hb:s3.book.length=s.book.length) (h3n:aE h3 n=some (.cells true [.str ⟨⟨[]⟩⟩])) (hm:h3.length=m) (nn:n∉rE L3 s3) (hk:s.book.length=0) :
 ∃ h4,tV [0,1,4] (execW aD 21 (n+1) none b21 (aCQ L.c n line) (h++sU))=some (.ret,[.pt L.c 0,.str line,.pt n 0],h4)∧Lays h4 { L3 with kb:=m+1 } { s3 with book:=s3.book++[line] }∧aE h4 n=some (.cells true [.str ⟨⟨[111,107]⟩⟩]):=by
 have c59:=w59 (ly.ext sU)
 have m1:=w58 9
 have m2:=w58 15
 obtain⟨gc,hcc⟩:=aC lyc.hc
 obtain⟨g3,h3c⟩:=aC ly3.hc
 obtain⟨gn,h3n'⟩:=aC h3n
 rw[hL]at h3c
 unfold eG at hcc h3c
 have cm:(L.c<m)=True:=eq_true (by rw[←hm,←hL];exact aI ly3.hc)
 have nm0:n<m:=by rw[←hm];exact aI h3n
 have nm:(n<m)=True:=eq_true nm0
 have cn:(L.c=n)=False:=eq_false fun q=>nn (aX.2 ⟨0,by simp[px,hL,q]⟩)
 have nc:(n=L.c)=False:=eq_false fun q=>nn (aX.2 ⟨0,by simp[px,hL,q]⟩)
 have hv:jW L.kb s.book.length = .nilsl:=by rw[hk];rfl
 have hv3:jW L3.kb s3.book.length = .nilsl:=by rw[hb,hk];rfl
 rw[hv]at hcc
 rw[hv3]at h3c
 refine⟨(h3.set L.c (some (.blk false (.cells true [.pt L3.f.o 0,.pt L3.m.o 0,.pt L3.p.o 0,.pt L3.w.o 0,jW L3.tb s3.tickets.length,I s3.closed,.sl (m+1) 0 1 1])))).set n (some (.blk gn (.cells true [.str ⟨⟨[111,107]⟩⟩])))++[some (.blk true (.cells true [.str line])),some (.blk true (.cells true [.str line]))],?_,ly3.bookNew (g:=false) (g1:=true) (g2:=true) (g3:=gn) (cs:=_) hm nn nm0 rfl ?_⟩
 ·unfold b21 aCQ sU wB at *
  rcases hg with rfl|rfl|rfl|rfl|rfl|rfl
  all_goals (exact aMV hn c59 m1 hp call call2 m2 hcc h3c h3n' hm cm nm cn nc rs0 rs0)
 ·rw[hL]
  have hb0:s3.book=[]:=List.eq_nil_of_length_eq_zero (by omega)
  simp[lV,eG,jW,hb0]
theorem aLU {n m:Nat} {f:ByteArray} {r1 r2:List (List AV)} {L3:CL} {s3:dA} (ly:Lays h L s) (hn:h.length=n) (hp:runW aD 60 [.str line] []=some (.agg [.str f,.fs r1,.fs r2],[])) {g:Nat} {caps:List AV} {hc h3:XH} (call:runW aD 61 [.pt L.c 0,.agg [.str f,.fs r1,.fs r2]] (h++wB f r1 r2)=some (.fn (.func g) [] caps,hc)) (hg:aNb g) (call2:runW aD g caps hc=some (.tup [],h3)) (hlt:s.book.length<300)
 (lyc:Lays hc L s) (ly3:Lays h3 L3 s3) (hL:L3.c=L.c) (hb:s3.book.length=s.book.length) (h3n:aE h3 n=some (.cells true [.str ⟨⟨[]⟩⟩])) (hm:h3.length=m) (nn:n∉rE L3 s3) (hk:0<s.book.length) :
 ∃ h4,tV [0,1,4] (execW aD 21 (n+1) none b21 (aCQ L.c n line) (h++sU))=some (.ret,[.pt L.c 0,.str line,.pt n 0],h4)∧Lays h4 { L3 with kb:=m+1 } { s3 with book:=s3.book++[line] }∧aE h4 n=some (.cells true [.str ⟨⟨[111,107]⟩⟩]):=by
 have c59:=w59 (ly.ext sU)
 have m1:=w58 9
 have m2:=w58 15
 obtain⟨gc,hcc⟩:=aC lyc.hc
 obtain⟨g3,h3c⟩:=aC ly3.hc
 obtain⟨gn,h3n'⟩:=aC h3n
 rw[hL]at h3c
 unfold eG at hcc h3c
 have cm:(L.c<m)=True:=eq_true (by rw[←hm,←hL];exact aI ly3.hc)
 have nm0:n<m:=by rw[←hm];exact aI h3n
 have nm:(n<m)=True:=eq_true nm0
 have cn:(L.c=n)=False:=eq_false fun q=>nn (aX.2 ⟨0,by simp[px,hL,q]⟩)
 have nc:(n=L.c)=False:=eq_false fun q=>nn (aX.2 ⟨0,by simp[px,hL,q]⟩)
 have hk3:0<s3.book.length:=by omega
 rw[pT hk]at hcc
 rw[pT hk3]at h3c
 have hbb:=ly3.bk hk3
 obtain⟨gb,h3b⟩:=aC hbb
 have bp:L3.kb∈px L3 s3 2:=bL.2 ⟨hk3,rfl⟩
 have bm:(L3.kb<m)=True:=eq_true (by rw[←hm];exact aI hbb)
 have bn:(L3.kb=n)=False:=eq_false fun q=>nn (aX.2 ⟨2,q▸bp⟩)
 have nb:(n=L3.kb)=False:=eq_false fun q=>nn (aX.2 ⟨2,q▸bp⟩)
 have bc:(L3.kb=L.c)=False:=eq_false fun q=>ly3.off (i:=2) (j:=0) (by decide) bp (by simp[px,hL,q])
 have cb:(L.c=L3.kb)=False:=eq_false fun q=>ly3.off (i:=2) (j:=0) (by decide) bp (by simp[px,hL,q])
 have t1:((s.book.length:Int)<300)=True:=eq_true (by omega)
 have z1:((s3.book.length+1)*16≤1099511627776)=True:=eq_true (by omega)
 have z2:(s3.book.length+1≤1099511627776)=True:=eq_true (by omega)
 refine⟨((h3.set L3.kb none).set L.c (some (.blk false (.cells true [.pt L3.f.o 0,.pt L3.m.o 0,.pt L3.p.o 0,.pt L3.w.o 0,jW L3.tb s3.tickets.length,I s3.closed,.sl (m+1) 0 1 (s3.book.length+1)])))).set n (some (.blk gn (.cells true [.str ⟨⟨[111,107]⟩⟩])))++[some (.blk true (.cells true [.str line])),some (.blk gb (.cells true (s3.book.map .str++[.str line])))],?_,ly3.bookNew (g:=false) (g1:=true) (g2:=gb) (g3:=gn) (cs:=_) hm nn nm0 rfl ?_⟩
 ·unfold b21 aCQ sU wB at *
  rcases hg with rfl|rfl|rfl|rfl|rfl|rfl
  all_goals (exact aPF hn c59 m1 hp call call2 m2 hcc h3c h3n' hm cm nm cn nc h3b bm bn nb bc cb t1 z1 z2 rs0 rs0)
 ·rw[hL]
  simp[lV,eG,jW,Nat.ne_of_gt hk3]
variable {h h' h1 h2:XH} {L:CL} {s:dA} {x line:ByteArray} {w:Wd} {v:AV}
def d21:XFn:=aOG 41
theorem aWQ:aD 21=some d21:=rfl
theorem aFE {e:aB} {n:Nat} {a:ByteArray} (he:e 4 = .pt n 0) (hn:aE h n=some (.cells true [.str a])):eL saySay.res e (aE h)=some (.str a):=by
 obtain⟨g,hg⟩:=aC hn
 unfold saySay
 dsimp only
 (exact RS2 he hg)
def aMU (h:XH) (L:CL) (line:ByteArray) (s':dA) (a:ByteArray):Prop:=∃ h3 L3,aNN aD d21 h.length 0 (h.length+1) (aCQ L.c h.length line) (h++sU) h3 (.str a)∧Lays h3 L3 s'∧L3.c=L.c
theorem Lays.nlt (ly:Lays h L s):h.length∉rE L s:=fun hm=>by
 obtain⟨j,hj⟩:=aX.1 hm
 have:=ly.lt j _ hj
 omega
theorem aIA (ly:Lays h L s) (hp:runW aD 60 [.str line] []=some (v,[])) (hw:IsW w v) (hlt:s.book.length<300) (co:∀ k:XH,aGt (h++k) L s v (doW s w)):aMU h L line { doW s w with book:=s.book++[line] } ⟨⟨[111,107]⟩⟩:=by
 obtain⟨f,r1,r2,rfl⟩:=hw.shape
 obtain⟨n,hn⟩:∃ n,h.length=n:=⟨_,rfl⟩
 have lyw:=ly.ext (wB f r1 r2)
 obtain⟨g,caps,hcc,h3,call,hg,fr1,q1,L3,call2,ly3,hL,fr2,sb⟩:∃ (g:Nat) (caps:List AV) (hc h3:XH),runW aD 61 [.pt L.c 0,.agg [.str f,.fs r1,.fs r2]] (h++wB f r1 r2)=some (.fn (.func g) [] caps,hc)∧aNb g∧Fr [] (h++wB f r1 r2) hc∧True∧∃ L3,runW aD g caps hc=some (.tup [],h3)∧Lays h3 L3 (doW s w)∧L3.c=L.c∧Fr (rE L s) hc h3∧Sb hc.length L s L3 (doW s w):=by
  obtain⟨g,caps,hc1,a1,a2,a3,h3,L3,a4,a5,a6,a7,a8⟩:=co (wB f r1 r2)
  exact⟨g,caps,hc1,h3,a1,a2,a3,trivial,L3,a4,a5,a6,a7,a8⟩
 have lyc:Lays hcc L s:=lyw.fr fr1 fun _ _ _ hb=>by cases hb
 have n0:aE (h++wB f r1 r2) n=some (.cells true [.str ⟨⟨[]⟩⟩]):=by
  have:=eP (h:=h) (k:=wB f r1 r2) 0 (g:=true) (c:=.cells true [.str ⟨⟨[]⟩⟩]) rfl
  rw[hn]at this;exact this
 have nl:=ly.nlt
 rw[hn]at nl
 have n1:aE hcc n=some (.cells true [.str ⟨⟨[]⟩⟩]):=fr1.keepS n0 (by simp)
 have n3:aE h3 n=some (.cells true [.str ⟨⟨[]⟩⟩]):=fr2.keepS n1 nl
 have nn:n∉rE L3 (doW s w):=fun hm=>by
  rcases sb n hm with hm|hm
  ·exact nl hm
  ·have:=aI n1;omega
 have hbk:(doW s w).book=s.book:=by
  cases w<;>first|rfl|(unfold doW;dsimp only;split<;>rfl)
 obtain⟨h4,k1,k2,k3⟩:∃ h4,tV [0,1,4] (execW aD 21 (n+1) none b21 (aCQ L.c n line) (h++sU))=some (.ret,[.pt L.c 0,.str line,.pt n 0],h4)∧Lays h4 { L3 with kb:=h3.length+1 } { doW s w with book:=(doW s w).book++[line] }∧aE h4 n=some (.cells true [.str ⟨⟨[111,107]⟩⟩]):=by
  by_cases hk:s.book.length=0
  ·exact aLT ly hn hp call hg call2 hlt lyc ly3 hL (by rw[hbk]) n3 rfl nn hk
  ·exact aLU ly hn hp call hg call2 hlt lyc ly3 hL (by rw[hbk]) n3 rfl nn (by omega)
 obtain⟨e,k4,k5⟩:=aDQ k1
 have he:e 4 = .pt n 0:=by
  have:=congrArg (fun l=>l[2]?) k5
  simpa using this
 rw[hbk]at k2
 refine⟨h4++[some (.blk true (.cells true [I 0]))],_,.inl ⟨.ret,e,h4,(fun _ q=>by cases q),?_,?_,?_⟩,k2.ext _,hL⟩
 ·rw[hn];exact k4
 ·rw[hn];exact aGb
 ·exact aFE he ((Fr.app h4 _).keepS k3 (by simp))
variable {h h' h1 h2:XH} {L:CL} {s:dA} {x line:ByteArray} {w:Wd} {v:AV}
theorem aTC {f:ByteArray} {r1 r2:List (List AV)}:aE (h++wB f r1 r2) h.length=some (.cells true [.str ⟨⟨[]⟩⟩]):=eP (h:=h) (k:=wB f r1 r2) 0 (g:=true) rfl
variable {h h' h1 h2:XH} {L:CL} {s:dA} {x line:ByteArray} {w:Wd} {v:AV}
theorem aFg {h k:XH} (cd:Cd h) (hk:∀ x∈k,∀ b∈nmO x,b<h.length):Cd (h++k):=fun x hx b hb=>by
 rw[List.length_append]
 rcases List.mem_append.1 hx with hx|hx
 ·have:=cd x hx b hb;omega
 ·have:=hk x hx b hb;omega
def aWX (h:XH) (c:Nat) (v:AV):Prop:=∀ k:XH,∃ bx,runW aD 61 [.pt c 0,v] (h++k)=some (.nilfn,(h++k)++bx)∧∀ x∈bx,∀ b∈nmO x,b=c
theorem vM (ly:Lays h L s) (cd:Cd h) {a:ByteArray} (hp:runW aD 60 [.str line] []=some (v,[])) (hw:IsW w v) (ask:aWX h L.c v) (hc:∀ hh:XH,Lays hh L s→Cd hh→∃ h1,runW aD 62 [.pt L.c 0,v] hh=some (.str a,h1)∧Frz hh.length hh h1):aMU h L line s a:=by
 obtain⟨f,r1,r2,rfl⟩:=hw.shape
 obtain⟨bx,c61,hbx⟩:=ask (wB f r1 r2)
 obtain⟨hq,hqe⟩:∃ hq,hq=(h++wB f r1 r2)++bx:=⟨_,rfl⟩
 rw[←hqe]at c61
 have lyw:=ly.ext (wB f r1 r2)
 have lyq:Lays hq L s:=by rw[hqe];exact lyw.ext bx
 have lc:=aI ly.hc
 have cdq:Cd hq:=by
  rw[hqe]
  refine aFg (aFg cd fun x hx b hb=>?_) fun x hx b hb=>?_
  ·simp only[wB,List.mem_cons,List.not_mem_nil,or_false]at hx
   rcases hx with rfl|rfl
   ·simp[nmO,nmB]at hb
   ·simp[nmO,nmB]at hb
  ·rw[hbx x hx b hb,List.length_append];omega
 obtain⟨h3,c62,fz⟩:=hc hq lyq cdq
 have fr1:Fr [] (h++wB f r1 r2) hq:=by rw[hqe];exact Fr.app _ _
 have nq:aE hq h.length=some (.cells true [.str ⟨⟨[]⟩⟩]):=fr1.keepS aTC (by simp)
 have q1:aE hq (h.length+1)=some (.cells true [.str f,.fs r1,.fs r2]):=fr1.keepS (eP 1 (g:=true) rfl) (by simp)
 obtain⟨g1,q2⟩:=aC q1
 have n3:=fz _ _ nq fun _ _ _=>rfl
 obtain⟨g3,n3'⟩:=aC n3
 have c59:=w59 (ly.ext sU)
 have m1:=w58 9
 obtain⟨n,hn⟩:∃ n,h.length=n:=⟨_,rfl⟩
 have key:tV [0,1,4] (execW aD 21 (n+1) none b21 (aCQ L.c n line) (h++sU))=some (.ret,[.pt L.c 0,.str line,.pt n 0],h3.set n (some (.blk g3 (.cells true [.str a])))):=by
  rw[hn]at q2 n3'
  unfold b21 aCQ sU wB at *
  cases g1
  all_goals (exact RS8 hn c59 m1 hp c61 c62 q2 n3')
 obtain⟨e,k4,k5⟩:=aDQ key
 have he:e 4 = .pt n 0:=by
  have:=congrArg (fun l=>l[2]?) k5
  simpa using this
 rw[hn]at n3
 have ly3:Lays (h3.set n (some (.blk g3 (.cells true [.str a])))) L s:=(lyq.frz fz).fr ((Fr.refl [n] h3).set (by simp) _) fun j b hb hm=>by
  rw[List.mem_singleton]at hm
  have:=ly.lt j b hb
  omega
 refine⟨_,L,.inl ⟨.ret,e,h3.set n (some (.blk g3 (.cells true [.str a]))),(fun _ q=>by cases q),?_,?_,?_⟩,ly3.ext [some (.blk true (.cells true [I 0]))],rfl⟩
 ·rw[hn];exact k4
 ·rw[hn];exact aGb
 ·refine aFE he ((Fr.app _ _).keepS (?_:aE (h3.set n (some (.blk g3 (.cells true [.str a])))) n=some (.cells true [.str a])) (by simp))
  rw[cR,if_pos rfl,if_pos (aI n3)]
variable {h h' h1 h2:XH} {L:CL} {s:dA} {x line:ByteArray} {w:Wd} {v:AV}
def tkL (k:CTk):List ByteArray:=if k.void then [k.wagon,k.farmer,⟨⟨Lib.itoa k.net⟩⟩,⟨⟨[118,111,105,100]⟩⟩] else [k.wagon,k.farmer,⟨⟨Lib.itoa k.net⟩⟩]
def tkT (k:CTk):ByteArray:=⟨⟨Lib.join ((tkL k).map (·.data.toList)) [32]⟩⟩
def lX (n:Int):ByteArray:=⟨⟨Lib.itoa n⟩⟩
def aCz (P:dA→ByteArray→Int) (s:dA):Wd→Int ⊕ ByteArray
 | .net x=>match eD s.farmers x with|none=>.inl 5|some v=>.inr (lX v)
 | .total=>.inr (lX (aBF s))
 | .ticket i=>match s.tickets[i]? with|none=>.inl 5|some k=>.inr (tkT k)
 | .used x=>match eD s.meters x with|none=>.inl 5|some v=>.inr (lX v.2)
 | .loss x=>match eD s.pans x with|none=>.inl 5|some v=>.inr (lX v)
 | .power x=>match eD s.farmers x with|none=>.inl 5|some _=>.inr (lX (P s x))
 | _=>.inl 0
def aBM (P:dA→ByteArray→Int) (s:dA) (line:ByteArray):Int ⊕ Wd→ByteArray×dA
 | .inl e=>(noA e,s)
 | .inr w=>if w.asks then (match aCz P s w with | .inl e=>(noA e,s) | .inr a=>(a,s)) else
   match qW s w with
   | some e=>(noA e,s)
   | none=>if s.book.length=300 then (noA 15,s) else (⟨⟨[111,107]⟩⟩,{ doW s w with book:=s.book++[line] })
variable {h h' h1 h2:XH} {L:CL} {s:dA} {x line:ByteArray} {w:Wd} {v:AV}
variable {s:dA} {x line:ByteArray} {w:Wd} {v:AV}
theorem yK {α:Type} {f:α→α} {z:α}:∀ {l:List (ByteArray×α)} {p:ByteArray×α},p∈iS f z x l→p∈l∨p=(x,z)∨∃ y,(x,y)∈l∧p=(x,f y)
 | [],p,h=>.inr (.inl (by simpa [iS]using h))
 | (k, y)::r,p,h=>by
   unfold iS at h
   split at h
   ·rename_i hk
    rcases List.mem_cons.1 h with h|h
    ·exact .inr (.inr ⟨y,by rw[←hk];simp,by rw[h,hk]⟩)
    ·exact .inl (List.mem_cons_of_mem _ h)
   ·rcases List.mem_cons.1 h with h|h
    ·exact .inl (by rw[h];simp)
    ·rcases yK h with h|h|⟨y',h1,h2⟩
     ·exact .inl (List.mem_cons_of_mem _ h)
     ·exact .inr (.inl h)
     ·exact .inr (.inr ⟨y',List.mem_cons_of_mem _ h1,h2⟩)
theorem aDu {α:Type} {f:α→α} {z:α}:∀ (l:List (ByteArray×α)),(iS f z x l).length=if (eD l x).isNone then l.length+1 else l.length
 | []=>rfl
 | (k, y)::r=>by
   have ih:=aDu (f:=f) (z:=z) r
   have e:eD ((k,y)::r) x=if k=x then some y else eD r x:=by
    unfold eD
    show (if k=x then some 0 else (fC (r.map (·.1)) x).map (· + 1)).bind _=_
    by_cases hk:k=x
    ·rw[if_pos hk,if_pos hk];rfl
    ·rw[if_neg hk,if_neg hk]
     cases fC (r.map (·.1)) x<;>rfl
   rw[e]
   unfold iS
   by_cases hk:k=x
   ·rw[if_pos hk,if_pos hk];rfl
   ·rw[if_neg hk,if_neg hk,List.length_cons,ih]
    cases eD r x<;>rfl
theorem uD {d:Int}:∀ (l:List (ByteArray×Int)),lA l x d=iS (· + d) d x l
 | []=>rfl
 | (k,y)::r=>by unfold lA iS;rw[uD r]
theorem aGY {α:Type} {f:α→α} {z y:α} {l:List (ByteArray×α)} (h:eD l x=some y):(iS f z x l).map (·.1)=l.map (·.1):=by
 obtain⟨i,h1,h2⟩:=iY h
 rw[pQ h1 h2]
 exact rZ (fG h1) rfl
theorem aGr {d:Int}:∀ {l:List (ByteArray×Int)} {p:ByteArray×Int},(l.map (·.1)).Nodup→x∈l.map (·.1)→p∈lA l x d→∃ y,(p.1,y)∈l∧p.2=y+if p.1=x then d else 0
 | [],p,_,hx,_=>by cases hx
 | (k, y)::r,p,nd,hx,h=>by
   rw[List.map_cons,List.nodup_cons]at nd
   unfold lA at h
   split at h
   ·rename_i hk
    rcases List.mem_cons.1 h with h|h
    ·exact⟨y,by rw[h];simp,by rw[h];simp[hk]⟩
    ·refine⟨p.2,List.mem_cons_of_mem _ h,?_⟩
     rw[if_neg,Int.add_zero]
     intro e
     exact nd.1 (by rw[hk,←e];exact List.mem_map.2 ⟨p,h,rfl⟩)
   ·rename_i hk
    rcases List.mem_cons.1 h with h|h
    ·exact⟨y,by rw[h];simp,by rw[h];simp[hk]⟩
    ·have hx2:x∈r.map (·.1):=by
      rw[List.map_cons]at hx
      rcases List.mem_cons.1 hx with e|e
      ·exact absurd e.symm hk
      ·exact e
     obtain⟨y',h1,h2⟩:=aGr nd.2 hx2 h
     exact⟨y',List.mem_cons_of_mem _ h1,h2⟩
theorem aIc (l:List CTk) (k:CTk) (x:ByteArray):aBz (l++[k]) x=aBz l x+if k.farmer=x∧k.void=false then k.net else 0:=by
 unfold aBz
 rw[List.map_append,List.sum_append]
 simp
theorem aAE {x:ByteArray}:∀ {l:List CTk},(∀ k∈l,k.farmer≠x)→aBz l x=0
 | [],_=>rfl
 | k::r,h=>by
   have ih:=aAE (l:=r) fun k hk=>h k (List.mem_cons_of_mem _ hk)
   unfold aBz at ih ⊢
   rw[List.map_cons,List.sum_cons,ih,if_neg fun e=>h k (by simp) e.1];rfl
theorem aDG {x:ByteArray} (gs:nS s) (hw:IsW (.farmer x) v) (hc:qW s (.farmer x)=none) (hlt:s.book.length<300):nS { doW s (.farmer x)with book:=s.book++[line] }:=by
 have hl:(s.book++[line]).length=s.book.length+1:=by simp
 have bf':∀ p∈s.farmers,-(100000*(s.book.length+1:Nat):Int)≤p.2∧p.2≤100000*(s.book.length+1:Nat):=fun p hp=>by have:=gs.bf p hp;omega
 have bm':∀ p∈s.meters,0≤p.2.1∧p.2.1≤99999∧0≤p.2.2∧p.2.2≤100000*(s.book.length+1:Nat):=fun p hp=>by have:=gs.bm p hp;omega
 have bp':∀ p∈s.pans,0≤p.2∧p.2≤100000*(s.book.length+1:Nat):=fun p hp=>by have:=gs.bp p hp;omega
 have lw':=gs.lw
 have lt':=gs.lt
 unfold qW at hc
 dsimp only at hc
 split at hc
 ·cases hc
 ·rename_i hs
  split at hc
  ·cases hc
  ·rename_i h9
   have hx:x∉s.farmers.map (·.1):=lZ.1 (aAC.1 (aDE hs))
   have l9:=gs.lf
   unfold doW
   refine⟨by rw[hl];omega,?_,?_,gs.lm,gs.lp,by rw[hl];exact Nat.le_succ_of_le lw',by rw[hl];exact Nat.le_succ_of_le lt',gs.cl,fun p hp=>?_,by rw[hl];exact bm',by rw[hl];exact bp',gs.bw,fun k hk=>?_,fun p hp=>?_⟩
   ·show ((s.farmers++[(x,(0:Int))]).map (fun p=>p.1)).Nodup
    rw[List.map_append,List.nodup_append]
    exact⟨gs.nf,by simp,fun a ha b hb=>by
     have:b=x:=by simpa using hb
     rw[this];exact fun q=>hx (q▸ha)⟩
   ·show (s.farmers++[(x,(0:Int))]).length≤9
    rw[List.length_append,List.length_singleton];omega
   ·rw[hl]
    rcases List.mem_append.1 hp with hp|hp
    ·exact bf' p hp
    ·rw[List.mem_singleton]at hp;rw[hp];show -(100000*((s.book.length+1:Nat):Int))≤0∧(0:Int)≤100000*((s.book.length+1:Nat):Int);omega
   ·obtain⟨a1,a2,a3,a4⟩:=gs.bt k hk
    exact⟨a1,a2,by show k.farmer∈(s.farmers++[(x,(0:Int))]).map (·.1);rw[List.map_append];exact List.mem_append_left _ a3,a4⟩
   ·rcases List.mem_append.1 hp with hp|hp
    ·exact gs.fs p hp
    ·rw[List.mem_singleton]at hp;rw[hp]
     exact(aAE (x:=x) fun k hk e=>hx (by rw[←e];exact(gs.bt k hk).2.2.1)).symm
theorem aEO {x y:ByteArray} {a b:Int} (gs:nS s) (hw:IsW (.wagon x y a b) v) (hc:qW s (.wagon x y a b)=none) (hlt:s.book.length<300):nS { doW s (.wagon x y a b)with book:=s.book++[line] }:=by
 have hl:(s.book++[line]).length=s.book.length+1:=by simp
 have bf':∀ p∈s.farmers,-(100000*(s.book.length+1:Nat):Int)≤p.2∧p.2≤100000*(s.book.length+1:Nat):=fun p hp=>by have:=gs.bf p hp;omega
 have bm':∀ p∈s.meters,0≤p.2.1∧p.2.1≤99999∧0≤p.2.2∧p.2.2≤100000*(s.book.length+1:Nat):=fun p hp=>by have:=gs.bm p hp;omega
 have bp':∀ p∈s.pans,0≤p.2∧p.2≤100000*(s.book.length+1:Nat):=fun p hp=>by have:=gs.bp p hp;omega
 have lw':=gs.lw
 have lt':=gs.lt
 obtain⟨hb,_⟩:=hw
 unfold qW at hc
 dsimp only at hc
 split at hc
 ·cases hc
 ·rename_i f hf
  split at hc
  ·cases hc
  ·rename_i hle
   have hle:=Classical.not_not.1 hle
   have hkf:(lA s.farmers y (a-b)).map (·.1)=s.farmers.map (·.1):=by rw[uD];exact aGY hf
   have hlf:(lA s.farmers y (a-b)).length=s.farmers.length:=by
    have:=congrArg List.length hkf
    simpa using this
   unfold doW dM
   refine⟨by rw[hl];omega,?_,?_,gs.lm,gs.lp,?_,?_,?_,fun p hp=>?_,by rw[hl];exact bm',by rw[hl];exact bp',fun p hp=>?_,fun k hk=>?_,fun p hp=>?_⟩
   ·show ((lA s.farmers y (a-b)).map (·.1)).Nodup
    rw[hkf];exact gs.nf
   ·show (lA s.farmers y (a-b)).length≤9
    rw[hlf];exact gs.lf
   ·rw[hl]
    show (iS id b x s.wagons).length≤_
    rw[aDu];split<;>omega
   ·rw[hl];show (s.tickets++[_]).length≤_;rw[List.length_append,List.length_singleton];omega
   ·show s.closed≤(s.tickets++[_]).length
    have:=gs.cl
    rw[List.length_append];omega
   ·rw[hl]
    have hp:p∈lA s.farmers y (a-b):=hp
    rw[uD]at hp
    rcases yK hp with hp|hp|⟨q,hq,hp⟩
    ·exact bf' p hp
    ·rw[hp];simp only;omega
    ·have:=gs.bf _ hq
     rw[hp];simp only at this ⊢;omega
   ·rcases yK hp with hp|hp|⟨q,hq,hp⟩
    ·exact gs.bw p hp
    ·rw[hp];simp only;omega
    ·have:=gs.bw _ hq
     rw[hp];exact this
   ·show _∧_∧k.farmer∈(lA s.farmers y (a-b)).map (·.1)∧_
    rw[hkf]
    rcases List.mem_append.1 hk with hk|hk
    ·exact gs.bt k hk
    ·rw[List.mem_singleton]at hk
     subst hk
     obtain⟨i,h1,h2⟩:=iY hf
     exact⟨by show 0≤a-b;omega,by show a-b≤99999;omega,List.mem_of_getElem? (fG h1),hb.2.2.2.2.1,hb.2.2.2.2.2⟩
   ·obtain⟨i,h1,_⟩:=iY hf
    obtain⟨v0,e1,e2⟩:=aGr gs.nf (List.mem_of_getElem? (fG h1)) hp
    have e3:=gs.fs _ e1
    show p.2=aBz (s.tickets++[_]) p.1
    rw[aIc,e2]
    have e3:v0=aBz s.tickets p.1:=e3
    rw[e3]
    by_cases e:p.1=y
    ·rw[if_pos e,if_pos ⟨e.symm,rfl⟩]
    ·rw[if_neg e,if_neg fun q=>e q.1.symm]
end Go.Proofs.YtmapgnepfgnphaaGreatDoor
namespace Go.DL
section
variable {D:Nat→Option XFn} {Y:Nat→Option YI} {r:Nat→Option Nat}
theorem aCh {b:Nat}:∀ {vs:List AV},b∈iK vs→∃ (i:Nat) (v:AV),vs[i]?=some v∧b∈gI v
 | [],h=>by simp[iK]at h
 | v::l,h=>by
   simp only[iK,List.mem_append]at h
   rcases h with h|h
   ·exact⟨0,v,rfl,h⟩
   ·obtain⟨i,v',h1,h2⟩:=aCh h
    exact⟨i+1,v',h1,h2⟩
theorem aIN {v v':AV} (h:Rn D Y r v v'):∀ b∈gI v,∃ c,r b=some c:=by
 have many:∀ {xs ys:List AV},xs.length=ys.length→(∀ (i:Nat) (x y:AV),xs[i]?=some x→ys[i]?=some y→∀ b∈gI x,∃ c,r b=some c)→∀ b∈iK xs,∃ c,r b=some c:=fun {xs ys} hl ih b hb=>by
  obtain⟨i,x,h1,h2⟩:=aCh hb
  have hi:i<ys.length:=by rw[←hl];exact(List.getElem?_eq_some_iff.1 h1).1
  exact ih i x _ h1 (List.getElem?_eq_getElem hi) b h2
 induction h with
 | agg xs ys hl h ih=>intro b hb;simp only[gI]at hb;exact many hl ih b hb
 | tup xs ys hl h ih=>intro b hb;simp only[gI]at hb;exact many hl ih b hb
 | fn f xs ys us vs hf hl1 h1 hl2 h2 ih1 ih2 =>
   intro b hb
   simp only[gI,List.mem_append]at hb
   rcases hb with hb|hb|hb
   ·cases f with
    | yield l=>exact absurd rfl (hf l)
    | _=>simp at hb
   ·exact many hl1 ih1 b hb
   ·exact many hl2 ih2 b hb
 | ifc t x y h ih=>intro b hb;simp only[gI]at hb;exact ih b hb
 | yield l c hr=>intro b hb;simp[gI,iK]at hb;exact⟨c,by rw[hb];exact hr⟩
 | sl b c o s n hr=>intro b' hb;simp[gI]at hb;exact⟨c,by rw[hb];exact hr⟩
 | pt b c o hr=>intro b' hb;simp[gI]at hb;exact⟨c,by rw[hb];exact hr⟩
 | mp b c hr=>intro b' hb;simp[gI]at hb;exact⟨c,by rw[hb];exact hr⟩
 | ch b c hr=>intro b' hb;simp[gI]at hb;exact⟨c,by rw[hb];exact hr⟩
 | sb b c n hr=>intro b' hb;simp[gI]at hb;exact⟨c,by rw[hb];exact hr⟩
 | bp b c hr=>intro b' hb;simp[gI]at hb;exact⟨c,by rw[hb];exact hr⟩
 | _=>intro b hb;simp[gI]at hb
theorem aOt {xs ys:List AV} (h:RnL D Y r xs ys):∀ b∈iK xs,∃ c,r b=some c:=fun b hb=>by
 obtain⟨i,x,h1,h2⟩:=aCh hb
 have hi:i<ys.length:=by rw[←h.1];exact(List.getElem?_eq_some_iff.1 h1).1
 exact aIN (h.2 i x _ h1 (List.getElem?_eq_getElem hi)) b h2
theorem aTm {h:XH} {H:Hp} (sh:SHb D Y r h H):Cd h:=by
 intro x hx b hb
 cases x with
 | none=>simp[nmO]at hb
 | some x =>
   obtain⟨i,hi⟩:=List.getElem?_of_mem hx
   have ha:hat h i=some x:=by unfold hat;rw[List.getD_eq_getElem?_getD,hi];rfl
   obtain⟨⟨g,y,rfl⟩,c,z,h1,h2,h3⟩:=sh.blk i x ha
   have hb:b∈nmB (.blk g y):=hb
   cases h3 with
   | cells _ w xs ys hl hg =>
     cases g with
     | true=>simp[nmB]at hb
     | false =>
       obtain⟨c',hc'⟩:=aOt hl b hb
       exact sh.dom b c' hc'
   | map _ w xs ys hl hg =>
     cases g with
     | true=>simp[nmB]at hb
     | false =>
       have hb:b∈xs.flatMap fun p=>gI p.1++gI p.2:=hb
       obtain⟨p,hp,hb⟩:=List.mem_flatMap.1 hb
       obtain⟨j,hj⟩:=List.getElem?_of_mem hp
       have hlt:j<ys.length:=by rw[←hl.1];exact(List.getElem?_eq_some_iff.1 hj).1
       obtain⟨k1,k2⟩:=hl.2 j p _ hj (List.getElem?_eq_getElem hlt)
       rcases List.mem_append.1 hb with hb|hb
       ·obtain⟨c',hc'⟩:=aIN k1 b hb
        exact sh.dom b c' hc'
       ·obtain⟨c',hc'⟩:=aIN k2 b hb
        exact sh.dom b c' hc'
   | obj _ w o=>cases g<;>simp[nmB]at hb
end
end Go.DL
namespace Go.Proofs.YtmapgnepfgnphaaGreatDoor
open Go Go.DL
variable {h h':XH} {L:CL} {s:dA}
def IsClk (s:dA):Hp→Nat→Prop:=fun H b=>nS s∧∃ h L,aE h=H∧Lays h L s∧L.c=b
theorem Od.hp {l:OL} {ks:List ByteArray} {vs:List (List AV)} {t:Int} (e:aE h=aE h') (od:Od h l ks vs t):Od h' l ks vs t:=⟨⟨fun p hp=>by rw[←e];exact od.hd.1 p hp,od.hd.2⟩,od.ek,od.vk⟩
theorem Lays.hp (e:aE h=aE h') (ly:Lays h L s):Lays h' L s where
 hc:=by rw[←e];exact ly.hc
 tk:=⟨ly.tk.el,fun hk=>by rw[←e];exact ly.tk.hb hk,fun i a k h1 h2=>by rw[←e];exact ly.tk.he i a k h1 h2,ly.tk.nd,ly.tk.nb⟩
 bk hk:=by rw[←e];exact ly.bk hk
 f:=ly.f.hp e
 m:=ly.m.hp e
 p:=ly.p.hp e
 w:=ly.w.hp e
 dj:=ly.dj
theorem IsClk.open {c:Nat} (hi:IsClk s (aE h) c):nS s∧∃ L,Lays h L s∧L.c=c:=by
 obtain⟨gs,h0,L,e,ly,hc⟩:=hi
 exact⟨gs,L,ly.hp e,hc⟩
end Go.Proofs.YtmapgnepfgnphaaGreatDoor
namespace Go.DL
section
variable {D D':Nat→Option XFn} {Y Y':Nat→Option YI} {r:Nat→Option Nat}
theorem aIP {v v':AV} (h:Rn D Y r v v'):Rn D' Y' r v v':=by
 induction h with
 | any v=>exact .any v
 | int k n=>exact .int k n
 | bool b=>exact .bool b
 | str s=>exact .str s
 | agg xs ys hl h ih=>exact .agg xs ys hl ih
 | tup xs ys hl h ih=>exact .tup xs ys hl ih
 | fs rows h=>exact .fs rows h
 | fp rows i o h=>exact .fp rows i o h
 | sl b c o s n hr=>exact .sl b c o s n hr
 | pt b c o hr=>exact .pt b c o hr
 | mp b c hr=>exact .mp b c hr
 | ch b c hr=>exact .ch b c hr
 | sb b c n hr=>exact .sb b c n hr
 | bp b c hr=>exact .bp b c hr
 | nilsl=>exact .nilsl
 | nilpt=>exact .nilpt
 | nilmap=>exact .nilmap
 | nilfn=>exact .nilfn
 | nilifc=>exact .nilifc
 | fn f xs ys us vs hf hl1 h1 hl2 h2 ih1 ih2=>exact .fn f xs ys us vs hf hl1 ih1 hl2 ih2
 | yield l c hr=>exact .yield l c hr
 | ifc t x y h ih=>exact .ifc t x y ih
def uM (J:List Nat) (h:XH):XH:=h.mapIdx fun i x=>if i∈J then x else none
theorem yS {J:List Nat} {h:XH} {i:Nat}:hat (uM J h) i=if i∈J then hat h i else none:=by
 unfold uM hat
 rw[List.getD_eq_getElem?_getD,List.getElem?_mapIdx,List.getD_eq_getElem?_getD]
 cases h[i]? with
 | none=>simp
 | some x=>by_cases hi:i∈J<;>simp[hi]
theorem aIu {h:XH} {H:Hp} (sh:SH D Y r h H) {J:List Nat} (hJ:∀ i∈J,∃ x,aE h i=some x):SHb D' Y' r (uM J h) H:=by
 refine⟨fun b c hb=>by unfold uM;rw[List.length_mapIdx];exact sh.dom b c hb,fun b b' c x y hx hy h1 h2=>?_,fun b x hx=>?_⟩
 ·rw[yS]at hx hy
  split at hx
  ·split at hy
   ·exact sh.inj b b' c x y hx hy h1 h2
   ·cases hy
  ·cases hx
 ·rw[yS]at hx
  split at hx
  ·rename_i hb
   obtain⟨c,y,k1,k2,k3⟩:=sh.blk b x hx
   obtain⟨z,hz⟩:=hJ b hb
   unfold aE at hz
   rw[hx]at hz
   cases x with
   | blk g w =>
     refine⟨⟨g,w,rfl⟩,c,y,k1,k2,?_⟩
     cases k3 with
     | cells _ w xs ys hl hg=>exact .cells c _ _ _ _ ⟨hl.1,fun i a b ha hb=>aIP (hl.2 i a b ha hb)⟩ hg
     | map _ w xs ys hl hg=>exact .map c _ _ _ _ ⟨hl.1,fun i a b ha hb=>⟨aIP (hl.2 i a b ha hb).1,aIP (hl.2 i a b ha hb).2⟩⟩ hg
     | obj _ w o=>exact .obj c _ _ _
   | _=>cases hz
  ·cases hx
end
end Go.DL
namespace Go.Proofs.YtmapgnepfgnphaaGreatDoor
open Go Go.DL
variable {h h':XH} {L:CL} {s:dA}
theorem Lays.only (ly:Lays h L s):Lays (uM (rE L s) h) L s:=by
 refine ly.fr (J:=(List.range h.length).filter fun b=>decide (b∉rE L s)) ⟨fun b hb hn=>?_,by unfold uM;rw[List.length_mapIdx];exact Nat.le_refl _⟩ fun j b hb hm=>?_
 ·have:b∈rE L s:=Classical.byContradiction fun q=>hn (by rw[List.mem_filter,List.mem_range];exact⟨hb,by simpa using q⟩)
  unfold aE
  rw[yS,if_pos this]
 ·rw[List.mem_filter]at hm
  have:b∉rE L s:=by simpa using hm.2
  exact this (aX.2 ⟨j,hb⟩)
section
variable {D:Nat→Option XFn} {P:dA→ByteArray→Int} {rd:ByteArray→Int ⊕ Wd}
open Classical in
noncomputable def pmSay (P:dA→ByteArray→Int) (rd:ByteArray→Int ⊕ Wd):List AV→XH→Option (AV×XH):=fun xs h=>match xs,h with
 | [.pt 0 0,.str line],[some (.gh s p)]=>if p=IsClk s then some (.str (aBM P s line (rd line)).1,[some (.gh (aBM P s line (rd line)).2 (IsClk (aBM P s line (rd line)).2))]) else none
 | _,_=>none
theorem pU {x:XB} {b:Nat} {y:XB} (h:hat [some x] b=some y):b=0∧y=x:=by
 cases b with
 | zero=>exact⟨rfl,by simpa [hat]using h.symm⟩
 | succ b=>simp[hat]at h
theorem aDH {Y:Nat→Option YI} {r:Nat→Option Nat} {H':Hp} {c:Nat} {s':dA} (hdm:∀ b c,r b=some c→b<1) (hrc:r 0=some c) {D3:Nat→Option XFn} {Y3:Nat→Option YI} {r3:Nat→Option Nat} {h3:XH} {L3:CL} (sh3:SH D3 Y3 r3 h3 H') (h3c:r3 L3.c=some c) (ly3:Lays h3 L3 s') (gs:nS s') :
 SH D Y r [some (.gh s' (IsClk s'))] H':=by
 have hJ:∀ i∈rE L3 s',∃ x,aE h3 i=some x:=fun i hi=>by
  obtain⟨j,hj⟩:=aX.1 hi
  exact ly3.live j i hj
 refine⟨fun b c hb=>hdm b c hb,fun b b' c x y hx hy _ _=>(pU hx).1.trans (pU hy).1.symm,fun b x hx=>?_,fun _ n=>∃ i x,hat (uM (rE L3 s') h3) i=some x∧r3 i=some n,fun b st q hb=>?_,fun b b' st q x n hb hb' hne _=>absurd ((pU hb).1.trans (pU hb').1.symm) hne⟩
 ·obtain⟨rfl,rfl⟩:=pU hx
  obtain⟨g,hg⟩:=aC ly3.hc
  obtain⟨c',y,k1,k2,_⟩:=sh3.blk _ _ hg
  rw[h3c]at k1
  cases k1
  exact⟨c,y,hrc,k2,.gh c _ _ y⟩
 ·obtain⟨rfl,e⟩:=pU hb
  cases e
  exact⟨c,hrc,uM (rE L3 s') h3,r3,L3.c,fun D' Y'=>aIu sh3 hJ,h3c,⟨gs,_,L3,rfl,ly3.only,rfl⟩,fun n=>Iff.rfl⟩
open Classical in
noncomputable def pmSayG (uE:dA→ByteArray→Prop) (A:dA→ByteArray→ByteArray×dA):List AV→XH→Option (AV×XH):=fun xs h=>match xs,h with
 | [.pt 0 0,.str line],[some (.gh s p)]=>if p=IsClk s∧uE s line then some (.str (A s line).1,[some (.gh (A s line).2 (IsClk (A s line).2))]) else none
 | _,_=>none
theorem aOD {uE:dA→ByteArray→Prop} {A:dA→ByteArray→ByteArray×dA} (hF:∀ (s:dA) (line:ByteArray) (h:XH) (L:CL),uE s line→Lays h L s→Cd h→nS s→aMU h L line (A s line).2 (A s line).1∧nS (A s line).2):gM D 21 (pmSayG uE A):=by
 intro B Y r h H xs ys v h' sh hr hx
 unfold pmSayG at hx
 split at hx
 ·rename_i line s p
  split at hx
  ·rename_i hp
   obtain⟨hp,hfine⟩:=hp
   subst hp
   cases hx
   obtain⟨G,hG⟩:=sh.gh
   obtain⟨c,hrc,h0,r0,b0,shb,hb0,hi,hS⟩:=hG.1 0 s _ rfl
   obtain⟨gs,L,ly,hL⟩:=hi.open
   have sb:=shb aD (fun _=>none)
   have s0:SH aD (fun _=>none) r0 h0 H:=⟨sb.dom,sb.inj,fun b x hb=>(sb.blk b x hb).2,GhR.no fun b st p hb=>by obtain⟨g,y,e⟩:=(sb.blk b _ hb).1;cases e⟩
   obtain⟨⟨h3,L3,body,ly3,hL3⟩,gsay⟩:=hF s line h0 L hfine ly (aTm sb) gs
   obtain⟨a,as1,rfl,q1,q2⟩:=hr.inv
   obtain⟨b,as2,rfl,q3,q4⟩:=q2.inv
   rw[q4.nil_inv]
   obtain⟨c',rfl,hc'⟩:=kD q1
   rw[hrc]at hc'
   cases hc'
   rw[cL q3]
   have hA:RnL aD (fun _=>none) r0 [.pt L.c 0,.str line] [.pt c 0,.str line]:=RnL.cons (.pt _ _ _ (by rw[hL];exact hb0)) (RnL.cons (.str _) RnL.nil)
   have hlen:(h0++sU).length=h0.length+1:=by simp[sU]
   have fw:=aLS (B:=B) (h:=h0) (h1:=h0++sU) (e1:=aM (aW [.pt L.c 0,.str line]) (some 4) (.pt h0.length 0)) aDn aWQ rfl (xs:=[.pt L.c 0,.str line]) (by simp) rfl rfl (by rw[hlen];omega) (by rw[hlen];exact body) (Y:=fun _=>none) (fun l i h=>by simp at h) s0 hA
   have cv:CallV B Tryz.prog (.fn (.func 21) [] []) [.pt c 0,.str line] H (cS aD (fun _=>none) r0 (.str (A s line).1) h3):=fw
   suffices goal:CallV B Tryz.prog (.fn (.func 21) [] []) [.pt c 0,.str line] H (cS D Y r (.str (A s line).1) [some (.gh (A s line).2 (IsClk (A s line).2))]) from goal
   refine CallV.mono cv fun v' H' hq=>?_
   obtain⟨r3,ha,sh3,hv⟩:=hq
   refine⟨r,fun b c hb=>hb,aDH (fun b c hb=>sh.dom b c hb) hrc sh3 (ha _ _ (by rw[hL3,hL];exact hb0)) ly3 gsay,by rw[cL hv];exact .str _⟩
  ·cases hx
 ·cases hx
end
end Go.Proofs.YtmapgnepfgnphaaGreatDoor
namespace Go.Proofs.YtmapgnepfgnphaaGreatDoor
open Go Go.DL
set_option maxRecDepth 100000
set_option maxHeartbeats 4000000
theorem w52 {n:Int}:runW aD 52 [I n] []=some (.pt 0 0,[some (.blk false (.cells true [.nilsl,.mp 1,I n])),some (.blk true (.map true []))]):=by
 rw[qX 52 x52 rfl];unfold x52;dsimp only
 (exact RS0)
theorem w53 {n:Int}:runW aD 53 [I n] []=some (.pt 0 0,[some (.blk false (.cells true [.nilsl,.mp 1,I n])),some (.blk true (.map true []))]):=by
 rw[qX 53 x53 rfl];unfold x53;dsimp only
 (exact RS0)
theorem w54 {n:Int}:runW aD 54 [I n] []=some (.pt 0 0,[some (.blk false (.cells true [.nilsl,.mp 1,I n])),some (.blk true (.map true []))]):=by
 rw[qX 54 x54 rfl];unfold x54;dsimp only
 (exact RS0)
theorem w55 {n:Int}:runW aD 55 [I n] []=some (.pt 0 0,[some (.blk false (.cells true [.nilsl,.mp 1,I n])),some (.blk true (.map true []))]):=by
 rw[qX 55 x55 rfl];unfold x55;dsimp only
 (exact RS0)
def aEL:XH:=[some (.blk false (.cells true [.pt 1 0,.pt 3 0,.pt 5 0,.pt 7 0,.nilsl,I 0,.nilsl])),some (.blk false (.cells true [.nilsl,.mp 2,I 9])),some (.blk true (.map true [])),some (.blk false (.cells true [.nilsl,.mp 4,I 5])),some (.blk true (.map true [])),some (.blk false (.cells true [.nilsl,.mp 6,I 5])),some (.blk true (.map true [])),some (.blk false (.cells true [.nilsl,.mp 8,I 300])),some (.blk true (.map true []))]
theorem w19:runW aD 19 [] []=some (.pt 0 0,aEL):=by
 have a:=w52 (n:=9)
 have b:=w53 (n:=5)
 have c:=w54 (n:=5)
 have d:=w55 (n:=300)
 rw[qX 19 x19 rfl];unfold x19 aEL;dsimp only
 (exact RS4 a b c d)
def qJ:dA:=⟨[],[],[],[],[],0,[]⟩
def aAs:CL:=⟨0,0,0,[],⟨1,2,0,[]⟩,⟨3,4,0,[]⟩,⟨5,6,0,[]⟩,⟨7,8,0,[]⟩⟩
theorem aCe {o m:Nat} {t:Int} (h1:aE aEL o=some (.cells true [.nilsl,.mp m,I t])) (h2:aE aEL m=some (.map true [])) (hne:o≠m):Od aEL ⟨o,m,0,[]⟩ [] [] t:=by
 refine⟨⟨fun p hp=>?_,?_⟩,rfl,rfl⟩
 ·have hp:p∈[(o,ABlk.cells true [.nilsl,.mp m,I t]),(m,ABlk.map true [])]:=hp
  simp only[List.mem_cons,List.not_mem_nil,or_false]at hp
  rcases hp with rfl|rfl
  ·exact h1
  ·exact h2
 ·show [o,m].Nodup
  simp[hne]
theorem aJJ:Lays aEL aAs qJ where
 hc:=rfl
 tk:=⟨rfl,fun h=>absurd h (by decide),fun i e k h1 _=>by simp[aAs]at h1,List.nodup_nil,fun h=>absurd h (by decide)⟩
 bk h:=absurd h (by decide)
 f:=aCe rfl rfl (by decide)
 m:=aCe rfl rfl (by decide)
 p:=aCe rfl rfl (by decide)
 w:=aCe rfl rfl (by decide)
 dj i j b hi hj:=by
  have p:∀ i b,b∈px aAs qJ i→(i=0∧b=0)∨(i=3∧(b=1∨b=2))∨(i=4∧(b=3∨b=4))∨(i=5∧(b=5∨b=6))∨(i=6∧(b=7∨b=8)):=fun i b h=>by
   match i,h with
   | 0,h=>simpa [px,aAs]using h
   | 1,h=>simp[px,kL,aAs,qJ]at h
   | 2,h=>simp[px,kL,aAs,qJ]at h
   | 3,h=>simpa [px,idx,aAs,qJ]using h
   | 4,h=>simpa [px,idx,aAs,qJ]using h
   | 5,h=>simpa [px,idx,aAs,qJ]using h
   | 6,h=>simpa [px,idx,aAs,qJ]using h
   | _+7,h=>cases h
  have a:=p i b hi
  have c:=p j b hj
  omega
theorem aJZ:nS qJ:=by
 refine⟨by decide,List.nodup_nil,by decide,by decide,by decide,by decide,by decide,by decide,?_,?_,?_,?_,?_,?_⟩
 all_goals intro p hp;cases hp
def aFN:List AV→XH→Option (AV×XH):=fun xs h=>match xs,h with
 | [],[]=>some (.pt 0 0,[some (.gh qJ (IsClk qJ))])
 | _,_=>none
theorem aRP {D:Nat→Option XFn}:gM D 19 aFN:=by
 intro B Y r h H xs ys v h' sh hr hx
 unfold aFN at hx
 split at hx
 ·cases hx
  rw[hr.nil_inv]
  have s0:SH aD (fun _=>none) (fun _=>none) [] H:=⟨fun b c hb=>by simp at hb,fun b c c' x y hx=>by simp[hat]at hx,fun b x hx=>by simp[hat]at hx,GhR.no fun b st p hx=>by simp[hat]at hx⟩
  have fw:=(aCZ aDn B (fun _=>none) (fun l i h=>by simp at h)).1 (fun _=>none) [] H 19 [] [] _ _ s0 RnL.nil w19
  have cv:CallV B Tryz.prog (.fn (.func 19) [] []) [] H (cS aD (fun _=>none) (fun _=>none) (.pt 0 0) aEL):=fw
  suffices goal:CallV B Tryz.prog (.fn (.func 19) [] []) [] H (cS D Y r (.pt 0 0) [some (.gh qJ (IsClk qJ))]) from goal
  refine CallV.mono cv fun v' H' hq=>?_
  obtain⟨r3,ha,sh3,hv⟩:=hq
  obtain⟨c,rfl,hc⟩:=kD hv
  have rno:∀ b c,r b=some c→False:=fun b c hb=>by have:=sh.dom b c hb;simp at this
  refine⟨fun b=>if b=0 then some c else none,fun b c' hb=>(rno b c' hb).elim,aDH (fun b c' hb=>?_) rfl sh3 (by exact hc) aJJ aJZ,.pt _ _ _ rfl⟩
  split at hb
  ·omega
  ·cases hb
 ·cases hx
end Go.Proofs.YtmapgnepfgnphaaGreatDoor
namespace Go.Proofs.YtmapgnepfgnphaaGreatDoor
open Go Go.DL
def lW (w:ByteArray):Option Int:=match Lib.atoiAll w.data.toList with
 | .ok v=>if 0≤v∧v≤99999∧Lib.itoa v=w.data.toList then some v else none
 | _=>none
def oA (line:ByteArray):List ByteArray:=(kX 32 line.data.toList).map fun l=>⟨⟨l⟩⟩
def aDt (x:ByteArray) (w:Wd):Int ⊕ Wd:=if gE x then .inr w else .inl 8
def aOL (x:ByteArray) (f:Int→Wd):Int ⊕ Wd:=match lW x with
 | some n=>.inr (f n)
 | none=>.inl 2
def rd (line:ByteArray):Int ⊕ Wd:=if line.size>40 then .inl 14 else match oA line with
 | [w]=>if w=⟨⟨[99,108,111,115,101]⟩⟩ then .inr .close else if w=⟨⟨[116,111,116,97,108]⟩⟩ then .inr .total else .inl 13
 | [w,x]=>if w=⟨⟨[102,97,114,109,101,114]⟩⟩ then aDt x (.farmer x) else if w=⟨⟨[110,101,116]⟩⟩ then aDt x (.net x) else if w=⟨⟨[117,115,101,100]⟩⟩ then aDt x (.used x) else
   if w=⟨⟨[108,111,115,115]⟩⟩ then aDt x (.loss x) else if w=⟨⟨[112,111,119,101,114]⟩⟩ then aDt x (.power x) else
   if w=⟨⟨[118,111,105,100]⟩⟩ then aOL x (fun n=>.void n.toNat) else if w=⟨⟨[116,105,99,107,101,116]⟩⟩ then aOL x (fun n=>.ticket n.toNat) else .inl 13
 | [w,x,y]=>if w=⟨⟨[109,101,116,101,114]⟩⟩ then (if gE x then aOL y (.meter x) else .inl 8) else .inl 13
 | [w,x,y,z]=>if w=⟨⟨[112,97,110]⟩⟩ then (if gE x then (match lW y,lW z with
  | some a,some b=>.inr (.pan x a b)
  | _,_=>.inl 2) else .inl 8) else .inl 13
 | [w,x,y,z,o]=>if w=⟨⟨[119,97,103,111,110]⟩⟩ then (if gE x&&gE o then (match lW y,lW z with
  | some a,some b=>.inr (.wagon x o a b)
  | _,_=>.inl 2) else .inl 8) else .inl 13
 | _=>.inl 13
end Go.Proofs.YtmapgnepfgnphaaGreatDoor
namespace Go.Proofs.YtmapgnepfgnphaaGreatDoor
open Go Go.DL
set_option maxRecDepth 100000
set_option maxHeartbeats 4000000
section
variable {run:bT} {runY:cO} {r:List DOper} {e:aB} {h:XH} {ix:Nat} {d:Option Nat} {m:Option (List (Nat×Nat))}
def aMa:AV→Option Eff
 | .str s=>some (.new none (.obj true (.stringIter s 0)) fun b=>.pt b 0)
 | _=>none
theorem jE {x:AO}:xo m run runY (⟨ix,d,.rngs x,none⟩::r) e h=kE m run runY r d e h true (aMa (aG e x)):=by
 have h0:aA (.rngs x) e (aE h)=aMa (aG e x):=by simp only[aA,aMa]<;>rfl
 rw[←h0]
 exact qI rfl (fun _=>rfl) (fun _=>rfl) fun _ _=>rfl
theorem jG {s:ByteArray}:aMa (.str s)=some (.new none (.obj true (.stringIter s 0)) fun b=>.pt b 0):=rfl
theorem jH {x:AO}:xo none run runY (⟨ix,d,.nxts x,none⟩::r) e h=kR none run runY r d e (aCE h (aG e x)):=by
 show cZ run runY _ e h=_
 simp only[cZ,gd,bI]
 cases aCE h (aG e x)<;>rfl
def dk (s:ByteArray) (i:Nat):Int:=(Utf8.decode s i).1
def dn (s:ByteArray) (i:Nat):Nat:=i+(Utf8.decode s i).2
def nxI (b:Nat) (h:XH) (g:Bool) (s:ByteArray) (pos:Nat) (p:Bool):AV×XH:=if p then (.tup [.bool true,.int .i64 (pos:Int),.int .i32 (dk s pos)],h.set b (some (.blk g (.obj true (.stringIter s (dn s pos)))))) else (.tup [.bool false],h)
def nxM (b:Nat) (h:XH):Option XB→Option (AV×XH)
 | some (.blk g (.obj true (.stringIter s pos)))=>some (nxI b h g s pos (decide (pos<s.size)))
 | _=>none
theorem wD {b:Nat}:aCE h (.pt b 0)=nxM b h (hat h b):=by
 simp only[aCE,nxM,nxI]
 split
 ·rename_i g s pos hh
  rw[hh]
  by_cases hp:pos<s.size
  ·simp[hp,dk,dn]
  ·simp[hp]
 ·rename_i hh
  split
  ·rename_i g s pos h1
   exact absurd h1 (hh _ _ _)
  ·rfl
theorem nV {b:Nat} {g:Bool} {s:ByteArray} {pos:Nat}:nxM b h (some (.blk g (.obj true (.stringIter s pos))))=some (nxI b h g s pos (decide (pos<s.size))):=rfl
theorem nU {b:Nat} {g:Bool} {s:ByteArray} {pos:Nat}:nxI b h g s pos true=(.tup [.bool true,.int .i64 (pos:Int),.int .i32 (dk s pos)],h.set b (some (.blk g (.obj true (.stringIter s (dn s pos)))))):=rfl
theorem nW {b:Nat} {g:Bool} {s:ByteArray} {pos:Nat}:nxI b h g s pos false=(.tup [.bool false],h):=rfl
end
theorem nX:sN 5 .nilifc .nilifc=some true:=rfl
theorem nY {t:TypeId} {a:AV}:sN 5 (.ifc t a) .nilifc=some false:=rfl
def fmL:List (ByteArray×ByteArray):=[(⟨⟨[102,97,114,109,101,114]⟩⟩,⟨⟨[102]⟩⟩),(⟨⟨[119,97,103,111,110]⟩⟩,⟨⟨[119,110,110,102]⟩⟩),(⟨⟨[118,111,105,100]⟩⟩,⟨⟨[110]⟩⟩),(⟨⟨[99,108,111,115,101]⟩⟩,⟨⟨[]⟩⟩),(⟨⟨[109,101,116,101,114]⟩⟩,⟨⟨[109,110]⟩⟩),(⟨⟨[112,97,110]⟩⟩,⟨⟨[112,110,110]⟩⟩),(⟨⟨[110,101,116]⟩⟩,⟨⟨[102]⟩⟩),(⟨⟨[116,111,116,97,108]⟩⟩,⟨⟨[]⟩⟩),(⟨⟨[116,105,99,107,101,116]⟩⟩,⟨⟨[110]⟩⟩),(⟨⟨[117,115,101,100]⟩⟩,⟨⟨[109]⟩⟩),(⟨⟨[108,111,115,115]⟩⟩,⟨⟨[112]⟩⟩),(⟨⟨[112,111,119,101,114]⟩⟩,⟨⟨[102]⟩⟩)]
def fmE:List (AV×AV):=fmL.map fun p:ByteArray×ByteArray=>(.str p.1,.str p.2)
abbrev fmA:Option XB:=some (.blk true (.map true fmE))
theorem w84:runW aD 84 [] []=some (.mp 0,[fmA]):=eK.2 ⟨20,by kernel_rfl⟩
theorem aTH {s c:ByteArray} (hc:c=⟨⟨[32]⟩⟩) (hs:s.size≤100000):runW aD 83 [.str s,.str c] []=some (.fs ((oA s).map fun w=>[.str w]),[]):=by
 subst hc
 rw[lJ (d:=lR vR) rfl rfl]
 show (if s.size≤100000 then _ else _)=_
 rw[if_pos hs]
 simp[oA,Function.comp_def]
theorem w86 {s:ByteArray} (hs:s.size≤100000):runW aD 86 [.str s] []=some (zX s,[]):=by
 rw[lJ (d:=lR aCc) rfl rfl]
 show (if s.size≤100000 then _ else _)=_
 rw[if_pos hs]
def sr (l:List ByteArray):List (List AV):=l.map fun x=>[.str x]
theorem aBJ (l:List ByteArray):(sr l).length=l.length:=by simp[sr]
theorem aNi {l:List ByteArray} {i:Nat} {x:ByteArray} (h:l[i]?=some x):(sr l)[i]?=some [.str x]:=by simp[sr,h]
theorem aOn (l:List ByteArray):((sr l).all fun r=>r.length==1)=true:=by simp[sr]
theorem aLG (w:ByteArray) (l:List ByteArray):((sr (w::l)).drop 1).take (l.length+1-1)=sr l:=by
 have:(sr l).take l.length=sr l:=List.take_of_length_le (by rw[aBJ];exact Nat.le_refl _)
 exact this
structure aCB (F:ByteArray):Prop where
 dn:∀ i,i<F.size→dn F i=i+1
def vT (F:ByteArray) (xs:List ByteArray) (i:Nat):List Int:=(List.range F.size).map fun j=>if j<i∧dk F j=110 then (lW (xs.getD j ByteArray.empty)).getD 0 else 0
abbrev b60 (w0:ByteArray) (xs:List ByteArray) (ns:List Int) (n:Nat):XH:=[some (.blk true (.cells true [.str ⟨⟨[]⟩⟩,.nilsl,.nilsl])),some (.blk false (.cells true [.str w0,.fs (sr xs),.sl 2 0 1 n])),some (.blk true (.cells true (ns.map I)))]
def itB (F:ByteArray) (i:Nat):Option XB:=some (.blk true (.obj true (.stringIter F i)))
def zN (n:Nat):List Int:=List.replicate n 0
theorem aKM (n:Nat):(List.replicate n [AV.int .i64 0]).flatten=(zN n).map I:=by
 unfold zN
 induction n with
 | zero=>rfl
 | succ n ih=>rw[List.replicate_succ,List.replicate_succ,List.flatten_cons,ih];rfl
section
variable {F w0 line:ByteArray} {xs:List ByteArray}
theorem aLY (hl:xs.length=F.size) (hF:F.size≤4) (ok:aCB F) {ns:List Int} {i:Nat} (hi:i<F.size) {y:ByteArray} (hy:xs[i]?=some y) (hys:y.size≤1000) (hn:dk F i=110∨gE y=true) :
 cG 0 [2,4,6,47] (execW aD 60 0 none (match aCF with | .loop _ a=>a|c=>c) (dV [2,4,6,47] [.pt 0 0,.str F,.pt 1 0,.pt 3 0]) (b60 w0 xs ns F.size++[itB F i]))=some ([.pt 0 0,.str F,.pt 1 0,.pt 3 0],b60 w0 xs ns F.size++[itB F (i+1)]):=by
 have d1:(i<F.size)=True:=eq_true hi
 have d2:=ok.dn i hi
 have d3:((i:Int)<(F.size:Int))=True:=eq_true (by omega)
 have sl:=aBJ xs
 rw[hl]at sl
 have sa:=aNi hy
 have c8:=w58 8
 have c85:=w85 (s:=y) (by omega)
 unfold aCF itB b60
 dsimp only
 by_cases h1:dk F i=110
 ·have e1:(dk F i=110)=True:=eq_true h1
  (exact aMV d1 d2 d3 sl sa c8 e1 @jE @jG @jH @wD @nV @nU @nW @nX @nY rs0)
 ·have e1:(dk F i=110)=False:=eq_false h1
  rw[hn.resolve_left h1]at c85
  (exact aMV d1 d2 d3 sl sa c8 e1 c85 @jE @jG @jH @wD @nV @nU @nW @nX @nY)
theorem aCg (F:ByteArray) (xs:List ByteArray) (i:Nat):(vT F xs i).length=F.size:=by simp[vT]
theorem aOO {F:ByteArray} {xs:List ByteArray} {i:Nat} {y:ByteArray} {v:Int} (hi:i<F.size) (hy:xs[i]?=some y) (hk:dk F i=110) (hv:lW y=some v):vT F xs (i+1)=aIw (vT F xs i) i v:=by
 rw[aIv (by rw[aCg];exact hi)]
 apply List.ext_getElem?
 intro j
 rw[List.getElem?_set]
 unfold vT
 rw[List.getElem?_map,List.getElem?_map]
 by_cases hj:j<F.size
 ·rw[List.getElem?_range hj,Option.map_some,Option.map_some]
  by_cases e:i=j
  ·subst e
   rw[if_pos (⟨by omega,hk⟩:i<i+1∧dk F i=110),if_pos rfl,if_pos (by simpa using hi),List.getD_eq_getElem?_getD,hy,Option.getD_some,hv];rfl
  ·rw[if_neg e]
   congr 1
   by_cases h1:j<i∧dk F j=110
   ·rw[if_pos ⟨by omega,h1.2⟩,if_pos h1]
   ·rw[if_neg (fun h=>h1 ⟨by omega,h.2⟩),if_neg h1]
 ·rw[List.getElem?_eq_none (by simp;omega)]
  by_cases e:i=j
  ·omega
  ·rw[if_neg e];rfl
theorem aOP {F:ByteArray} {xs:List ByteArray} {i:Nat} (hk:dk F i≠110):vT F xs (i+1)=vT F xs i:=by
 unfold vT
 apply List.map_congr_left
 intro j _
 by_cases h1:j<i∧dk F j=110
 ·rw[if_pos ⟨by omega,h1.2⟩,if_pos h1]
 ·rw[if_neg (fun h=>h1 ⟨by
   have:j≠i:=fun e=>hk (e▸h.2)
   omega,h.2⟩),if_neg h1]
theorem aRW (F:ByteArray) (xs:List ByteArray):vT F xs 0=zN F.size:=by
 unfold vT zN
 apply List.ext_getElem?
 intro j
 rw[List.getElem?_map,List.getElem?_replicate]
 by_cases hj:j<F.size
 ·rw[List.getElem?_range hj,if_pos hj]
  show some (if j<0∧dk F j=110 then _ else _)=_
  rw[if_neg (by omega)]
 ·rw[if_neg hj,List.getElem?_eq_none (by simp;omega)];rfl
theorem aGW {y:ByteArray} {v:Int} (h:lW y=some v):Lib.atoiAll y.data.toList = .ok v∧0≤v∧v≤99999∧(⟨⟨Lib.itoa v⟩⟩:ByteArray)=y:=by
 unfold lW at h
 split at h
 ·rename_i u hu
  split at h
  ·rename_i hc
   cases h
   refine⟨hu,hc.1,hc.2.1,?_⟩
   rw[hc.2.2]
  ·cases h
 ·cases h
theorem aLX (hl:xs.length=F.size) (hF:F.size≤4) (ok:aCB F) {i:Nat} (hi:i<F.size) {y:ByteArray} (hy:xs[i]?=some y) (hys:y.size≤1000) (hn:dk F i=110→∃ v,lW y=some v) :
 cG 0 [2,6,64] (execW aD 60 0 none (match aAz with | .loop _ a=>a|c=>c) (dV [2,6,64] [.pt 0 0,.pt 1 0,.pt 3 0]) (b60 w0 xs (vT F xs i) F.size++[itB F i]))=some ([.pt 0 0,.pt 1 0,.pt 3 0],b60 w0 xs (vT F xs (i+1)) F.size++[itB F (i+1)]):=by
 have d1:(i<F.size)=True:=eq_true hi
 have d2:=ok.dn i hi
 have d3:((i:Int)<(F.size:Int))=True:=eq_true (by omega)
 have sl:=aBJ xs
 rw[hl]at sl
 have sa:=aNi hy
 by_cases h1:dk F i=110
 ·obtain⟨v,hv⟩:=hn h1
  obtain⟨v1,v2,v3,v4⟩:=aGW hv
  have e1:(dk F i=110)=True:=eq_true h1
  have c86:runW aD 86 [.str y] []=some (.tup [I v,.nilifc],[]):=by
   rw[w86 (by omega)];unfold zX;rw[v1]
  have c35:=w35 0 v 99999
  rw[show (decide (0≤v)&&decide (v≤99999))=true by simp[v2,v3]]at c35
  have c57:=aHT (n:=v) (by omega)
  rw[v4]at c57
  have c58:=w58 2
  have se:=vJ y y
  rw[decide_eq_true rfl]at se
  have nl:=aCg F xs i
  have lt1:(i+1≤F.size)=True:=eq_true (by omega)
  rw[aOO hi hy h1 hv]
  generalize vT F xs i=N0 at *
  unfold aAz itB b60
  dsimp only
  (exact aPF d1 d2 d3 sl sa e1 c86 c35 c57 c58 se nl lt1 @jE @jG @jH @wD @nV @nU @nW @nX @nY rs0 rs0 rs0 rs0)
 ·have e1:(dk F i=110)=False:=eq_false h1
  rw[aOP h1]
  unfold aAz itB b60
  dsimp only
  (exact aMV d1 d2 d3 sl sa e1 @jE @jG @jH @wD @nV @nU @nW @nX @nY rs0 rs0)
end
end Go.Proofs.YtmapgnepfgnphaaGreatDoor
namespace Go.DL
variable {P:Program} {D:Nat→Option XFn}
theorem CalP.drop {g:Nat} {xs0:List AV} {v:AV} {h':XH} (hp:CalP P D g xs0 [] v h') (hv:Gd v):CalP P D g xs0 [] v []:=by
 intro B Y r H as' hY sh hA
 refine FnP.mono ?_ (hp B Y r H as' hY sh hA)
 rintro v' H' ⟨r',_,sh',rn⟩
 have rno:∀ b c,r b=some c→False:=fun b c hb=>by have:=sh.dom b c hb;simp at this
 have s0:SH D Y r [] H':=⟨fun b c hb=>(rno b c hb).elim,fun b c c' x y hx=>by simp[hat]at hx,fun b x hx=>by simp[hat]at hx,GhR.no fun b st p hx=>by simp[hat]at hx⟩
 refine⟨r,Sub.refl r,s0,?_⟩
 rw[(rn.same hv.gr).1]
 exact hv.rn
end Go.DL
namespace Go.Proofs.YtmapgnepfgnphaaGreatDoor
open Go Go.DL
set_option maxRecDepth 100000
set_option maxHeartbeats 4000000
section
variable {F w0 line:ByteArray} {xs W:List ByteArray} {v:AV} {e':aB} {h':XH}
end
section
variable {F w0 line:ByteArray} {xs W:List ByteArray} {v:AV} {e':aB} {h':XH}
end
section
variable {F w0 line:ByteArray} {xs W:List ByteArray} {v:AV} {e':aB} {h':XH}
def Ws (F:ByteArray) (xs:List ByteArray):Prop:=xs.length=F.size∧F.size≤4∧aCB F∧∀ y∈xs,y.size≤1000
theorem aNJ {i:Nat} (hi:i<xs.length):xs[i]?=some (xs.getD i ByteArray.empty)∧xs.getD i ByteArray.empty∈xs:=by
 rw[List.getD_eq_getElem?_getD,List.getElem?_eq_getElem hi]
 exact⟨rfl,List.getElem_mem _⟩
theorem aUh (ws:Ws F xs) (hn:∀ j,j<F.size→dk F j=110∨gE (xs.getD j ByteArray.empty)=true) {ns:List Int} (j:Nat) (hj:j<F.size) :
 cG 0 [2,4,6,47] (execW aD 60 0 none (match aCF with | .loop _ a=>a|c=>c) (dV [2,4,6,47] [.pt 0 0,.str F,.pt 1 0,.pt 3 0]) (b60 w0 xs ns F.size++[itB F j]))=some ([.pt 0 0,.str F,.pt 1 0,.pt 3 0],b60 w0 xs ns F.size++[itB F (j+1)]):=by
 obtain⟨h1,h2,h3,h4⟩:=ws
 obtain⟨k1,k2⟩:=aNJ (xs:=xs) (i:=j) (by omega)
 exact aLY h1 h2 h3 hj k1 (h4 _ k2) (hn j hj)
theorem aUg (ws:Ws F xs) {i:Nat} (hn:∀ j,j<i→dk F j=110→∃ v,lW (xs.getD j ByteArray.empty)=some v) (j:Nat) (hji:j<i) (hj:j<F.size) :
 cG 0 [2,6,64] (execW aD 60 0 none (match aAz with | .loop _ a=>a|c=>c) (dV [2,6,64] [.pt 0 0,.pt 1 0,.pt 3 0]) (b60 w0 xs (vT F xs j) F.size++[itB F j]))=some ([.pt 0 0,.pt 1 0,.pt 3 0],b60 w0 xs (vT F xs (j+1)) F.size++[itB F (j+1)]):=by
 obtain⟨h1,h2,h3,h4⟩:=ws
 obtain⟨k1,k2⟩:=aNJ (xs:=xs) (i:=j) (by omega)
 exact aLX h1 h2 h3 hj k1 (h4 _ k2) (hn j hji)
end
section
variable {F w0 line:ByteArray} {xs W:List ByteArray} {v:AV} {e':aB} {h':XH}
theorem w60 (hs:line.size≤40) (hw:oA line=w0::xs) (hf:bZ true (.str w0) fmE=some (some (.str F))) (ws:Ws F xs) (hn:∀ j,j<F.size→dk F j=110∨gE (xs.getD j ByteArray.empty)=true) (hm:∀ j,j<F.size→dk F j=110→∃ v,lW (xs.getD j ByteArray.empty)=some v) :
 runW aD 60 [.str line] []=some (.agg [.str w0,.fs (sr xs),.fs ((vT F xs F.size).map fun v=>[I v])],[]):=by
 have hl:=ws.1
 have hF:=ws.2.1
 have c83:runW aD 83 [.str line,.str ⟨#[32]⟩] []=some (.fs (sr (oA line)),[]):=aTH (s:=line) (c:=⟨#[32]⟩) rfl (by omega)
 have aPv:=w58 14
 have aPu:=w58 13
 rw[hw]at c83
 have r0:(sr (w0::xs))[0]?=some [.str w0]:=rfl
 have rl:=aBJ (w0::xs)
 rw[List.length_cons,hl]at rl
 have ra:=aOn (w0::xs)
 have rt:=aLG w0 xs
 rw[hl]at rt
 have t40:((line.size:Int)≤40)=True:=eq_true (by omega)
 have n0:((0:Int)<((F.size+1:Nat):Int))=True:=eq_true (by omega)
 have n1:((1:Int)≤((F.size+1:Nat):Int))=True:=eq_true (by omega)
 have a1:IntKind.i64.wrap ((F.size:Int)+1)=((F.size+1:Nat):Int):=by rw[aS (by omega) (by omega)];rfl
 have z0:((0:Int)≤(F.size:Int))=True:=eq_true (by omega)
 have z1:((8:Int)*(F.size:Int)≤281474976710656)=True:=eq_true (by omega)
 have z3:((F.size:Int)≤(F.size:Int))=True:=eq_true (by omega)
 have z4:((F.size:Int)).toNat=F.size:=Int.toNat_natCast _
 have z5:=aKM F.size
 have z2:((F.size:Int)≤9223372036854775807)=True:=eq_true (by omega)
 have e0:(F.size<F.size)=False:=eq_false (by omega)
 have nl:=aCg F xs F.size
 have ch:bX ((vT F xs F.size).map I) 0 1 F.size=(vT F xs F.size).map fun v=>[I v]:=by
  have h:=vY (f:=I) (vT F xs F.size) []
  rw[nl]at h
  exact h
 have f1:(F.size≤(vT F xs F.size).length)=True:=eq_true (by rw[nl];exact Nat.le_refl _)
 have rd0:=aUh (w0:=w0) (ns:=zN F.size) ws hn
 have rd1:=fun j (hj:j<F.size)=>aUg (w0:=w0) ws hm j hj hj
 generalize sr (w0::xs)=R at *
 rw[qX 60 x60 rfl]
 unfold x60;dsimp only
 sym =>
  simp[jE,jG,jH,wD,nV,nU,nW,nX,nY,Za,Zb,Zc,Zd,Ze,Zf,Zg,Zh,Zi,Zj,Zl,Zm,Zn,Zo,Zp,Zq,Zv,Zw,Zy,Z0,ZA,ZI,ZL,ZN,ZQ,ZR,ZS,ZV,ZX,ZY,ZZ,Ya,Yb,Yc,Ye,Yh,Yi,Yj,Ym,Yn,Yo,Yv,Yy,Y4,Y5,Y6,Y7,YE,YH,YM,YN,YR,YU,Xe,Xk,Xl,Xo,Xp,Xq,Xu,Xv,Xw,Xx,Xz,XI,XJ,XY,Wa,Wc,We,Wh,Wm,Wn,Wo,Wp,Wq,Wr,Wt,Wu,Wv,WG,WH,WJ,WK,WS,WT,WU,WV,Vc,Vd,Vf,Vq,Vr,Vs,Vt,V0,V5,V6,V7,V8,V9,VA,VB,VC,VD,VE,VF,VG,VI,VJ,VK,VL,VM,VN,VO,VP,VQ,VR,VS,VT,VU,VV,VW,VZ,Ua,Ub,Uf,Ug,Ui,Uj,Uk,Um,Un,Uo,Ut,Uu,Uv,Uw,Ux,Uy,Uz,U0,U6,U7,U8,UB,UC,UE,UF,UG,UH,UI,UL,UM,UN,UP,UQ,UR,US,UT,UU,UW,UX,UZ,Ta,Tb,Tc,Td,Te,Tg,Th,Ti,Tj,Tm,Tp,Tr,Tt,Tu,Tv,Tw,Tz,T0,T1,T2,T4,T5,T6,T7,T8,T9,TA,TB,TC,TD,TE,TF,TG,TH,TI,TJ,TK,TL,TM,TN,TX,TY,Si,Sj,Sk,Sl,Sm,Sn,Sp,Sq,Su,Sz,SA,SB,SD,SE,SF,SG,SL,SM,SN,SO,SZ,Ra,Rc,Rd,Rq,Rr,Rs,Rt,Ry,Qf,Qg,Qi,Qk,Qu,Qw,Qy,Qz,Q0,QA,QW,QX,QY,QZ,Pa,Pj,c83,aPv,aPu,w84,hf,r0,rl,ra,rt,t40,n0,n1,a1,z0,z1,z2,z3,z4,z5]
  tactic =>
   unfold aCF at rd0 ⊢
   rw[bH F.size (fun _=>[.pt 0 0,.str F,.pt 1 0,.pt 3 0]) (fun i=>b60 w0 xs (zN F.size) F.size++[itB F i])]
   ·unfold itB b60
    sym =>
     simp[jE,jG,jH,wD,nV,nU,nW,nX,nY,Za,Zb,Zc,Zd,Ze,Zf,Zg,Zh,Zi,Zj,Zl,Zm,Zn,Zo,Zp,Zq,Zv,Zw,Zy,Z0,ZA,ZI,ZL,ZN,ZQ,ZR,ZS,ZV,ZX,ZY,ZZ,Ya,Yb,Yc,Ye,Yh,Yi,Yj,Ym,Yn,Yo,Yv,Yy,Y4,Y5,Y6,Y7,YE,YH,YM,YN,YR,YU,Xe,Xk,Xl,Xo,Xp,Xq,Xu,Xv,Xw,Xx,Xz,XI,XJ,XY,Wa,Wc,We,Wh,Wm,Wn,Wo,Wp,Wq,Wr,Wt,Wu,Wv,WG,WH,WJ,WK,WS,WT,WU,WV,Vc,Vd,Vf,Vq,Vr,Vs,Vt,V0,V5,V6,V7,V8,V9,VA,VB,VC,VD,VE,VF,VG,VI,VJ,VK,VL,VM,VN,VO,VP,VQ,VR,VS,VT,VU,VV,VW,VZ,Ua,Ub,Uf,Ug,Ui,Uj,Uk,Um,Un,Uo,Ut,Uu,Uv,Uw,Ux,Uy,Uz,U0,U6,U7,U8,UB,UC,UE,UF,UG,UH,UI,UL,UM,UN,UP,UQ,UR,US,UT,UU,UW,UX,UZ,Ta,Tb,Tc,Td,Te,Tg,Th,Ti,Tj,Tm,Tp,Tr,Tt,Tu,Tv,Tw,Tz,T0,T1,T2,T4,T5,T6,T7,T8,T9,TA,TB,TC,TD,TE,TF,TG,TH,TI,TJ,TK,TL,TM,TN,TX,TY,Si,Sj,Sk,Sl,Sm,Sn,Sp,Sq,Su,Sz,SA,SB,SD,SE,SF,SG,SL,SM,SN,SO,SZ,Ra,Rc,Rd,Rq,Rr,Rs,Rt,Ry,Qf,Qg,Qi,Qk,Qu,Qw,Qy,Qz,Q0,QA,QW,QX,QY,QZ,Pa,Pj,e0]
     tactic =>
      unfold aAz at rd1 ⊢
      rw[bH F.size (fun _=>[.pt 0 0,.pt 1 0,.pt 3 0]) (fun i=>b60 w0 xs (vT F xs i) F.size++[itB F i])]
      ·unfold itB b60
       generalize vT F xs F.size=N0 at *
       (exact aTx e0 nl ch f1 @jE @jG @jH @wD @nV @nU @nW @nX @nY rs0)
      ·unfold itB b60
       rw[aRW]
       (exact RS9 @jE @jG @jH @wD @nV @nU @nW @nX @nY)
      ·exact rd1
      ·unfold itB b60
       (exact aHw e0 @jE @jG @jH @wD @nV @nU @nW @nX @nY)
   ·unfold itB b60
    (exact RS9 @jE @jG @jH @wD @nV @nU @nW @nX @nY)
   ·exact rd0
   ·unfold itB b60
    (exact aHw e0 @jE @jG @jH @wD @nV @nU @nW @nX @nY)
end
section
variable {F w0 line:ByteArray} {xs W:List ByteArray} {v:AV}
theorem aMA:∀ p∈fmL,aCB p.2:=by
 have h:∀ p∈fmL,∀ i,i<p.2.size→dn p.2 i=i+1:=by
  intro p hp
  have:(fmL.all fun p=>(List.range p.2.size).all fun i=>dn p.2 i==i+1)=true:=by kernel_rfl
  intro i hi
  have h1:=List.all_eq_true.1 (List.all_eq_true.1 this p hp) i (List.mem_range.2 hi)
  exact beq_iff_eq.1 h1
 exact fun p hp=>⟨h p hp⟩
theorem aMz:∀ p∈fmL,p.2.size≤4:=by
 have:(fmL.all fun p=>decide (p.2.size≤4))=true:=by kernel_rfl
 intro p hp
 exact of_decide_eq_true (List.all_eq_true.1 this p hp)
end
structure Ln (line w0:ByteArray) (xs:List ByteArray) (F:ByteArray):Prop where
 hs:line.size≤40
 hw:oA line=w0::xs
 hf:bZ true (.str w0) fmE=some (some (.str F))
 ws:Ws F xs
section
variable {F w0 line x y z o:ByteArray} {xs W:List ByteArray} {v:AV}
theorem aEF (F:ByteArray) (xs:List ByteArray) (n:Nat) (h:F.size=n):vT F xs F.size=(List.range n).map fun j=>if dk F j=110 then (lW (xs.getD j ByteArray.empty)).getD 0 else 0:=by
 unfold vT
 rw[h]
 apply List.map_congr_left
 intro j hj
 have:=List.mem_range.1 hj
 simp[this]
theorem f0 (l:Ln line w0 [] F) (h0:F.size=0):runW aD 60 [.str line] []=some (.agg [.str w0,.fs [],.fs []],[]):=by
 have h:=w60 l.hs l.hw l.hf l.ws (fun j hj=>by omega) (fun j hj=>by omega)
 rw[aEF F [] 0 h0]at h
 exact h
theorem f1b (l:Ln line w0 [x] F) (h0:F.size=1) (k0:dk F 0≠110) (hb:gE x=true):runW aD 60 [.str line] []=some (.agg [.str w0,.fs [[.str x]],.fs [[I 0]]],[]):=by
 have h:=w60 l.hs l.hw l.hf l.ws (fun j hj=>by obtain rfl:j=0:=by omega
                                               exact .inr hb) (fun j hj hk=>by obtain rfl:j=0:=by omega
                                                                               exact absurd hk k0)
 rw[aEF F [x] 1 h0]at h
 have e:(List.range 1).map (fun j=>if dk F j=110 then (lW ([x].getD j ByteArray.empty)).getD 0 else 0)=[0]:=by
  show [if dk F 0=110 then _ else (0:Int)]=_
  rw[if_neg k0]
 rw[e]at h
 exact h
theorem f4n (k1:dk F 1=110) (k2:dk F 2=110) (hb:gE x=true) (ho:gE o=true) (h0:F.size=4) (j:Nat) (hj:j<F.size):dk F j=110∨gE ([x,y,z,o].getD j ByteArray.empty)=true:=by
 rcases (by omega:j=0∨j=1∨j=2∨j=3)with rfl|rfl|rfl|rfl
 ·exact .inr hb
 ·exact .inl k1
 ·exact .inl k2
 ·exact .inr ho
theorem f4c (l:Ln line w0 [x,y,z,o] F) (h0:F.size=4) (k0:dk F 0≠110) (k1:dk F 1=110) (k2:dk F 2=110) (k3:dk F 3≠110) (hb:gE x=true) (ho:gE o=true) {a b:Int} (hy:lW y=some a) (hz:lW z=some b):runW aD 60 [.str line] []=some (.agg [.str w0,.fs [[.str x],[.str y],[.str z],[.str o]],.fs [[I 0],[I a],[I b],[I 0]]],[]):=by
 have h:=w60 l.hs l.hw l.hf l.ws (f4n k1 k2 hb ho h0) (fun j hj hk=>by
  rcases (by omega:j=0∨j=1∨j=2∨j=3)with rfl|rfl|rfl|rfl
  ·exact absurd hk k0
  ·exact⟨a,hy⟩
  ·exact⟨b,hz⟩
  ·exact absurd hk k3)
 rw[aEF F [x,y,z,o] 4 h0]at h
 have e:(List.range 4).map (fun j=>if dk F j=110 then (lW ([x,y,z,o].getD j ByteArray.empty)).getD 0 else 0)=[0,a,b,0]:=by
  show [if dk F 0=110 then _ else (0:Int),if dk F 1=110 then (lW y).getD 0 else (0:Int),if dk F 2=110 then (lW z).getD 0 else (0:Int),if dk F 3=110 then _ else (0:Int)]=_
  rw[if_neg k0,if_pos k1,if_pos k2,if_neg k3,hy,hz];rfl
 rw[e]at h
 exact h
end
abbrev Uq (a:Nat):AV:=.int .u64 (a:Int)
def big (k:IntKind):Prop:=k = .u64∨k = .i64
theorem sR:big .u64:=.inl rfl
theorem sS {k:IntKind} (h:big k):k.bits=64:=by rcases h with rfl|rfl<;>rfl
theorem kB {k:IntKind} (h:big k) {a:Nat} (ha:a<2^63):k.wrap (a:Int)=(a:Int):=by
 rcases h with rfl|rfl
 ·simp[IntKind.wrap,IntKind.bits,IntKind.signed];omega
 ·simp[IntKind.wrap,IntKind.bits,IntKind.signed];omega
theorem iZ {w:Nat} (a:Nat):BitVec.ofInt w (a:Int)=BitVec.ofNat w a:=by
 apply BitVec.eq_of_toNat_eq
 simp
theorem aKA {k:IntKind} (h:big k) {a b:Nat} (ha:a<2^63) (hb:b<2^63):iQ .and k (a:Int) (b:Int)=((a&&&b:Nat):Int):=by
 unfold iQ
 dsimp only
 rw[iZ,iZ,sS h,BitVec.toNat_and,BitVec.toNat_ofNat,BitVec.toNat_ofNat,Nat.mod_eq_of_lt (by omega),Nat.mod_eq_of_lt (by omega)]
 exact kB h (Nat.lt_of_le_of_lt Nat.and_le_left ha)
theorem aMQ {k:IntKind} (h:big k) {a b:Nat} (ha:a<2^63) (hb:b<2^63):iQ .or k (a:Int) (b:Int)=((a|||b:Nat):Int):=by
 unfold iQ
 dsimp only
 rw[iZ,iZ,sS h,BitVec.toNat_or,BitVec.toNat_ofNat,BitVec.toNat_ofNat,Nat.mod_eq_of_lt (by omega),Nat.mod_eq_of_lt (by omega)]
 exact kB h (Nat.or_lt_two_pow ha hb)
def dif (a b:Nat):Nat:=a&&&(2^64-(b+1))
theorem aPp (a b:Nat):dif a b≤a:=Nat.and_le_left
theorem aKz {k:IntKind} (h:big k) {a b:Nat} (ha:a<2^63) (hb:b<2^63):iQ .andNot k (a:Int) (b:Int)=((dif a b:Nat):Int):=by
 unfold iQ
 dsimp only
 rw[iZ,iZ,sS h,BitVec.toNat_and,BitVec.toNat_not,BitVec.toNat_ofNat,BitVec.toNat_ofNat,Nat.mod_eq_of_lt (by omega),Nat.mod_eq_of_lt (by omega),show 2^64-1-b=2^64-(b+1) by omega]
 exact kB h (Nat.lt_of_le_of_lt (aPp a b) ha)
theorem aGk {a b:Nat} (hb:b<2^64) {i:Nat}:(dif a b).testBit i=(a.testBit i&&(decide (i<64) && !b.testBit i)):=by
 unfold dif
 rw[Nat.testBit_and,Nat.testBit_two_pow_sub_succ hb]
theorem aKB {a n:Nat} (h:a<2^n) {i:Nat} (hi:n≤i):a.testBit i=false:=Nat.testBit_lt_two_pow (Nat.lt_of_lt_of_le h (Nat.pow_le_pow_right (by omega) hi))
theorem aBK {k:IntKind} (h:big k) {i:Nat} (hi:i<63):k.wrap (1*2^min i k.bits)=((2^i:Nat):Int):=by
 rw[sS h,Nat.min_eq_left (by omega),Int.one_mul,show (2:Int)^i=((2^i:Nat):Int) by norm_cast]
 exact kB h (Nat.pow_lt_pow_right (by omega) hi)
theorem aRS {a i n:Nat} (ha:a<2^n) (hi:i<n):a|||2^i<2^n:=Nat.or_lt_two_pow ha (Nat.pow_lt_pow_right (by omega) hi)
def el (a:Nat):List Nat:=(List.range 10).filter (a.testBit ·)
def aJF (a:Nat):Nat:=(el a).headD 0
def tzq (a:Nat):Bool:=match bQ aD 6 175 [Uq a] []with
 | some (.int .i64 n,[])=>decide (n=(aJF a:Nat))
 | _=>false
theorem aNV:((List.range 1024).all fun a=>a==0||tzq a)=true:=by kernel_rfl
theorem aUa {a:Nat} (ha:a<1024) (h0:a≠0):runW aD 175 [Uq a] []=some (I (aJF a:Nat),[]):=by
 have h:=List.all_eq_true.1 aNV a (List.mem_range.2 ha)
 have h1:(a==0)=false:=by simp[h0]
 rw[h1,Bool.false_or]at h
 unfold tzq at h
 refine eK.2 ⟨6,?_⟩
 revert h
 generalize bQ aD 6 175 [Uq a] []=r
 intro h
 match r,h with
 | some (.int .i64 n,[]),h=>rw[of_decide_eq_true h]
theorem aGi:∀ a:Nat,a<1024→a≠0→el a=aJF a::el (a&&&(a-1)):=by decide +kernel
theorem aWU:∀ a:Nat,a<1024→(el a=[]↔a=0):=by decide +kernel
theorem aPm {a k:Nat}:k∈el a↔k<10∧a.testBit k=true:=by simp[el]
def vD (a:Nat):Nat→Nat
 | 0=>a
 | i+1=>vD a i&&&(vD a i-1)
theorem zL {a:Nat} (ha:a<1024):∀ i,vD a i<1024
 | 0=>ha
 | i+1=>by rw[vD];exact Nat.lt_of_le_of_lt Nat.and_le_left (zL ha i)
theorem aFb {a:Nat} (ha:a<1024):∀ i,el (vD a i)=(el a).drop i
 | 0=>rfl
 | i+1=>by
   have ih:=aFb ha i
   rw[vD]
   by_cases h0:vD a i=0
   ·rw[h0]at ih ⊢
    have e0:el 0=[]:=rfl
    rw[show (0&&&(0-1))=0 from rfl,e0]
    rw[e0]at ih
    have:=congrArg List.length ih
    rw[List.length_nil,List.length_drop]at this
    exact(List.drop_eq_nil_of_le (by omega)).symm
   ·rw[aGi _ (zL ha i) h0]at ih
    rw[←List.drop_drop,←ih]
    rfl
theorem aPr {a:Nat} (ha:a<1024) {i:Nat} (hi:i<(el a).length):vD a i≠0∧(el a)[i]?=some (aJF (vD a i)):=by
 have h:=aFb ha i
 have h0:vD a i≠0:=fun hc=>by
  rw[hc,show el 0=[] from rfl]at h
  have:=congrArg List.length h
  rw[List.length_nil,List.length_drop]at this
  omega
 refine⟨h0,?_⟩
 rw[aGi _ (zL ha i) h0]at h
 have:=congrArg (fun l=>l[0]?) h
 simpa using this.symm
theorem aMJ {a:Nat} (ha:a<1024):vD a (el a).length=0:=by
 have h:=aFb ha (el a).length
 rw[List.drop_length]at h
 exact(aWU _ (zL ha _)).1 h
abbrev cU (a:Nat):Option XB:=some (.blk true (.cells true [Uq a]))
structure aMX (n:Nat) (H:XH):Prop where
 hat:∀ a,hat (H++[cU a]) n=cU a
 set:∀ a b,(H++[cU a]).set n (cU b)=H++[cU b]
 len:∀ a,(H++[cU a]).length=n+1
 head:∀ (a:Nat) (e:aB),e 0 = .fn (.yield 0) [] []→e 1 = .pt n 0→cG (n+1) [0,1] (some (.normal,e,H++[cU a]))=some ([.fn (.yield 0) [] [],.pt n 0],H++[cU a])
 fin:∀ a,gL false (n+1) (.tup []) (H++[cU a])=(.tup [],H++[cU a])
def Yd (H H':XH) (v:Nat) (b:Bool):Prop:=∀ a:Nat,dQ (runW aD) (runYW aD) (.fn (.yield 0) [] []) [I v] (H++[cU a])=some (.bool b,H'++[cU a])
theorem aIH {n:Nat} {H H':XH} (g:aMX n H) (g':aMX n H') {a:Nat} (ha:a<1024) (h0:a≠0) (hy:Yd H H' (aJF a) true) :
 cG (n+1) [0,1] (execW aD 237 (n+1) none (match aBv with | .loop _ a=>a|c=>c) (dV [0,1] [.fn (.yield 0) [] [],.pt n 0]) (H++[cU a]))=some ([.fn (.yield 0) [] [],.pt n 0],H'++[cU (a&&&(a-1))]):=by
 have h1:=g.hat a
 have h2:=g'.hat a
 have h3:=g'.set a
 have h4:=hy a
 have t:=aUa ha h0
 have n0:((a:Int)=0)=False:=eq_false (by omega)
 have u1:IntKind.u64.wrap ((a:Int)-1)=((a-1:Nat):Int):=by
  rw[show (a:Int)-1=((a-1:Nat):Int) by omega];exact kB sR (by omega)
 have u2:=aKA sR (a:=a) (b:=a-1) (by omega) (by omega)
 have hd:=g'.head (a&&&(a-1))
 unfold aBv
 dsimp only
 sym =>
  simp[Za,Zb,Zc,Zf,Zg,Zh,Zj,Zl,Zm,Zv,ZA,ZD,ZV,ZZ,Ya,Ye,Yh,Ym,Yn,Yr,Y8,YB,YF,Xu,XY,Wm,Vo,V6,V7,V9,VB,VC,VE,VL,VO,VQ,VV,VW,Ui,Uj,Uk,Uw,Uy,Uz,U1,U2,U4,UR,UU,UV,UW,Ta,Tb,Td,Te,Th,Ti,Tp,Ts,Tt,Tw,T1,T4,T5,T6,T7,T8,T9,TA,TH,Si,Sj,Sn,Sp,Sq,Sz,SA,SC,SE,SF,SJ,SN,SO,Rp,Qu,Qw,Qx,Qz,Q0,QA,QW,QX,QY,QZ,h1,h2,t,h4,n0,u1,u2,h3]
  tactic=>exact hd _ rfl rfl
theorem aKn {n:Nat} {G:Nat→XH} {a:Nat} (ha:a<1024) (g:∀ i,i≤(el a).length→aMX n (G i)) (hy:∀ i v,(el a)[i]?=some v→Yd (G i) (G (i+1)) v true) :
 runW aD 237 [.fn (.yield 0) [] [],.pt n 0] (G 0++[cU a])=some (.tup [],G (el a).length++[cU 0]):=by
 have l0:=(g 0 (by omega)).len a
 have g1:=g (el a).length (by omega)
 have h1:hat (G (el a).length++[some (.blk true (.cells true [.int .u64 0]))]) n=some (.blk true (.cells true [.int .u64 0])):=g1.hat 0
 have hf:gL false (n+1) (.tup []) (G (el a).length++[some (.blk true (.cells true [.int .u64 0]))])=(.tup [],G (el a).length++[some (.blk true (.cells true [.int .u64 0]))]):=g1.fin 0
 have c0:=aMJ ha
 rw[qX 237 aKT rfl];unfold aKT;dsimp only
 rw[l0]
 unfold aBv
 sym =>
  simp[Za,Zb,Zf,Zh,Zl,Zm,ZA,ZV,YF,YT,Vh,Vl,V6,V7,VE,UA,UC,UH,UJ,UL,UR,UU,UW,UX,UZ,Ts,T0,TF,TG,Si,Sj,Sn,Sz,SA,SD,SE,SF,SG,SL,SN,SO]
  tactic =>
   rw[bH (el a).length (fun _=>[.fn (.yield 0) [] [],.pt n 0]) (fun i=>G i++[cU (vD a i)])]
   ·rw[c0]
    (sym=>(simp[Za,Zb,Zf,Zh,Zl,Zm,ZA,ZV,YF,YT,Vh,Vl,V6,V7,VE,UA,UC,UH,UJ,UL,UR,UU,UW,UX,UZ,Ts,T0,TF,TG,Si,Sj,Sn,Sz,SA,SD,SE,SF,SG,SL,SN,SO,h1,hf];all_goals tactic=>exact rfl))
   ·exact(g 0 (by omega)).head a _ rfl rfl
   ·intro i hi
    obtain⟨p1,p2⟩:=aPr ha hi
    exact aIH (g i (by omega)) (g (i+1) (by omega)) (zL ha i) p1 (hy i _ p2)
   ·rw[c0]
    (sym=>(simp[Za,Zb,Zf,Zh,Zl,Zm,ZA,ZV,YF,YT,Vh,Vl,V6,V7,VE,UA,UC,UH,UJ,UL,UR,UU,UW,UX,UZ,Ts,T0,TF,TG,Si,Sj,Sn,Sz,SA,SD,SE,SF,SG,SL,SN,SO,h1];all_goals tactic=>exact rfl))
def wr (W:List Int):List (List AV):=W.map fun v=>[I v]
theorem wF (W:List Int):(wr W).length=W.length:=by simp[wr]
theorem aHM {W:List Int} {i:Nat} {v:Int} (h:W[i]?=some v):(wr W)[i]?=some [I v]:=by simp[wr,h]
def chA (q:Int) (W:List Int):AV:=.agg [.fs [[I q,.fs (wr W)]]]
def chB (q:Int) (W:List Int):AV:=.fs [[.ifc 203 (.agg [I q,.fs (wr W)])]]
def hsA (q:Int) (W:List Int):AV:=.agg [.fs [[I q,.fs (wr W)]],.ifc 283 (chB q W),I W.length,Uq (2^W.length-1)]
theorem aQx (lo n hi:Int):runW aD 212 [I lo,I n,I hi] []=some (.bool (decide (lo≤n)&&decide (n≤hi)),[]):=by
 rw[qX 212 aKY rfl];unfold aKY;dsimp only
 rcases ptf (lo≤n)with h1|h1
 ·have d1:decide (lo≤n)=true:=by simp[h1]
  (exact RS2 h1 d1)
 ·have d1:decide (lo≤n)=false:=by simp[h1]
  (exact RS2 h1 d1)
theorem aTQ {v:Int} (h0:0≤v) (h1:v≤1000000):runW aD 211 [I v] []=some (.bool false,[]):=by
 have c:=aQx 0 v 1000000
 rw[show (decide (0≤v)&&decide (v≤1000000))=true by simp[h0,h1]]at c
 rw[qX 211 aKZ rfl];unfold aKZ;dsimp only
 (exact wC c)
theorem aTO {W:List Int} (hW:∀ v∈W,0≤v∧v≤1000000) (hl:W.length≤9):runW aD 215 [.fs (wr W),.fn (.func 211) [] []] []=some (I (-1),[]):=by
 rw[qX 215 aKW rfl];unfold aKW;dsimp only
 have ln:=wF W
 have e0:((W.length:Int)<(W.length:Int))=False:=eq_false (by omega)
 sym =>
  simp[Za,Zb,Zf,Zh,Zl,Zm,Zv,ZA,ZI,ZS,ZV,Ye,Yh,Ym,Yn,Yv,Y4,Y5,Y7,YG,YM,YN,YT,Xu,Xz,XM,Wm,Wn,Wr,Wx,WE,Va,Vf,Vk,VC,VD,VE,VL,VO,VP,VQ,VS,VT,VV,VW,Ui,Uj,Uk,Uw,UB,UC,UE,UF,UG,UH,UI,UL,UM,UN,UO,UQ,UR,US,UT,UU,UV,UW,UX,UZ,Ta,Tb,Td,Te,Tg,Th,Ti,Tw,T0,T1,T4,T5,T6,T7,T8,TF,TG,Sg,Sk,Sl,Sn,Sz,SA,SB,SC,SD,SE,SF,SG,SJ,SL,SM,SN,SO,Qg,QW,QX,QY,QZ,ln]
  tactic =>
   unfold aHF
   rw[bH W.length (fun i=>[.fs (wr W),.fn (.func 211) [] [],I W.length,I (i:Nat)]) (fun _=>[])]
   ·(exact RS2 e0 ln)
   ·(exact RS0)
   ·intro i hi
    obtain⟨v,hv⟩:∃ v,W[i]?=some v:=⟨_,List.getElem?_eq_getElem hi⟩
    have r1:=aHM hv
    have hb:=hW v (List.mem_of_getElem? hv)
    have c:=aTQ hb.1 hb.2
    have t1:((i:Int)<(W.length:Int))=True:=eq_true (by omega)
    have a2:IntKind.i64.wrap ((i:Int)+1)=((i+1:Nat):Int):=by rw[aS (by omega) (by omega)];rfl
    (exact RS5 t1 r1 c a2 ln)
   ·(exact wC e0)
theorem aTP {W:List Int} (hW:∀ v∈W,0≤v∧v≤1000000) (hl:W.length≤9):runW aD 213 [.fs (wr W),.fn (.func 211) [] []] []=some (.bool false,[]):=by
 have c:=aTO hW hl
 rw[qX 213 aKX rfl];unfold aKX;dsimp only
 (exact wC c)
theorem aQy (q:Int) (W:List Int):runW aD 205 [chA q W] []=some (I W.length,[]):=by
 have ln:=wF W
 rw[qX 205 aLc rfl];unfold aLc chA;dsimp only
 (exact wC ln)
theorem oQ {D:Nat→Option XFn} {K k:Nat} {rd:Option Nat} {L:List Nat} {a:XCode} {e:aB} {h:XH}:execW D K k rd (.loop L a) e h=qF (execW D K k rd a (dV L (rB k L e h)) (gU k L e h)) (execW D K k rd (.loop L a)):=qV
theorem aTU {q:Int} {W:List Int} (hq:1≤q∧q≤10000000) (hW:∀ v∈W,0≤v∧v≤1000000) (h1:1≤W.length) (hl:W.length≤9):runW aD 203 [chA q W] []=some (I 0,[]):=by
 have ln:=wF W
 have c1:=aQy q W
 have c2:=aQx 1 q 10000000
 rw[show (decide (1≤q)&&decide (q≤10000000))=true by simp[hq.1,hq.2]]at c2
 have c3:=aTP hW hl
 have t1:((W.length:Int)=0)=False:=eq_false (by omega)
 have t2:((9:Int)<(W.length:Int))=False:=eq_false (by omega)
 rw[qX 203 aLe rfl];unfold aLe aHJ chA at *;dsimp only
 (exact RS7 ln c1 c2 c3 t1 t2 @oQ)
theorem aTT (q:Int) (W:List Int):runW aD 204 [chA q W,I (-1)] []=some (chB q W,[]):=by
 rw[qX 204 aLd rfl];unfold aLd aHI chA chB;dsimp only
 (exact wC @oQ)
theorem aTZ {q:Int} {W:List Int} (hq:1≤q∧q≤10000000) (hW:∀ v∈W,0≤v∧v≤1000000) (h1:1≤W.length) (hl:W.length≤9):runW aD 182 [chA q W] []=some (.tup [hsA q W,I 0],[]):=by
 have c1:=aTU hq hW h1 hl
 have c2:=aTT q W
 have c3:=aQy q W
 have n0:((W.length:Int)<0)=False:=eq_false (by omega)
 have s1:=aBK sR (i:=W.length) (by omega)
 have p1:1≤2^W.length:=Nat.one_le_two_pow
 have p2:2^W.length≤2^9:=Nat.pow_le_pow_right (by omega) hl
 have s2:IntKind.u64.wrap (((2^W.length:Nat):Int)-1)=((2^W.length-1:Nat):Int):=by
  rw[show ((2^W.length:Nat):Int)-1=((2^W.length-1:Nat):Int) by omega];exact kB sR (by omega)
 rw[qX 182 aLi rfl];unfold aLi chA hsA chB at *;dsimp only
 (exact RS7 c1 c2 c3 n0 s1 s2 @oQ)
def fT {α:Type} (f:α→Nat→α) (z:α) (ks:List Nat) (i:Nat):α:=(ks.take i).foldl f z
theorem aTj {α:Type} {f:α→Nat→α} {z:α} {ks:List Nat} {i v:Nat} (h:ks[i]?=some v):fT f z ks (i+1)=f (fT f z ks i) v:=by
 unfold fT
 rw[List.take_add_one,h]
 simp
theorem aPk {α:Type} {f:α→Nat→α} {z:α} {ks:List Nat}:fT f z ks ks.length=ks.foldl f z:=by
 unfold fT
 rw[List.take_length]
theorem aTk {a n k:Nat} (h:a<2^n) (hk:k∈el a):k<n:=by
 have h2:=(aPm.1 hk).2
 by_cases hc:k<n
 ·exact hc
 ·rw[aKB h (by omega)]at h2;simp at h2
theorem aPn (a:Nat):(el a).length≤10:=by
 unfold el
 exact Nat.le_trans (List.length_filter_le _ _) (by simp)
def wS (W:List Int) (n:Int) (k:Nat):Int:=n+W.getD k 0
def wgt (W:List Int) (a:Nat):Int:=(el a).foldl (wS W) 0
theorem aNe {W:List Int} (hW:∀ v∈W,0≤v∧v≤1000000):∀ (ks:List Nat) (z:Int),z≤ks.foldl (wS W) z∧ks.foldl (wS W) z≤z+1000000*(ks.length:Int)
 | [],z=>by simp
 | k::ks,z=>by
   have ih:=aNe hW ks (wS W z k)
   have hv:0≤W.getD k 0∧W.getD k 0≤1000000:=by
    rw[List.getD_eq_getElem?_getD]
    cases h:W[k]? with
    | none=>simp
    | some v=>exact hW v (List.mem_of_getElem? h)
   rw[List.foldl_cons,List.length_cons]
   unfold wS at ih ⊢
   omega
theorem aQu {W:List Int} (hW:∀ v∈W,0≤v∧v≤1000000) (a i:Nat):0≤fT (wS W) 0 (el a) i∧fT (wS W) 0 (el a) i≤10000000:=by
 have h:=aNe hW ((el a).take i) 0
 have h3:=aPn a
 have h4:((el a).take i).length≤10:=by rw[List.length_take];omega
 unfold fT
 omega
theorem aTL (a:Nat):runW aD 236 [Uq a] []=some (.fn (.func 237) [] [.pt 0 0],[cU a]):=by
 rw[qX 236 aKU rfl];unfold aKU;dsimp only
 (exact RS0)
section
variable {q:Int} {W:List Int}
abbrev aHf (q:Int) (W:List Int) (n:Int):XH:=[some (.loop 234 0 [.pt 1 0,.pt 2 0] .ready),some (.blk true (.cells true [I q,.fs (wr W)])),some (.blk true (.cells true [I n]))]
theorem aMs (n:Int):aMX 3 (aHf q W n):=by
 refine⟨fun _=>rfl,fun _ _=>rfl,fun _=>rfl,?_,?_⟩
 ·intro a e h0 h1
  (exact RS2 h0 h1)
 ·intro a
  (exact RS0)
theorem aTy (n m:Int) {k:Nat} {x:Int} (hl:W.length≤9) (hk:W[k]?=some x) (hm:IntKind.i64.wrap (n+x)=m):Yd (aHf q W n) (aHf q W m) k true:=by
 have hkl:=(List.getElem?_eq_some_iff.1 hk).1
 have c1:((k:Int)<(W.length:Int))=True:=eq_true (by omega)
 have ln:=wF W
 have r1:=aHM hk
 have y:runYW aD (.fn (.yield 0) [] []) [I (k:Nat)] (aHf q W n)=some (.bool true,aHf q W m):=by
  rw[aCY (K:=234) (d:=aHE) (site:=0) (vs:=[.pt 1 0,.pt 2 0]) rfl rfl (by rfl) rfl]
  (exact RS4 c1 r1 ln hm)
 intro a
 (exact wC y)
theorem aTN (hW:∀ v∈W,0≤v∧v≤1000000) (hl:W.length≤9) {a:Nat} (ha:a<2^W.length):runW aD 234 [.agg [I q,.fs (wr W)],Uq a] []=some (I (wgt W a),[]):=by
 have ha2:a<1024:=Nat.lt_of_lt_of_le ha (Nat.pow_le_pow_right (n:=2) (by omega) (by omega:W.length≤10))
 have e236:=aTL a
 have e:runW aD 237 [.fn (.yield 0) [] [],.pt 3 0] [some (.loop 234 0 [.pt 1 0,.pt 2 0] .ready),some (.blk true (.cells true [I q,.fs (wr W)])),some (.blk true (.cells true [I 0])),cU a] =
  some (.tup [],[some (.loop 234 0 [.pt 1 0,.pt 2 0] .ready),some (.blk true (.cells true [I q,.fs (wr W)])),some (.blk true (.cells true [I (wgt W a)])),some (.blk true (.cells true [.int .u64 0]))]):=by
  have h:=aKn (n:=3) (G:=fun i=>aHf q W (fT (wS W) 0 (el a) i)) ha2 (fun i _=>aMs _) (by
   intro i v hv
   have hvl:=aTk ha (List.mem_of_getElem? hv)
   obtain⟨x,hx⟩:∃ x,W[v]?=some x:=⟨_,List.getElem?_eq_getElem hvl⟩
   have b1:=aQu hW a i
   have b2:=hW x (List.mem_of_getElem? hx)
   refine aTy _ _ hl hx ?_
   rw[aTj hv]
   show IntKind.i64.wrap (fT (wS W) 0 (el a) i+x)=fT (wS W) 0 (el a) i+W.getD v 0
   rw[List.getD_eq_getElem?_getD,hx]
   exact aS (by omega) (by omega))
  unfold wgt
  rw[aPk]at h
  exact h
 rw[qX 234 aHE rfl];unfold aHE;dsimp only
 (exact RS2 e236 e)
def qB (q:Int) (W:List Int) (a:Nat):Bool:=decide (q≤wgt W a)
theorem aTM (hW:∀ v∈W,0≤v∧v≤1000000) (hl:W.length≤9) {a:Nat} (ha:a<2^W.length):runW aD 235 [.agg [I q,.fs (wr W)],Uq a] []=some (.bool (qB q W a),[]):=by
 have c1:=aTN (q:=q) hW hl ha
 rw[qX 235 aKV rfl];unfold aKV qB;dsimp only
 rcases ptf (q≤wgt W a)with h1|h1
 ·have d1:decide (q≤wgt W a)=true:=by simp[h1]
  rw[d1]
  (exact RS2 c1 h1)
 ·have d1:decide (q≤wgt W a)=false:=by simp[h1]
  rw[d1]
  (exact RS2 c1 h1)
end
theorem sX {e:aB} {tab:List (TypeId×FuncId)} {k:Nat}:aG e (.meth tab k)=yL tab (e k):=rfl
theorem lD {v:AV}:yL [(203,235),(283,242)] (.ifc 203 v) = .fn (.func 235) [v] []:=rfl
theorem lC {v:AV}:yL [(203,235),(283,242)] (.ifc 283 v) = .fn (.func 242) [v] []:=rfl
section
variable {q:Int} {W:List Int}
theorem aTJ (hW:∀ v∈W,0≤v∧v≤1000000) (hl:W.length≤9) {a:Nat} (ha:a<2^W.length):runW aD 244 [.ifc 203 (.agg [I q,.fs (wr W)]),.pt 0 0] [cU a]=some (.bool (!qB q W a),[cU a]):=by
 have c1:=aTM (q:=q) hW hl ha
 rw[qX 244 aKQ rfl];unfold aKQ cU;dsimp only
 (exact RS5 c1 @oQ @sX @lD @lC)
theorem aTI (hW:∀ v∈W,0≤v∧v≤1000000) (hl:W.length≤9) {a:Nat} (ha:a<2^W.length):runW aD 245 [chB q W,.fn (.func 244) [] [.pt 0 0]] [cU a]=some (I (if qB q W a then -1 else 0),[cU a]):=by
 have c1:=aTJ (q:=q) hW hl ha
 rw[qX 245 aKP rfl];unfold aKP aHD chB cU at *;dsimp only
 cases hb:qB q W a
 ·simp only[hb,Bool.not_false,Bool.false_eq_true,if_false]at c1 ⊢
  (exact RS5 c1 @oQ @sX @lD @lC)
 ·simp only[hb,Bool.not_true,if_true]at c1 ⊢
  (exact RS5 c1 @oQ @sX @lD @lC)
theorem aTK (hW:∀ v∈W,0≤v∧v≤1000000) (hl:W.length≤9) {a:Nat} (ha:a<2^W.length):runW aD 243 [chB q W,.fn (.func 244) [] [.pt 0 0]] [cU a]=some (.bool (!qB q W a),[cU a]):=by
 have c1:=aTI (q:=q) hW hl ha
 rw[qX 243 aKR rfl];unfold aKR chB cU at *;dsimp only
 cases hb:qB q W a
 ·simp only[hb,Bool.not_false,Bool.false_eq_true,if_false]at c1 ⊢
  (exact RS5 c1 @oQ @sX @lD @lC)
 ·simp only[hb,Bool.not_true,if_true]at c1 ⊢
  (exact RS5 c1 @oQ @sX @lD @lC)
theorem aQw (hW:∀ v∈W,0≤v∧v≤1000000) (hl:W.length≤9) {a:Nat} (ha:a<2^W.length):runW aD 242 [chB q W,Uq a] []=some (.bool (qB q W a),[]):=by
 have c1:=aTK (q:=q) hW hl ha
 have nn:(!(!qB q W a))=qB q W a:=by cases qB q W a<;>rfl
 rw[qX 242 aKS rfl];unfold aKS chB cU at *;dsimp only
 (exact RS6 c1 nn @oQ @sX @lD @lC)
theorem aTV {a:Nat} (ha:a<2^63) {i:Nat} (hi:i<63):runW aD 186 [Uq a,I (i:Nat)] []=some (Uq (a|||2^i),[]):=by
 have n0:((i:Int)<0)=False:=eq_false (by omega)
 have s1:=aBK sR hi
 have o1:=aMQ sR ha (b:=2^i) (Nat.pow_lt_pow_right (by omega) hi)
 rw[qX 186 aLf rfl];unfold aLf;dsimp only
 (exact RS7 n0 s1 o1 @oQ @sX @lD @lC)
theorem aTR {a:Nat} (ha:a<2^63) {i:Nat} (hi:i<63):runW aD 207 [Uq a,.fs [[I (i:Nat)]]] []=some (Uq (dif a (2^i)),[]):=by
 have n0:((i:Int)<0)=False:=eq_false (by omega)
 have s1:=aBK sR hi
 have o1:=aKz sR ha (b:=2^i) (Nat.pow_lt_pow_right (by omega) hi)
 rw[qX 207 aLa rfl];unfold aLa aHG;dsimp only
 (exact RS7 n0 s1 o1 @oQ @sX @lD @lC)
end
def swB (q:Int) (W:List Int) (i m:Nat):Bool := !m.testBit i&&(!qB q W m&&qB q W (m|||2^i))
def swT (q:Int) (W:List Int) (i m:Nat):Nat:=((List.range m).filter (swB q W i)).length
theorem aIh (q:Int) (W:List Int) (i m:Nat):swT q W i (m+1)=swT q W i m+if swB q W i m then 1 else 0:=by
 unfold swT
 rw[List.range_succ,List.filter_append,List.length_append]
 cases h:swB q W i m<;>simp[h]
theorem aIi (q:Int) (W:List Int) (i m:Nat):swT q W i m≤m:=by
 unfold swT
 exact Nat.le_trans (List.length_filter_le _ _) (by simp)
section
variable {q:Int} {W:List Int}
abbrev hsC (q:Int) (W:List Int):List AV:=[.fs [[I q,.fs (wr W)]],.ifc 283 (.fs [[.ifc 203 (.agg [I q,.fs (wr W)])]]),I W.length,Uq (2^W.length-1)]
abbrev hsX (q:Int) (W:List Int):Option XB:=some (.blk true (.cells true (hsC q W)))
abbrev fnX:Option XB:=some (.blk true (.cells true [.fn (.func 160) [] []]))
abbrev yU (q:Int) (W:List Int) (i:Nat) (n:Int):XH:=[some (.loop 184 0 [.pt 1 0,.pt 2 0,.pt 3 0,.pt 4 0] .ready),hsX q W,fnX,some (.blk true (.cells true [I (i:Nat)])),some (.blk true (.cells true [I n]))]
theorem aUb (v:AV) (m:Nat):runW aD 160 [hsA q W,Uq m] []=some (I 1,[]):=by
 rw[qX 160 aLj rfl];unfold aLj hsA chB;dsimp only
 (exact RS3 @sX @lD @lC)
theorem aTz (hW:∀ v∈W,0≤v∧v≤1000000) (hl:W.length≤9) {i m:Nat} (hi:i<W.length) (hm:m<2^W.length) (hb:m.testBit i=false) {n:Int} (hn:0≤n∧n≤1000) :
 runYW aD (.fn (.yield 0) [] []) [Uq m] (yU q W i n)=some (.bool true,yU q W i (n+if swB q W i m then 1 else 0)):=by
 have p2:2^W.length≤2^9:=Nat.pow_le_pow_right (by omega) hl
 have hor:=aRS hm hi
 have c1:=aQw (q:=q) hW hl hm
 have c2:=aTV (a:=m) (by omega) (i:=i) (by omega)
 have c3:=aQw (q:=q) hW hl hor
 have c4:=aUb (q:=q) (W:=W) .any m
 have a1:IntKind.i64.wrap (n+1)=n+1:=aS (by omega) (by omega)
 rw[aCY (K:=184) (d:=aHK) (site:=0) (vs:=[.pt 1 0,.pt 2 0,.pt 3 0,.pt 4 0]) rfl rfl (by rfl) rfl]
 unfold swB
 rw[hb]
 unfold hsA chB at *
 cases e1:qB q W m with
 | true =>
   rw[e1]at c1
   simp only[Bool.not_true,Bool.false_and,Bool.and_false,Bool.false_eq_true,if_false,Int.add_zero]
   (exact RS4 c1 @sX @lD @lC)
 | false =>
   rw[e1]at c1
   cases e2:qB q W (m|||2^i)with
   | true =>
     rw[e2]at c3
     simp only[Bool.not_false,Bool.and_self,if_true]
     (exact RS8 c1 c2 c3 c4 a1 @sX @lD @lC)
   | false =>
     rw[e2]at c3
     simp only[Bool.not_false,Bool.true_and,Bool.false_eq_true,if_false,Int.add_zero]
     (exact RS6 c1 c2 c3 @sX @lD @lC)
theorem aTW (i:Nat):runW aD 185 [hsA q W,.sl 0 0 1 1] [some (.blk true (.cells true [I (i:Nat)]))]=some (.fn (.func 206) [] [.pt 1 0,.pt 2 0],[some (.blk true (.cells true [I (i:Nat)])),hsX q W,some (.blk false (.cells true [.sl 0 0 1 1]))]):=by
 rw[qX 185 aLg rfl];unfold aLg hsA chB;dsimp only
 (exact RS3 @sX @lD @lC)
end
section
variable {q:Int} {W:List Int}
theorem aPq {m i:Nat} (hm:m<2^63) (hi:i<63):dif m (2^i)=m↔m.testBit i=false:=by
 have hp:2^i<2^64:=Nat.pow_lt_pow_right (by omega) (by omega)
 constructor
 ·intro h
  have:=aGk (a:=m) hp (i:=i)
  rw[h,Nat.testBit_two_pow]at this
  simpa using this
 ·intro h
  apply Nat.eq_of_testBit_eq
  intro j
  rw[aGk hp,Nat.testBit_two_pow]
  by_cases e:i=j
  ·subst e;rw[h];simp
  ·by_cases hj:j<64
   ·simp[e,hj]
   ·rw[aKB hm (by omega)];simp
abbrev tAc (q:Int) (W:List Int) (i:Nat):XH:=[hsX q W,some (.blk false (.cells true [.sl 7 0 1 1])),some (.blk true (.cells true [I (i:Nat)]))]
abbrev tBc (q:Int) (W:List Int) (i:Nat):XH:=[hsX q W,some (.blk true (.cells true [.fs [[I (i:Nat)]]])),none]
def aMv (q:Int) (W:List Int) (i:Nat):Nat→XH
 | 0=>yU q W i 0++tAc q W i
 | m+1=>yU q W i (swT q W i (m+1):Nat)++tBc q W i
theorem sL {i m:Nat} (hm:0<m):aMv q W i m=yU q W i (swT q W i m:Nat)++tBc q W i:=by
 cases m with
 | zero=>omega
 | succ m=>rfl
theorem aTS (hW:∀ v∈W,0≤v∧v≤1000000) (hl:W.length≤9) {i:Nat} (hi:i<W.length) :
 runW aD 206 [.fn (.yield 0) [] [],.pt 5 0,.pt 6 0] (yU q W i 0++tAc q W i)=some (.tup [],yU q W i (swT q W i (2^W.length):Nat)++tBc q W i):=by
 have p2:2^W.length≤2^9:=Nat.pow_le_pow_right (by omega) hl
 have p1:1≤2^W.length:=Nat.one_le_two_pow
 have e0:(((2^W.length:Nat):Int)≤((2^W.length-1:Nat):Int))=False:=eq_false (by omega)
 have stp:∀ m:Nat,m<2^W.length→(m.testBit i=true∧((m:Int)=((dif m (2^i):Nat):Int))=False∧swT q W i (m+1)=swT q W i m)∨(m.testBit i=false∧((m:Int)=((dif m (2^i):Nat):Int))=True∧runYW aD (.fn (.yield 0) [] []) [Uq m] (yU q W i (swT q W i m:Nat))=some (.bool true,yU q W i (swT q W i (m+1):Nat))):=fun m hm=>by
  have hd:=aPq (m:=m) (i:=i) (by omega) (by omega)
  cases hb:m.testBit i with
  | true =>
    refine .inl ⟨rfl,eq_false fun e=>?_,?_⟩
    ·have:=hd.1 (by omega)
     rw[hb]at this;cases this
    ·rw[aIh,swB,hb];simp
  | false =>
    refine .inr ⟨rfl,eq_true (by rw[hd.2 hb]),?_⟩
    have hle:=aIi q W i m
    have y:=aTz (q:=q) hW hl hi hm hb (n:=(swT q W i m:Nat)) (by omega)
    rw[y,aIh]
    cases swB q W i m<;>simp
 rw[qX 206 aLb rfl];unfold aLb;dsimp only
 sym =>
  simp[Za,Zb,Zf,Zg,Zh,Zj,Zl,Zm,Zp,Zq,Zs,Zv,Zy,ZA,ZD,ZG,ZV,Ye,Yh,Ym,Yn,Yo,Yp,Yr,Yt,Y7,YE,YH,YM,YT,YV,Xu,Xy,Xz,XI,XJ,XN,Wc,Wm,Wn,Wq,Wr,Wt,Wu,Wy,WI,WK,WR,WV,WW,WX,Ve,Vh,Vl,V5,V6,V7,V8,V9,VA,VB,VC,VD,VE,VF,VG,VH,VI,VJ,VK,VL,VM,VN,VO,VP,VQ,VR,VS,VT,VV,VW,VX,VY,VZ,Ua,Ub,Uc,Ud,Ue,Uf,Ug,Uh,Ui,Uj,Uk,Ul,Ut,Uu,Uv,Uw,Ux,Uy,Uz,U1,U2,U3,U4,U6,U7,U8,U9,UA,UC,UE,UF,UG,UH,UJ,UL,UQ,UR,US,UT,UU,UV,UW,UX,UZ,Ta,Tb,Tc,Td,Te,Tf,Tg,Th,Ti,Tm,Tp,Ts,Tw,Tz,T0,T1,T4,T5,T6,T7,T8,T9,TA,TB,TC,TD,TE,TF,TG,Si,Sj,Sn,Sz,SA,SC,SD,SE,SF,SG,SJ,SL,SM,SN,SO,RF,RG,RX,Qg,Qi,Qk,Qu,Qw,Qx,Qz,Q0,QA,QW,QX,QY,QZ]
  tactic =>
   unfold aHH
   rw[bH (2^W.length) (fun m=>[.fn (.yield 0) [] [],.pt 5 0,.pt 6 0,Uq m]) (aMv q W i)]
   ·rw[sL (by omega)]
    (exact wC e0)
   ·unfold aMv
    (exact RS0)
   ·intro m hm
    have t1:((m:Int)≤((2^W.length-1:Nat):Int))=True:=eq_true (by omega)
    have c7:=aTR (a:=m) (by omega) (i:=i) (by omega)
    have u1:IntKind.u64.wrap ((m:Int)+1)=((m+1:Nat):Int):=by
     rw[show (m:Int)+1=((m+1:Nat):Int) by omega];exact kB sR (by omega)
    cases m with
    | zero =>
      rcases stp 0 hm with ⟨hb,_⟩|⟨_,h2,h3⟩
      ·simp at hb
      ·have s0:swT q W i 0=0:=rfl
       rw[s0]at h3
       unfold aMv
       have t1:((0:Int)≤((2^W.length-1:Nat):Int))=True:=t1
       have c7:runW aD 207 [.int .u64 0,.fs [[I (i:Nat)]]] []=some (.int .u64 ((dif 0 (2^i):Nat):Int),[]):=c7
       have h2:((0:Int)=((dif 0 (2^i):Nat):Int))=True:=h2
       have h3:runYW aD (.fn (.yield 0) [] []) [.int .u64 0] (yU q W i 0)=some (.bool true,yU q W i (swT q W i (0+1):Nat)):=h3
       (exact RS4 t1 c7 h2 h3)
    | succ m =>
      rw[sL (Nat.succ_pos m),sL (Nat.succ_pos (m+1))]
      rcases stp (m+1) hm with ⟨_,h2,h3⟩|⟨_,h2,h3⟩
      ·rw[h3]
       (exact RS4 t1 c7 u1 h2)
      ·(exact RS5 t1 c7 u1 h2 h3)
   ·rw[sL (by omega)]
    (exact wC e0)
end
section
variable {q:Int} {W:List Int}
def swg (q:Int) (W:List Int) (i:Nat):Int:=(swT q W i (2^W.length):Nat)
theorem aTX (hW:∀ v∈W,0≤v∧v≤1000000) (hl:W.length≤9) {i:Nat} (hi:i<W.length) :
 runW aD 184 [I (i:Nat),.pt 0 0,.pt 1 0] [hsX q W,fnX]=some (I (swg q W i),[hsX q W,fnX]):=by
 have c1:=aTW (q:=q) (W:=W) i
 have c2:runW aD 206 [.fn (.yield 0) [] [],.pt 5 0,.pt 6 0] [some (.loop 184 0 [.pt 1 0,.pt 2 0,.pt 3 0,.pt 4 0] .ready),hsX q W,fnX,some (.blk true (.cells true [I (i:Nat)])),some (.blk true (.cells true [I 0])),hsX q W,some (.blk false (.cells true [.sl 7 0 1 1])),some (.blk true (.cells true [I (i:Nat)]))] =
  some (.tup [],[some (.loop 184 0 [.pt 1 0,.pt 2 0,.pt 3 0,.pt 4 0] .ready),hsX q W,fnX,some (.blk true (.cells true [I (i:Nat)])),some (.blk true (.cells true [I (swT q W i (2^W.length):Nat)])),hsX q W,some (.blk true (.cells true [.fs [[I (i:Nat)]]])),none]):=aTS (q:=q) hW hl hi
 unfold hsA chB at *
 rw[qX 184 aHK rfl];unfold aHK swg;dsimp only
 (exact RS2 c1 c2)
def swL (q:Int) (W:List Int) (i:Nat):List Int:=(List.range i).map (swg q W)
theorem aOh (q:Int) (W:List Int) (i:Nat):swL q W (i+1)=swL q W i++[swg q W i]:=by
 unfold swL;rw[List.range_succ,List.map_append];rfl
theorem aBE (q:Int) (W:List Int) (i:Nat):(swL q W i).length=i:=by simp[swL]
def aLV:Nat→AV
 | 0=>.nilsl
 | i+1=>.sl 2 0 1 (i+1)
def aMw (q:Int) (W:List Int):Nat→XH
 | 0=>[hsX q W,fnX]
 | i+1=>[hsX q W,fnX,some (.blk true (.cells true ((swL q W (i+1)).map I)))]
theorem oH {i:Nat} (hi:0<i):aLV i = .sl 2 0 1 i:=by
 cases i with
 | zero=>omega
 | succ i=>rfl
theorem oW {i:Nat} (hi:0<i):aMw q W i=[hsX q W,fnX,some (.blk true (.cells true ((swL q W i).map I)))]:=by
 cases i with
 | zero=>omega
 | succ i=>rfl
theorem aOi (q:Int) (W:List Int) (n:Nat):bX ((swL q W n).map I) 0 1 n=wr (swL q W n):=by
 have h:=vY (f:=I) (swL q W n) []
 rw[aBE]at h
 exact h
theorem aTY (hW:∀ v∈W,0≤v∧v≤1000000) (h1:1≤W.length) (hl:W.length≤9) :
 runW aD 183 [hsA q W,.fn (.func 184) [] [.pt 0 0,.pt 1 0]] [hsX q W,fnX]=some (.fs (wr (swL q W W.length)),[hsX q W,fnX]):=by
 have e0:((W.length:Int)<(W.length:Int))=False:=eq_false (by omega)
 have sl:=aBE q W
 have ch:=aOi q W W.length
 rw[qX 183 aLh rfl];unfold aLh hsA chB;dsimp only
 sym =>
  simp[Za,Zb,Zd,Ze,Zf,Zh,Zl,Zm,Zo,Zv,Zz,Z8,ZA,ZG,ZV,Ye,Yh,Yl,Ym,Yn,Yt,Y7,YG,YP,YT,YV,Xu,Xz,XI,XJ,XL,XM,XY,Wb,Wc,Wk,Wm,Wr,Wt,Wu,Ww,Wx,WK,WV,Va,Vd,Vf,Vk,Vm,Vo,Vr,V5,V6,V7,V8,V9,VA,VB,VC,VD,VE,VF,VG,VH,VI,VJ,VL,VM,VN,VO,VP,VQ,VR,VS,VT,VU,VV,VW,VX,VZ,Ua,Ue,Uf,Ui,Uj,Uk,Ul,Ut,Uu,Uv,Uw,Ux,U6,U8,UB,UC,UE,UF,UG,UH,UI,UL,UM,UN,UO,UQ,UR,US,UT,UU,UV,UW,UX,UZ,Ta,Tb,Tc,Td,Te,Tf,Tg,Th,Ti,Tj,Tm,Tp,Tw,Tz,T0,T1,T2,T3,T4,T5,T6,T7,T8,T9,TA,TF,TG,TH,TI,TJ,TK,TQ,TR,TS,TT,TU,TV,TZ,Sa,Sc,Sd,Se,Sf,Sg,Si,Sj,Sn,Su,Sv,Sw,Sx,Sy,Sz,SA,SB,SC,SD,SE,SF,SG,SJ,SL,SM,SN,SO,Rq,Rr,Rz,Qg,Qi,Qk,QW,QX,QY,QZ]
  tactic =>
   unfold aHL
   rw[bH W.length (fun i=>[.fn (.func 184) [] [.pt 0 0,.pt 1 0],aLV i,I W.length,I (i:Nat)]) (fun i=>aMw q W i)]
   ·have l0:(W.length≤(swL q W W.length).length)=True:=eq_true (by rw[sl];omega)
    rw[oH h1,oW h1]
    (exact RS3 e0 ch l0)
   ·unfold aLV aMw
    (exact RS0)
   ·intro i hi
    have c:=aTX (q:=q) hW hl hi
    have t1:((i:Int)<(W.length:Int))=True:=eq_true (by omega)
    have a2:IntKind.i64.wrap ((i:Int)+1)=((i+1:Nat):Int):=by rw[aS (by omega) (by omega)];rfl
    cases i with
    | zero =>
      have e1:(swL q W (0+1)).map I=[I (swg q W 0)]:=rfl
      have z0:aLV 0 = .nilsl:=rfl
      have z1:aMw q W 0=[hsX q W,fnX]:=rfl
      have t1:((0:Int)<(W.length:Int))=True:=t1
      have c:runW aD 184 [I 0,.pt 0 0,.pt 1 0] [hsX q W,fnX]=some (I (swg q W 0),[hsX q W,fnX]):=c
      rw[z0,z1,oH (Nat.succ_pos 0),oW (Nat.succ_pos 0),e1]
      (exact RS2 t1 c)
    | succ i =>
      have e1:(swL q W (i+1+1)).map I=(swL q W (i+1)).map I++[I (swg q W (i+1))]:=by rw[aOh q W (i+1),List.map_append];rfl
      have l1:=sl (i+1)
      have b1:((i+1+1)*8≤1099511627776)=True:=eq_true (by omega)
      have b2:(i+1+1≤1099511627776)=True:=eq_true (by omega)
      have p1:0<i+1:=by omega
      have p2:0<i+1+1:=by omega
      rw[oH p1,oH p2,oW p1,oW p2,e1]
      generalize swL q W (i+1)=Z at *
      (exact RS6 t1 c a2 l1 b1 b2)
   ·rw[oH h1,oW h1]
    (exact wC e0)
theorem aUc (hq:1≤q∧q≤10000000) (hW:∀ v∈W,0≤v∧v≤1000000) (h1:1≤W.length) (hl:W.length≤9) :
 runW aD 159 [.agg [.sl 0 0 2 1],.fn (.func 160) [] []] [some (.blk false (.cells true [I q,.sl 1 0 1 W.length])),some (.blk true (.cells true (W.map I)))]=some (.tup [.fs (wr (swL q W W.length)),I 0],[none,none]):=by
 have c1:=aTZ hq hW h1 hl
 have c2:=aTY (q:=q) hW h1 hl
 have ch:(W.map fun v=>[AV.int .i64 v])=wr W:=rfl
 unfold chA hsA chB at *
 rw[qX 159 aLk rfl];unfold aLk;dsimp only
 (exact RS3 c1 c2 ch)
theorem aUd (hq:1≤q∧q≤10000000) (hW:∀ v∈W,0≤v∧v≤1000000) (h1:1≤W.length) (hl:W.length≤9) :
 runW aD 137 [.agg [.sl 0 0 2 1]] [some (.blk false (.cells true [I q,.sl 1 0 1 W.length])),some (.blk true (.cells true (W.map I)))]=some (.tup [.fs (wr (swL q W W.length)),I 0],[none,none]):=by
 have c1:=aUc hq hW h1 hl
 rw[qX 137 aLl rfl];unfold aLl;dsimp only
 (exact wC c1)
end
end Go.Proofs.YtmapgnepfgnphaaGreatDoor
namespace Go.DL
theorem oL {h:XH} {k:Nat} {acc:List Nat}:∀ (n:Nat) (l:List Nat),(∀ b∈l,b<k∨b∈acc)→bR h k n l acc=acc
 | 0,_,_=>rfl
 | n+1,[],_=>rfl
 | n+1,b::r,h1=>by
   unfold bR
   rw[if_pos (h1 b (by simp))]
   exact oL n r fun c hc=>h1 c (by simp[hc])
theorem rV {h k:XH} (cd:Cd h):∀ b∈(bK h.length (h++k)).flatMap nmO,b<h.length:=by
 rw[iA]
 intro b hb
 obtain⟨x,hx,hb⟩:=List.mem_flatMap.1 hb
 exact cd x hx b hb
theorem aJV {h k:XH} {n c:Nat} {r:List Nat} {x:XB} (hn:h.length=n) (cd:Cd h) {L:List Nat} {e:aB} (hv:iK (L.map e)=c::n::r) (hc:c<n) (hr:∀ b∈r,b<n) (hx:hat (h++k) n=some x) (hx0:nmO (some x)=[]):cG n L (some (.normal,e,h++k))=some (L.map e,h++[some x]):=by
 subst hn
 have hxb:nmB x=[]:=hx0
 have h1:bS h.length (L.map e) (h++k)=[h.length]:=by
  unfold bS
  have hf:=rV (k:=k) cd
  rw[hv]
  generalize (bK h.length (h++k)).flatMap nmO=fl at hf
  show bR (h++k) h.length 4096 (c::h.length::(r++fl)) []=_
  rw[bR,if_pos (.inl hc),bR,if_neg (by simp),hx]
  dsimp only
  rw[hxb]
  refine oL _ _ fun b hb=>?_
  rw[List.nil_append,List.mem_append]at hb
  exact .inl (hb.elim (hr b) (hf b))
 have hs:∀ b,b≤h.length→keepS h.length [h.length] b=some b:=fun b hb=>by
  unfold keepS
  by_cases hb2:b<h.length
  ·rw[if_pos hb2]
  ·have:b=h.length:=by omega
   subst this
   rw[if_neg hb2]
   simp[dW]
 rw[SM]
 unfold rB gU iM
 rw[h1,iA,aCk cd]
 rw[fK _ _ fun b hb=>by
  rw[hv]at hb
  rcases List.mem_cons.1 hb with rfl|hb
  ·exact hs _ (by omega)
  ·rcases List.mem_cons.1 hb with rfl|hb
   ·exact hs _ (by omega)
   ·exact hs _ (by have:=hr b hb;omega)]
 simp only[List.map_cons,List.map_nil,hx]
 rw[aBZ _ (some x) fun b hb=>by rw[hx0]at hb;cases hb]
theorem aJU {h k:XH} {n m c o z l:Nat} {r:List Nat} {y:XB} {q:AV} (hn:h.length=n) (cd:Cd h) {L:List Nat} {e:aB} (hv:iK (L.map e)=c::n::r) (hc:c<n) (hr:∀ b∈r,b<n) (hq:∃ i,q = .int .i64 i) (hx:hat (h++k) n=some (.blk false (.cells true [q,.sl m o z l]))) (hm:n<m) (hy:hat (h++k) m=some y) (hy0:nmO (some y)=[]) :
 cG n L (some (.normal,e,h++k))=some (L.map e,h++[some (.blk false (.cells true [q,.sl (n+1) o z l])),some y]):=by
 obtain⟨i,rfl⟩:=hq
 subst hn
 have hyb:nmB y=[]:=hy0
 have h1:bS h.length (L.map e) (h++k)=[h.length,m]:=by
  unfold bS
  have hf:=rV (k:=k) cd
  rw[hv]
  generalize (bK h.length (h++k)).flatMap nmO=fl at hf
  show bR (h++k) h.length 4096 (c::h.length::(r++fl)) []=_
  rw[bR,if_pos (.inl hc),bR,if_neg (by simp),hx]
  dsimp only
  show bR (h++k) h.length 4094 (m::(r++fl)) [h.length]=_
  rw[bR,if_neg (by simp;omega),hy]
  dsimp only
  rw[hyb]
  refine oL _ _ fun b hb=>?_
  rw[List.nil_append,List.mem_append]at hb
  exact .inl (hb.elim (hr b) (hf b))
 have hs:∀ b,b≤h.length→keepS h.length [h.length,m] b=some b:=fun b hb=>by
  unfold keepS
  by_cases hb2:b<h.length
  ·rw[if_pos hb2]
  ·have:b=h.length:=by omega
   subst this
   rw[if_neg hb2]
   simp[dW]
 have hsm:keepS h.length [h.length,m] m=some (h.length+1):=by
  unfold keepS
  rw[if_neg (by omega)]
  have h2:¬m=h.length:=by omega
  have h3:dW m [h.length,m]=some 1:=by simp[dW,h2]
  rw[h3,Option.map_some,Nat.add_comm]
 rw[SM]
 unfold rB gU iM
 rw[h1,iA,aCk cd]
 rw[fK _ _ fun b hb=>by
  rw[hv]at hb
  rcases List.mem_cons.1 hb with rfl|hb
  ·exact hs _ (by omega)
  ·rcases List.mem_cons.1 hb with rfl|hb
   ·exact hs _ (by omega)
   ·exact hs _ (by have:=hr b hb;omega)]
 simp only[List.map_cons,List.map_nil,hx,hy]
 rw[aBZ _ (some y) fun b hb=>by rw[hy0]at hb;cases hb]
 congr 2
 show h++[some (XB.blk false (.cells true (kC _ [.int .i64 i,.sl m o z l]))),_]=_
 simp only[kC,rnA,hsm]
end Go.DL
namespace Go.Proofs.YtmapgnepfgnphaaGreatDoor
open Go Go.DL
set_option maxRecDepth 100000
set_option maxHeartbeats 4000000
theorem aMI {h k:XH} {n c:Nat} {r:List Nat} {x:XB} (hn:h.length=n) (cd:Cd h) {L:List Nat} {q:Option (DX×aB×XH)} {vs:List AV} (hq:tV L q=some (.normal,vs,h++k)) (hv:iK vs=c::n::r) (hc:c<n) (hr:∀ b∈r,b<n) (hx:hat (h++k) n=some x) (hx0:nmO (some x)=[]):cG n L q=some (vs,h++[some x]):=by
 unfold tV at hq
 rw[Option.map_eq_some_iff]at hq
 obtain⟨⟨x,e,h2⟩,rfl,he⟩:=hq
 simp only[Prod.mk.injEq]at he
 obtain⟨rfl,rfl,rfl⟩:=he
 exact aJV hn cd hv hc hr hx hx0
theorem aGl {h k:XH} {n m c o z l:Nat} {r:List Nat} {y:XB} {a:AV} (hn:h.length=n) (cd:Cd h) {L:List Nat} {q:Option (DX×aB×XH)} {vs:List AV} (hq:tV L q=some (.normal,vs,h++k)) (hv:iK vs=c::n::r) (hc:c<n) (hr:∀ b∈r,b<n) (ha:∃ i,a = .int .i64 i) (hx:hat (h++k) n=some (.blk false (.cells true [a,.sl m o z l]))) (hm:n<m) (hy:hat (h++k) m=some y) (hy0:nmO (some y)=[]) :
 cG n L q=some (vs,h++[some (.blk false (.cells true [a,.sl (n+1) o z l])),some y]):=by
 unfold tV at hq
 rw[Option.map_eq_some_iff]at hq
 obtain⟨⟨x,e,h2⟩,rfl,he⟩:=hq
 simp only[Prod.mk.injEq]at he
 obtain⟨rfl,rfl,rfl⟩:=he
 exact aJU hn cd hv hc hr ha hx hm hy hy0
variable {h h' h1:XH} {L:CL} {s:dA} {x:ByteArray}
def bD (s:dA):List Int:=s.farmers.map fun p=>nT p.2 1000
def vC (s:dA):Int:=nT (bD s).sum 2+1
def xY (s:dA) (x:ByteArray):Int:=match fC (s.farmers.map (·.1)) x with
 | some i=>swg (vC s) (bD s) i
 | none=>0
def atS (ix i:Nat):Int:=if ix<i then (ix:Int) else 0
def kS (n:Nat) (W:List Int):Nat→XH
 | 0=>[some (.blk true (.cells true [I 0,.nilsl]))]
 | i+1=>[some (.blk false (.cells true [I 0,.sl (n+1) 0 1 (i+1)])),some (.blk true (.cells true ((W.take (i+1)).map I)))]
theorem aCo {n i:Nat} {W:List Int} (hi:0<i):kS n W i=[some (.blk false (.cells true [I 0,.sl (n+1) 0 1 i])),some (.blk true (.cells true ((W.take i).map I)))]:=by
 cases i with
 | zero=>omega
 | succ i=>rfl
theorem wK (s:dA):(bD s).length=s.farmers.length:=by simp[bD]
theorem aBA (gs:nS s):∀ v∈bD s,0≤v∧v≤30000:=by
 intro v hv
 obtain⟨p,hp,rfl⟩:=List.mem_map.1 hv
 have h1:=gs.fs p hp
 have h2:=gs.bf p hp
 have h3:=gs.book
 have h0:0≤p.2:=by
  rw[h1]
  unfold aBz
  have:∀ l:List CTk,(∀ k∈l,0≤k.net)→0≤(l.map fun k=>if k.farmer=p.1∧k.void=false then k.net else 0).sum:=by
   intro l
   induction l with
   | nil=>intro _;simp
   | cons k l ih =>
     intro hk
     have i1:=ih fun k' h'=>hk k' (List.mem_cons_of_mem _ h')
     have i2:=hk k (by simp)
     rw[List.map_cons,List.sum_cons]
     split<;>omega
  exact this _ fun k hk=>(gs.bt k hk).1
 unfold nT
 rw[Int.tdiv_eq_ediv_of_nonneg h0]
 omega
theorem aOk {l:List Int} {B:Int} (h:∀ v∈l,0≤v∧v≤B):0≤l.sum∧l.sum≤B*l.length:=by
 induction l with
 | nil=>simp
 | cons v r ih =>
   have h1:=h v (by simp)
   have h2:=ih fun w hw=>h w (List.mem_cons_of_mem v hw)
   rw[List.sum_cons,List.length_cons]
   have:B*((r.length+1:Nat):Int)=B*(r.length:Int)+B:=by
    rw[Int.natCast_add,Int.mul_add];simp
   omega
theorem aId (gs:nS s) (i:Nat):0≤((bD s).take i).sum∧((bD s).take i).sum≤300000:=by
 have h1:=aOk (l:=(bD s).take i) (B:=30000) fun v hv=>aBA gs v (List.mem_of_mem_take hv)
 have h2:((bD s).take i).length≤9:=by
  rw[List.length_take,wK]
  have:=gs.lf
  omega
 omega
theorem w98 (ly:Lays h L s) (gs:nS s) (cd:Cd h) {ix:Nat} (hx:fC (s.farmers.map (·.1)) x=some ix):∃ K,runW aD 98 [.pt L.c 0,.str x] h=some (I (xY s x),h++K):=by
 obtain⟨n,hn⟩:∃ n,h.length=n:=⟨_,rfl⟩
 obtain⟨g,hc⟩:=aC ly.hc
 unfold eG at hc
 have lc:L.c<n:=by rw[←hn];exact aI ly.hc
 have cn:(L.c<n)=True:=eq_true lc
 have hix:ix<s.farmers.length:=by
  have:=(List.getElem?_eq_some_iff.1 (fG hx)).1
  simpa using this
 have hk:0<s.farmers.length:=by omega
 have hk9:=gs.lf
 obtain⟨gw,hwo⟩:=ly.f.ho
 rw[List.length_map,pT hk]at hwo
 obtain⟨gb,hfb⟩:=ly.f.hb (by rw[List.length_map];exact hk)
 have lo:L.f.o<n:=by rw[←hn];exact ly.f.lts.1
 have lb:L.f.b<n:=by rw[←hn];exact ly.f.lts.2.2.1 (by rw[List.length_map];exact hk)
 have won:(L.f.o<n)=True:=eq_true lo
 have wbn:(L.f.b<n)=True:=eq_true lb
 obtain⟨e0,v0,_,_,_,call0⟩:=ly.f.getf hx
 have hWl:=wK s
 have bd:=aId gs
 have klt:((s.farmers.length:Int)<(s.farmers.length:Int))=False:=eq_false (by omega)
 have fin:((bD s).take s.farmers.length).sum=(bD s).sum:=by rw[List.take_of_length_le (by omega)]
 have fin2:(bD s).take s.farmers.length=bD s:=by rw[List.take_of_length_le (by omega)]
 have nm:∀ i:Nat,iK [.pt L.c 0,.str x,.pt n 0,I (atS ix i),I ((bD s).take i).sum,.sl L.f.b 0 1 s.farmers.length,I s.farmers.length,I (i:Nat)]=L.c::n::[L.f.b]:=fun i=>rfl
 have hr:∀ b∈[L.f.b],b<n:=fun b hb=>by rw[List.mem_singleton.1 hb];exact lb
 refine⟨[some (.blk false (.cells true [I (vC s),.sl (n+1) 0 1 s.farmers.length])),none,none],?_⟩
 rw[qY 98 x98 rfl,hn];unfold x98;dsimp only
 sym =>
  simp[mD,mE,tK,Za,Zb,Zc,Zf,Zh,Zl,Zm,Zv,Zw,Z0,Z9,ZG,ZS,ZV,ZZ,Ya,Ye,Yh,Ym,Yt,Yw,Xq,Xt,XY,Wh,Vc,Vh,Vr,V5,V6,V7,V8,V9,VB,VC,VD,VE,UQ,UZ,Ta,Tb,Td,Te,Th,Ti,Tp,Tw,T9,TA,TF,TG,TH,TI,Si,Sj,Sn,Sp,Sq,SA,SE,SF,SN,SO,QV,QX,QZ,Pe,Pf,Pj,Pl,hn,hc,cn,hwo,won,call0]
  tactic =>
   unfold aNc
   rw[bH s.farmers.length (fun i=>[.pt L.c 0,.str x,.pt n 0,I (atS ix i),I ((bD s).take i).sum,.sl L.f.b 0 1 s.farmers.length,I s.farmers.length,I (i:Nat)]) (fun i=>h++kS n (bD s) i)]
   ·rw[aCo hk,fin2]
    have q0:vC s=nT (bD s).sum 2+1:=rfl
    have b0:=bd s.farmers.length
    rw[fin]at b0
    have td:0≤nT (bD s).sum 2∧nT (bD s).sum 2≤300000:=by
     unfold nT
     rw[Int.tdiv_eq_ediv_of_nonneg b0.1]
     omega
    have a1:IntKind.i64.wrap (nT (bD s).sum 2)=nT (bD s).sum 2:=aS (by omega) (by omega)
    have a2:IntKind.i64.wrap (nT (bD s).sum 2+1)=vC s:=by rw[aS (by omega) (by omega)];rfl
    have c137:=aUd (q:=vC s) (W:=bD s) (by omega) (fun v hv=>by have:=aBA gs v hv;omega) (by omega) (by omega)
    rw[hWl]at c137
    have hat1:atS ix s.farmers.length=(ix:Int):=by unfold atS;rw[if_pos hix]
    have sl:=aBE (vC s) (bD s) s.farmers.length
    have wl:=wF (swL (vC s) (bD s) s.farmers.length)
    rw[sl]at wl
    have sg:(swL (vC s) (bD s) s.farmers.length)[ix]?=some (swg (vC s) (bD s) ix):=by
     unfold swL
     rw[List.getElem?_map,List.getElem?_range hix];rfl
    have wg:=aHM sg
    have pw:xY s x=swg (vC s) (bD s) ix:=by unfold xY;rw[hx]
    have ixn:((ix:Int)<(s.farmers.length:Int))=True:=eq_true (by omega)
    have m1:(n+1=n+2)=False:=eq_false (by omega)
    have m2:(n+2=n+1)=False:=eq_false (by omega)
    have m3:(n+1<0)=False:=eq_false (by omega)
    have m4:(n+2<0)=False:=eq_false (by omega)
    rw[hat1,pw]
    (sym=>(simp[mD,mE,tK,Za,Zb,Zc,Zd,Ze,Zf,Zh,Zl,Zm,Zo,Zv,Z0,Z8,ZA,ZG,ZI,ZR,ZV,ZZ,Ya,Ye,Yh,Ym,Yn,Yt,Y4,Y5,Y6,Y7,YG,YM,YN,Xq,Xu,Xx,XI,XY,Wb,We,Wh,Wm,Wp,Wq,Wr,Wt,Vo,Vr,Vt,V5,V6,V7,V8,V9,VA,VB,VC,VE,VF,VG,VH,VI,VL,VM,VN,VO,VQ,VR,VV,VW,VX,VY,VZ,Ua,Ub,Uf,Ug,Ui,Uj,Uk,Ul,UH,UI,UL,UM,UN,UO,UR,UU,UW,Ta,Tb,Tc,Td,Te,Th,Ti,Tm,Tp,Tr,Tw,Tz,T1,T2,T3,T4,T5,T6,T7,T8,T9,TA,TH,TI,TJ,TK,TS,TT,TU,TV,Sg,Si,Sj,Sk,Sl,Sm,Sn,Sp,Sq,Su,Sz,SA,SB,SD,SF,SG,SL,SN,SO,Rp,Rz,QW,QX,QY,QZ,Pe,Pf,Pg,Pj,Pk,Pl,Pm,Po,Pp,hn,klt,a1,a2,c137,wl,wg,ixn,m1,m2,m3,m4];all_goals tactic=>exact rfl))
   ·exact aMI hn cd (k:=[some (.blk true (.cells true [I 0,.nilsl]))]) rfl (nm 0) lc hr (by rw[bO,if_neg (by omega),hn,Nat.sub_self];rfl) rfl
   ·intro i hi
    obtain⟨⟨q,y⟩,hq⟩:∃ p,s.farmers[i]?=some p:=⟨_,List.getElem?_eq_getElem hi⟩
    have hqk:(s.farmers.map (·.1))[i]?=some q:=by rw[List.getElem?_map,hq];rfl
    have hxq:=aBb gs.nf hqk
    obtain⟨e,v,he,hv,hev,_⟩:=ly.f.getf hxq
    obtain⟨e',v',he',_,_,call⟩:=(ly.ext (kS n (bD s) i)).f.getf hxq
    rw[he]at he'
    cases he'
    rw[List.getElem?_map,hq]at hv
    cases hv
    have hev:aE h e=some (.cells true [I y]):=hev
    have en:(e<n)=True:=eq_true (by rw[←hn];exact aI hev)
    obtain⟨ge,hee⟩:=aC hev
    have t1:((i:Int)<(s.farmers.length:Int))=True:=eq_true (by omega)
    have hWi:(bD s)[i]?=some (nT y 1000):=by unfold bD;rw[List.getElem?_map,hq];rfl
    have tb:=aBA gs _ (List.mem_of_getElem? hWi)
    have hs1:((bD s).take (i+1)).sum=((bD s).take i).sum+nT y 1000:=by
     rw[List.take_add_one,hWi];simp
    have b1:=bd (i+1)
    rw[hs1]at b1
    have a1:IntKind.i64.wrap (nT y 1000)=nT y 1000:=aS (by omega) (by omega)
    have a2:IntKind.i64.wrap (((bD s).take i).sum+nT y 1000)=((bD s).take i).sum+nT y 1000:=aS (by omega) (by omega)
    have a3:IntKind.i64.wrap ((i:Int)+1)=((i+1:Nat):Int):=by rw[aS (by omega) (by omega)];rfl
    have ht1:((bD s).take (i+1)).map I=((bD s).take i).map I++[I (nT y 1000)]:=by
     rw[List.take_add_one,hWi,List.map_append];rfl
    have mq1:Option.map Prod.fst (some (q,y))=some q:=rfl
    have mq2:Option.map AV.str (some q)=some (.str q):=rfl
    have key:(cF .eql q x=some (.bool true)∧atS ix (i+1)=(i:Int))∨(cF .eql q x=some (.bool false)∧atS ix (i+1)=atS ix i):=by
     by_cases hqx:q=x
     ·refine .inl ⟨by rw[vJ,decide_eq_true hqx],?_⟩
      rw[hqx,hx]at hxq
      cases hxq
      unfold atS;rw[if_pos (by omega)]
     ·refine .inr ⟨by rw[vJ,decide_eq_false hqx],?_⟩
      have hne:ix≠i:=fun q1=>by
       subst q1
       have h2:=fG hx
       rw[h2]at hqk
       exact hqx (Option.some.inj hqk).symm
      unfold atS
      by_cases h3:ix<i
      ·rw[if_pos h3,if_pos (by omega)]
      ·rw[if_neg h3,if_neg (by omega)]
    rw[aCo (Nat.zero_lt_succ i)]
    cases i with
    | zero =>
      have e1:((bD s).take (0+1)).map I=[I (nT y 1000)]:=by rw[ht1];rfl
      rw[e1]
      refine aGl hn cd (k:=[some (.blk false (.cells true [I 0,.sl (n+2) 0 1 1])),some (.blk true (.cells true [I (nT y 1000)])),some (.blk true (.cells true [I (nT y 1000)]))]) ?_ (nm (0+1)) lc hr ⟨0,rfl⟩ (by rw[bO,if_neg (by omega),hn,Nat.sub_self];rfl) (by omega) (by rw[bO,if_neg (by omega),show n+2-h.length=2 by omega];rfl) rfl
      have t1:((0:Int)<(s.farmers.length:Int))=True:=t1
      have s0:((bD s).take 0).sum=0:=rfl
      rw[hs1,s0]
      rw[s0]at a2 b1
      have a2:IntKind.i64.wrap (0+nT y 1000)=0+nT y 1000:=a2
      have k0:kS n (bD s) 0=[some (.blk true (.cells true [I 0,.nilsl]))]:=rfl
      rw[k0]at call ⊢
      have z1:atS ix 0=0:=by unfold atS;rw[if_neg (by omega)]
      rcases key with ⟨k1,k2⟩|⟨k1,k2⟩
      ·rw[k2,z1]
       (sym=>(simp[mD,mE,tK,Za,Zb,Zc,Zd,Ze,Zf,Zh,Zl,Zm,Zo,Zv,Z8,Z9,ZA,ZG,ZI,ZV,ZZ,Ya,Ye,Yh,Yl,Ym,Yt,Yz,Y7,YG,YP,YR,YT,YV,Xt,XY,We,Vo,Vt,V5,V6,V7,V8,V9,VA,VB,VC,VE,UR,UU,UV,Ta,Tb,Tc,Td,Te,Th,Ti,Tl,Tm,Tp,Tr,Tw,T0,T1,T2,T3,T9,TA,TH,TI,TJ,TK,TS,TT,TU,TV,TZ,Sa,Sc,Sd,Si,Sj,Sn,Sp,Sq,Su,Sw,Sx,Sy,Sz,S9,SA,SC,SE,SF,SJ,SN,SO,Rp,Rz,QV,QX,QZ,Pe,Pf,Pg,Pj,Pk,Pl,Pm,hn,t1,hfb,hq,mq1,mq2,hc,hwo,call,hee,a1,a2,k1,cn,won,wbn,en];all_goals tactic=>exact rfl))
      ·rw[k2,z1]
       (sym=>(simp[mD,mE,tK,Za,Zb,Zc,Zd,Ze,Zf,Zh,Zl,Zm,Zo,Zv,Z8,Z9,ZA,ZG,ZI,ZV,ZZ,Ya,Ye,Yh,Yl,Ym,Yt,Yz,Y7,YG,YP,YR,YT,YV,Xt,XY,We,Vo,Vt,V5,V6,V7,V8,V9,VA,VB,VC,VE,UR,UU,UV,UW,Ta,Tb,Tc,Td,Te,Th,Ti,Tl,Tm,Tp,Tr,Tw,T0,T1,T2,T3,T9,TA,TH,TI,TJ,TK,TS,TT,TU,TV,TZ,Sa,Sc,Sd,Si,Sj,Sn,Sp,Sq,Su,Sw,Sx,Sy,Sz,S9,SA,SC,SE,SF,SJ,SN,SO,Rp,Rz,QV,QX,QZ,Pe,Pf,Pg,Pj,Pk,Pl,Pm,hn,t1,hfb,hq,mq1,mq2,hc,hwo,call,hee,a1,a2,k1,cn,won,wbn,en];all_goals tactic=>exact rfl))
    | succ i =>
      have pi:0<i+1:=by omega
      rw[ht1,hs1]
      rw[aCo pi]at call ⊢
      refine aGl hn cd (k:=[some (.blk false (.cells true [I 0,.sl (n+3) 0 1 (i+1+1)])),none,some (.blk true (.cells true [I (nT y 1000)])),some (.blk true (.cells true (((bD s).take (i+1)).map I++[I (nT y 1000)])))]) ?_ (by rw[←hs1];exact nm (i+1+1)) lc hr ⟨0,rfl⟩ (by rw[bO,if_neg (by omega),hn,Nat.sub_self];rfl) (by omega) (by rw[bO,if_neg (by omega),show n+3-h.length=3 by omega];rfl) rfl
      have tl:((bD s).take (i+1)).length=i+1:=by rw[List.length_take];omega
      have b2:((i+1+1)*8≤1099511627776)=True:=eq_true (by omega)
      have b3:(i+1+1≤1099511627776)=True:=eq_true (by omega)
      generalize ((bD s).take (i+1)).sum=S0 at *
      generalize (bD s).take (i+1)=W0 at *
      rcases key with ⟨k1,k2⟩|⟨k1,k2⟩
      ·rw[k2]
       (sym=>(simp[mD,mE,tK,Za,Zb,Zc,Zd,Ze,Zf,Zh,Zl,Zm,Zo,Zv,Z8,Z9,ZA,ZG,ZI,ZV,ZZ,Ya,Ye,Yh,Yl,Ym,Yt,Yz,Y7,YG,YM,YN,Xt,XY,We,Vo,Vt,V5,V6,V7,V8,V9,VA,VB,VC,VE,UR,UU,UV,Ta,Tb,Tc,Td,Te,Th,Ti,Tj,Tl,Tm,Tp,Tr,Tw,T0,T1,T2,T3,T9,TA,TH,TI,TJ,TK,TS,TT,TU,TV,TZ,Sa,Sc,Se,Sf,Si,Sj,Sn,Sp,Sq,Su,Sv,Sw,Sx,Sz,S9,SA,SC,SE,SF,SJ,SN,SO,Rp,Rq,Rr,Rz,QV,QX,QZ,Pe,Pf,Pg,Pj,Pk,Pl,Pm,hn,t1,hfb,hq,mq1,mq2,hc,hwo,call,hee,a1,a2,a3,k1,cn,won,wbn,en,tl,b2,b3];all_goals tactic=>exact rfl))
      ·rw[k2]
       (sym=>(simp[mD,mE,tK,Za,Zb,Zc,Zd,Ze,Zf,Zh,Zl,Zm,Zo,Zv,Z8,Z9,ZA,ZG,ZI,ZV,ZZ,Ya,Ye,Yh,Yl,Ym,Yt,Yz,Y7,YG,YM,YN,Xt,XY,We,Vo,Vt,V5,V6,V7,V8,V9,VA,VB,VC,VE,UR,UU,UV,UW,Ta,Tb,Tc,Td,Te,Th,Ti,Tj,Tl,Tm,Tp,Tr,Tw,T0,T1,T2,T3,T9,TA,TH,TI,TJ,TK,TS,TT,TU,TV,TZ,Sa,Sc,Se,Sf,Si,Sj,Sn,Sp,Sq,Su,Sv,Sw,Sx,Sz,S9,SA,SC,SE,SF,SJ,SN,SO,Rp,Rq,Rr,Rz,QV,QX,QZ,Pe,Pf,Pg,Pj,Pk,Pl,Pm,hn,t1,hfb,hq,mq1,mq2,hc,hwo,call,hee,a1,a2,a3,k1,cn,won,wbn,en,tl,b2,b3];all_goals tactic=>exact rfl))
   ·rw[aCo hk]
    (sym=>(simp[mD,mE,tK,Za,Zb,Zf,Zh,Zl,Zm,ZA,YG,UR,UU,UW,UX,T1,Sg,Sz,SA,SD,SF,SG,SN,hn,klt];all_goals tactic=>exact rfl))
variable {h h' h1:XH} {L:CL} {s:dA} {x:ByteArray}
theorem aOe {q:Int} {W:List Int} {i:Nat} (h:W.length≤9):0≤swg q W i∧swg q W i≤1000:=by
 have p2:2^W.length≤2^9:=Nat.pow_le_pow_right (by omega) h
 have:=aIi q W i (2^W.length)
 unfold swg
 omega
theorem aOF (gs:nS s) : -1000000≤xY s x∧xY s x≤1000000:=by
 unfold xY
 split
 ·have:=aOe (q:=vC s) (W:=bD s) (i:=by assumption) (by rw[wK];exact gs.lf)
  omega
 ·omega
theorem aMy (h k:XH):Frz h.length h (h++k):=fun j c hc _=>by
 rw[eQ,if_pos (aI hc)];exact hc
variable {h h' h1:XH} {L:CL} {s:dA} {x line:ByteArray} {w:Wd} {v:AV}
def Wd.few:Wd→Bool
 | .farmer _ | .wagon .. | .net _ | .total | .power _=>true
 | _=>false
def uE (s:dA) (line:ByteArray):Prop:=∃ w v,rd line = .inr w∧w.few=true∧runW aD 60 [.str line] []=some (v,[])∧IsW w v∧(w.asks=false→qW s w=none∧s.book.length<300)∧(w.asks=true→∃ a,aCz xY s w = .inr a)
noncomputable def sayA (s:dA) (line:ByteArray):ByteArray×dA:=aBM xY s line (rd line)
theorem aKe (hf:uE s line) (ly:Lays h L s) (cd:Cd h) (gs:nS s):aMU h L line (sayA s line).2 (sayA s line).1∧nS (sayA s line).2:=by
 obtain⟨w,v,hr,hk,hp,hw,h1,h2⟩:=hf
 unfold sayA
 rw[hr]
 unfold aBM
 dsimp only
 cases ha:w.asks with
 | false =>
   obtain⟨hc,hlt⟩:=h1 ha
   simp only[Bool.false_eq_true,if_false]
   rw[hc]
   dsimp only
   rw[if_neg (by omega)]
   have co:∀ k:XH,aGt (h++k) L s v (doW s w):=fun k=>by
    cases w with
    | farmer x=>exact aFe (ly.ext k) gs hw hc
    | wagon x y a b=>exact aHr (ly.ext k) gs hw hc
    | net x=>cases ha
    | total=>cases ha
    | power x=>cases ha
    | _=>cases hk
   refine⟨aIA ly hp hw hlt co,?_⟩
   cases w with
   | farmer x=>exact aDG gs hw hc hlt
   | wagon x y a b=>exact aEO gs hw hc hlt
   | net x=>cases ha
   | total=>cases ha
   | power x=>cases ha
   | _=>cases hk
 | true =>
   obtain⟨a,hq⟩:=h2 ha
   simp only[if_true]
   rw[hq]
   refine⟨?_,gs⟩
   have bxs:∀ cs:List AV,∀ x∈[some (XB.blk false (.cells true [.pt L.c 0])),some (.blk true (.cells true cs))],∀ b∈nmO x,b=L.c:=fun cs x hx b hb=>by
    simp only[List.mem_cons,List.not_mem_nil,or_false]at hx
    rcases hx with rfl|rfl
    ·simpa [nmO,nmB,iK,gI]using hb
    ·simp[nmO,nmB]at hb
   cases w with
   | net x =>
     obtain⟨z0,rfl⟩:=id hw
     unfold aCz at hq
     dsimp only at hq
     split at hq
     ·cases hq
     ·rename_i y hv
      cases hq
      obtain⟨i,hi,hy⟩:=iY hv
      have:=gs.bf _ (List.mem_of_getElem? hy)
      have hbk:=gs.book
      exact vM ly cd hp hw (fun k=>⟨_,aNU,bxs _⟩) fun hh lyh _=>⟨_,aNT lyh hi hy (by simp only at this;omega),(Fr.app hh _).frz⟩
   | total =>
     obtain rfl:=id hw
     cases hq
     by_cases hk:s.farmers.length=0
     ·exact vM ly cd hp hw (fun k=>⟨_,aCH,bxs _⟩) fun hh lyh cdh=>⟨_,aGz lyh cdh hk,(Fr.refl [] hh).frz⟩
     ·exact vM ly cd hp hw (fun k=>⟨_,aCH,bxs _⟩) fun hh lyh cdh=>⟨_,aHP lyh cdh (by omega) gs.lf gs.nf (fun p hp=>by have:=gs.bf p hp;have:=gs.book;omega),(Fr.refl [] hh).frz⟩
   | power x =>
     obtain⟨z0,rfl⟩:=id hw
     unfold aCz at hq
     dsimp only at hq
     split at hq
     ·cases hq
     ·rename_i y hv
      cases hq
      obtain⟨i,hi,_⟩:=iY hv
      exact vM ly cd hp hw (fun k=>⟨_,aHS,bxs _⟩) fun hh lyh cdh=>by
       have pb:=aOF (x:=x) gs
       obtain⟨K,hK⟩:=w98 (lyh.ext [some (.blk true (.cells true [.str ⟨⟨[112,111,119,101,114]⟩⟩,.fs [[.str x]],.fs [[I z0]]]))]) gs (aFg cdh fun x hx b hb=>by
        rw[List.mem_singleton]at hx
        subst hx
        simp[nmO,nmB]at hb) hi
       exact⟨_,aHQ hK (by omega),(Fr.app hh _).frz.trans fun j c hc hn=>aMy _ _ j c hc (hn.mono (by simp))⟩
   | farmer x=>cases ha
   | wagon x y a b=>cases ha
   | _=>cases hk
theorem aOC {D:Nat→Option XFn}:gM D 21 (pmSayG uE sayA):=aOD fun _ _ _ _ hf ly cd gs=>aKe hf ly cd gs
end Go.Proofs.YtmapgnepfgnphaaGreatDoor
namespace Go.Proofs.YtmapgnepfgnphaaGreatDoor
open Go Go.DL Go.Proofs.Tryz
set_option maxRecDepth 100000
set_option maxHeartbeats 4000000
noncomputable def progG (K:Nat):Option XFn:=match K with
 | 19=>some (lR aFN)
 | 21=>some (lR (pmSayG uE sayA))
 | K=>aD K
theorem aJf:XOk prog progG:=by
 refine XOk.over progX_ok fun K d hd=>?_
 unfold progG at hd
 split at hd
 ·cases hd;exact .inr ⟨_,_,rfl,aRP⟩
 ·cases hd;exact .inr ⟨_,_,rfl,aOC⟩
 ·unfold aD at hd
  split at hd
  ·cases hd;exact .inr ⟨_,_,rfl,aNF⟩
  ·cases hd;exact .inr ⟨_,_,rfl,aNE⟩
  ·unfold aH at hd
   split at hd
   ·cases hd;exact .inr ⟨_,_,rfl,aJp⟩
   ·cases hd;exact .inr ⟨_,_,rfl,aJo⟩
   ·cases hd;exact .inr ⟨_,_,rfl,aJn⟩
   ·cases hd;exact .inr ⟨_,_,rfl,aJm⟩
   ·cases hd;exact .inr ⟨_,_,rfl,aJl⟩
   ·cases hd;exact .inr ⟨_,_,rfl,aJk⟩
   ·cases hd;exact .inr ⟨_,_,rfl,aJj⟩
   ·cases hd;exact .inr ⟨_,_,rfl,aJi⟩
   ·cases hd;exact .inr ⟨_,_,rfl,aJh⟩
   ·cases hd;exact .inr ⟨_,_,rfl,aEz⟩
   ·cases hd;exact .inr ⟨_,_,rfl,aEy⟩
   ·cases hd;exact .inr ⟨_,_,rfl,aJg⟩
   ·exact .inl ⟨hd,aMg hd⟩
noncomputable abbrev gK (s:dA):Option XB:=some (.gh s (IsClk s))
theorem g21 (s:dA) (line:ByteArray) (hf:uE s line):runW progG 21 [.pt 0 0,.str line] [gK s]=some (.str (sayA s line).1,[gK (sayA s line).2]):=by
 rw[lJ (d:=lR (pmSayG uE sayA)) rfl rfl]
 show pmSayG uE sayA [.pt 0 0,.str line] [gK s]=_
 unfold pmSayG
 exact if_pos ⟨rfl,hf⟩
theorem g19:runW progG 19 [] []=some (.pt 0 0,[gK qJ]):=by
 rw[lJ (d:=lR aFN) rfl rfl];rfl
theorem g13:runW progG 13 [] []=some (.bool true,[]):=by
 rw[lJ (d:=lR vQ) rfl rfl];rfl
theorem aTc {vs:List AV} {h:XH} (hl:vs.length≤x33.N):runW progG 33 vs h=lN none x33.res x33.ownR h.length (execW progG 33 h.length none x33.body (aW (if x33.ownA then vs else nJ vs)) h):=vN rfl hl h rfl
def iU:Nat→Nat→List UInt8
 | 0,_=>[]
 | f+1,n=>if n<10 then [UInt8.ofNat (48+n)] else iU f (n/10)++iU f (n%10)
theorem aKw {c:Nat} (h:c<256):Option.map (fun l=>AV.str { data:={ toList:=l } }) (fR [.int .u8 (c:Int)])=some (.str ⟨⟨[UInt8.ofNat c]⟩⟩):=by
 simp only[fR]
 first|rfl|simp
theorem vE {c:Nat} (h:c<256):IntKind.u8.wrap (c:Int)=(c:Int):=by
 simp[IntKind.wrap,IntKind.bits,IntKind.signed];omega
theorem aWS {n:Nat} (h:n<10):runW progG 33 [I (n:Nat)] []=some (.str ⟨⟨[UInt8.ofNat (48+n)]⟩⟩,[]):=by
 rw[aTc (by simp[x33])];unfold x33;dsimp only
 have t1:((n:Int)<10)=True:=eq_true (by omega)
 have a1:IntKind.i64.wrap (48+(n:Int))=((48+n:Nat):Int):=by rw[aS (by omega) (by omega)];omega
 have a2:=vE (c:=48+n) (by omega)
 have a3:=aKw (c:=48+n) (by omega)
 (sym=>(simp[mD,mE,tK,Za,Zb,Zd,Ze,Zf,Zh,Zl,Zm,Zo,Zv,Z8,ZA,ZF,Ys,Y7,YG,Xw,XY,Wo,WG,Va,Vc,Vo,V5,V6,V7,V9,VA,VB,VC,VD,VL,VP,VR,VS,VT,Uw,UB,UC,UE,UF,UG,UH,UI,UL,UM,UN,UO,UQ,UU,UV,UZ,Ta,Tb,Td,Te,Tg,Th,Ti,Tp,Tw,T0,T2,T3,T5,T6,T9,TA,TF,TG,TH,TI,TJ,TK,TS,TT,TU,TV,TZ,Sa,Su,Sz,SA,SB,SF,SI,SN,SO,Rz,Qg,QS,QT,QU,t1,a1,a2,a3];all_goals tactic=>exact rfl))
theorem mM (a b:List UInt8):(⟨⟨a⟩⟩:ByteArray)++⟨⟨b⟩⟩=⟨⟨a++b⟩⟩:=by
 apply ByteArray.ext
 simp[ByteArray.data_append]
theorem g33:∀ (f n:Nat),0<f→f≤10→n<10^f→(iU f n).length≤f∧runW progG 33 [I (n:Nat)] []=some (.str ⟨⟨iU f n⟩⟩,[])
 | 0,_,h,_,_=>by omega
 | f+1,n,_,hf,hn=>by
   by_cases h10:n<10
   ·unfold iU
    rw[if_pos h10]
    exact⟨by simp,aWS h10⟩
   ·have f0:0<f:=by
     rcases Nat.eq_zero_or_pos f with rfl|h
     ·simp at hn;omega
     ·exact h
    have hd:n/10<10^f:=by
     rw[Nat.pow_succ]at hn
     omega
    obtain⟨l1,c1⟩:=g33 f (n/10) f0 (by omega) hd
    have hm:n%10<10^f:=by
     have:10^1≤10^f:=Nat.pow_le_pow_right (by omega) f0
     omega
    obtain⟨_,c2⟩:=g33 f (n%10) f0 (by omega) hm
    have hdl:iU f (n%10)=[UInt8.ofNat (48+n%10)]:=by
     cases f with
     | zero=>omega
     | succ f=>unfold iU;rw[if_pos (by omega)]
    have e:iU (f+1) n=iU f (n/10)++iU f (n%10):=by rw[iU,if_neg h10]
    rw[e]
    have l2:(iU f (n%10)).length=1:=by rw[hdl];rfl
    refine⟨by rw[List.length_append];omega,?_⟩
    have t1:((n:Int)<10)=False:=eq_false (by omega)
    have q1:nT (n:Int) 10=((n/10:Nat):Int):=aNY n 10
    have q2:tmZ (n:Int) 10=((n%10:Nat):Int):=aBB n 10
    have big:(10:Nat)^(f+1)≤10^10:=Nat.pow_le_pow_right (by omega) hf
    have q3:IntKind.i64.wrap ((n/10:Nat):Int)=((n/10:Nat):Int):=aS (by omega) (by omega)
    have sa:=jQ (a:=⟨⟨iU f (n/10)⟩⟩) (b:=⟨⟨iU f (n%10)⟩⟩) (by rw[oE,oE];omega)
    rw[mM]at sa
    rw[aTc (by simp[x33])];unfold x33;dsimp only
    (sym=>(simp[mD,mE,tK,Za,Zb,Zf,Zh,Zl,Zm,Zv,ZA,Ye,Yh,Ym,Yn,YG,Xu,Xw,Wm,Wo,WG,Va,Vc,VC,VD,VL,VO,VP,VQ,VS,VT,VV,VW,Ui,Uj,Uk,Uw,UB,UC,UE,UF,UG,UH,UI,UL,UM,UN,UO,UQ,UU,UW,UZ,Ta,Tb,Td,Te,Tg,Ti,T1,T4,T5,T6,T7,T8,TF,TG,Sz,S9,SA,SB,SC,SF,SN,SO,Qg,QW,QX,QY,QZ,t1,q1,q2,q3,c1,c2,sa];all_goals tactic=>exact rfl))
end Go.Proofs.YtmapgnepfgnphaaGreatDoor
namespace Go.Proofs.YtmapgnepfgnphaaGreatDoor
open Go Go.DL
set_option maxRecDepth 100000
set_option maxHeartbeats 4000000
theorem aMG:∀ m:Nat,m<32→el m=(if m.testBit 0 then [0] else [])++((if m.testBit 1 then [1] else [])++((if m.testBit 2 then [2] else [])++((if m.testBit 3 then [3] else [])++(if m.testBit 4 then [4] else [])))):=by decide +kernel
theorem aQt {m:Nat} (hm:m<32) (a b c d e:Int):wgt [a,b,c,d,e] m=(if m.testBit 0 then a else 0)+(if m.testBit 1 then b else 0)+(if m.testBit 2 then c else 0)+(if m.testBit 3 then d else 0)+(if m.testBit 4 then e else 0):=by
 unfold wgt
 rw[aMG m hm]
 generalize m.testBit 0=b0
 generalize m.testBit 1=b1
 generalize m.testBit 2=b2
 generalize m.testBit 3=b3
 generalize m.testBit 4=b4
 cases b0<;>cases b1<;>cases b2<;>cases b3<;>cases b4<;>simp[wS]
def rP (e:Nat):List Nat:=(List.range 5).map fun i=>(i+e)%5
def gN (e m:Nat):Nat:=((List.range 5).map fun p=>if m.testBit p then 2^((p+e)%5) else 0).sum
theorem tS:∀ e:Nat,e<5→∀ m:Nat,m<32→∀ p:Nat,p<5→(gN e m).testBit ((p+e)%5)=m.testBit p:=by decide +kernel
theorem aTe:∀ e:Nat,e<5→∀ m:Nat,m<32→∀ p:Nat,p<5→gN e (m|||2^p)=gN e m|||2^((p+e)%5):=by decide +kernel
theorem aTf:∀ e:Nat,e<5→∀ m:Nat,m<32→gN e m<32:=by decide +kernel
theorem aRT:∀ m:Nat,m<32→∀ p:Nat,p<5→m|||2^p<32:=by decide +kernel
theorem aMu:∀ e:Nat,e<5→((List.range 32).map (gN e)).isPerm (List.range 32)=true:=by decide +kernel
theorem aFq {e:Nat} (he:e<5) (T:Nat→Int) {m:Nat} (hm:m<32):wgt ((rP e).map T) m=wgt ((List.range 5).map T) (gN e m):=by
 have hg:=aTf e he m hm
 have h0:=tS e he m hm 0 (by omega)
 have h1:=tS e he m hm 1 (by omega)
 have h2:=tS e he m hm 2 (by omega)
 have h3:=tS e he m hm 3 (by omega)
 have h4:=tS e he m hm 4 (by omega)
 have e5:(List.range 5).map T=[T 0,T 1,T 2,T 3,T 4]:=rfl
 have er:(rP e).map T=[T ((0+e)%5),T ((1+e)%5),T ((2+e)%5),T ((3+e)%5),T ((4+e)%5)]:=rfl
 rw[e5,er,aQt hm,aQt hg,←h0,←h1,←h2,←h3,←h4]
 clear h0 h1 h2 h3 h4 e5 er
 generalize gN e m=G
 rcases (by omega:e=0∨e=1∨e=2∨e=3∨e=4)with rfl|rfl|rfl|rfl|rfl
 all_goals
  simp only[Nat.reduceAdd,Nat.reduceMod]
  try omega
theorem aFv {e:Nat} (he:e<5) (T:Nat→Int):((rP e).map T).sum=((List.range 5).map T).sum:=by
 have e5:(List.range 5).map T=[T 0,T 1,T 2,T 3,T 4]:=rfl
 have er:(rP e).map T=[T ((0+e)%5),T ((1+e)%5),T ((2+e)%5),T ((3+e)%5),T ((4+e)%5)]:=rfl
 rw[e5,er]
 rcases (by omega:e=0∨e=1∨e=2∨e=3∨e=4)with rfl|rfl|rfl|rfl|rfl
 all_goals
  simp only[Nat.reduceAdd,Nat.reduceMod,List.sum_cons,List.sum_nil]
  try omega
theorem aLB {e:Nat} (he:e<5) (T:Nat→Int) (q:Int) {p:Nat} (hp:p<5):swg q ((rP e).map T) p=swg q ((List.range 5).map T) ((p+e)%5):=by
 have l1:((rP e).map T).length=5:=by simp[rP]
 have l2:((List.range 5).map T).length=5:=by simp
 have hb:∀ m,m<32→swB q ((rP e).map T) p m=swB q ((List.range 5).map T) ((p+e)%5) (gN e m):=fun m hm=>by
  unfold swB qB
  rw[tS e he m hm p hp,aFq he T hm,aFq he T (aRT m hm p hp),aTe e he m hm p hp]
 have h1:(List.range 32).filter (swB q ((rP e).map T) p)=(List.range 32).filter ((swB q ((List.range 5).map T) ((p+e)%5))∘gN e):=by
  apply List.filter_congr
  intro m hm
  exact hb m (List.mem_range.1 hm)
 have h2:=((List.isPerm_iff.1 (aMu e he)).filter (swB q ((List.range 5).map T) ((p+e)%5))).length_eq
 rw[List.filter_map,List.length_map]at h2
 unfold swg swT
 rw[l1,l2]
 show ((((List.range 32).filter _).length:Nat):Int)=(((List.range 32).filter _).length:Nat)
 rw[h1,h2]
def fL (j:Nat):ByteArray:=⟨⟨[UInt8.ofNat (97+j)]⟩⟩
def wJ:ByteArray:=⟨⟨[119]⟩⟩
def lfJ (j:Nat):ByteArray:=⟨⟨[102,97,114,109,101,114,32,UInt8.ofNat (97+j)]⟩⟩
def lwJ (k j:Nat):ByteArray:=⟨⟨(([119,97,103,111,110,32,119,32]++iU 6 (1000+100*k))++[32,49,48,48,48,32])++[UInt8.ofNat (97+j)]⟩⟩
def lnJ (j:Nat):ByteArray:=⟨⟨[110,101,116,32,UInt8.ofNat (97+j)]⟩⟩
def lpJ (j:Nat):ByteArray:=⟨⟨[112,111,119,101,114,32,UInt8.ofNat (97+j)]⟩⟩
def ltJ:ByteArray:=⟨⟨[116,111,116,97,108]⟩⟩
theorem aFT:∀ i:Nat,i<5→∀ j:Nat,j<5→(fL i=fL j↔i=j):=by decide +kernel
theorem aEf {xs:List ByteArray} {F:ByteArray} {w:ByteArray} (hp:(w,F)∈fmL) (hl:xs.length=F.size) (hy:∀ y∈xs,y.size≤40):Ws F xs:=⟨hl,aMz _ hp,aMA _ hp,fun y h=>by have:=hy y h;omega⟩
theorem aJd {w F:ByteArray} {j:Nat} (hj:j<5) {line:ByteArray} (hs:line.size≤40) (hw:oA line=[w,fL j]) (hf:bZ true (.str w) fmE=some (some (.str F))) (hp:(w,F)∈fmL) (h0:F.size=1) (k0:dk F 0≠110):runW aD 60 [.str line] []=some (.agg [.str w,.fs [[.str (fL j)]],.fs [[I 0]]],[]):=by
 have hn:∀ j:Nat,j<5→gE (fL j)=true:=by decide +kernel
 exact f1b ⟨hs,hw,hf,aEf hp h0.symm fun y hy=>by rw[List.mem_singleton.1 hy];exact Nat.le_of_ble_eq_true rfl⟩ h0 k0 (hn j hj)
theorem aOB {j:Nat} (hj:j<5):runW aD 60 [.str (lfJ j)] []=some (.agg [.str ⟨⟨[102,97,114,109,101,114]⟩⟩,.fs [[.str (fL j)]],.fs [[I 0]]],[]) :=
 aJd (F:=⟨⟨[102]⟩⟩) hj (by exact Nat.le_of_ble_eq_true rfl) (by rcases (by omega:j=0∨j=1∨j=2∨j=3∨j=4)with rfl|rfl|rfl|rfl|rfl<;>kernel_rfl) (by kernel_rfl) (by simp[fmL]) rfl (by rw[show dk ⟨⟨[102]⟩⟩ 0=102 by kernel_rfl];decide)
theorem aOA {j:Nat} (hj:j<5):runW aD 60 [.str (lnJ j)] []=some (.agg [.str ⟨⟨[110,101,116]⟩⟩,.fs [[.str (fL j)]],.fs [[I 0]]],[]) :=
 aJd (F:=⟨⟨[102]⟩⟩) hj (by exact Nat.le_of_ble_eq_true rfl) (by rcases (by omega:j=0∨j=1∨j=2∨j=3∨j=4)with rfl|rfl|rfl|rfl|rfl<;>kernel_rfl) (by kernel_rfl) (by simp[fmL]) rfl (by rw[show dk ⟨⟨[102]⟩⟩ 0=102 by kernel_rfl];decide)
theorem aOz {j:Nat} (hj:j<5):runW aD 60 [.str (lpJ j)] []=some (.agg [.str ⟨⟨[112,111,119,101,114]⟩⟩,.fs [[.str (fL j)]],.fs [[I 0]]],[]) :=
 aJd (F:=⟨⟨[102]⟩⟩) hj (by exact Nat.le_of_ble_eq_true rfl) (by rcases (by omega:j=0∨j=1∨j=2∨j=3∨j=4)with rfl|rfl|rfl|rfl|rfl<;>kernel_rfl) (by kernel_rfl) (by simp[fmL]) rfl (by rw[show dk ⟨⟨[102]⟩⟩ 0=102 by kernel_rfl];decide)
theorem aOy:runW aD 60 [.str ltJ] []=some (.agg [.str ⟨⟨[116,111,116,97,108]⟩⟩,.fs [],.fs []],[]) :=
 f0 (F:=⟨⟨[]⟩⟩) ⟨by decide,by kernel_rfl,by kernel_rfl,aEf (w:=⟨⟨[116,111,116,97,108]⟩⟩) (by simp[fmL]) rfl fun y hy=>by cases hy⟩ rfl
def dgJ (k:Nat):ByteArray:=⟨⟨iU 6 (1000+100*k)⟩⟩
def thJ:ByteArray:=⟨⟨[49,48,48,48]⟩⟩
def ckP (k j:Nat):Bool:=decide (oA (lwJ k j)=[⟨⟨[119,97,103,111,110]⟩⟩,wJ,dgJ k,thJ,fL j])&&(decide (lW (dgJ k)=some ((1000+100*k:Nat):Int))&&(decide ((lwJ k j).size≤40)&&decide ((dgJ k).size≤40)))
theorem aMM:((List.range 256).all fun k=>(List.range 5).all fun j=>ckP k j)=true:=by kernel_rfl
theorem aOx {k j:Nat} (hk:k<256) (hj:j<5):runW aD 60 [.str (lwJ k j)] []=some (.agg [.str ⟨⟨[119,97,103,111,110]⟩⟩,.fs [[.str wJ],[.str (dgJ k)],[.str thJ],[.str (fL j)]],.fs [[I 0],[I ((1000+100*k:Nat):Int)],[I 1000],[I 0]]],[]):=by
 have h:=List.all_eq_true.1 (List.all_eq_true.1 aMM k (List.mem_range.2 hk)) j (List.mem_range.2 hj)
 unfold ckP at h
 simp only[Bool.and_eq_true,decide_eq_true_iff]at h
 have hn:∀ j:Nat,j<5→gE (fL j)=true:=by decide +kernel
 have q0:dk ⟨⟨[119,110,110,102]⟩⟩ 0=119:=by kernel_rfl
 have q3:dk ⟨⟨[119,110,110,102]⟩⟩ 3=102:=by kernel_rfl
 exact f4c (F:=⟨⟨[119,110,110,102]⟩⟩) ⟨h.2.2.1,h.1,by kernel_rfl,aEf (w:=⟨⟨[119,97,103,111,110]⟩⟩) (by simp[fmL]) rfl fun y hy=>by
  simp only[List.mem_cons,List.not_mem_nil,or_false]at hy
  rcases hy with rfl|rfl|rfl|rfl
  ·decide
  ·exact h.2.2.2
  ·decide
  ·exact Nat.le_of_ble_eq_true rfl⟩ rfl (by rw[q0];decide) (by kernel_rfl) (by kernel_rfl) (by rw[q3];decide) (by kernel_rfl) (hn j hj) h.2.1 (by kernel_rfl)
theorem aNq:∀ {j:Nat},j<5→rd (lfJ j) = .inr (.farmer (fL j)):=by
 intro j hj
 rcases (by omega:j=0∨j=1∨j=2∨j=3∨j=4)with rfl|rfl|rfl|rfl|rfl<;>kernel_rfl
theorem aNp:∀ {j:Nat},j<5→rd (lnJ j) = .inr (.net (fL j)):=by
 intro j hj
 rcases (by omega:j=0∨j=1∨j=2∨j=3∨j=4)with rfl|rfl|rfl|rfl|rfl<;>kernel_rfl
theorem aNo:∀ {j:Nat},j<5→rd (lpJ j) = .inr (.power (fL j)):=by
 intro j hj
 rcases (by omega:j=0∨j=1∨j=2∨j=3∨j=4)with rfl|rfl|rfl|rfl|rfl<;>kernel_rfl
theorem aNn:rd ltJ = .inr .total:=by kernel_rfl
def ckW (k j:Nat):Bool:=match rd (lwJ k j)with
 | .inr (.wagon x y a b)=>decide (x=wJ)&&(decide (y=fL j)&&(decide (a=((1000+100*k:Nat):Int))&&decide (b=1000)))
 | _=>false
theorem aML:((List.range 256).all fun k=>(List.range 5).all fun j=>ckW k j)=true:=by kernel_rfl
theorem aNm {k j:Nat} (hk:k<256) (hj:j<5):rd (lwJ k j) = .inr (.wagon wJ (fL j) ((1000+100*k:Nat):Int) 1000):=by
 have h:=List.all_eq_true.1 (List.all_eq_true.1 aML k (List.mem_range.2 hk)) j (List.mem_range.2 hj)
 unfold ckW at h
 split at h
 ·rename_i x y a b hr
  rw[hr]
  simp only[Bool.and_eq_true,decide_eq_true_iff]at h
  rw[h.1,h.2.1,h.2.2.1,h.2.2.2]
 ·cases h
def eM (ts:List (Nat×Nat)) (j:Nat):Int:=(ts.map fun t=>if t.2=j then ((100*t.1:Nat):Int) else 0).sum
def tkJ (t:Nat×Nat):CTk:=⟨wJ,fL t.2,((100*t.1:Nat):Int),false⟩
def cJ (ns:List Nat) (ts:List (Nat×Nat)) (bk:List ByteArray):dA:={ farmers:=ns.map fun j=>(fL j,eM ts j),meters:=[],pans:=[],wagons:=if ts=[] then [] else [(wJ,1000)],tickets:=ts.map tkJ,closed:=0,book:=bk }
theorem aMm (ts:List (Nat×Nat)) (k j i:Nat):eM (ts++[(k,j)]) i=eM ts i+if j=i then ((100*k:Nat):Int) else 0:=by
 unfold eM
 rw[List.map_append,List.sum_append]
 simp
theorem aGX (a b:List (Nat×Nat)) (j:Nat):eM (b++a) j=eM (a++b) j:=by
 unfold eM
 rw[List.map_append,List.sum_append,List.map_append,List.sum_append,Int.add_comm]
theorem aAD {α:Type} {k x:ByteArray} {y:α} {r:List (ByteArray×α)}:eD ((k,y)::r) x=if k=x then some y else eD r x:=by
 unfold eD
 show (if k=x then some 0 else (fC (r.map (·.1)) x).map (· + 1)).bind _=_
 by_cases hk:k=x
 ·rw[if_pos hk,if_pos hk];rfl
 ·rw[if_neg hk,if_neg hk]
  cases fC (r.map (·.1)) x<;>rfl
theorem vF {f:Nat→Int} {j:Nat} (hj:j<5):∀ {ns:List Nat},(∀ i∈ns,i<5)→eD (ns.map fun i=>(fL i,f i)) (fL j)=if j∈ns then some (f j) else none
 | [],_=>by simp[eD,fC]
 | i::r,h=>by
   have ih:=vF (f:=f) hj (ns:=r) fun k hk=>h k (List.mem_cons_of_mem _ hk)
   rw[List.map_cons,aAD,ih]
   have e:=aFT i (h i (by simp)) j hj
   by_cases hij:i=j
   ·rw[if_pos (e.2 hij),hij];simp
   ·rw[if_neg (fun q=>hij (e.1 q))]
    have:j≠i:=fun q=>hij q.symm
    simp[this]
theorem aGq {f:Nat→Int} {j:Nat} {d:Int} (hj:j<5):∀ {ns:List Nat},(∀ i∈ns,i<5)→ns.Nodup→j∈ns→lA (ns.map fun i=>(fL i,f i)) (fL j) d=ns.map fun i=>(fL i,f i+if j=i then d else 0)
 | [],_,_,h=>by cases h
 | i::r,h,nd,hm=>by
   rw[List.nodup_cons]at nd
   have e:=aFT i (h i (by simp)) j hj
   rw[List.map_cons,List.map_cons]
   unfold lA
   by_cases hij:i=j
   ·rw[if_pos (e.2 hij)]
    subst hij
    rw[if_pos rfl]
    congr 1
    apply List.map_congr_left
    intro k hk
    have:i≠k:=fun q=>nd.1 (q▸hk)
    rw[if_neg this,Int.add_zero]
   ·rw[if_neg (fun q=>hij (e.1 q))]
    have hji:j≠i:=fun q=>hij q.symm
    have hm2:j∈r:=by
     rcases List.mem_cons.1 hm with q|q
     ·exact absurd q hji
     ·exact q
    rw[aGq hj (fun k hk=>h k (List.mem_cons_of_mem _ hk)) nd.2 hm2,if_neg hji,Int.add_zero]
theorem aCP {P:dA→ByteArray→Int} {s:dA} {line:ByteArray} {w:Wd} (ha:w.asks=false) (hc:qW s w=none) (hb:s.book.length≠300):aBM P s line (.inr w)=(⟨⟨[111,107]⟩⟩,{ doW s w with book:=s.book++[line] }):=by
 unfold aBM
 dsimp only
 rw[ha,hc]
 simp[hb]
theorem wV {P:dA→ByteArray→Int} {s:dA} {line a:ByteArray} {w:Wd} (ha:w.asks=true) (hc:aCz P s w = .inr a):aBM P s line (.inr w)=(a,s):=by
 unfold aBM
 dsimp only
 rw[ha,hc]
 simp
theorem aRF {ns:List Nat} {bk:List ByteArray} {j:Nat} (hn:∀ i∈ns,i<5) (hj:j<5) (hm:j∉ns) (hl:ns.length≤8) (hb:bk.length<300):sayA (cJ ns [] bk) (lfJ j)=(⟨⟨[111,107]⟩⟩,cJ (ns++[j]) [] (bk++[lfJ j]))∧uE (cJ ns [] bk) (lfJ j):=by
 have hv:eD (cJ ns [] bk).farmers (fL j)=none:=by
  show eD (ns.map fun i=>(fL i,eM [] i)) (fL j)=none
  rw[vF hj hn,if_neg hm]
 have hc:qW (cJ ns [] bk) (.farmer (fL j))=none:=by
  unfold qW
  dsimp only
  rw[hv,if_neg (by simp),if_neg]
  show ¬(ns.map fun i=>(fL i,eM [] i)).length=9
  rw[List.length_map];omega
 refine⟨?_,_,_,aNq hj,rfl,aOB hj,⟨0,rfl⟩,fun _=>⟨hc,hb⟩,fun q=>by cases q⟩
 unfold sayA
 rw[aNq hj]
 rw[aCP rfl hc (by show bk.length≠300;omega)]
 unfold doW cJ
 simp[eM]
theorem aRE {ns:List Nat} {ts:List (Nat×Nat)} {bk:List ByteArray} {k j:Nat} (hn:∀ i∈ns,i<5) (nd:ns.Nodup) (hk:k<256) (hj:j<5) (hm:j∈ns) (hb:bk.length<300):sayA (cJ ns ts bk) (lwJ k j)=(⟨⟨[111,107]⟩⟩,cJ ns (ts++[(k,j)]) (bk++[lwJ k j]))∧uE (cJ ns ts bk) (lwJ k j):=by
 have hv:eD (cJ ns ts bk).farmers (fL j)=some (eM ts j):=by
  show eD (ns.map fun i=>(fL i,eM ts i)) (fL j)=_
  rw[vF hj hn,if_pos hm]
 have hw:eD (cJ ns ts bk).wagons wJ=none∨eD (cJ ns ts bk).wagons wJ=some 1000:=by
  show eD (if ts=[] then [] else [(wJ,1000)]) wJ=none∨eD (if ts=[] then [] else [(wJ,1000)]) wJ=some 1000
  by_cases h:ts=[]
  ·rw[if_pos h];exact .inl rfl
  ·rw[if_neg h];exact .inr (by rw[aAD,if_pos rfl])
 have hc:qW (cJ ns ts bk) (.wagon wJ (fL j) ((1000+100*k:Nat):Int) 1000)=none:=by
  unfold qW
  dsimp only
  rw[hv]
  dsimp only
  rw[if_neg (by omega)]
  rcases hw with hw|hw
  ·rw[hw]
  ·rw[hw]
   dsimp only
   rw[if_pos (by omega)]
 refine⟨?_,_,_,aNm hk hj,rfl,aOx hk hj,⟨⟨by omega,by omega,by omega,by omega,by decide,by exact Nat.le_of_ble_eq_true rfl⟩,dgJ k,thJ,0,0,rfl⟩,fun _=>⟨hc,hb⟩,fun q=>by cases q⟩
 unfold sayA
 rw[aNm hk hj]
 rw[aCP rfl hc (by show bk.length≠300;omega)]
 have e1:iS id 1000 wJ (cJ ns ts bk).wagons=[(wJ,1000)]:=by
  show iS id 1000 wJ (if ts=[] then [] else [(wJ,1000)])=_
  by_cases h:ts=[]
  ·rw[if_pos h];rfl
  ·rw[if_neg h];simp[iS]
 have e2:((1000+100*k:Nat):Int)-1000=((100*k:Nat):Int):=by omega
 have e3:lA (cJ ns ts bk).farmers (fL j) ((100*k:Nat):Int)=ns.map fun i=>(fL i,eM (ts++[(k,j)]) i):=by
  show lA (ns.map fun i=>(fL i,eM ts i)) _ _=_
  rw[aGq hj hn nd hm]
  apply List.map_congr_left
  intro i _
  rw[aMm]
 have e4:(ts++[(k,j)]=[])=False:=by simp
 have hd:({ doW (cJ ns ts bk) (.wagon wJ (fL j) ((1000+100*k:Nat):Int) 1000)with book:=(cJ ns ts bk).book++[lwJ k j] }:dA)={ farmers:=lA (cJ ns ts bk).farmers (fL j) (((1000+100*k:Nat):Int)-1000),meters:=[],pans:=[],wagons:=iS id 1000 wJ (cJ ns ts bk).wagons,tickets:=ts.map tkJ++[⟨wJ,fL j,((1000+100*k:Nat):Int)-1000,false⟩],closed:=0,book:=bk++[lwJ k j] }:=rfl
 rw[hd,e1,e2,e3]
 unfold cJ
 simp only[e4,if_false]
 rw[List.map_append]
 rfl
theorem aWR {vs:List AV} {h:XH} (hl:vs.length≤x11.N):runW progG 11 vs h=lN none x11.res x11.ownR h.length (execW progG 11 h.length none x11.body (aW (if x11.ownA then vs else nJ vs)) h):=vN rfl hl h rfl
theorem aJx:cF .neq ⟨⟨[111,107]⟩⟩ ⟨⟨[111,107]⟩⟩=some (.bool false):=by kernel_rfl
theorem aKx {j:Nat} (hj:j<5):Option.map (fun l=>AV.str { data:={ toList:=l } }) (fR [.int .u8 ((97+j:Nat):Int)])=some (.str (fL j)):=aKw (by omega)
theorem addF {j:Nat}:cF .add ⟨⟨[102,97,114,109,101,114,32]⟩⟩ (fL j)=some (.str (lfJ j)):=by
 rw[jQ (by simp[fL,oE])];unfold fL;rw[mM];rfl
theorem aWW {j:Nat}:cF .add ⟨⟨[110,101,116,32]⟩⟩ (fL j)=some (.str (lnJ j)):=by
 rw[jQ (by simp[fL,oE])];unfold fL;rw[mM];rfl
theorem aTv {j:Nat}:cF .add ⟨⟨[112,111,119,101,114,32]⟩⟩ (fL j)=some (.str (lpJ j)):=by
 rw[jQ (by simp[fL,oE])];unfold fL;rw[mM];rfl
def rB8 (ts:List (Nat×Nat)):List (List AV):=ts.map fun t=>[.int .u8 (t.1:Int),.int .u8 (t.2:Int)]
def lK (e i:Nat):List Nat:=(List.range i).map fun p=>(p+e)%5
theorem aFD (e i:Nat):lK e (i+1)=lK e i++[(i+e)%5]:=by unfold lK;rw[List.range_succ,List.map_append];rfl
theorem aBX (e i:Nat):∀ k∈lK e i,k<5:=fun k hk=>by
 obtain⟨p,_,rfl⟩:=List.mem_map.1 hk
 omega
theorem aII {e i:Nat} (hi:i<5):(i+e)%5∉lK e i:=fun h=>by
 obtain⟨p,hp,he⟩:=List.mem_map.1 h
 have:=List.mem_range.1 hp
 omega
def bkI (e i:Nat):List ByteArray:=(lK e i).map lfJ
noncomputable def cI (e i:Nat):Option XB:=gK (cJ (lK e i) [] (bkI e i))
theorem aIz {e i:Nat} (hi:i<5):runW progG 21 [.pt 0 0,.str (lfJ ((i+e)%5))] [cI e i]=some (.str ⟨⟨[111,107]⟩⟩,[cI e (i+1)]):=by
 unfold cI
 have hl:(lK e i).length=i:=by simp[lK]
 obtain⟨q1,q2⟩:=aRF (aBX e i) (j:=(i+e)%5) (bk:=bkI e i) (by omega) (aII hi) (by omega) (by simp[bkI,lK];omega)
 rw[g21 _ _ q2,q1,←aFD]
 have:bkI e i++[lfJ ((i+e)%5)]=bkI e (i+1):=by unfold bkI;rw[aFD,List.map_append];rfl
 rw[this]
theorem aVK (ts:List (Nat×Nat)) {tu st i:Nat} (hst:st<256) (hi:i<5):cG 0 [0,1,2,7,8,9] (execW progG 11 0 none (match aFp with | .loop _ a=>a|c=>c) (dV [0,1,2,7,8,9] [.fs (rB8 ts),.int .u8 (tu:Int),.int .u8 (st:Int),.pt 0 0,.pt 1 0,I (i:Nat)]) [cI 0 i,cI st i]) =
 some ([.fs (rB8 ts),.int .u8 (tu:Int),.int .u8 (st:Int),.pt 0 0,.pt 1 0,I (i+1:Nat)],[cI 0 (i+1),cI st (i+1)]):=by
 have t1:((i:Int)<5)=True:=eq_true (by omega)
 have a1:IntKind.i64.wrap (97+(i:Int))=((97+i:Nat):Int):=by rw[aS (by omega) (by omega)];omega
 have a2:=vE (c:=97+i) (by omega)
 have a3:IntKind.i64.wrap (st:Int)=(st:Int):=aS (by omega) (by omega)
 have a4:IntKind.i64.wrap ((i:Int)+(st:Int))=((i+st:Nat):Int):=by rw[aS (by omega) (by omega)];omega
 have a5:tmZ ((i+st:Nat):Int) 5=(((i+st)%5:Nat):Int):=aBB (i+st) 5
 have hm:(i+st)%5<5:=Nat.mod_lt _ (by decide)
 have c1:=aIz (e:=0) hi
 rw[show (i+0)%5=i by omega]at c1
 have c2:=aIz (e:=st) hi
 have b1:=aKx hi
 have b2:=aKx hm
 have f1:=addF (j:=i)
 have f2:=addF (j:=(i+st)%5)
 have a8:IntKind.i64.wrap ((i:Int)+1)=((i+1:Nat):Int):=by rw[aS (by omega) (by omega)];rfl
 generalize (i+st)%5=m at *
 have a6:IntKind.i64.wrap (97+(m:Int))=((97+m:Nat):Int):=by rw[aS (by omega) (by omega)];omega
 have a7:=vE (c:=97+m) (by omega)
 unfold cI at *
 unfold aFp
 dsimp only
 (sym=>(simp[mD,mE,tK,Za,Zb,Zd,Ze,Zf,Zg,Zh,Zj,Zl,Zm,Zo,Zp,Zr,Zv,Zy,Z8,ZA,ZF,Ye,Yh,Ym,Yn,Yp,Ys,Y7,YG,Xu,Xw,Xz,XJ,XY,Wm,Wo,Wr,Wu,WL,Vh,Vo,V5,V6,V7,V8,V9,VA,VB,VC,VF,VG,VH,VI,VJ,VL,VM,VN,VO,VP,VQ,VR,VS,VT,VU,VV,VW,VX,VZ,Ui,Uj,Uk,Ul,Uw,Uy,Uz,U0,UR,US,UT,UU,UV,UW,Ta,Tb,Tc,Td,Te,Tg,Th,Ti,Tm,Tp,Tw,Tz,T0,T1,T2,T3,T4,T5,T6,T7,T8,T9,TA,TH,TI,TJ,TK,TS,TT,TU,TV,TZ,Sa,Su,Sz,S9,SA,SC,SE,SF,SJ,SM,SN,SO,Rs,Rz,Qg,Qu,Qw,Qy,Qz,Q0,QA,QS,QT,QU,QW,QX,QY,QZ,Pb,Pc,t1,a1,a2,a3,a4,a5,a6,a7,a8,c1,c2,b1,b2,f1,f2,aJx];all_goals tactic=>exact rfl))
end Go.Proofs.YtmapgnepfgnphaaGreatDoor
namespace Go.Proofs.YtmapgnepfgnphaaGreatDoor
open Go Go.DL Go.ChangeShapes Go.WideShapes Go.ChangeAt Go.RowKit
set_option maxRecDepth 100000
theorem aPh:Flat Tryz.prog 75 [.sl a2T]:=.sl Tryz.underlying75 aPi (by kernel_rfl) (by decide)
theorem aVG:∀ row:List AV,row.length=a2T.length→(∀ (i:Nat) (c:CT) (a:AV),a2T[i]?=some c→row[i]?=some a→Sh c a)→∃ x:{ x:Nat×Nat // x.1<256∧x.2<256 },row=[.int .u8 (x.1.1:Int),.int .u8 (x.1.2:Int)]:=by
 intro row hl h
 match row,hl with
 | [a0,a1],_ =>
   cases h 0 _ _ rfl rfl with
   | int _ n0 q0 =>
   cases h 1 _ _ rfl rfl with
   | int _ n1 q1 =>
   obtain⟨m0,rfl,b0⟩:=aFs q0
   obtain⟨m1,rfl,b1⟩:=aFs q1
   exact⟨⟨(m0,m1),b0,b1⟩,rfl⟩
theorem aOH {a:AV} (h:Sh (.sl a2T) a):∃ us:List (Nat×Nat),(∀ v∈us,v.1<256∧v.2<256)∧a = .fs (rB8 us):=by
 obtain⟨us,h1,_⟩:=aRC aVG h
 refine⟨us.map (·.1),fun v hv=>?_,by rw[h1];unfold rB8;rw[List.map_map];rfl⟩
 obtain⟨x,_,rfl⟩:=List.mem_map.1 hv
 exact x.2
end Go.Proofs.YtmapgnepfgnphaaGreatDoor
namespace Go.Proofs.YtmapgnepfgnphaaGreatDoor
open Go Go.DL
set_option maxRecDepth 100000
set_option maxHeartbeats 4000000
def eI (ts:List (Nat×Nat)):List (Nat×Nat):=(ts.take 12).map fun t=>(t.1,t.2%5)
def lwC (l:List (Nat×Nat)):List AV:=l.map fun t=>.str (lwJ t.1 t.2)
def sW:Nat→AV
 | 0=>.nilsl
 | i+1=>.sl 2 0 1 (i+1)
theorem aBN {i:Nat} (hi:0<i):sW i = .sl 2 0 1 i:=by
 cases i with
 | zero=>omega
 | succ i=>rfl
noncomputable def gW (s1 s2:dA) (l:List (Nat×Nat)):Nat→XH
 | 0=>[gK s1,gK s2]
 | i+1=>[gK s1,gK s2,some (.blk true (.cells true (lwC (l.take (i+1)))))]
theorem aCs {s1 s2:dA} {l:List (Nat×Nat)} {i:Nat} (hi:0<i):gW s1 s2 l i=[gK s1,gK s2,some (.blk true (.cells true (lwC (l.take i))))]:=by
 cases i with
 | zero=>omega
 | succ i=>rfl
theorem aEK (l:List (Nat×Nat)):iN (lwC l)=true:=dN fun v hv=>by
 obtain⟨n,_,rfl⟩:=List.mem_map.1 hv;rfl
theorem aFV (l:List (Nat×Nat)):(lwC l).length=l.length:=by simp[lwC]
theorem aOT (l:List (Nat×Nat)) {i a b:Nat} (h:l[i]?=some (a,b)):lwC (l.take (i+1))=lwC (l.take i)++[.str (lwJ a b)]:=by
 unfold lwC
 rw[List.take_add_one,h,List.map_append];rfl
theorem aTu {n:Nat} (hn:n<1000000):cF .add ⟨⟨[119,97,103,111,110,32,119,32]⟩⟩ ⟨⟨iU 6 n⟩⟩=some (.str ⟨⟨[119,97,103,111,110,32,119,32]++iU 6 n⟩⟩):=by
 have h:=(g33 6 n (by omega) (by omega) hn).1
 rw[jQ (by rw[oE,oE];simp;omega),mM]
theorem aTt {n:Nat} (hn:n<1000000):cF .add ⟨⟨[119,97,103,111,110,32,119,32]++iU 6 n⟩⟩ ⟨⟨[32,49,48,48,48,32]⟩⟩=some (.str ⟨⟨([119,97,103,111,110,32,119,32]++iU 6 n)++[32,49,48,48,48,32]⟩⟩):=by
 have h:=(g33 6 n (by omega) (by omega) hn).1
 rw[jQ (by rw[oE,oE,List.length_append];simp;omega),mM]
theorem aTs {k j:Nat} (hn:1000+100*k<1000000):cF .add ⟨⟨([119,97,103,111,110,32,119,32]++iU 6 (1000+100*k))++[32,49,48,48,48,32]⟩⟩ (fL j)=some (.str (lwJ k j)):=by
 have h:=(g33 6 _ (by omega) (by omega) hn).1
 rw[jQ (by unfold fL;rw[oE,oE,List.length_append,List.length_append];simp;omega)]
 unfold fL lwJ
 rw[mM]
theorem aOw {ts:List (Nat×Nat)} {i a b:Nat} (h:ts[i]?=some (a,b)):(rB8 ts)[i]?=some [.int .u8 (a:Int),.int .u8 (b:Int)]:=by
 unfold rB8;rw[List.getElem?_map,h];rfl
theorem aFG (ts:List (Nat×Nat)):(rB8 ts).length=ts.length:=by simp[rB8]
theorem aNX {ts:List (Nat×Nat)} {i a b:Nat} (h:ts[i]?=some (a,b)) (hi:i<12):(eI ts)[i]?=some (a,b%5):=by
 unfold eI;rw[List.getElem?_map,List.getElem?_take_of_lt hi,h];rfl
theorem vH (ts:List (Nat×Nat)):(eI ts).length=min 12 ts.length:=by simp[eI]
theorem aVJ {s1 s2:dA} {ts:List (Nat×Nat)} {tu i:Nat} (hb:∀ t∈ts,t.1<256∧t.2<256) (hi:i<(eI ts).length):cG 0 [0,1,7,8,12,13] (execW progG 11 0 none (match aFo with | .loop _ a=>a|c=>c) (dV [0,1,7,8,12,13] [.fs (rB8 ts),.int .u8 (tu:Int),.pt 0 0,.pt 1 0,sW i,I (i:Nat)]) (gW s1 s2 (eI ts) i)) =
 some ([.fs (rB8 ts),.int .u8 (tu:Int),.pt 0 0,.pt 1 0,sW (i+1),I (i+1:Nat)],gW s1 s2 (eI ts) (i+1)):=by
 rw[vH]at hi
 obtain⟨⟨a,b⟩,ht⟩:∃ t,ts[i]?=some t:=⟨_,List.getElem?_eq_getElem (by omega)⟩
 obtain⟨ha,hbb⟩:=hb _ (List.mem_of_getElem? ht)
 have ha:a<256:=ha
 have hr:=aOw ht
 have rl:=aFG ts
 have t1:((i:Int)<(ts.length:Int))=True:=eq_true (by omega)
 have t2:((i:Int)<12)=True:=eq_true (by omega)
 have a1:IntKind.i64.wrap (a:Int)=(a:Int):=aS (by omega) (by omega)
 have a2:IntKind.i64.wrap (100*(a:Int))=100*(a:Int):=aS (by omega) (by omega)
 have a3:IntKind.i64.wrap (1000+100*(a:Int))=((1000+100*a:Nat):Int):=by rw[aS (by omega) (by omega)];omega
 have a4:tmZ (b:Int) 5=((b%5:Nat):Int):=aBB b 5
 have hm:b%5<5:=Nat.mod_lt _ (by decide)
 have c33:=(g33 6 (1000+100*a) (by omega) (by omega) (by omega)).2
 have cq:∀ h:XH,iP (runW progG) (.fn (.func 33) [] []) [I (1000+100*a:Nat)] h=some (.str ⟨⟨iU 6 (1000+100*a)⟩⟩):=fun h=>aKt rfl (fun s=>rfl) c33 rfl
 have w1:=aTu (n:=1000+100*a) (by omega)
 have w2:=aTt (n:=1000+100*a) (by omega)
 have w3:=aTs (k:=a) (j:=b%5) (by omega)
 have up:=aOT (eI ts) (aNX ht (by omega))
 have a8:IntKind.i64.wrap ((i:Int)+1)=((i+1:Nat):Int):=by rw[aS (by omega) (by omega)];rfl
 have p2:0<i+1:=by omega
 rw[aBN p2,aCs p2,up]
 have tl:(eI ts).length=min 12 ts.length:=vH ts
 generalize b%5=m at *
 have a5:IntKind.u8.wrap (97+(m:Int))=((97+m:Nat):Int):=by
  have h:=vE (c:=97+m) (by omega)
  rw[show ((97+m:Nat):Int)=97+(m:Int) by omega]at h ⊢
  exact h
 have bs:=aKx hm
 generalize ([119,97,103,111,110,32,119,32]++iU 6 (1000+100*a))=z1 at *
 generalize iU 6 (1000+100*a)=z2 at *
 unfold aFo
 dsimp only
 cases i with
 | zero =>
   have e1:lwC ((eI ts).take 0)=[]:=rfl
   have z0:sW 0 = .nilsl:=rfl
   have z1:gW s1 s2 (eI ts) 0=[gK s1,gK s2]:=rfl
   have t1:((0:Int)<(ts.length:Int))=True:=t1
   rw[e1,z0,z1]
   (sym=>(simp[mD,mE,tK,Za,Zb,Zd,Ze,Zf,Zh,Zi,Zl,Zm,Zo,Zp,Zq,Zv,Zy,Z8,ZA,ZF,ZH,ZI,ZS,ZX,ZY,Yb,Yk,Yo,Ys,Yv,Y4,Y5,Y7,Y9,YG,YM,YN,YP,YR,YT,YU,YV,YY,Xg,Xu,Xz,XI,XJ,XY,Wa,Wm,Wr,Wt,Wu,Vo,Vq,Vz,V4,V5,V6,V7,V8,V9,VA,VB,VC,VE,VF,VG,VI,VJ,VL,VM,VN,VP,VR,VS,VT,VU,VZ,Ua,Uf,UR,US,UT,UU,UV,Ta,Tb,Tc,Td,Te,Tg,Th,Ti,Tm,Tp,Tw,Tz,T0,T1,T2,T3,T5,T6,T7,T8,T9,TA,TH,TI,TJ,TK,TS,TT,TU,TV,TZ,Sa,Sc,Sd,Se,Sf,Sk,Sl,Sn,Su,Sv,Sw,Sx,Sy,Sz,S9,SA,SC,SE,SF,SJ,SM,SN,SO,Rq,Rs,Rz,Qd,Qe,Qf,QS,QT,QU,Pb,Pc,hr,rl,t1,a1,a2,a3,a4,a5,cq,w1,w2,w3,bs];all_goals tactic=>exact rfl))
 | succ i =>
   have p1:0<i+1:=by omega
   have ll:(lwC ((eI ts).take (i+1))).length=i+1:=by rw[aFV,List.length_take];omega
   have gr:=aEK ((eI ts).take (i+1))
   have b1:((i+1+1)*16≤1099511627776)=True:=eq_true (by omega)
   have b2:(i+1+1≤1099511627776)=True:=eq_true (by omega)
   rw[aBN p1,aCs p1]
   generalize lwC ((eI ts).take (i+1))=Z at *
   (sym=>(simp[mD,mE,tK,Za,Zb,Zd,Ze,Zf,Zh,Zi,Zl,Zm,Zo,Zp,Zq,Zv,Zy,Z8,ZA,ZF,ZH,ZI,ZS,ZX,ZY,Yb,Yk,Yo,Ys,Yv,Y4,Y5,Y7,Y9,YG,YM,YN,YP,YR,YT,YU,YV,YY,Xg,Xu,Xz,XI,XJ,XY,Wa,Wm,Wr,Wt,Wu,Vo,Vq,Vz,V4,V5,V6,V7,V8,V9,VA,VB,VC,VE,VF,VG,VI,VJ,VL,VM,VN,VP,VR,VS,VT,VU,VZ,Ua,Uf,UR,US,UT,UU,UV,Ta,Tb,Tc,Td,Te,Tg,Th,Ti,Tm,Tp,Tw,Tz,T0,T1,T2,T3,T5,T6,T7,T8,T9,TA,TH,TI,TJ,TK,TS,TT,TU,TV,TZ,Sa,Sc,Sd,Se,Sf,Sk,Sl,Sn,Su,Sv,Sw,Sx,Sy,Sz,S9,SA,SC,SE,SF,SJ,SM,SN,SO,Rq,Rs,Rz,Qd,Qe,Qf,QS,QT,QU,Pb,Pc,hr,rl,t1,t2,a1,a2,a3,a4,a5,a8,cq,w1,w2,w3,bs,ll,gr,b1,b2];all_goals tactic=>exact rfl))
def fS (tu:Nat) (l:List (Nat×Nat)):List (Nat×Nat):=(List.range l.length).map fun i=>l.getD ((i+tu)%l.length) (0,0)
theorem wH (tu:Nat) (l:List (Nat×Nat)):(fS tu l).length=l.length:=by simp[fS]
theorem aFt {tu:Nat} {l:List (Nat×Nat)} {i:Nat} (hi:i<l.length):(fS tu l)[i]?=l[(i+tu)%l.length]?:=by
 have hm:(i+tu)%l.length<l.length:=Nat.mod_lt _ (by omega)
 unfold fS
 rw[List.getElem?_map,List.getElem?_range hi,Option.map_some,List.getD_eq_getElem?_getD,List.getElem?_eq_getElem hm];rfl
theorem aHZ (tu:Nat) (l:List (Nat×Nat)) (h:0<l.length):fS tu l=l.drop (tu%l.length)++l.take (tu%l.length):=by
 have hr:tu%l.length<l.length:=Nat.mod_lt _ h
 apply List.ext_getElem?
 intro i
 by_cases hi:i<l.length
 ·rw[aFt hi]
  have e:(i+tu)%l.length=(i+tu%l.length)%l.length:=by rw[Nat.add_mod,Nat.mod_eq_of_lt hi]
  rw[e]
  generalize tu%l.length=r at *
  by_cases h1:i+r<l.length
  ·rw[Nat.mod_eq_of_lt h1,List.getElem?_append_left (by rw[List.length_drop];omega),List.getElem?_drop,Nat.add_comm]
  ·have:(i+r)%l.length=i+r-l.length:=by
    rw[Nat.mod_eq_sub_mod (by omega),Nat.mod_eq_of_lt (by omega)]
   rw[this,List.getElem?_append_right (by rw[List.length_drop];omega),List.length_drop,List.getElem?_take_of_lt (by omega)]
   congr 1
   omega
 ·rw[List.getElem?_eq_none (by rw[wH];omega),List.getElem?_eq_none]
  rw[List.length_append,List.length_drop,List.length_take];omega
theorem aJB (tu:Nat) (l:List (Nat×Nat)) (j:Nat):eM (fS tu l) j=eM l j:=by
 by_cases h:0<l.length
 ·rw[aHZ tu l h,aGX,List.take_append_drop]
 ·have:l=[]:=List.eq_nil_of_length_eq_zero (by omega)
  subst this;rfl
def bkT (e:Nat) (l:List (Nat×Nat)) (i:Nat):List ByteArray:=bkI e 5++(l.take i).map fun t=>lwJ t.1 t.2
def cT (e:Nat) (l:List (Nat×Nat)) (i:Nat):dA:=cJ (lK e 5) (l.take i) (bkT e l i)
def Tks (l:List (Nat×Nat)):Prop:=l.length≤12∧∀ t∈l,t.1<256∧t.2<5
theorem aLZ (e:Nat):(lK e 5).Nodup:=by
 show [(0+e)%5,(1+e)%5,(2+e)%5,(3+e)%5,(4+e)%5].Nodup
 simp
 omega
theorem aDb {e j:Nat} (hj:j<5):j∈lK e 5:=by
 show j∈[(0+e)%5,(1+e)%5,(2+e)%5,(3+e)%5,(4+e)%5]
 simp
 omega
theorem aIx {e i k j:Nat} {l:List (Nat×Nat)} (hl:Tks l) (ht:l[i]?=some (k,j)):runW progG 21 [.pt 0 0,.str (lwJ k j)] [gK (cT e l i)]=some (.str ⟨⟨[111,107]⟩⟩,[gK (cT e l (i+1))]):=by
 obtain⟨hk,hj⟩:=hl.2 _ (List.mem_of_getElem? ht)
 have hl1:=hl.1
 unfold cT
 obtain⟨q1,q2⟩:=aRE (aBX e 5) (aLZ e) (ts:=l.take i) (bk:=bkT e l i) hk hj (aDb hj) (by simp[bkT,bkI,lK];omega)
 rw[g21 _ _ q2,q1]
 have e1:l.take (i+1)=l.take i++[(k,j)]:=by rw[List.take_add_one,ht];rfl
 have e2:bkT e l (i+1)=bkT e l i++[lwJ k j]:=by unfold bkT;rw[e1,List.map_append,List.append_assoc];rfl
 rw[e1,e2]
theorem aNW {ts:List (Nat×Nat)} (hb:∀ t∈ts,t.1<256∧t.2<256):Tks (eI ts):=by
 refine⟨by rw[vH];omega,fun t ht=>?_⟩
 obtain⟨u,hu,rfl⟩:=List.mem_map.1 ht
 exact⟨(hb u (List.mem_of_mem_take hu)).1,Nat.mod_lt _ (by decide)⟩
theorem aLm {tu:Nat} {l:List (Nat×Nat)} (h:Tks l):Tks (fS tu l):=by
 refine⟨by rw[wH];exact h.1,fun t ht=>?_⟩
 obtain⟨i,hi,rfl⟩:=List.mem_map.1 ht
 have hi:=List.mem_range.1 hi
 have hm:(i+tu)%l.length<l.length:=Nat.mod_lt _ (by omega)
 rw[List.getD_eq_getElem?_getD,List.getElem?_eq_getElem hm]
 exact h.2 _ (List.getElem_mem _)
theorem aJE {l:List (Nat×Nat)} {i k j:Nat} (h:l[i]?=some (k,j)):(lwC l)[i]?=some (.str (lwJ k j)):=by unfold lwC;rw[List.getElem?_map,h];rfl
noncomputable abbrev gT (st tu:Nat) (l:List (Nat×Nat)) (i:Nat):XH:=[gK (cT 0 l i),gK (cT st (fS tu l) i),some (.blk true (.cells true (lwC l)))]
theorem aVI {l:List (Nat×Nat)} {st tu i:Nat} (hl:Tks l) (htu:tu<256) (hi:i<l.length):cG 0 [1,7,8,12,84,85] (execW progG 11 0 none (match aAB with | .loop _ a=>a|c=>c) (dV [1,7,8,12,84,85] [.int .u8 (tu:Int),.pt 0 0,.pt 1 0,.sl 2 0 1 l.length,I l.length,I (i:Nat)]) (gT st tu l i)) =
 some ([.int .u8 (tu:Int),.pt 0 0,.pt 1 0,.sl 2 0 1 l.length,I l.length,I (i+1:Nat)],gT st tu l (i+1)):=by
 have hl1:=hl.1
 obtain⟨⟨a,b⟩,ht⟩:∃ t,l[i]?=some t:=⟨_,List.getElem?_eq_getElem hi⟩
 have hm:(i+tu)%l.length<l.length:=Nat.mod_lt _ (by omega)
 obtain⟨⟨a',b'⟩,ht'⟩:∃ t,l[(i+tu)%l.length]?=some t:=⟨_,List.getElem?_eq_getElem hm⟩
 have c1:=aIx (e:=0) hl ht
 have c2:=aIx (e:=st) (aLm (tu:=tu) hl) (by rw[aFt hi];exact ht')
 have r1:=aJE ht
 have r2:=aJE ht'
 have t1:((i:Int)<(l.length:Int))=True:=eq_true (by omega)
 have t2:(((((i+tu)%l.length:Nat):Int))<(l.length:Int))=True:=eq_true (by omega)
 have a1:IntKind.i64.wrap (tu:Int)=(tu:Int):=aS (by omega) (by omega)
 have a2:IntKind.i64.wrap ((i:Int)+(tu:Int))=((i+tu:Nat):Int):=by rw[aS (by omega) (by omega)];omega
 have a3:tmZ ((i+tu:Nat):Int) (l.length:Int)=(((i+tu)%l.length:Nat):Int):=aBB (i+tu) l.length
 have a4:((l.length:Int)=0)=False:=eq_false (by omega)
 have a8:IntKind.i64.wrap ((i:Int)+1)=((i+1:Nat):Int):=by rw[aS (by omega) (by omega)];rfl
 have ll:=aFV l
 have gr:=aEK l
 unfold gT
 unfold aAB
 dsimp only
 generalize (i+tu)%l.length=m at *
 generalize lwC l=Z at *
 (sym=>(simp[mD,mE,tK,Za,Zb,Zf,Zg,Zh,Zj,Zl,Zm,Zp,Zr,Zv,Zy,ZA,ZF,ZI,ZS,ZV,Ye,Yh,Ym,Yn,Yp,Ys,Yw,Yz,Y7,YG,YM,YN,Xu,Xw,XI,XJ,Wm,Wo,Wt,Wu,WL,Vh,V5,V6,V7,V8,VB,VC,VF,VG,VH,VI,VJ,VL,VM,VN,VO,VP,VQ,VR,VS,VT,VU,VV,VW,VX,VZ,Ua,Uf,Ui,Uj,Uk,Ul,Uw,Uy,Uz,U0,UR,US,UT,UU,UV,UW,Ta,Tb,Tc,Td,Te,Tg,Th,Ti,Tm,Tw,Tz,T0,T1,T4,T5,T6,T7,T8,Si,Sj,Sn,Sz,S9,SA,SC,SE,SF,SJ,SM,SN,SO,Rq,Rr,Rs,Qg,Qu,Qw,Qy,Qz,Q0,QA,QW,QX,QY,QZ,Pb,Pc,t1,t2,a1,a2,a3,a4,a8,c1,c2,r1,r2,ll,gr,aJx];all_goals tactic=>exact rfl))
theorem xK (e:Nat):lK e 5=rP (e%5):=by
 unfold lK rP
 apply List.map_congr_left
 intro i _
 omega
theorem aMk:∀ e:Nat,e<5→∀ j:Nat,j<5→fC ((rP e).map fL) (fL j)=some ((j+5-e)%5):=by decide +kernel
def tJ (l:List (Nat×Nat)) (j:Nat):Int:=nT (eM l j) 1000
theorem aJC (e:Nat) (l:List (Nat×Nat)) (i:Nat):(cT e l i).farmers.map (·.1)=(rP (e%5)).map fL:=by
 rw[←xK]
 show ((lK e 5).map fun j=>(fL j,eM (l.take i) j)).map (·.1)=_
 rw[List.map_map];rfl
theorem aLn (e:Nat) (l:List (Nat×Nat)) (i:Nat):bD (cT e l i)=(rP (e%5)).map (tJ (l.take i)):=by
 rw[←xK]
 show ((lK e 5).map fun j=>(fL j,eM (l.take i) j)).map (fun p=>nT p.2 1000)=_
 rw[List.map_map];rfl
theorem aOj (e:Nat) (l:List (Nat×Nat)) (i:Nat):aBF (cT e l i)=((List.range 5).map (eM (l.take i))).sum:=by
 have h:=aFv (e:=e%5) (Nat.mod_lt _ (by decide)) (eM (l.take i))
 rw[←h,←xK]
 show (((lK e 5).map fun j=>(fL j,eM (l.take i) j)).map (·.2)).sum=_
 rw[List.map_map];rfl
theorem aOE (e:Nat) (l:List (Nat×Nat)) (i:Nat) {j:Nat} (hj:j<5):xY (cT e l i) (fL j)=swg (nT ((List.range 5).map (tJ (l.take i))).sum 2+1) ((List.range 5).map (tJ (l.take i))) j:=by
 have he:e%5<5:=Nat.mod_lt _ (by decide)
 unfold xY
 rw[aJC,aMk _ he _ hj]
 dsimp only
 unfold vC
 rw[aLn,aFv he,aLB he _ _ (Nat.mod_lt _ (by decide))]
 congr 1
 omega
theorem aBw (e:Nat) (l:List (Nat×Nat)) (i:Nat) {j:Nat} (hj:j<5):eD (cT e l i).farmers (fL j)=some (eM (l.take i) j):=by
 show eD ((lK e 5).map fun j=>(fL j,eM (l.take i) j)) (fL j)=_
 rw[vF hj (aBX e 5),if_pos (aDb hj)]
theorem aFB (e:Nat) (l:List (Nat×Nat)) (i:Nat) {j:Nat} (hj:j<5):runW progG 21 [.pt 0 0,.str (lnJ j)] [gK (cT e l i)]=some (.str (lX (eM (l.take i) j)),[gK (cT e l i)]):=by
 rw[g21 _ _ ⟨_,_,aNp hj,rfl,aOA hj,⟨0,rfl⟩,fun q=>(by cases q),fun _=>⟨_,(by unfold aCz;dsimp only;rw[aBw e l i hj])⟩⟩]
 unfold sayA
 rw[aNp hj,wV rfl (a:=lX (eM (l.take i) j)) (by unfold aCz;dsimp only;rw[aBw e l i hj])]
theorem aIy (e:Nat) (l:List (Nat×Nat)) (i:Nat) {j:Nat} (hj:j<5):runW progG 21 [.pt 0 0,.str (lpJ j)] [gK (cT e l i)]=some (.str (lX (swg (nT ((List.range 5).map (tJ (l.take i))).sum 2+1) ((List.range 5).map (tJ (l.take i))) j)),[gK (cT e l i)]):=by
 rw[g21 _ _ ⟨_,_,aNo hj,rfl,aOz hj,⟨0,rfl⟩,fun q=>(by cases q),fun _=>⟨_,(by unfold aCz;dsimp only;rw[aBw e l i hj])⟩⟩]
 unfold sayA
 rw[aNo hj,wV rfl (a:=lX (xY (cT e l i) (fL j))) (by unfold aCz;dsimp only;rw[aBw e l i hj]),aOE e l i hj]
theorem aFA (e:Nat) (l:List (Nat×Nat)) (i:Nat):runW progG 21 [.pt 0 0,.str ltJ] [gK (cT e l i)]=some (.str (lX ((List.range 5).map (eM (l.take i))).sum),[gK (cT e l i)]):=by
 rw[g21 _ _ ⟨_,_,aNn,rfl,aOy,rfl,fun q=>(by cases q),fun _=>⟨_,rfl⟩⟩]
 unfold sayA
 rw[aNn,wV rfl (a:=lX (aBF (cT e l i))) rfl,aOj]
theorem aCi (tu:Nat) (l:List (Nat×Nat)):eM ((fS tu l).take l.length)=eM (l.take l.length):=by
 funext j
 rw[List.take_of_length_le (by rw[wH];exact Nat.le_refl _),List.take_of_length_le (Nat.le_refl _),aJB]
theorem aOa (tu:Nat) (l:List (Nat×Nat)):tJ ((fS tu l).take l.length)=tJ (l.take l.length):=by
 funext j
 unfold tJ
 rw[aCi]
def nE:List AV:=(List.range 5).map fun j=>.str (fL j)
theorem aRY {i:Nat} (hi:i<5):nE[i]?=some (.str (fL i)):=by unfold nE;rw[List.getElem?_map,List.getElem?_range hi];rfl
theorem aVH {l:List (Nat×Nat)} {st tu i:Nat} (hi:i<5):cG 0 [7,8,111,112,113] (execW progG 11 0 none (match aAA with | .loop _ a=>a|c=>c) (dV [7,8,111,112,113] [.pt 0 0,.pt 1 0,.sl 2 0 1 5,I 5,I (i:Nat)]) [gK (cT 0 l l.length),gK (cT st (fS tu l) l.length),some (.blk true (.cells true nE))]) =
 some ([.pt 0 0,.pt 1 0,.sl 2 0 1 5,I 5,I (i+1:Nat)],[gK (cT 0 l l.length),gK (cT st (fS tu l) l.length),some (.blk true (.cells true nE))]):=by
 have c1:=aFB 0 l l.length hi
 have c2:=aFB st (fS tu l) l.length hi
 have c3:=aIy 0 l l.length hi
 have c4:=aIy st (fS tu l) l.length hi
 rw[aCi]at c2
 rw[aOa]at c4
 have q1:=wN (lX (eM (l.take l.length) i)) (lX (eM (l.take l.length) i))
 rw[decide_eq_true rfl]at q1
 have q2:=wN (lX (swg (nT ((List.range 5).map (tJ (l.take l.length))).sum 2+1) ((List.range 5).map (tJ (l.take l.length))) i)) (lX (swg (nT ((List.range 5).map (tJ (l.take l.length))).sum 2+1) ((List.range 5).map (tJ (l.take l.length))) i))
 rw[decide_eq_true rfl]at q2
 generalize lX (eM (l.take l.length) i)=z1 at *
 generalize lX (swg (nT ((List.range 5).map (tJ (l.take l.length))).sum 2+1) ((List.range 5).map (tJ (l.take l.length))) i)=z2 at *
 have q1:cF .neq z1 z1=some (.bool false):=q1
 have q2:cF .neq z2 z2=some (.bool false):=q2
 have e1:=aRY hi
 have ll:nE.length=5:=rfl
 have gr:iN nE=true:=rfl
 have t1:((i:Int)<5)=True:=eq_true (by omega)
 have a8:IntKind.i64.wrap ((i:Int)+1)=((i+1:Nat):Int):=by rw[aS (by omega) (by omega)];rfl
 have f1:=aWW (j:=i)
 have f2:=aTv (j:=i)
 unfold aAA
 dsimp only
 generalize nE=Z at *
 (exact aTx t1 a8 c1 c2 c3 c4 q1 q2 e1 ll gr f1 f2 rs0)
theorem aTn (e:Nat) (l:List (Nat×Nat)):cI e 5=gK (cT e l 0):=by
 unfold cI cT bkT
 rw[List.take_zero,List.map_nil,List.append_nil]
theorem aTo (e:Nat):cI e 0=gK qJ:=rfl
theorem aMN (e tu:Nat) (l:List (Nat×Nat)):cT e (fS tu l) 0=cT e l 0:=by
 unfold cT bkT
 rw[List.take_zero,List.take_zero]
theorem aEH:nE=[.str ⟨⟨[97]⟩⟩,.str ⟨⟨[98]⟩⟩,.str ⟨⟨[99]⟩⟩,.str ⟨⟨[100]⟩⟩,.str ⟨⟨[101]⟩⟩]:=rfl
theorem w11 {ts:List (Nat×Nat)} {tu st:Nat} (hb:∀ t∈ts,t.1<256∧t.2<256) (htu:tu<256) (hst:st<256):runW progG 11 [.fs (rB8 ts),.int .u8 (tu:Int),.int .u8 (st:Int)] []=some (.bool true,[]):=by
 have hl:=aNW hb
 have tl:=vH ts
 have rl:=aFG ts
 have tk:(eI ts).take (eI ts).length=eI ts:=List.take_of_length_le (Nat.le_refl _)
 have tz:=aMN st tu (eI ts)
 have c0:=g19
 have o1:=fun i hi=>aVJ (s1:=cT 0 (eI ts) 0) (s2:=cT st (eI ts) 0) (tu:=tu) hb (i:=i) hi
 have o2:=fun i hi=>aVI (l:=eI ts) (st:=st) (tu:=tu) hl htu (i:=i) hi
 have o3:=fun i hi=>aVH (l:=eI ts) (st:=st) (tu:=tu) (i:=i) hi
 have ct:=aFA 0 (eI ts) (eI ts).length
 have dt:=aFA st (fS tu (eI ts)) (eI ts).length
 rw[aCi]at dt
 have te:=vJ (lX ((List.range 5).map (eM ((eI ts).take (eI ts).length))).sum) (lX ((List.range 5).map (eM ((eI ts).take (eI ts).length))).sum)
 rw[decide_eq_true rfl]at te
 generalize lX ((List.range 5).map (eM ((eI ts).take (eI ts).length))).sum=zt at *
 have te:cF .eql zt zt=some (.bool true):=te
 unfold ltJ at ct dt
 have ex:(((eI ts).length:Int)<(ts.length:Int))=False∨((((eI ts).length:Int)<(ts.length:Int))=True∧(((eI ts).length:Int)<12)=False):=by
  by_cases h:(eI ts).length<ts.length
  ·exact .inr ⟨eq_true (by omega),eq_false (by omega)⟩
  ·exact .inl (eq_false (by omega))
 have e5:((5:Int)<5)=False:=eq_false (by omega)
 rw[aWR (by simp[x11])];unfold x11;dsimp only
 sym =>
  simp[Za,Zb,Zd,Ze,Zf,Zg,Zh,Zj,Zl,Zm,Zo,Zp,Zq,Zs,Zv,Zy,Z8,ZA,ZS,Ye,Yh,Ym,Yn,Yo,Yp,Yv,Yw,Yx,YG,YT,Xd,Xu,Xv,Xw,Xz,XI,XJ,XL,Wa,Wm,Wn,Wo,Wr,Wt,Wu,Ww,WF,WL,Va,Vb,Vf,Vh,Vq,V5,V8,V9,VB,VC,VD,VF,VG,VH,VI,VJ,VK,VL,VM,VN,VO,VP,VQ,VR,VS,VT,VU,VV,VW,VX,VZ,Ua,Uf,Ui,Uj,Uk,Ul,Uw,Uy,Uz,U0,UB,UC,UE,UF,UG,UH,UI,UL,UM,UN,UO,UQ,UR,US,UT,UU,UW,UX,UZ,Ta,Tb,Tc,Td,Te,Tg,Th,Ti,Tm,Tp,Tw,Tz,T0,T1,T2,T3,T4,T5,T6,T7,T8,T9,TA,TF,TG,TH,TI,TJ,TK,TS,TT,TU,TV,Sg,Su,Sz,S9,SA,SB,SD,SE,SF,SG,SL,SM,SN,SO,Rs,RC,Qg,Qu,Qw,Qy,Qz,Q0,QA,QW,QX,QY,QZ,Pb,Pc,c0]
  tactic =>
   have o0:=fun i (hi:i<5)=>aVK ts (tu:=tu) hst hi
   unfold aFp at o0 ⊢
   rw[bH 5 (fun i=>[.fs (rB8 ts),.int .u8 (tu:Int),.int .u8 (st:Int),.pt 0 0,.pt 1 0,I (i:Nat)]) (fun i=>[cI 0 i,cI st i])]
   ·rw[aTn 0 (eI ts),aTn st (eI ts)]
    sym =>
     simp[Za,Zb,Zd,Ze,Zf,Zg,Zh,Zj,Zl,Zm,Zo,Zp,Zq,Zs,Zv,Zy,Z8,ZA,ZS,Ye,Yh,Ym,Yn,Yo,Yp,Yv,Yw,Yx,YG,YT,Xd,Xu,Xv,Xw,Xz,XI,XJ,XL,Wa,Wm,Wn,Wo,Wr,Wt,Wu,Ww,WF,WL,Va,Vb,Vf,Vh,Vq,V5,V8,V9,VB,VC,VD,VF,VG,VH,VI,VJ,VK,VL,VM,VN,VO,VP,VQ,VR,VS,VT,VU,VV,VW,VX,VZ,Ua,Uf,Ui,Uj,Uk,Ul,Uw,Uy,Uz,U0,UB,UC,UE,UF,UG,UH,UI,UL,UM,UN,UO,UQ,UR,US,UT,UU,UW,UX,UZ,Ta,Tb,Tc,Td,Te,Tg,Th,Ti,Tm,Tp,Tw,Tz,T0,T1,T2,T3,T4,T5,T6,T7,T8,T9,TA,TF,TG,TH,TI,TJ,TK,TS,TT,TU,TV,Sg,Su,Sz,S9,SA,SB,SD,SE,SF,SG,SL,SM,SN,SO,Rs,RC,Qg,Qu,Qw,Qy,Qz,Q0,QA,QW,QX,QY,QZ,Pb,Pc,e5]
     tactic =>
      unfold aFo at o1 ⊢
      rw[bH (eI ts).length (fun i=>[.fs (rB8 ts),.int .u8 (tu:Int),.pt 0 0,.pt 1 0,sW i,I (i:Nat)]) (fun i=>gW (cT 0 (eI ts) 0) (cT st (eI ts) 0) (eI ts) i)]
      ·generalize (eI ts).length=N at *
       rcases Nat.eq_zero_or_pos N with hz|hp
       ·subst hz
        have z0:sW 0 = .nilsl:=rfl
        have z1:gW (cT 0 (eI ts) 0) (cT st (eI ts) 0) (eI ts) 0=[gK (cT 0 (eI ts) 0),gK (cT st (eI ts) 0)]:=rfl
        rw[z0,z1,←tz]
        have ex0:((0:Int)<(ts.length:Int))=False:=eq_false (by omega)
        sym =>
         simp[Za,Zb,Zd,Ze,Zf,Zg,Zh,Zj,Zl,Zm,Zo,Zp,Zq,Zs,Zv,Zy,Z8,ZA,ZS,Ye,Yh,Ym,Yn,Yo,Yp,Yv,Yw,Yx,YG,YT,Xd,Xu,Xv,Xw,Xz,XI,XJ,XL,Wa,Wm,Wn,Wo,Wr,Wt,Wu,Ww,WF,WL,Va,Vb,Vf,Vh,Vq,V5,V8,V9,VB,VC,VD,VF,VG,VH,VI,VJ,VK,VL,VM,VN,VO,VP,VQ,VR,VS,VT,VU,VV,VW,VX,VZ,Ua,Uf,Ui,Uj,Uk,Ul,Uw,Uy,Uz,U0,UB,UC,UE,UF,UG,UH,UI,UL,UM,UN,UO,UQ,UR,US,UT,UU,UW,UX,UZ,Ta,Tb,Tc,Td,Te,Tg,Th,Ti,Tm,Tp,Tw,Tz,T0,T1,T2,T3,T4,T5,T6,T7,T8,T9,TA,TF,TG,TH,TI,TJ,TK,TS,TT,TU,TV,Sg,Su,Sz,S9,SA,SB,SD,SE,SF,SG,SL,SM,SN,SO,Rs,RC,Qg,Qu,Qw,Qy,Qz,Q0,QA,QW,QX,QY,QZ,Pb,Pc,rl,ex0]
         tactic =>
          unfold aAB
          rw[bH 0 (fun _=>[.int .u8 (tu:Int),.pt 0 0,.pt 1 0,.nilsl,I 0,I 0]) (fun _=>[gK (cT 0 (eI ts) 0),gK (cT st (fS tu (eI ts)) 0)])]
          ·sym =>
            simp[Za,Zb,Zd,Ze,Zf,Zg,Zh,Zj,Zl,Zm,Zo,Zp,Zq,Zs,Zv,Zy,Z8,ZA,ZS,Ye,Yh,Ym,Yn,Yo,Yp,Yv,Yw,Yx,YG,YT,Xd,Xu,Xv,Xw,Xz,XI,XJ,XL,Wa,Wm,Wn,Wo,Wr,Wt,Wu,Ww,WF,WL,Va,Vb,Vf,Vh,Vq,V5,V8,V9,VB,VC,VD,VF,VG,VH,VI,VJ,VK,VL,VM,VN,VO,VP,VQ,VR,VS,VT,VU,VV,VW,VX,VZ,Ua,Uf,Ui,Uj,Uk,Ul,Uw,Uy,Uz,U0,UB,UC,UE,UF,UG,UH,UI,UL,UM,UN,UO,UQ,UR,US,UT,UU,UW,UX,UZ,Ta,Tb,Tc,Td,Te,Tg,Th,Ti,Tm,Tp,Tw,Tz,T0,T1,T2,T3,T4,T5,T6,T7,T8,T9,TA,TF,TG,TH,TI,TJ,TK,TS,TT,TU,TV,Sg,Su,Sz,S9,SA,SB,SD,SE,SF,SG,SL,SM,SN,SO,Rs,RC,Qg,Qu,Qw,Qy,Qz,Q0,QA,QW,QX,QY,QZ,Pb,Pc]
            tactic =>
             unfold aAA at o3 ⊢
             rw[bH 5 (fun i=>[.pt 0 0,.pt 1 0,.sl 2 0 1 5,I 5,I (i:Nat)]) (fun _=>[gK (cT 0 (eI ts) 0),gK (cT st (fS tu (eI ts)) 0),some (.blk true (.cells true nE))])]
             ·(exact RS5 e5 ct dt te g13)
             ·rw[aEH]
              (exact RS0)
             ·exact o3
             ·(exact wC e5)
          ·(exact RS0)
          ·intro i hi;omega
          ·(exact RS0)
       ·have eN:((N:Int)<(N:Int))=False:=eq_false (by omega)
        have gr:=aEK (eI ts)
        rw[aBN hp,aCs hp,tk,←tz]
        rcases ex with ex|⟨ex,ex2⟩
        ·sym =>
          simp[Za,Zb,Zd,Ze,Zf,Zg,Zh,Zj,Zl,Zm,Zo,Zp,Zq,Zs,Zv,Zy,Z8,ZA,ZS,Ye,Yh,Ym,Yn,Yo,Yp,Yv,Yw,Yx,YG,YT,Xd,Xu,Xv,Xw,Xz,XI,XJ,XL,Wa,Wm,Wn,Wo,Wr,Wt,Wu,Ww,WF,WL,Va,Vb,Vf,Vh,Vq,V5,V8,V9,VB,VC,VD,VF,VG,VH,VI,VJ,VK,VL,VM,VN,VO,VP,VQ,VR,VS,VT,VU,VV,VW,VX,VZ,Ua,Uf,Ui,Uj,Uk,Ul,Uw,Uy,Uz,U0,UB,UC,UE,UF,UG,UH,UI,UL,UM,UN,UO,UQ,UR,US,UT,UU,UW,UX,UZ,Ta,Tb,Tc,Td,Te,Tg,Th,Ti,Tm,Tp,Tw,Tz,T0,T1,T2,T3,T4,T5,T6,T7,T8,T9,TA,TF,TG,TH,TI,TJ,TK,TS,TT,TU,TV,Sg,Su,Sz,S9,SA,SB,SD,SE,SF,SG,SL,SM,SN,SO,Rs,RC,Qg,Qu,Qw,Qy,Qz,Q0,QA,QW,QX,QY,QZ,Pb,Pc,rl,ex]
          tactic =>
           unfold aAB at o2 ⊢
           rw[bH N (fun i=>[.int .u8 (tu:Int),.pt 0 0,.pt 1 0,.sl 2 0 1 N,I N,I (i:Nat)]) (fun i=>gT st tu (eI ts) i)]
           ·sym =>
             simp[Za,Zb,Zd,Ze,Zf,Zg,Zh,Zj,Zl,Zm,Zo,Zp,Zq,Zs,Zv,Zy,Z8,ZA,ZS,Ye,Yh,Ym,Yn,Yo,Yp,Yv,Yw,Yx,YG,YT,Xd,Xu,Xv,Xw,Xz,XI,XJ,XL,Wa,Wm,Wn,Wo,Wr,Wt,Wu,Ww,WF,WL,Va,Vb,Vf,Vh,Vq,V5,V8,V9,VB,VC,VD,VF,VG,VH,VI,VJ,VK,VL,VM,VN,VO,VP,VQ,VR,VS,VT,VU,VV,VW,VX,VZ,Ua,Uf,Ui,Uj,Uk,Ul,Uw,Uy,Uz,U0,UB,UC,UE,UF,UG,UH,UI,UL,UM,UN,UO,UQ,UR,US,UT,UU,UW,UX,UZ,Ta,Tb,Tc,Td,Te,Tg,Th,Ti,Tm,Tp,Tw,Tz,T0,T1,T2,T3,T4,T5,T6,T7,T8,T9,TA,TF,TG,TH,TI,TJ,TK,TS,TT,TU,TV,Sg,Su,Sz,S9,SA,SB,SD,SE,SF,SG,SL,SM,SN,SO,Rs,RC,Qg,Qu,Qw,Qy,Qz,Q0,QA,QW,QX,QY,QZ,Pb,Pc,eN]
             tactic =>
              unfold aAA at o3 ⊢
              rw[bH 5 (fun i=>[.pt 0 0,.pt 1 0,.sl 2 0 1 5,I 5,I (i:Nat)]) (fun _=>[gK (cT 0 (eI ts) N),gK (cT st (fS tu (eI ts)) N),some (.blk true (.cells true nE))])]
              ·(exact RS5 e5 ct dt te g13)
              ·rw[aEH]
               (exact RS0)
              ·exact o3
              ·(exact wC e5)
           ·(exact wC gr)
           ·exact o2
           ·(exact wC eN)
        ·sym =>
          simp[Za,Zb,Zd,Ze,Zf,Zg,Zh,Zj,Zl,Zm,Zo,Zp,Zq,Zs,Zv,Zy,Z8,ZA,ZS,Ye,Yh,Ym,Yn,Yo,Yp,Yv,Yw,Yx,YG,YT,Xd,Xu,Xv,Xw,Xz,XI,XJ,XL,Wa,Wm,Wn,Wo,Wr,Wt,Wu,Ww,WF,WL,Va,Vb,Vf,Vh,Vq,V5,V8,V9,VB,VC,VD,VF,VG,VH,VI,VJ,VK,VL,VM,VN,VO,VP,VQ,VR,VS,VT,VU,VV,VW,VX,VZ,Ua,Uf,Ui,Uj,Uk,Ul,Uw,Uy,Uz,U0,UB,UC,UE,UF,UG,UH,UI,UL,UM,UN,UO,UQ,UR,US,UT,UU,UW,UX,UZ,Ta,Tb,Tc,Td,Te,Tg,Th,Ti,Tm,Tp,Tw,Tz,T0,T1,T2,T3,T4,T5,T6,T7,T8,T9,TA,TF,TG,TH,TI,TJ,TK,TS,TT,TU,TV,Sg,Su,Sz,S9,SA,SB,SD,SE,SF,SG,SL,SM,SN,SO,Rs,RC,Qg,Qu,Qw,Qy,Qz,Q0,QA,QW,QX,QY,QZ,Pb,Pc,rl,ex,ex2]
          tactic =>
           unfold aAB at o2 ⊢
           rw[bH N (fun i=>[.int .u8 (tu:Int),.pt 0 0,.pt 1 0,.sl 2 0 1 N,I N,I (i:Nat)]) (fun i=>gT st tu (eI ts) i)]
           ·sym =>
             simp[Za,Zb,Zd,Ze,Zf,Zg,Zh,Zj,Zl,Zm,Zo,Zp,Zq,Zs,Zv,Zy,Z8,ZA,ZS,Ye,Yh,Ym,Yn,Yo,Yp,Yv,Yw,Yx,YG,YT,Xd,Xu,Xv,Xw,Xz,XI,XJ,XL,Wa,Wm,Wn,Wo,Wr,Wt,Wu,Ww,WF,WL,Va,Vb,Vf,Vh,Vq,V5,V8,V9,VB,VC,VD,VF,VG,VH,VI,VJ,VK,VL,VM,VN,VO,VP,VQ,VR,VS,VT,VU,VV,VW,VX,VZ,Ua,Uf,Ui,Uj,Uk,Ul,Uw,Uy,Uz,U0,UB,UC,UE,UF,UG,UH,UI,UL,UM,UN,UO,UQ,UR,US,UT,UU,UW,UX,UZ,Ta,Tb,Tc,Td,Te,Tg,Th,Ti,Tm,Tp,Tw,Tz,T0,T1,T2,T3,T4,T5,T6,T7,T8,T9,TA,TF,TG,TH,TI,TJ,TK,TS,TT,TU,TV,Sg,Su,Sz,S9,SA,SB,SD,SE,SF,SG,SL,SM,SN,SO,Rs,RC,Qg,Qu,Qw,Qy,Qz,Q0,QA,QW,QX,QY,QZ,Pb,Pc,eN]
             tactic =>
              unfold aAA at o3 ⊢
              rw[bH 5 (fun i=>[.pt 0 0,.pt 1 0,.sl 2 0 1 5,I 5,I (i:Nat)]) (fun _=>[gK (cT 0 (eI ts) N),gK (cT st (fS tu (eI ts)) N),some (.blk true (.cells true nE))])]
              ·(exact RS5 e5 ct dt te g13)
              ·rw[aEH]
               (exact RS0)
              ·exact o3
              ·(exact wC e5)
           ·(exact wC gr)
           ·exact o2
           ·(exact wC eN)
      ·have z0:sW 0 = .nilsl:=rfl
       have z1:gW (cT 0 (eI ts) 0) (cT st (eI ts) 0) (eI ts) 0=[gK (cT 0 (eI ts) 0),gK (cT st (eI ts) 0)]:=rfl
       rw[z0,z1]
       (exact RS0)
      ·exact o1
      ·generalize (eI ts).length=N at *
       rcases Nat.eq_zero_or_pos N with hz|hp
       ·subst hz
        have z0:sW 0 = .nilsl:=rfl
        have z1:gW (cT 0 (eI ts) 0) (cT st (eI ts) 0) (eI ts) 0=[gK (cT 0 (eI ts) 0),gK (cT st (eI ts) 0)]:=rfl
        rw[z0,z1]
        have ex0:((0:Int)<(ts.length:Int))=False:=eq_false (by omega)
        (exact RS2 rl ex0)
       ·rw[aBN hp,aCs hp]
        rcases ex with ex|⟨ex,ex2⟩
        ·(exact RS2 rl ex)
        ·(exact RS3 rl ex ex2)
   ·rw[aTo,aTo]
    (exact RS0)
   ·exact o0
   ·unfold cI
    (exact wC e5)
end Go.Proofs.YtmapgnepfgnphaaGreatDoor
