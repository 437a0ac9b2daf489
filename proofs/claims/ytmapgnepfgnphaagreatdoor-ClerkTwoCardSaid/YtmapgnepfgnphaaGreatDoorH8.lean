/- Parts of a proof, joined: K9 K10 K11 K12 P1 P2 P3 P4 P5 P6 K13 LB P7 K14. No statement of the seed is proved here. -/
import Derived.Test.YtmapgnepfgnphaaGreatDoorH7
set_option linter.unusedSimpArgs false
set_option linter.unusedVariables false
set_option linter.unusedSectionVars false
namespace Go.Proofs.YtmapgnepfgnphaaGreatDoor
open Go Go.DL
set_option maxRecDepth 100000
set_option maxHeartbeats 4000000
theorem q16 {vs:List AV} {h:XH} (hl:vs.length≤121):runW aN 16 vs h=eG none x16.res x16.ownR h.length (execW aN 16 h.length none x16.body (aY (if x16.ownA then vs else iF vs)) h):=dB rfl hl h rfl
def aIa:XCode:=(.loop [0,1,4,5,7,8,9,35,36] (.seq (.reg [] false [⟨0,(some 37),(.bin .lss (.t 36) (.t 35)),none⟩]) (.seq (.cond (.t 37) .skip (.exit 1)) (.seq (.block 2 (.seq (.reg [] false [⟨0,(some 38),(.mv (.t 36)),none⟩,⟨0,(some 10),(.mv (.t 38)),none⟩]) (.seq (.reg [] false [⟨0,(some 40),(.mv (.t 0)),none⟩,⟨0,(some 41),(.mv (.t 10)),none⟩,⟨0,(some 42),(.bin .mul (.t 41) (.c (.int .i64 45))),none⟩,⟨0,(some 43),(.mv (.t 10)),none⟩,⟨0,(some 44),(.bin .add (.t 43) (.c (.int .i64 1))),none⟩,⟨0,(some 45),(.bin .mul (.t 44) (.c (.int .i64 45))),none⟩,⟨0,(some 46),(.slstr (.t 40) (some (.t 42)) (some (.t 45))),none⟩,⟨0,(some 47),(.mv (.t 1)),none⟩,⟨0,(some 48),(.mv (.t 10)),none⟩,⟨0,(some 49),(.bin .add (.t 47) (.t 48)),none⟩,⟨0,(some 50),(.callf false (.c (.fn (.func 42) [] [])) [(.t 46),(.t 49)] []),none⟩,⟨0,(some 39),(.mv (.t 50)),none⟩,⟨0,(some 51),(.ext (.t 39) 0),none⟩,⟨0,(some 52),(.ext (.t 39) 1),none⟩,⟨0,(some 11),(.alloc (aW (nf 0))),none⟩,⟨0,none,(.store 40 (.t 11) (.t 51) []),none⟩,⟨0,(some 12),(.mv (.t 52)),none⟩]) (.seq (.seq (.reg [] false [⟨0,(some 53),(.mv (.t 12)),none⟩,⟨0,(some 54),(.not (.t 53)),none⟩]) (.cond (.t 54) (.seq (.reg [] false [⟨0,(some 55),(.mv (.t 10)),none⟩,⟨0,(some 9),(.mv (.t 55)),none⟩]) (.reg [] false [⟨0,(some 56),(.mv (.t 5)),none⟩,⟨0,(some 57),(.bin .add (.t 56) (.c (.int .i64 1))),none⟩,⟨0,(some 5),(.mv (.t 57)),none⟩])) .skip)) (.reg [] false [⟨0,(some 58),(.mv (.t 8)),none⟩,⟨0,(some 59),(.load true 40 (.t 11)),none⟩,⟨0,(some 60),(.bslice 40 1 (aW (nf 0)) [(0,(40,(.t 59)))]),none⟩,⟨0,(some 61),(.app 40 40 (.t 58) (.t 60)),none⟩,⟨0,(some 8),(.mv (.t 61)),none⟩]))))) (.reg [] false [⟨0,(some 62),(.bin .add (.t 36) (.c (.int .i64 1))),none⟩,⟨0,(some 36),(.mv (.t 62)),none⟩])))))
def aHZ:XCode:=(.loop [4,5,105,106,107] (.seq (.reg [] false [⟨0,(some 108),(.bin .lss (.t 107) (.t 106)),none⟩]) (.seq (.cond (.t 108) .skip (.exit 4)) (.seq (.block 5 (.seq (.reg [] false [⟨0,(some 109),(.idx 40 (.t 105) (.t 107)),none⟩,⟨0,(some 110),(.load true 40 (.t 109)),none⟩,⟨0,(some 15),(.alloc (aW (nf 0))),none⟩,⟨0,none,(.store 40 (.t 15) (.t 110) []),none⟩]) (.reg [] false [⟨0,(some 111),(.mv (.t 4)),none⟩,⟨0,(some 112),(.load true 40 (.t 15)),none⟩,⟨0,(some 113),(.callf false (.c (.fn (.func 46) [] [])) [(.t 112)] []),none⟩,⟨0,(some 114),(.bslice 1 1 [(.str ⟨#[]⟩)] [(0,(1,(.t 113)))]),none⟩,⟨0,(some 115),(.app 1 16 (.t 111) (.t 114)),none⟩,⟨0,(some 4),(.mv (.t 115)),none⟩]))) (.reg [] false [⟨0,(some 116),(.bin .add (.t 107) (.c (.int .i64 1))),none⟩,⟨0,(some 107),(.mv (.t 116)),none⟩])))))
def aIL:XCode:=(.seq (.seq (.reg [] false [⟨0,(some 103),(.mv (.t 8)),none⟩,⟨0,(some 104),(.mv (.t 13)),none⟩,⟨0,(some 105),(.slsl 40 (.t 103) none (some (.t 104))),none⟩,⟨0,(some 106),(.len false (.t 105)),none⟩,⟨0,(some 107),(.mv (.c (.int .i64 0))),none⟩]) (.block 4 aHZ)) (.seq (.seq (.reg [(4,false)] false [⟨0,(some 117),(.mv (.t 4)),none⟩,⟨0,(some 118),(.callf false (.c (.fn (.func 47) [] [])) [(.t 117),(.c (.str ⟨#[]⟩))] []),none⟩]) (.cond (.t 118) (.seq (.reg [] false [⟨0,(some 4),(.mv (.c .nilsl)),none⟩,⟨0,(some 5),(.mv (.c (.int .i64 0))),none⟩,⟨0,(some 6),(.mv (.c (.int .i64 13))),none⟩]) .ret) .skip)) (.seq (.reg [] false [⟨0,(some 119),(.mv (.t 4)),none⟩,⟨0,(some 120),(.mv (.t 5)),none⟩,⟨0,(some 4),(.mv (.t 119)),none⟩,⟨0,(some 5),(.mv (.t 120)),none⟩,⟨0,(some 6),(.mv (.c (.int .i64 0))),none⟩]) .ret)))
def aKq:XCode:=(.seq (.reg [] false [⟨0,(some 4),(.mv (.c .nilsl)),none⟩,⟨0,(some 5),(.mv (.c (.int .i64 0))),none⟩,⟨0,(some 6),(.mv (.c (.int .i64 0))),none⟩]) (.seq (.reg [] false [⟨0,(some 16),(.mv (.t 0)),none⟩,⟨0,(some 17),(.len true (.t 16)),none⟩,⟨0,(some 18),(.bin .quo (.t 17) (.c (.int .i64 45))),none⟩,⟨0,(some 7),(.mv (.t 18)),none⟩]) (.seq (.block 0 (.seq (.reg [] false [⟨0,(some 20),(.mv (.t 1)),none⟩,⟨0,(some 21),(.callf false (.c (.fn (.func 35) [] [])) [(.c (.int .i64 0)),(.t 20),(.c (.int .i64 1000))] []),none⟩,⟨0,(some 22),(.not (.t 21)),none⟩,⟨0,(some 19),(.mv (.t 22)),none⟩]) (.cond (.t 19) (.seq (.reg [] false [⟨0,(some 4),(.mv (.c .nilsl)),none⟩,⟨0,(some 5),(.mv (.c (.int .i64 0))),none⟩,⟨0,(some 6),(.mv (.c (.int .i64 2))),none⟩]) .ret) (.seq (.reg [] false [⟨0,(some 24),(.mv (.t 0)),none⟩,⟨0,(some 25),(.len true (.t 24)),none⟩,⟨0,(some 26),(.bin .rem (.t 25) (.c (.int .i64 45))),none⟩,⟨0,(some 27),(.bin .neq (.t 26) (.c (.int .i64 0))),none⟩,⟨0,(some 28),(.mv (.t 27)),none⟩,⟨0,(some 29),(.mv (.t 7)),(some (28,false))⟩,⟨0,(some 30),(.bin .lss (.t 29) (.c (.int .i64 2))),(some (28,false))⟩,⟨0,(some 31),(.pick (.t 28) (.c (.bool true)) (.t 30)),none⟩,⟨0,(some 23),(.mv (.t 31)),none⟩]) (.cond (.t 23) (.seq (.reg [] false [⟨0,(some 4),(.mv (.c .nilsl)),none⟩,⟨0,(some 5),(.mv (.c (.int .i64 0))),none⟩,⟨0,(some 6),(.mv (.c (.int .i64 20))),none⟩]) .ret) (.seq (.reg [] false [⟨0,(some 33),(.mv (.t 7)),none⟩,⟨0,(some 34),(.bin .gtr (.t 33) (.c (.int .i64 6))),none⟩,⟨0,(some 32),(.mv (.t 34)),none⟩]) (.cond (.t 32) (.seq (.reg [] false [⟨0,(some 4),(.mv (.c .nilsl)),none⟩,⟨0,(some 5),(.mv (.c (.int .i64 0))),none⟩,⟨0,(some 6),(.mv (.c (.int .i64 1))),none⟩]) .ret) .skip))))))) (.seq (.reg [] false [⟨0,(some 8),(.mv (.c .nilsl)),none⟩]) (.seq (.reg [] false [⟨0,(some 9),(.mv (.c (.int .i64 (-1)))),none⟩]) (.seq (.seq (.reg [] false [⟨0,(some 35),(.mv (.t 7)),none⟩,⟨0,(some 36),(.mv (.c (.int .i64 0))),none⟩]) (.block 1 aIa)) (.seq (.reg [] false [⟨0,(some 63),(.mv (.t 7)),none⟩,⟨0,(some 64),(.bin .sub (.t 63) (.c (.int .i64 1))),none⟩,⟨0,(some 13),(.mv (.t 64)),none⟩]) (.seq (.block 3 (.seq (.reg [] false [⟨0,(some 66),(.mv (.t 5)),none⟩,⟨0,(some 67),(.bin .gtr (.t 66) (.c (.int .i64 1))),none⟩,⟨0,(some 65),(.mv (.t 67)),none⟩]) (.cond (.t 65) (.seq (.reg [] false [⟨0,(some 4),(.mv (.c .nilsl)),none⟩,⟨0,(some 5),(.mv (.c (.int .i64 0))),none⟩,⟨0,(some 6),(.mv (.c (.int .i64 19))),none⟩]) .ret) (.seq (.reg [] true [⟨0,(some 69),(.mv (.t 5)),none⟩,⟨1,(some 70),(.bin .eql (.t 69) (.c (.int .i64 0))),none⟩,⟨2,(some 71),(.mv (.t 70)),none⟩,⟨3,(some 72),(.mv (.t 8)),(some (71,true))⟩,⟨4,(some 73),(.mv (.t 13)),(some (71,true))⟩,⟨5,(some 74),(.slsl 40 (.t 72) none (some (.t 73))),(some (71,true))⟩,⟨7,(some 76),(.mv (.t 8)),(some (71,true))⟩,⟨8,(some 77),(.mv (.t 13)),(some (71,true))⟩,⟨9,(some 78),(.idx 40 (.t 76) (.t 77)),(some (71,true))⟩,⟨10,(some 79),(.load true 40 (.t 78)),(some (71,true))⟩,⟨6,(some 75),(.callf false (.c (.fn (.func 43) [] [])) [(.t 74)] [10]),(some (71,true))⟩,⟨11,(some 80),(.eqag true (List.replicate 40 0) (.t 75) (.t 79)),(some (71,true))⟩,⟨12,(some 81),(.pick (.t 71) (.t 80) (.c (.bool false))),none⟩,⟨13,(some 68),(.mv (.t 81)),none⟩]) (.cond (.t 68) (.seq (.reg [] false [⟨0,(some 4),(.mv (.c .nilsl)),none⟩,⟨0,(some 5),(.mv (.c (.int .i64 0))),none⟩,⟨0,(some 6),(.mv (.c (.int .i64 22))),none⟩]) .ret) (.seq (.reg [] false [⟨0,(some 83),(.mv (.t 9)),none⟩,⟨0,(some 84),(.mv (.t 13)),none⟩,⟨0,(some 85),(.bin .sub (.t 84) (.c (.int .i64 1))),none⟩,⟨0,(some 86),(.callf false (.c (.fn (.func 35) [] [])) [(.c (.int .i64 0)),(.t 83),(.t 85)] []),none⟩,⟨0,(some 82),(.mv (.t 86)),none⟩]) (.cond (.t 82) (.seq (.reg [] false [⟨0,(some 87),(.mv (.t 8)),none⟩,⟨0,(some 88),(.mv (.t 9)),none⟩,⟨0,(some 89),(.callf false (.c (.fn (.func 44) [] [])) [(.c (.str ⟨#[]⟩))] []),none⟩,⟨0,(some 90),(.idx 40 (.t 87) (.t 88)),none⟩,⟨0,none,(.store 40 (.t 90) (.t 89) []),none⟩]) (.reg [] true [⟨0,(some 91),(.mv (.t 8)),none⟩,⟨1,(some 92),(.mv (.t 9)),none⟩,⟨2,(some 93),(.mv (.t 8)),none⟩,⟨3,(some 94),(.mv (.t 13)),none⟩,⟨4,(some 95),(.idx 40 (.t 93) (.t 94)),none⟩,⟨5,(some 96),(.load true 40 (.t 95)),none⟩,⟨6,(some 97),(.mv (.t 8)),none⟩,⟨7,(some 98),(.mv (.t 13)),none⟩,⟨8,(some 99),(.slsl 40 (.t 97) none (some (.t 98))),none⟩,⟨9,(some 100),(.callf false (.c (.fn (.func 43) [] [])) [(.t 99)] [5]),none⟩,⟨10,(some 101),(.callf false (.c (.fn (.func 45) [] [])) [(.t 96),(.t 100),(.c (.int .i64 94))] []),none⟩,⟨11,(some 102),(.idx 40 (.t 91) (.t 92)),none⟩,⟨12,none,(.store 40 (.t 102) (.t 101) []),none⟩])) .skip))))))) aIL))))))))
theorem aIM:x16=⟨121,[(4,none),(5,none),(6,none)],false,false,aKq,none,none⟩:=rfl
theorem aEP (a b:Nat):tdZ (a:Int) (b:Int)=((a/b:Nat):Int):=by
 rw[tdZ,Int.tdiv_eq_ediv_of_nonneg (by omega)];exact(Int.natCast_ediv a b).symm
def wS (s:ByteArray) (i:Nat):ByteArray:=oA s (i*45) ((i+1)*45)
def gdS (s:ByteArray) (row i:Nat):Bool:=yP (wS s i) (row+i)
def iC (s:ByteArray):Nat→List Nat
 | 0=>[]
 | i+1=>iC s i++rdF (wS s i)
def xB (s:ByteArray) (row:Nat):Nat→Int
 | 0 => -1
 | i+1=>if gdS s row i then xB s row i else (i:Int)
def qW (s:ByteArray) (row:Nat):Nat→Nat
 | 0=>0
 | i+1=>if gdS s row i then qW s row i else qW s row i+1
theorem aCU (s:ByteArray):(rdF s).length=40:=fE _
theorem tP (s:ByteArray):∀ i,(iC s i).length=i*40
 | 0=>rfl
 | i+1=>by rw[iC,List.length_append,tP s i,aCU];omega
theorem aDI (s:ByteArray):∀ i,jT (iC s i)
 | 0=>by intro k x h;simp[iC]at h
 | i+1=>by
   intro k x h
   rw[iC,List.getElem?_append]at h
   split at h
   ·exact aDI s i k x h
   ·exact jI (oY _) _ x h
theorem aCg (s:ByteArray) (row:Nat):∀ i,qW s row i≤i
 | 0=>Nat.le_refl _
 | i+1=>by
   have:=aCg s row i
   rw[qW];split<;>omega
theorem aGu (s:ByteArray) (row:Nat):∀ i,-1≤xB s row i∧xB s row i<i
 | 0=>by simp[xB]
 | i+1=>by
   have:=aGu s row i
   rw[xB];split<;>omega
theorem aAH {s:ByteArray} {i:Nat} (h:(i+1)*45≤s.size):(wS s i).size=45:=by
 unfold wS
 rw[←aAl,ByteArray.size_extract];omega

def pT (C:List Nat) (k:Nat) (f:List Nat):List Nat:=C.take (k*40)++(f++C.drop (k*40+40))
def aGg (C:List Nat) (n k:Nat):List Nat:=pT (pT C k (cR [])) k (cL 94 (fA (pT C k (cR [])) n) (cU (pT C k (cR [])) n))
def vE (C:List Nat) (n:Nat):List ByteArray:=(List.range n).map fun i=>lnB (fA C i)
def sN (e:Int):AV:=.tup [.fs [],I 0,I e]
def aAV (C:List Nat) (n md:Nat):AV:=if Lib.containsS (vE C n) emB then sN 13 else .tup [.fs (rS (vE C n)),I (md:Nat),I 0]
def oC (C:List Nat) (n:Nat) (bad:Int) (md:Nat):AV:=if 1<md then sN 19 else if md=0∧cU C n≠fA C n then sN 22 else
 if 0≤bad∧bad<n then aAV (aGg C n bad.toNat) n md else aAV C n md
def mnV (s:ByteArray) (row:Int):AV:=if (decide (0≤row)&&decide (row≤1000))=true then
 (if s.size%45≠0∨s.size/45<2 then sN 20 else if 6<s.size/45 then sN 1 else oC (iC s (s.size/45)) (s.size/45-1) (xB s row.toNat (s.size/45)) (qW s row.toNat (s.size/45))) else sN 2
def mS (i:Nat):AV:=if i=0 then .nilsl else .sl 0 0 40 i
def mG (s:ByteArray) (i:Nat):XH:=if i=0 then [] else [some (.blk true (.cells true (aW (iC s i))))]

theorem q47 {xs:List AV} {h:XH}:runW aN 47 xs h=aAT xs h:=fC rfl rfl xs h
theorem aCM:∀ l:List ByteArray,pJ (rS l)=some l
 | []=>rfl
 | s::l=>by
   have ih:=aCM l
   show (pJ (rS l)).map (s :: ·)=_
   rw[ih];rfl
theorem w47 {l:List ByteArray} {x:ByteArray} (h:l.length≤1000000):runW aN 47 [.fs (rS l),.str x] []=some (.bool (Lib.containsS l x),[]):=by
 rw[q47];unfold aAT;dsimp only;rw[aCM];dsimp only;rw[if_pos h]
def oG (l:List ByteArray):List AV:=l.map AV.str
theorem sY (l:List ByteArray):(oG l).length=l.length:=by simp[oG]
theorem jW (l:List ByteArray):qI (oG l)=[]:=aFM (fun _=>rfl) _
theorem jU (l:List ByteArray):slL (oG l)=[]:=aFK (fun _=>rfl) _
theorem jV (f:Nat→Option Nat) (l:List ByteArray):jE f (oG l)=oG l:=aFL (fun _=>rfl) _
theorem tZ (l:List ByteArray):hO (oG l)=true:=cY fun v hv=>by
 obtain⟨n,_,rfl⟩:=List.mem_map.1 hv;rfl
theorem aET (l:List ByteArray):bY (oG l) 0 1 l.length=rS l:=aDA (f:=AV.str) l []
theorem aDl (C:List Nat) (n:Nat):(vE C n).length=n:=by simp[vE]
theorem aNn (C:List Nat) (i:Nat):oG (vE C i)++[.str (lnB (fA C i))]=oG (vE C (i+1)):=by
 simp[oG,vE,List.range_succ]
def tS (i:Nat):AV:=if i=0 then .nilsl else .sl 0 0 1 i
def tB (p i:Nat):AV:=if i=0 then .sl 0 0 40 p else .sl 1 0 40 p
def tG (C:List Nat) (i:Nat):XH:=if i=0 then [some (.blk true (.cells true (aW C)))] else [some (.blk true (.cells true (oG (vE C i)))),some (.blk true (.cells true (aW C)))]
theorem t16 {C:List Nat} {n p md:Nat} {e:aF} (hn:n=p+1) (hC:C.length=n*40) (hb:jT C) (h0:1≤p) (h1:p≤1000) (e4:e 4 = .nilsl) (e5:e 5=I (md:Nat)) (e8:e 8 = .sl 0 0 40 n) (e13:e 13=I (p:Nat)) :
 eG none [(4,none),(5,none),(6,none)] false 0 (execW aN 16 0 none aIL e [some (.blk true (.cells true (aW C)))])=some (aAV C p md,[]):=by
 unfold aIL
 have z1:((p:Int)≤(n:Int))=True:=eq_true (by omega)
 have z2:(0<p)=True:=eq_true (by omega)
 sym =>
  simp[aO,aP,bG,Za,Zb,Zf,Zh,Zl,Zm,Zn,Zu,ZG,ZJ,Yi,Yx,Yy,VR,Uq,Ur,Us,UL,UP,UQ,UX,UY,Td,Te,Tf,Tg,Ts,e4,e5,e8,e13,z1,z2]
  tactic =>
   unfold aHZ
   rw[bU p (fun i=>[tS i,I (md:Nat),tB p i,I (p:Nat),I (i:Nat)]) (fun i=>tG C i)]
   ·have s0:tS p = .sl 0 0 1 p:=if_neg (by omega)
    have b0:tB p p = .sl 1 0 40 p:=if_neg (by omega)
    have g0:tG C p=[some (.blk true (.cells true (oG (vE C p)))),some (.blk true (.cells true (aW C)))]:=if_neg (by omega)
    have x0:((p:Int)<(p:Int))=False:=eq_false (by omega)
    have ll:=aDl C p
    have lc:=sY (vE C p)
    rw[ll]at lc
    have ch:=aET (vE C p)
    rw[ll]at ch
    have c1:=w47 (l:=vE C p) (x:=⟨#[]⟩) (by omega)
    unfold aAV
    have hE:Lib.containsS (vE C p) emB=Lib.containsS (vE C p) ⟨#[]⟩:=rfl
    rw[hE]
    have p1:(p*1≤p)=True:=eq_true (by omega)
    have p2:(p≤p)=True:=eq_true (by omega)
    generalize vE C p=L at *
    cases hc:Lib.containsS L ⟨#[]⟩with
    | true =>
      rw[hc]at c1
      unfold sN
      (sym=>(simp[aO,aP,bG,Za,Zb,Zf,Zg,Zh,Zj,Zl,Zm,Zu,Z0,ZS,ZU,ZZ,Ya,Yt,YF,YH,YK,YL,YZ,Xa,Xb,Xd,Xe,Xk,Xo,Xq,Xr,Xx,Xz,XK,XL,XN,XZ,Wc,Wg,Wp,Ws,Wt,Wu,Wv,Ww,Wx,Wz,WB,WM,WN,WO,WV,WW,WX,Va,Vb,Vc,Vd,Ve,Vg,Vi,Vj,Vk,Vl,Vm,Vn,Vo,Vq,Vr,Vs,Vt,Vu,Vx,V0,V4,V5,V9,VA,VC,VD,VF,VG,VH,VR,VV,VY,VZ,Ua,Ub,Uc,Uf,Ug,Uj,Uk,U5,UJ,UL,UM,UO,UQ,UR,US,UV,UX,UY,Tn,Tp,Tr,Tx,Ty,Tz,T8,T9,TA,TB,TC,TD,s0,b0,g0,x0,lc,ch,c1,p1,p2];all_goals tactic=>exact rfl))
    | false =>
      rw[hc]at c1
      (sym=>(simp[aO,aP,bG,Za,Zb,Zf,Zg,Zh,Zj,Zl,Zm,Zu,Z0,ZS,ZU,ZZ,Ya,Yt,YF,YH,YK,YL,YZ,Xa,Xb,Xd,Xe,Xk,Xo,Xp,Xq,Xw,Xx,Xz,XK,XL,XZ,Wc,Wg,Wp,Ws,Wt,Wu,Wv,Ww,Wx,Wz,WB,WM,WN,WO,WV,WW,WX,Va,Vb,Vc,Vd,Ve,Vg,Vi,Vj,Vk,Vl,Vm,Vn,Vo,Vq,Vr,Vs,Vt,Vu,Vx,V0,V5,V8,V9,VA,VC,VD,VF,VG,VH,VR,VV,VY,VZ,Ua,Ub,Uc,Uf,Ug,Uj,Uk,U5,UJ,UL,UM,UN,UO,UQ,UR,UV,UX,UY,Tn,Tp,Tr,Tx,Ty,Tz,T8,T9,TA,TB,TC,TD,s0,b0,g0,x0,lc,ch,c1,p1,p2];all_goals tactic=>exact rfl))
   ·have s0:tS 0 = .nilsl:=rfl
    have b0:tB p 0 = .sl 0 0 40 p:=rfl
    have g0:tG C 0=[some (.blk true (.cells true (aW C)))]:=rfl
    (sym=>(simp[aO,aP,bG,Za,Y5,YF,YM,YO,YZ,Xf,Xh,XZ,Wj,Wm,Wn,Wp,Wq,Wr,Wt,Wv,Ww,Wx,Wy,WF,WG,WK,Vy,Vz,V9,VA,VC,VD,VF,VI,VT,VZ,Ua,Ub,Uc,UW,Tq,s0,b0,g0,e4,e5,bE,bC,bB,bH];all_goals tactic=>exact rfl))
   ·intro i hi
    have i1:((i:Int)<(p:Int))=True:=eq_true (by omega)
    have a2:=gJ hi (by omega)
    have hC2:p*40≤C.length:=by omega
    have lC:=aI C
    have i3:(i*40+40≤(aW C).length)=True:=eq_true (by
     rw[lC]
     have h1:(i+1)*40≤p*40:=Nat.mul_le_mul_right _ hi
     omega)
    have fu:=yV (C:=C) (k:=i)
    have l5:=nT hC2 hi
    have c1:=w46 l5
    rw[bJ]at c1
    have m5:=aI (fA C i)
    rw[l5]at m5
    have l0:(aW (nf 0)).length=40:=by rw[aI];exact cJ (by omega)
    have gz:=aZ (nf 0)
    have c8:=fB (a:=nf 0) (b:=fA C i) (by rw[l5];exact cJ (by omega))
    have k5:=dS l5
    have k6:=fM l5
    have g5:=aZ (fA C i)
    have gC:=aZ C
    have ls:=aNn C i
    have n1:=sY (vE C i)
    rw[aDl]at n1
    have n2:=tZ (vE C i)
    have n3:=tZ (vE C (i+1))
    have s1:tS (i+1) = .sl 0 0 1 (i+1):=if_neg (by omega)
    have b1:tB p (i+1) = .sl 1 0 40 p:=if_neg (by omega)
    have g1:tG C (i+1)=[some (.blk true (.cells true (oG (vE C (i+1))))),some (.blk true (.cells true (aW C)))]:=if_neg (by omega)
    have z3:(i+1≤1099511627776)=True:=eq_true (by omega)
    have z4:((i+1)*16≤1099511627776)=True:=eq_true (by omega)
    by_cases hi0:i=0
    ·subst hi0
     have s0:tS 0 = .nilsl:=rfl
     have b0:tB p 0 = .sl 0 0 40 p:=rfl
     have g0:tG C 0=[some (.blk true (.cells true (aW C)))]:=rfl
     have L0:oG (vE C 0)=[]:=rfl
     rw[L0,List.nil_append]at ls
     have j1:((0:Int)<(p:Int))=True:=eq_true (by omega)
     rw[s1,b1,g1]
     rw[←ls]
     have fu:List.take 40 (aW C)=aW (fA C 0):=fu
     have fv:List.take 40 (List.drop 0 (aW C))=aW (fA C 0):=fu
     have i3:(40≤(aW C).length)=True:=eq_true (by rw[lC];omega)
     generalize lnB (fA C 0)=B at *
     generalize fA C 0=f at *
     (sym=>(simp[aO,aP,bG,Za,Zb,Zc,Zd,Ze,Zf,Zh,Zl,Zm,Zo,Zu,Zv,Zy,Z0,ZD,ZL,ZO,ZP,ZS,ZU,ZY,ZZ,Ya,Yk,Yo,Yt,Y2,Y4,Y5,Y7,YF,YJ,YM,YV,YZ,Xb,Xc,Xf,XW,XX,XZ,Wa,Wb,Wc,Wd,We,Wf,Wg,Wj,Wk,Wm,Wn,Wp,Wq,Wr,Ws,Wt,Wu,Wv,Ww,Wx,Wy,Wz,WB,WF,WG,WK,WM,WN,WO,Vx,Vy,Vz,V0,V4,V9,VA,VB,VC,VD,VF,VG,VH,VI,VK,VR,VT,VU,VW,VX,VY,VZ,Ua,Ub,Uc,Ud,Ue,Ul,Um,Un,Uo,Uv,Uw,Ux,Uy,Uz,U0,U1,U2,U6,U7,UA,UC,UD,UE,UG,UH,UI,UJ,UL,UN,UP,UQ,UT,UW,UX,UY,Tq,Tt,j1,i3,fu,fv,m5,c1,l0,gz,c8,k5,k6,g5,gC,s0,b0,g0,bE,bC,bB,bH];all_goals tactic=>exact rfl))
    ·have s0:tS i = .sl 0 0 1 i:=if_neg hi0
     have b0:tB p i = .sl 1 0 40 p:=if_neg hi0
     have g0:tG C i=[some (.blk true (.cells true (oG (vE C i)))),some (.blk true (.cells true (aW C)))]:=if_neg hi0
     rw[s1,b1,g1]
     generalize vE C (i+1)=L1 at *
     generalize vE C i=L0 at *
     generalize lnB (fA C i)=B at *
     generalize fA C i=f at *
     (sym=>(simp[aO,aP,bG,Za,Zb,Zc,Zd,Ze,Zf,Zh,Zl,Zm,Zo,Zu,Zv,Zy,Z0,ZD,ZL,ZO,ZP,ZS,ZU,ZY,ZZ,Ya,Yk,Yo,Yt,Yx,Yy,YF,YJ,YM,YV,YZ,Xb,Xc,Xf,XW,XX,XZ,Wa,Wb,Wc,Wd,We,Wf,Wg,Wj,Wk,Wm,Wn,Wp,Wq,Wr,Ws,Wt,Wu,Wv,Ww,Wx,Wy,Wz,WB,WF,WG,WK,WM,WN,WO,Vx,Vy,Vz,V0,V4,V9,VA,VB,VC,VD,VF,VG,VH,VI,VK,VR,VT,VU,VW,VX,VY,VZ,Ua,Ub,Uc,Ud,Ue,Ul,Um,Un,Uo,Uv,Uw,Ux,Uy,Uz,U0,U1,U3,U4,U6,U7,UA,UC,UD,UE,UF,UG,UH,UJ,UL,UN,UP,UQ,UT,UW,UX,UY,Tn,Tp,Tq,Tt,i1,a2,i3,fu,m5,c1,l0,gz,c8,k5,k6,g5,gC,ls,n1,n2,n3,s0,b0,g0,z3,z4,bE,bC,bB,bH,jW,jU,jV];all_goals tactic=>exact rfl))
   ·have x0:((p:Int)<(p:Int))=False:=eq_false (by omega)
    (sym=>(simp[aO,aP,bG,Za,Zb,Zf,Zh,Zl,Zm,Z0,Yt,Vx,V0,V5,V6,VV,U5,UJ,UL,UO,UQ,UR,UX,x0];all_goals tactic=>exact rfl))

theorem zD:∀ {a b:List Nat} {n:Nat},a.length=n→b.length=n→bW (List.replicate n 0) (aW a) (aW b)=some (decide (a=b))
 | [],[],0,_,_=>rfl
 | x::a,y::b,n+1,ha,hb=>by
   have ih:=zD (a:=a) (b:=b) (n:=n) (by simpa using ha) (by simpa using hb)
   rw[List.replicate_succ]
   show (match nC 0 (.int .u8 (x:Int)) (.int .u8 (y:Int)),bW (List.replicate n 0) (aW a) (aW b)with
    | some x,some y=>some (x&&y)
    | _,_=>none)=_
   rw[ih]
   show some (decide ((x:Int)=(y:Int))&&decide (a=b))=_
   congr 1
   rw[←Bool.decide_and]
   exact decide_eq_decide.2 (by rw[List.cons.injEq];constructor<;>(rintro ⟨h1,h2⟩;exact⟨by omega,h2⟩))
theorem aCP {C:List Nat} {k:Nat} {f:List Nat} (hf:f.length=40):bL (aW C) (k*40) (aW f)=aW (pT C k f):=by
 unfold bL pT aW
 simp[hf]
theorem pR {C:List Nat} {k n:Nat} {f:List Nat} (hC:C.length=n*40) (hk:k<n) (hf:f.length=40):(pT C k f).length=n*40:=by
 have:(k+1)*40≤n*40:=Nat.mul_le_mul_right _ hk
 simp[pT,hf,hC];omega
theorem pS {C:List Nat} {k:Nat} {f:List Nat} (hC:jT C) (hf:jT f):jT (pT C k f):=by
 intro i x h
 unfold pT at h
 rw[List.getElem?_append]at h
 split at h
 ·rw[List.getElem?_take]at h
  split at h
  ·exact hC _ _ h
  ·cases h
 ·rw[List.getElem?_append]at h
  split at h
  ·exact hf _ _ h
  ·rw[List.getElem?_drop]at h
   exact hC _ _ h
theorem vU {C:List Nat} {n p:Nat} (hC:C.length=n*40) (hp:n=p+1):(fA C p).length=40:=nT (n:=n) (by omega) (by omega)
theorem aGv (b:Bool):b=false∨b=true:=by cases b;exact .inl rfl;exact .inr rfl
theorem dO:∀ l:List Nat,eD (aW l) (aW l)=true
 | []=>rfl
 | x::l=>by
   show (cH (.int .u8 (x:Int)) (.int .u8 (x:Int))&&eD (aW l) (aW l))=true
   rw[dO l]
   simp[cH]
theorem aDw:runW aN 44 [.str ⟨#[]⟩] []=some (.agg (aW (cR [])),[]):=w44 ⟨#[]⟩
theorem w16 {s:ByteArray} {row:Int} (hz:s.size≤1000000):runW aN 16 [.str s,I row] []=some (mnV s row,[]):=by
 rw[q16 (by simp),aIM];unfold aKq;dsimp only
 have c1:=w35 0 row 1000
 have d1:tdZ (s.size:Int) 45=((s.size/45:Nat):Int):=aEP s.size 45
 have d2:zJ (s.size:Int) 45=((s.size%45:Nat):Int):=eR s.size 45
 have d3:IntKind.i64.wrap ((s.size/45:Nat):Int)=((s.size/45:Nat):Int):=aL (by omega) (by omega)
 cases hb:decide (0≤row)&&decide (row≤1000)with
 | false =>
   rw[hb]at c1
   have hv:mnV s row=sN 2:=by unfold mnV;rw[hb,if_neg (by decide)]
   rw[hv];unfold sN
   (sym=>(simp[aO,aP,bG,Za,Zb,Zf,Zh,Zl,Zm,Zu,Z0,Z8,ZJ,ZS,ZU,ZZ,Ya,Ye,Yj,YF,YK,YL,YZ,Xa,Xd,Xe,Xk,Xo,Xr,Xz,XI,XK,XN,Wg,Wh,Wp,Ws,Wt,Wu,Ww,Wx,Wz,WB,WM,WN,WO,Va,Vj,Vk,Vl,Vm,Vn,Vo,Vq,Vr,Vs,Vt,Vu,Vw,V0,V4,V8,V9,VA,VC,VD,VF,VH,VO,VV,VY,VZ,Ua,Ub,Uc,Uf,Ug,Uj,Uk,UJ,UL,UM,UP,UQ,US,UU,UX,UY,Tx,c1,d1,d2,d3];all_goals tactic=>exact rfl))
 | true =>
   rw[hb]at c1
   rcases wW (s.size%45=0)with h0|h0
   ·have h0':=of_eq_true h0
    have z0:(((s.size%45:Nat):Int)=0)=True:=eq_true (by omega)
    rcases wW (s.size/45<2)with h2|h2
    ·have h2':=of_eq_true h2
     have z2:(((s.size/45:Nat):Int)<2)=True:=eq_true (by omega)
     have hv:mnV s row=sN 20:=by unfold mnV;rw[hb,if_pos rfl,if_pos (Or.inr h2')]
     rw[hv];unfold sN
     generalize s.size%45=rm at *
     generalize s.size/45=n at *
     (sym=>(simp[aO,aP,bG,Za,Zb,Zf,Zh,Zl,Zm,Zp,Zr,Zu,Zw,Z0,Z8,ZJ,ZS,ZU,ZZ,Ya,Yc,Ye,Yj,Ys,Yt,YF,YK,YL,YZ,Xa,Xd,Xe,Xk,Xo,Xr,Xz,XI,XK,XN,Wg,Wh,Wp,Ws,Wt,Wu,Ww,Wx,Wz,WB,WM,WN,WO,Va,Vj,Vk,Vl,Vm,Vn,Vo,Vq,Vr,Vs,Vt,Vu,Vw,V0,V4,V5,V8,V9,VA,VC,VD,VF,VH,VN,VU,VV,VY,VZ,Ua,Ub,Uc,Uf,Ug,Uj,Uk,UJ,UL,UM,UP,UQ,US,UU,UX,UY,Tx,c1,d1,d2,d3,z0,z2];all_goals tactic=>exact rfl))
    ·have h2':=of_eq_false h2
     have z2:(((s.size/45:Nat):Int)<2)=False:=eq_false (by omega)
     rcases wW (6<s.size/45)with h6|h6
     ·have h6':=of_eq_true h6
      have z6:((6:Int)<((s.size/45:Nat):Int))=True:=eq_true (by omega)
      have hv:mnV s row=sN 1:=by unfold mnV;rw[hb,if_pos rfl,if_neg (by omega),if_pos h6']
      rw[hv];unfold sN
      generalize s.size%45=rm at *
      generalize s.size/45=n at *
      (sym=>(simp[aO,aP,bG,Za,Zb,Zf,Zh,Zl,Zm,Zp,Zr,Zu,Zw,Z0,Z8,ZJ,ZS,ZU,ZZ,Ya,Yc,Ye,Yj,Ys,Yt,Yv,YF,YK,YL,YZ,Xa,Xd,Xe,Xk,Xo,Xr,Xz,XI,XK,XN,Wg,Wh,Wp,Ws,Wt,Wu,Ww,Wx,Wz,WB,WM,WN,WO,Va,Vj,Vk,Vl,Vm,Vn,Vo,Vq,Vr,Vs,Vt,Vu,Vw,V0,V4,V5,V8,V9,VA,VC,VD,VF,VH,VN,VU,VV,VY,VZ,Ua,Ub,Uc,Uf,Ug,Uj,Uk,UJ,UL,UM,UP,UQ,US,UU,UX,UY,Tx,c1,d1,d2,d3,z0,z2,z6];all_goals tactic=>exact rfl))
     ·have h6':=of_eq_false h6
      have z6:((6:Int)<((s.size/45:Nat):Int))=False:=eq_false (by omega)
      have hv:mnV s row=oC (iC s (s.size/45)) (s.size/45-1) (xB s row.toNat (s.size/45)) (qW s row.toNat (s.size/45)):=by unfold mnV;rw[hb,if_pos rfl,if_neg (by omega),if_neg h6']
      rw[hv]
      have hsz:s.size/45*45=s.size:=by omega
      simp only[Bool.and_eq_true,decide_eq_true_eq]at hb
      obtain⟨R,hR⟩:∃ R:Nat,row=(R:Int):=⟨row.toNat,by omega⟩
      have hR1:row.toNat=R:=by omega
      rw[hR1]
      subst hR
      generalize s.size%45=rm at *
      generalize s.size/45=n at *
      sym =>
       simp[aO,aP,bG,Za,Zb,Zf,Zh,Zl,Zm,Zp,Zr,Zu,Zw,Z0,Z8,ZJ,ZS,ZU,ZZ,Ya,Yc,Ye,Yj,Ys,Yt,Yv,YF,YZ,Xa,Xz,XI,Wg,Wh,Wp,Ws,Wu,Wz,WB,WM,WN,WO,Vw,V0,V5,V8,V9,VA,VC,VD,VH,VN,VU,VV,VY,VZ,Ua,Ub,Uc,Uj,Uk,UJ,UL,UN,UP,UQ,UT,UX,UY,c1,d1,d2,d3,z0,z2,z6]
       tactic =>
        unfold aIa
        rw[bU n (fun i=>[.str s,I (R:Int),.nilsl,I (qW s R i:Nat),I (n:Nat),mS i,I (xB s R i),I (n:Nat),I (i:Nat)]) (fun i=>mG s i)]
        ·obtain⟨p,hp⟩:∃ p,n=p+1:=⟨n-1,by omega⟩
         have hnp:n-1=p:=by omega
         have s0:mS n = .sl 0 0 40 n:=if_neg (by omega)
         have g0:mG s n=[some (.blk true (.cells true (aW (iC s n))))]:=if_neg (by omega)
         have x0:((n:Int)<(n:Int))=False:=eq_false (by omega)
         have wr:IntKind.i64.wrap ((n:Int)-1)=(p:Int):=by rw[aL (by omega) (by omega)];omega
         have wq:IntKind.i64.wrap ((p:Int)-1)=(p:Int)-1:=aL (by omega) (by omega)
         have hC:=tP s n
         have hB:=aDI s n
         have hmd:=aCg s R n
         have hbd:=aGu s R n
         rw[hnp]
         generalize iC s n=C at *
         generalize qW s R n=md at *
         generalize xB s R n=bad at *
         have lC:=aI C
         rw[hC]at lC
         have gC:=aZ C
         have sC:=dO C
         rcases wW ((1:Int)<(md:Int))with k1|k1
         ·have hv:oC C p bad md=sN 19:=by unfold oC;rw[if_pos (by have:=of_eq_true k1;omega)]
          rw[hv];unfold sN
          (sym=>(simp[aO,aP,bG,Za,Zb,Zf,Zh,Zl,Zm,Zu,Z0,Yp,Yt,Yv,YF,YK,YL,YZ,Xd,Xe,Xk,Xo,Xr,Xz,XK,XN,Wp,Wt,Wv,Ww,Wx,Va,Vj,Vk,Vl,Vm,Vn,Vo,Vq,Vr,Vs,Vt,Vu,Vx,V0,V4,V5,VA,VD,VF,VU,VV,VZ,Ua,Ub,Uc,Uf,Ug,Uj,Uk,U5,UJ,UL,UM,UO,UP,UQ,UR,US,UU,UV,UX,UY,Tx,s0,g0,x0,wr,k1,lC,gC,bE,bC,bB,bH];all_goals tactic=>exact rfl))
         ·have k1':¬1<md:=by have:=of_eq_false k1;omega
          rcases wW ((md:Int)=0)with k0|k0
          ·have k0':md=0:=by have:=of_eq_true k0;omega
           have f9:=yV (C:=C) (k:=p)
           have l9:=vU hC hp
           have l8:=dZ (C:=C) (n:=p) (by omega) p (Nat.le_refl _)
           have cs9:=w43 (C:=C) (n:=p) (by omega) hB (by omega)
           rw[bJ]at cs9
           have ce:=zD l8 l9
           have y1:((p:Int)<(n:Int))=True:=eq_true (by omega)
           have y2:(p*40+40≤n*40)=True:=eq_true (by omega)
           have y3:((p:Int)≤(n:Int))=True:=eq_true (by omega)
           have y4:(0<p)=True:=eq_true (by omega)
           have g9:=aZ (fA C p)
           have g8:=aZ (cU C p)
           have m9:=aI (fA C p)
           rw[l9]at m9
           have m8:=aI (cU C p)
           rw[l8]at m8
           rcases aGv (decide (cU C p=fA C p))with hq|hq
           ·skip
            rw[hq]at ce
            have hv:oC C p bad md=sN 22:=by unfold oC;rw[if_neg k1',if_pos ⟨k0',of_decide_eq_false hq⟩]
            rw[hv];unfold sN
            (sym=>(simp[aO,aP,bG,Za,Zb,Zd,Ze,Zf,Zh,Zi,Zl,Zm,Zn,Zp,Zq,Zu,Zw,Z0,Z7,ZD,ZG,ZM,ZN,ZQ,ZV,ZW,ZZ,Ya,Yb,Yk,Yp,Yr,Yt,Yv,Yx,Yy,YB,YC,YF,YK,YL,YM,YZ,Xc,Xd,Xe,Xf,Xk,Xo,Xr,Xz,XK,XN,XZ,Wa,Wb,Wc,Wf,Wg,Wj,Wl,Wm,Wp,Wq,Wr,Ws,Wt,Wu,Wv,Ww,Wx,Wz,WB,WC,WF,WG,WK,WM,WN,WO,WP,WR,WS,WT,WU,Va,Vj,Vk,Vl,Vm,Vn,Vo,Vq,Vr,Vs,Vt,Vu,Vx,V0,V4,V5,V9,VA,VC,VD,VF,VG,VH,VK,VN,VO,VQ,VR,VT,VU,VV,VW,VX,VY,VZ,Ua,Ub,Uc,Uf,Ug,Uj,Uk,Uq,Ur,Us,U5,U6,U7,UA,UJ,UL,UM,UO,UP,UQ,UR,US,UU,UV,UX,UY,Td,Te,Tf,Tg,Tp,Ts,Tx,T5,s0,g0,x0,wr,wq,k1,k0,lC,gC,sC,f9,cs9,ce,y1,y2,y3,y4,g9,g8,m9,m8,bE,bC,bB,bH];all_goals tactic=>exact rfl))
           ·skip
            rw[hq]at ce
            have hz9:¬(md=0∧cU C p≠fA C p):=fun hh=>hh.2 (of_decide_eq_true hq)
            have c35:=w35 0 bad ((p:Int)-1)
            rcases aGv (decide (0≤bad)&&decide (bad≤(p:Int)-1))with hbt|hbt
            ·skip
             rw[hbt]at c35
             have hfx:¬(0≤bad∧bad<p):=fun hh=>by
              rw[Bool.and_eq_false_iff,decide_eq_false_iff_not,decide_eq_false_iff_not]at hbt
              omega
             have hv:oC C p bad md=aAV C p md:=by unfold oC;rw[if_neg k1',if_neg hz9,if_neg hfx]
             rw[hv]
             sym =>
              simp[aO,aP,bG,Za,Zb,Zd,Ze,Zf,Zh,Zi,Zl,Zm,Zn,Zp,Zq,Zu,Zw,Z0,Z7,ZD,ZG,ZM,ZN,ZQ,ZS,ZU,ZV,ZW,ZZ,Ya,Yb,Yk,Yp,Yr,Yt,Yv,Yx,Yy,YB,YC,YF,YM,YZ,Xa,Xc,Xf,XZ,Wa,Wb,Wc,Wf,Wg,Wj,Wl,Wm,Wp,Wq,Wr,Ws,Wu,Wv,Wz,WB,WC,WF,WG,WK,WM,WN,WO,WP,WR,WS,WT,WU,Vx,V0,V5,V9,VA,VC,VD,VG,VH,VK,VN,VQ,VR,VT,VU,VV,VW,VX,VY,VZ,Ua,Ub,Uc,Uq,Ur,Us,U5,U6,U7,UA,UJ,UL,UN,UO,UP,UQ,UR,UT,UV,UX,UY,Td,Te,Tf,Tg,Tp,Ts,T5,s0,g0,x0,wr,wq,k1,lC,gC,sC,c35,bE,bC,bB,bH,k0,f9,cs9,ce,y1,y2,y3,y4,g9,g8,m9,m8]
              tactic =>
               exact t16 hp hC hB (by omega) (by omega) rfl rfl rfl rfl
            ·skip
             rw[hbt]at c35
             have hfx:0≤bad∧bad<p:=by
              rw[Bool.and_eq_true,decide_eq_true_eq,decide_eq_true_eq]at hbt
              omega
             have hv:oC C p bad md=aAV (aGg C p bad.toNat) p md:=by unfold oC;rw[if_neg k1',if_neg hz9,if_pos hfx]
             rw[hv]
             obtain⟨k,hk⟩:∃ k:Nat,bad=(k:Int):=⟨bad.toNat,by omega⟩
             subst hk
             have ht:((k:Int)).toNat=k:=rfl
             rw[ht]
             unfold aGg
             have j1:((k:Int)<(n:Int))=True:=eq_true (by omega)
             have f0:=aDw
             have le0:=fE []
             have su:=aCP (C:=C) (k:=k) le0
             have hC1:=pR (k:=k) hC (by omega) le0
             have hB1:=pS (k:=k) hB (jI (l:=[]) (fun i x h=>by simp at h))
             have m0:=aI (cR [])
             rw[le0]at m0
             have t0:=dS le0
             have gf0:=aZ (cR [])
             generalize pT C k (cR [])=C1 at *
             have lC1:=aI C1
             rw[hC1]at lC1
             have gC1:=aZ C1
             have sC1:=dO C1
             have f1:=yV (C:=C1) (k:=p)
             have lf1:=vU hC1 hp
             have cs:=w43 (C:=C1) (n:=p) (by omega) hB1 (by omega)
             rw[bJ]at cs
             have ls1:=dZ (C:=C1) (n:=p) (by omega) p (Nat.le_refl _)
             have w9:=w45 (t:=94) lf1 ls1 (tK hB1 p) (nH p) (by omega)
             rw[bJ,bJ,bJ]at w9
             have w9:runW aN 45 [.agg (aW (fA C1 p)),.agg (aW (cU C1 p)),I 94] []=some (.agg (aW (cL 94 (fA C1 p) (cU C1 p))),[]):=w9
             have lp:=jG (t:=94) (l:=fA C1 p) (m:=cU C1 p) (by rw[lf1,ls1])
             rw[lf1]at lp
             have bp:=nO (t:=94) (l:=fA C1 p) (m:=cU C1 p)
             have su2:=aCP (C:=C1) (k:=k) lp
             have hC2:=pR (k:=k) hC1 (by omega) lp
             have hB2:=pS (k:=k) hB1 bp
             have q1:=aI (fA C1 p)
             rw[lf1]at q1
             have q2:=aI (cU C1 p)
             rw[ls1]at q2
             have q3:=aI (cL 94 (fA C1 p) (cU C1 p))
             rw[lp]at q3
             have g1:=aZ (fA C1 p)
             have g2:=aZ (cU C1 p)
             have g3:=aZ (cL 94 (fA C1 p) (cU C1 p))
             have tk1:=dS lp
             generalize cL 94 (fA C1 p) (cU C1 p)=fp at *
             generalize cU C1 p=fs at *
             generalize fA C1 p=fa at *
             generalize pT C1 k fp=C2 at *
             have kl:(k*40+40≤n*40)=True:=eq_true (by have:(k+1)*40≤n*40:=Nat.mul_le_mul_right _ (by omega);omega)
             sym =>
              simp[aO,aP,bG,Za,Zb,Zc,Zd,Ze,Zf,Zh,Zi,Zl,Zm,Zn,Zp,Zq,Zu,Zw,Z0,Z7,ZD,ZG,ZM,ZN,ZO,ZP,ZQ,ZR,ZS,ZU,ZV,ZW,ZZ,Ya,Yb,Yk,Yp,Yr,Yt,Yv,Yx,Yy,YB,YC,YF,YH,YJ,YM,YZ,Xa,Xb,Xc,Xf,XX,XY,XZ,Wa,Wb,Wc,Wf,Wg,Wj,Wl,Wm,Wp,Wq,Wr,Ws,Wu,Wv,Wz,WB,WC,WF,WG,WK,WM,WN,WO,WP,WQ,WR,WS,WT,WU,Vx,V0,V4,V5,V9,VA,VC,VD,VG,VH,VK,VN,VO,VP,VQ,VR,VT,VU,VV,VW,VX,VY,VZ,Ua,Ub,Uc,Uq,Ur,Us,U5,U6,U7,UA,UC,UD,UJ,UL,UO,UP,UQ,UR,UT,UV,UX,UY,Td,Te,Tf,Tg,Tp,Ts,Tw,T5,s0,g0,x0,wr,wq,k1,lC,gC,sC,c35,bE,bC,bB,bH,k0,f9,cs9,ce,y1,y2,y3,y4,g9,g8,m9,m8,j1,f0,su,m0,t0,gf0,lC1,gC1,sC1,f1,cs,w9,su2,q1,q2,q3,g1,g2,g3,tk1,kl]
              tactic =>
               exact t16 hp hC2 hB2 (by omega) (by omega) rfl rfl rfl rfl
          ·have k0':¬md=0:=by have:=of_eq_false k0;omega
           have hz9:¬(md=0∧cU C p≠fA C p):=fun hh=>k0' hh.1
           have y1:((p:Int)<(n:Int))=True:=eq_true (by omega)
           have y2:(p*40+40≤n*40)=True:=eq_true (by omega)
           have y3:((p:Int)≤(n:Int))=True:=eq_true (by omega)
           have y4:(0<p)=True:=eq_true (by omega)
           have c35:=w35 0 bad ((p:Int)-1)
           rcases aGv (decide (0≤bad)&&decide (bad≤(p:Int)-1))with hbt|hbt
           ·skip
            rw[hbt]at c35
            have hfx:¬(0≤bad∧bad<p):=fun hh=>by
             rw[Bool.and_eq_false_iff,decide_eq_false_iff_not,decide_eq_false_iff_not]at hbt
             omega
            have hv:oC C p bad md=aAV C p md:=by unfold oC;rw[if_neg k1',if_neg hz9,if_neg hfx]
            rw[hv]
            sym =>
             simp[aO,aP,bG,Za,Zb,Zf,Zh,Zi,Zl,Zm,Zp,Zs,Zu,Zw,Z0,ZS,ZU,ZZ,Ya,Yc,Yp,Yr,Yt,Yv,YF,YZ,Xa,Wg,Wp,Ws,Wu,Wz,WB,WM,WN,WO,Vx,V0,V5,V9,VA,VC,VD,VG,VH,VV,VY,VZ,Ua,Ub,Uc,U5,UJ,UL,UN,UO,UP,UQ,UR,UT,UV,UX,UY,s0,g0,x0,wr,wq,k1,lC,gC,sC,c35,bE,bC,bB,bH,k0,y1,y2,y3,y4]
             tactic =>
              exact t16 hp hC hB (by omega) (by omega) rfl rfl rfl rfl
           ·skip
            rw[hbt]at c35
            have hfx:0≤bad∧bad<p:=by
             rw[Bool.and_eq_true,decide_eq_true_eq,decide_eq_true_eq]at hbt
             omega
            have hv:oC C p bad md=aAV (aGg C p bad.toNat) p md:=by unfold oC;rw[if_neg k1',if_neg hz9,if_pos hfx]
            rw[hv]
            obtain⟨k,hk⟩:∃ k:Nat,bad=(k:Int):=⟨bad.toNat,by omega⟩
            subst hk
            have ht:((k:Int)).toNat=k:=rfl
            rw[ht]
            unfold aGg
            have j1:((k:Int)<(n:Int))=True:=eq_true (by omega)
            have f0:=aDw
            have le0:=fE []
            have su:=aCP (C:=C) (k:=k) le0
            have hC1:=pR (k:=k) hC (by omega) le0
            have hB1:=pS (k:=k) hB (jI (l:=[]) (fun i x h=>by simp at h))
            have m0:=aI (cR [])
            rw[le0]at m0
            have t0:=dS le0
            have gf0:=aZ (cR [])
            generalize pT C k (cR [])=C1 at *
            have lC1:=aI C1
            rw[hC1]at lC1
            have gC1:=aZ C1
            have sC1:=dO C1
            have f1:=yV (C:=C1) (k:=p)
            have lf1:=vU hC1 hp
            have cs:=w43 (C:=C1) (n:=p) (by omega) hB1 (by omega)
            rw[bJ]at cs
            have ls1:=dZ (C:=C1) (n:=p) (by omega) p (Nat.le_refl _)
            have w9:=w45 (t:=94) lf1 ls1 (tK hB1 p) (nH p) (by omega)
            rw[bJ,bJ,bJ]at w9
            have w9:runW aN 45 [.agg (aW (fA C1 p)),.agg (aW (cU C1 p)),I 94] []=some (.agg (aW (cL 94 (fA C1 p) (cU C1 p))),[]):=w9
            have lp:=jG (t:=94) (l:=fA C1 p) (m:=cU C1 p) (by rw[lf1,ls1])
            rw[lf1]at lp
            have bp:=nO (t:=94) (l:=fA C1 p) (m:=cU C1 p)
            have su2:=aCP (C:=C1) (k:=k) lp
            have hC2:=pR (k:=k) hC1 (by omega) lp
            have hB2:=pS (k:=k) hB1 bp
            have q1:=aI (fA C1 p)
            rw[lf1]at q1
            have q2:=aI (cU C1 p)
            rw[ls1]at q2
            have q3:=aI (cL 94 (fA C1 p) (cU C1 p))
            rw[lp]at q3
            have g1:=aZ (fA C1 p)
            have g2:=aZ (cU C1 p)
            have g3:=aZ (cL 94 (fA C1 p) (cU C1 p))
            have tk1:=dS lp
            generalize cL 94 (fA C1 p) (cU C1 p)=fp at *
            generalize cU C1 p=fs at *
            generalize fA C1 p=fa at *
            generalize pT C1 k fp=C2 at *
            have kl:(k*40+40≤n*40)=True:=eq_true (by have:(k+1)*40≤n*40:=Nat.mul_le_mul_right _ (by omega);omega)
            sym =>
             simp[aO,aP,bG,Za,Zb,Zc,Zd,Ze,Zf,Zh,Zi,Zl,Zm,Zn,Zp,Zs,Zu,Zw,Z0,ZD,ZG,ZM,ZN,ZO,ZP,ZQ,ZR,ZS,ZU,ZV,ZW,ZZ,Ya,Yc,Yk,Yp,Yr,Yt,Yv,Yx,Yy,YF,YH,YJ,YM,YZ,Xa,Xb,Xc,Xf,XX,XY,XZ,Wa,Wb,Wc,Wf,Wg,Wj,Wl,Wm,Wp,Wq,Wr,Ws,Wu,Wv,Wz,WB,WC,WF,WG,WK,WM,WN,WO,WP,WQ,WR,WS,WT,WU,Vx,V0,V4,V5,V9,VA,VC,VD,VG,VH,VK,VN,VO,VP,VQ,VR,VT,VV,VW,VX,VY,VZ,Ua,Ub,Uc,Uq,Ur,Us,U5,U6,U7,UA,UC,UD,UJ,UL,UO,UP,UQ,UR,UT,UV,UX,UY,Td,Te,Tf,Tg,Tp,Ts,Tw,T5,s0,g0,x0,wr,wq,k1,lC,gC,sC,c35,bE,bC,bB,bH,k0,y1,y2,y3,y4,j1,f0,su,m0,t0,gf0,lC1,gC1,sC1,f1,cs,w9,su2,q1,q2,q3,g1,g2,g3,tk1,kl]
             tactic =>
              exact t16 hp hC2 hB2 (by omega) (by omega) rfl rfl rfl rfl
        ·have s0:mS 0 = .nilsl:=rfl
         have g0:mG s 0=[]:=rfl
         have b0:xB s R 0 = -1:=rfl
         have m0:qW s R 0=0:=rfl
         (sym=>(simp[aO,aP,bG,Za,Y5,YF,YH,YO,YZ,Xb,Xh,Wh,Wp,Wt,Wu,Ww,Wx,Vw,Vy,Vz,V9,VA,VD,VF,VY,VZ,Ua,Ub,Uc,UW,s0,g0,b0,m0];all_goals tactic=>exact rfl))
        ·intro i hi
         have i1:((i:Int)<(n:Int))=True:=eq_true (by omega)
         have a2:=gJ hi (by omega)
         have a3:IntKind.i64.wrap ((i:Int)*45)=((i*45:Nat):Int):=by rw[aL (by omega) (by omega)];omega
         have a4:IntKind.i64.wrap (((i:Int)+1)*45)=(((i+1)*45:Nat):Int):=by rw[aL (by omega) (by omega)];omega
         have a5:IntKind.i64.wrap ((R:Int)+(i:Int))=((R+i:Nat):Int):=by rw[aL (by omega) (by omega)];omega
         have hle:(i+1)*45≤s.size:=by rw[←hsz];exact Nat.mul_le_mul_right _ hi
         have a6:(((i+1)*45:Nat):Int)≤(s.size:Int):=by omega
         have a6b:(((i*45:Nat):Int)≤(((i+1)*45:Nat):Int))=True:=eq_true (by omega)
         have hx:oA s (i*45) ((i+1)*45)=wS s i:=rfl
         have c2:=w42 (s:=wS s i) (n:=R+i) (aAH hle) (by omega)
         have hg:yP (wS s i) (R+i)=gdS s R i:=rfl
         rw[hg]at c2
         rw[bJ]at c2
         have lf:=aCU (wS s i)
         have m1:=aI (rdF (wS s i))
         rw[lf]at m1
         have k5:=dS lf
         have k6:=fM lf
         have g5:=aZ (rdF (wS s i))
         have l0:(aW (nf 0)).length=40:=by rw[aI];exact cJ (by omega)
         have gz:=aZ (nf 0)
         have c8:=fB (a:=nf 0) (b:=rdF (wS s i)) (by rw[lf];exact cJ (by omega))
         have ap:=aEM (iC s i) (rdF (wS s i))
         have hF:iC s i++rdF (wS s i)=iC s (i+1):=rfl
         rw[hF]at ap
         have lc:=aI (iC s i)
         rw[tP]at lc
         have lc1:=aI (iC s (i+1))
         rw[tP]at lc1
         have gc:=aZ (iC s i)
         have gc1:=aZ (iC s (i+1))
         have ml:=aCg s R i
         have a7:IntKind.i64.wrap (((qW s R i:Nat):Int)+1)=((qW s R i+1:Nat):Int):=by rw[aL (by omega) (by omega)];omega
         have s1:mS (i+1) = .sl 0 0 40 (i+1):=if_neg (by omega)
         have g1:mG s (i+1)=[some (.blk true (.cells true (aW (iC s (i+1)))))]:=if_neg (by omega)
         have z2':((i+1)*40≤1099511627776)=True:=eq_true (by omega)
         have z3:(i+1≤1099511627776)=True:=eq_true (by omega)
         by_cases hi0:i=0
         ·subst hi0
          have s0:mS 0 = .nilsl:=rfl
          have g0:mG s 0=[]:=rfl
          have b0:xB s R 0 = -1:=rfl
          have m0:qW s R 0=0:=rfl
          have F1:iC s (0+1)=rdF (wS s 0):=rfl
          rw[s1,g1,F1]
          have j1:((0:Int)<(n:Int))=True:=eq_true (by omega)
          have hx':oA s 0 45=wS s 0:=rfl
          have a8:IntKind.i64.wrap ((R:Int)+0)=(R:Int):=aL (by omega) (by omega)
          have a9:((45:Int)≤(s.size:Int))=True:=eq_true (by omega)
          have wz:IntKind.i64.wrap 45=45:=rfl
          have tz:Int.toNat 45=45:=rfl
          have j4:(0<n)=True:=eq_true (by omega)
          rw[Nat.add_zero]at c2
          cases hg:gdS s R 0 with
          | true =>
            rw[hg]at c2
            have bb:xB s R (0+1) = -1:=by rw[xB,hg];rfl
            have mm:qW s R (0+1)=0:=by rw[qW,hg];rfl
            rw[bb,mm]
            generalize rdF (wS s 0)=f at *
            (sym=>(simp[aO,aP,bG,Za,Zb,Zc,Zd,Ze,Zf,Zh,Zl,Zm,Zn,Zo,Zu,Zv,Zy,Z0,Z8,ZH,ZI,ZL,ZO,ZP,ZS,ZU,ZY,ZZ,Ya,Ye,Yn,Yo,Yq,Yt,Yz,Y2,Y4,Y5,Y7,YF,YH,YM,YO,YX,YZ,Xa,Xb,Xc,Xd,Xf,Xh,XX,XZ,Wa,Wb,Wc,Wg,Wi,Wj,Wm,Wn,Wp,Wq,Wr,Ws,Wt,Wu,Wv,Ww,Wx,Wy,Wz,WB,WF,WG,WK,WM,WN,WO,Vx,Vy,Vz,V0,V4,V5,V9,VA,VB,VC,VD,VF,VG,VH,VI,VK,VN,VR,VT,VU,VW,VX,VY,VZ,Ua,Ub,Uc,Um,Un,Uo,Ur,Us,Uv,Uw,Ux,Uy,Uz,U0,U1,U2,U6,U7,UA,UC,UD,UE,UG,UH,UI,UJ,UL,UN,UP,UQ,UT,UW,UX,UY,Th,Ti,Tj,Tk,Tq,Tt,T7,s0,g0,b0,m0,wz,tz,j1,j4,hx',c2,a8,a9,m1,k5,k6,g5,l0,gz,c8,bE,bC,bB,bH];all_goals tactic=>exact rfl))
          | false =>
            rw[hg]at c2
            have bb:xB s R (0+1)=0:=by rw[xB,hg];rfl
            have mm:qW s R (0+1)=1:=by rw[qW,hg];rfl
            rw[bb,mm]
            generalize rdF (wS s 0)=f at *
            (sym=>(simp[aO,aP,bG,Za,Zb,Zc,Zd,Ze,Zf,Zh,Zl,Zm,Zn,Zo,Zu,Zv,Zy,Z0,Z8,ZH,ZI,ZL,ZO,ZP,ZS,ZU,ZY,ZZ,Ya,Ye,Yn,Yo,Yq,Yt,Yz,Y2,Y4,Y5,Y7,YF,YH,YM,YO,YX,YZ,Xa,Xb,Xc,Xd,Xf,Xh,XX,XZ,Wa,Wb,Wc,Wg,Wi,Wj,Wm,Wn,Wp,Wq,Wr,Ws,Wt,Wu,Wv,Ww,Wx,Wy,Wz,WB,WF,WG,WK,WM,WN,WO,Vx,Vy,Vz,V0,V4,V9,VA,VB,VC,VD,VF,VG,VH,VI,VK,VO,VR,VT,VU,VW,VX,VY,VZ,Ua,Ub,Uc,Um,Un,Uo,Ur,Us,Uv,Uw,Ux,Uy,Uz,U0,U1,U2,U6,U7,UA,UC,UD,UE,UG,UH,UI,UJ,UL,UN,UP,UQ,UT,UW,UX,UY,Th,Ti,Tj,Tk,Tq,Tt,T7,s0,g0,b0,m0,wz,tz,j1,j4,hx',c2,a8,a9,m1,k5,k6,g5,l0,gz,c8,bE,bC,bB,bH];all_goals tactic=>exact rfl))
         ·have s0:mS i = .sl 0 0 40 i:=if_neg hi0
          have g0:mG s i=[some (.blk true (.cells true (aW (iC s i))))]:=if_neg hi0
          have e45:(i+1)*45=i*45+45:=by omega
          have a3':((i*45:Nat):Int).toNat=i*45:=rfl
          rw[s1,g1]
          cases hg:gdS s R i with
          | true =>
            rw[hg]at c2
            have bb:xB s R (i+1)=xB s R i:=by rw[xB,hg];rfl
            have mm:qW s R (i+1)=qW s R i:=by rw[qW,hg];rfl
            rw[bb,mm]
            generalize iC s (i+1)=C1 at *
            generalize iC s i=C0 at *
            generalize rdF (wS s i)=f at *
            (sym=>(simp[aO,aP,bG,Za,Zb,Zc,Zd,Ze,Zf,Zh,Zl,Zm,Zn,Zo,Zu,Zv,Zy,Z0,Z8,ZH,ZI,ZL,ZO,ZP,ZS,ZU,ZY,ZZ,Ya,Ye,Yn,Yo,Yq,Yt,Yx,Yy,YF,YH,YM,YO,YX,YZ,Xa,Xb,Xc,Xd,Xf,Xh,XX,XZ,Wa,Wb,Wc,Wg,Wi,Wj,Wm,Wn,Wp,Wq,Wr,Ws,Wt,Wu,Wv,Ww,Wx,Wy,Wz,WB,WF,WG,WK,WM,WN,WO,Vx,Vy,Vz,V0,V4,V5,V9,VA,VB,VC,VD,VF,VG,VH,VI,VK,VN,VR,VT,VU,VW,VX,VY,VZ,Ua,Ub,Uc,Um,Un,Uo,Ur,Us,Uv,Uw,Ux,Uy,Uz,U0,U1,U3,U4,U6,U7,UA,UC,UD,UE,UF,UG,UH,UJ,UL,UN,UP,UQ,UT,UW,UX,UY,Th,Ti,Tj,Tk,Tq,Tt,s0,g0,i1,a2,a3,a4,a5,a6,a6b,hx,c2,m1,k5,k6,g5,l0,gz,c8,ap,lc,lc1,gc,gc1,z2',z3,bE,bC,bB,bH];all_goals tactic=>exact rfl))
          | false =>
            rw[hg]at c2
            have bb:xB s R (i+1)=(i:Int):=by rw[xB,hg];rfl
            have mm:qW s R (i+1)=qW s R i+1:=by rw[qW,hg];rfl
            rw[bb,mm]
            generalize iC s (i+1)=C1 at *
            generalize iC s i=C0 at *
            generalize rdF (wS s i)=f at *
            generalize qW s R i=md at *
            (sym=>(simp[aO,aP,bG,Za,Zb,Zc,Zd,Ze,Zf,Zh,Zl,Zm,Zn,Zo,Zu,Zv,Zy,Z0,Z8,ZH,ZI,ZL,ZO,ZP,ZS,ZU,ZY,ZZ,Ya,Ye,Yn,Yo,Yq,Yt,Yx,Yy,YF,YH,YM,YO,YX,YZ,Xa,Xb,Xc,Xd,Xf,Xh,XX,XZ,Wa,Wb,Wc,Wg,Wi,Wj,Wm,Wn,Wp,Wq,Wr,Ws,Wt,Wu,Wv,Ww,Wx,Wy,Wz,WB,WF,WG,WK,WM,WN,WO,Vx,Vy,Vz,V0,V4,V9,VA,VB,VC,VD,VF,VG,VH,VI,VK,VO,VR,VT,VU,VW,VX,VY,VZ,Ua,Ub,Uc,Um,Un,Uo,Ur,Us,Uv,Uw,Ux,Uy,Uz,U0,U1,U3,U4,U6,U7,UA,UC,UD,UE,UF,UG,UH,UJ,UL,UN,UP,UQ,UT,UW,UX,UY,Th,Ti,Tj,Tk,Tq,Tt,s0,g0,i1,a2,a3,a4,a5,a6,a6b,a7,hx,c2,m1,k5,k6,g5,l0,gz,c8,ap,lc,lc1,gc,gc1,z2',z3,bE,bC,bB,bH];all_goals tactic=>exact rfl))
        ·have e0:((n:Int)<(n:Int))=False:=eq_false (by omega)
         (sym=>(simp[aO,aP,bG,Za,Zb,Zf,Zh,Zl,Zm,Z0,Yt,Vx,V0,V5,V6,VV,U5,UJ,UL,UO,UQ,UR,UX,e0];all_goals tactic=>exact rfl))
   ·have h0':=of_eq_false h0
    have z0:(((s.size%45:Nat):Int)=0)=False:=eq_false (by omega)
    have hv:mnV s row=sN 20:=by unfold mnV;rw[hb,if_pos rfl,if_pos (Or.inl h0')]
    rw[hv];unfold sN
    generalize s.size%45=rm at *
    generalize s.size/45=n at *
    (sym=>(simp[aO,aP,bG,Za,Zb,Zf,Zh,Zl,Zm,Zp,Zt,Zu,Zw,Z0,Z8,ZJ,ZS,ZU,ZZ,Ya,Yb,Ye,Yj,Ys,YF,YK,YL,YZ,Xa,Xd,Xe,Xk,Xo,Xr,Xz,XI,XK,XN,Wg,Wh,Wp,Ws,Wt,Wu,Ww,Wx,Wz,WB,WM,WN,WO,Va,Vj,Vk,Vl,Vm,Vn,Vo,Vq,Vr,Vs,Vt,Vu,Vw,V0,V4,V5,V8,V9,VA,VC,VD,VF,VH,VN,VO,VV,VY,VZ,Ua,Ub,Uc,Uf,Ug,Uj,Uk,UJ,UL,UM,UP,UQ,US,UU,UX,UY,Tx,c1,d1,d2,d3,z0];all_goals tactic=>exact rfl))
theorem tW (a b:ByteArray):zM BinOp.neq a b=some (.bool (!decide (a=b))):=by
 show some (AV.bool (!(a.toList==b.toList)))=_
 rw[xG,xG]
 congr 3
 cases a with
 | mk x =>
   cases b with
   | mk y =>
     cases x with
     | mk x =>
       cases y with
       | mk y =>
         show (x==y)=decide ((⟨⟨x⟩⟩:ByteArray)=⟨⟨y⟩⟩)
         by_cases h:x=y
         ·subst h;simp
         ·have:¬((⟨⟨x⟩⟩:ByteArray)=⟨⟨y⟩⟩):=fun hh=>h (by injection hh with h1;injection h1)
          simp[h]
theorem q27 {vs:List AV} {h:XH} (hl:vs.length≤56):runW aN 27 vs h=eG none x27.res x27.ownR h.length (execW aN 27 h.length none x27.body (aY (if x27.ownA then vs else iF vs)) h):=dB rfl hl h rfl
def byA (s:List Nat):AV:=.fs (s.map fun x=>[U x])
def shR (l:List (List Nat)):List (List AV):=l.map fun s=>[byA s]
def shA (l:List (List Nat)):AV:=.fs (shR l)
def lH (s:List Nat) (k:Nat):List Nat:=(s.take k).map fun x=>32+x%95
def mdL (s:List Nat):ByteArray:=lF (lH s 39++[122])
def jJ (l:List (List Nat)) (i:Nat):List ByteArray:=(l.take i).map mdL
def aBc (l:List (List Nat)):List ByteArray:=if l.length=0 then [lF [122]] else jJ l 5
theorem aHe (l:List (List Nat)):(shR l).length=l.length:=by simp[shR]
theorem aJj {l:List (List Nat)} {i:Nat} {s:List Nat} (h:l[i]?=some s):(shR l)[i]?=some [byA s]:=by simp[shR,h]
theorem aHQ (s:List Nat):(s.map fun x=>[U x]).length=s.length:=by simp
theorem aKb {s:List Nat} {i x:Nat} (h:s[i]?=some x):(s.map fun x=>[U x])[i]?=some [U x]:=by simp[h]
theorem aNk {l:List (List Nat)} {i:Nat} {s:List Nat} (h:l[i]?=some s):jJ l (i+1)=jJ l i++[mdL s]:=by
 unfold jJ;rw[List.take_add_one,h];simp
theorem aDi {l:List (List Nat)} {i:Nat} (h:i≤l.length):(jJ l i).length=i:=by simp[jJ];omega
theorem aGS (l:List ByteArray) (b:ByteArray):oG l++[.str b]=oG (l++[b]):=by simp[oG]
theorem aNj {s:List Nat} {k x:Nat} (h:s[k]?=some x):aW (lH s k)++[U (32+x%95)]=aW (lH s (k+1)):=by
 unfold lH aW;rw[List.take_add_one,h];simp
theorem aDh {s:List Nat} {k:Nat} (h:k≤s.length):(lH s k).length=k:=by simp[lH];omega
def iS (k:Nat):AV:=if k=0 then .nilsl else .sl 1 0 1 k
def iG (l:List (List Nat)) (i:Nat) (s:List Nat) (k:Nat):XH:=if k=0 then [some (.blk true (.cells true (oG (jJ l i))))] else [some (.blk true (.cells true (oG (jJ l i)))),some (.blk true (.cells true (aW (lH s k))))]
theorem aHw (s:List Nat):lH s 39=lH s (min s.length 39):=by
 unfold lH
 by_cases h:s.length≤39
 ·rw[Nat.min_eq_left h,List.take_of_length_le h,List.take_of_length_le (Nat.le_refl _)]
 ·rw[Nat.min_eq_right (by omega)]
theorem aHx (l:List (List Nat)):jJ l 5=jJ l (min l.length 5):=by
 unfold jJ
 by_cases h:l.length≤5
 ·rw[Nat.min_eq_left h,List.take_of_length_le h,List.take_of_length_le (Nat.le_refl _)]
 ·rw[Nat.min_eq_right (by omega)]
theorem aHs (a b:List Nat):lF a++lF b=lF (a++b):=by
 unfold lF;rw[aGy];simp
theorem xH {H:Hp}:eF H .nilsl=some (.str ⟨⟨[]⟩⟩):=rfl
theorem w27 {l:List (List Nat)} (hs:∀ s∈l,jT s):runW aN 27 [shA l] []=some (.fs (rS (aBc l)),[]):=by
 rw[q27 (by simp)];unfold x27;dsimp only
 unfold shA
 have rl:=aHe l
 have n5:min l.length 5≤l.length:=Nat.min_le_left ..
 have n5':min l.length 5≤5:=Nat.min_le_right ..
 have hM:=aHx l
 sym =>
  simp[aO,aP,bG,Za,Zb,Zf,Zh,Zl,Zo,Zu,Zy,YV,XL,V8,VA,VC,VH,VK,VW,VY,Ud,Ue,Uj,Uk,Um,Uv,Uw,Ux,UE,UL,UP,UQ,UX,UY,rl]
  tactic =>
   unfold aIg
   rw[bU (min l.length 5) (fun i=>[.fs (shR l),.sl 0 0 1 i,I (i:Nat)]) (fun i=>[some (.blk true (.cells true (oG (jJ l i))))])]
   ·unfold aBc
    rw[hM]
    have ln:=aDi n5
    have lc:=sY (jJ l (min l.length 5))
    rw[ln]at lc
    have ch:=aET (jJ l (min l.length 5))
    rw[ln]at ch
    have gr:=tZ (jJ l (min l.length 5))
    by_cases h0:l.length=0
    ·have hm0:min l.length 5=0:=by omega
     rw[if_pos h0]
     have z0:((0:Int)<(l.length:Int))=False:=eq_false (by omega)
     rw[hm0]at ln lc ch gr ⊢
     have hN:jJ l 0=[]:=rfl
     rw[hN]at ln lc ch gr ⊢
     have h1:oG []=[]:=rfl
     have h2:rS [lF [122]]=[[.str ⟨⟨[122]⟩⟩]]:=rfl
     (sym=>(simp[aO,aP,bG,Za,Zb,Zd,Ze,Zf,Zh,Zl,Zm,Zo,Zp,Zs,Zu,Zw,Zy,Z0,ZJ,ZY,Yc,Yh,Yi,Yr,Yt,Y5,YL,YV,Xe,Xq,Xx,XL,XW,XZ,Wa,Wb,Wc,Wd,We,Wf,Wg,Wp,Wt,Wv,Ww,Wx,WV,WW,WX,Va,Vb,Vf,Vg,Vi,Vj,Vk,Vl,Vm,Vn,Vo,Vp,Vr,Vs,Vt,Vu,Vx,V0,V4,V5,V9,VA,VB,VC,VD,VF,VG,VH,VK,VR,VU,VV,VW,VX,VZ,Ua,Ud,Ue,Ul,Um,Un,Uo,Uv,Uw,Ux,Uy,Uz,U0,U1,U3,U4,UE,UF,UG,UH,UJ,UL,UM,UO,UQ,UR,UV,UX,UY,Tt,Tu,Tv,Tx,Ty,Tz,rl,z0,h1,h2];all_goals tactic=>exact rfl))
    ·rw[if_neg h0]
     have z2:(((min l.length 5:Nat):Int)=0)=False:=eq_false (by omega)
     have p1:(min l.length 5*1≤min l.length 5)=True:=eq_true (by omega)
     rcases wW (((min l.length 5:Nat):Int)<(l.length:Int))with k1|k1
     ·have k1':=of_eq_true k1
      have k2:(((min l.length 5:Nat):Int)<5)=False:=eq_false (by omega)
      generalize jJ l (min l.length 5)=L at *
      generalize min l.length 5=m at *
      (sym=>(simp[aO,aP,bG,Za,Zb,Zf,Zh,Zl,Zm,Zp,Zq,Zu,Zw,Z0,ZJ,Yb,Yh,Yi,Yr,Yt,YL,Xe,Xq,Xx,XL,XZ,Wc,Wp,Wt,Wv,Ww,Wx,WV,WW,WX,Va,Vb,Vg,Vi,Vj,Vk,Vl,Vm,Vn,Vo,Vp,Vr,Vs,Vt,Vu,Vx,V0,V5,V9,VA,VD,VF,VR,VU,VV,VZ,Ua,UJ,UL,UM,UN,UO,UQ,UR,UV,UX,UY,Tn,Tp,Tr,Tx,Ty,Tz,rl,k1,k2,z2,lc,ch,gr,p1,jW,jU,jV];all_goals tactic=>exact rfl))
     ·generalize jJ l (min l.length 5)=L at *
      generalize min l.length 5=m at *
      (sym=>(simp[aO,aP,bG,Za,Zb,Zf,Zh,Zl,Zm,Zp,Zs,Zu,Zw,Z0,ZJ,Yc,Yh,Yi,Yr,Yt,YL,Xe,Xq,Xx,XL,XZ,Wc,Wp,Wt,Wv,Ww,Wx,WV,WW,WX,Va,Vb,Vg,Vi,Vj,Vk,Vl,Vm,Vn,Vo,Vp,Vr,Vs,Vt,Vu,Vx,V0,V5,V9,VA,VD,VF,VR,VV,VZ,Ua,UJ,UL,UM,UN,UO,UQ,UR,UV,UX,UY,Tn,Tp,Tr,Tx,Ty,Tz,rl,k1,z2,lc,ch,gr,p1,jW,jU,jV];all_goals tactic=>exact rfl))
   ·have hN:oG (jJ l 0)=[]:=rfl
    (sym=>(simp[aO,aP,bG,Za,Y5,YF,YL,YM,YZ,Xe,Xf,XZ,Wh,Wj,Wm,Wn,Wp,Wq,Wr,Wt,Wv,Ww,Wx,Wy,WF,WG,WK,Vw,Vy,Vz,V9,VA,VC,VD,VF,VI,VT,VZ,Ua,Ub,Uc,UW,Tq,rl,hN];all_goals tactic=>exact rfl))
   ·intro i hi
    obtain⟨s,hx⟩:=iA (l:=l) (i:=i) (by omega)
    have sx:=aJj hx
    have hsb:=hs s (List.mem_of_getElem? hx)
    have i1:((i:Int)<(l.length:Int))=True:=eq_true (by omega)
    have i2:((i:Int)<5)=True:=eq_true (by omega)
    have a2:=gJ (n:=5) (i:=i) (by omega) (by omega)
    have bl:=aHQ s
    have hb:byA s = .fs (s.map fun x=>[U x]):=rfl
    rw[hb]at sx
    have mS:=aNk hx
    have m39:min s.length 39≤s.length:=Nat.min_le_left ..
    have m39':min s.length 39≤39:=Nat.min_le_right ..
    have lN:=aDi (l:=l) (i:=i) (by omega)
    have ln:=sY (jJ l i)
    rw[lN]at ln
    have gn:=tZ (jJ l i)
    have gn1:=tZ (jJ l (i+1))
    have so:=aGS (jJ l i) (mdL s)
    rw[←mS]at so
    have z3:(i+1≤1099511627776)=True:=eq_true (by omega)
    have z4:((i+1)*16≤1099511627776)=True:=eq_true (by omega)
    have hbx:∀ k x,s[k]?=some x→x<256:=hsb
    have byat:∀ {k x:Nat},s[k]?=some x→(s.map fun x=>[U x])[k]?=some [U x]:=fun h=>aKb h
    generalize (s.map fun x=>[U x])=R at *
    sym =>
     simp[aO,aP,bG,Za,Zb,Zf,Zh,Zl,Zm,Zp,Zq,Zu,Zw,Z0,ZJ,Yb,Yh,Yt,Vx,V0,V4,VU,UJ,UL,UN,UP,UQ,UX,UY,rl,sx,i1,i2,bl]
     tactic =>
      unfold aIh
      rw[bU (min s.length 39) (fun k=>[.fs (shR l),.sl 0 0 1 i,I (i:Nat),iS k,I (k:Nat)]) (fun k=>iG l i s k)]
      ·have hm:=aHw s
       have lP:=aDh m39
       have lp:=aI (lH s (min s.length 39))
       rw[lP]at lp
       have bu:=gE (f:=lH s (min s.length 39))
       have bu:eV (aW (lH s (min s.length 39)))=some ((lH s (min s.length 39)).map UInt8.ofNat):=bu
       have tk:List.take (min s.length 39) (aW (lH s (min s.length 39)))=aW (lH s (min s.length 39)):=List.take_of_length_le (by rw[lp];exact Nat.le_refl _)
       have td:List.take (min s.length 39) (List.drop 0 (aW (lH s (min s.length 39))))=aW (lH s (min s.length 39)):=tk
       have mL:mdL s=⟨⟨(lH s (min s.length 39)).map UInt8.ofNat⟩⟩++⟨#[122]⟩:=by
        unfold mdL;rw[hm,←aHs];rfl
       have sa:=pO (a:=⟨⟨(lH s (min s.length 39)).map UInt8.ofNat⟩⟩) (b:=⟨#[122]⟩) (by rw[rV,List.length_map,lP];have:(⟨#[122]⟩:ByteArray).size=1:=rfl;omega)
       rw[←mL]at sa
       have gp:=aZ (lH s (min s.length 39))
       have one:((min s.length 39)*1≤min s.length 39)=True:=eq_true (by omega)
       by_cases hm0:min s.length 39=0
       ·have s0:iS (min s.length 39) = .nilsl:=by rw[hm0];rfl
        have g0:iG l i s (min s.length 39)=[some (.blk true (.cells true (oG (jJ l i))))]:=by rw[hm0];rfl
        have u0:aW (lH s (min s.length 39))=[]:=by rw[hm0];rfl
        have v0:(lH s (min s.length 39)).map UInt8.ofNat=[]:=by rw[hm0];rfl
        rw[v0]at sa
        generalize mdL s=ML at *
        generalize jJ l (i+1)=N1 at *
        generalize jJ l i=N0 at *
        have k1:(((min s.length 39:Nat):Int)<(s.length:Int))=False:=eq_false (by omega)
        generalize min s.length 39=m at *
        (sym=>(simp[aO,aP,bG,Za,Zb,Zd,Ze,Zf,Zh,Zl,Zm,Zo,Zp,Zs,Zu,Zw,Zy,Z0,ZD,ZJ,ZL,ZY,Yc,Yh,Yl,Ym,Yo,Yt,Yx,Yy,YF,YL,YM,YV,YZ,Xe,Xf,XW,XZ,Wa,Wb,Wc,Wd,We,Wf,Wg,Wi,Wj,Wm,Wn,Wp,Wq,Wr,Wt,Wv,Ww,Wx,Wy,WF,WG,WK,Vx,Vy,Vz,V0,V5,V9,VA,VB,VC,VD,VF,VG,VH,VI,VK,VR,VT,VV,VW,VX,VZ,Ua,Ub,Uc,Ud,Ue,Ul,Um,Un,Uo,Uv,Uw,Ux,Uy,Uz,U0,U1,U3,U4,U8,U9,UB,UE,UF,UG,UH,UJ,UK,UL,UO,UQ,UR,UT,UV,UW,UX,UY,Tn,Tq,Tt,TS,k1,xH,s0,g0,rl,sx,i1,i2,bl,sa,ln,gn,gn1,so,z3,z4,a2,jW,jU,jV];all_goals tactic=>exact rfl))
       ·have s0:iS (min s.length 39) = .sl 1 0 1 (min s.length 39):=if_neg hm0
        have g0:iG l i s (min s.length 39)=[some (.blk true (.cells true (oG (jJ l i)))),some (.blk true (.cells true (aW (lH s (min s.length 39)))))]:=if_neg hm0
        generalize mdL s=ML at *
        generalize jJ l (i+1)=N1 at *
        generalize jJ l i=N0 at *
        generalize lH s (min s.length 39)=MP at *
        rcases wW (((min s.length 39:Nat):Int)<(s.length:Int))with k1|k1
        ·have k1':=of_eq_true k1
         have k2:(((min s.length 39:Nat):Int)<39)=False:=eq_false (by omega)
         generalize min s.length 39=m at *
         (sym=>(simp[aO,aP,bG,Za,Zb,Zd,Ze,Zf,Zh,Zl,Zm,Zo,Zp,Zq,Zu,Zw,Zy,Z0,ZD,ZJ,ZL,ZY,Yb,Yh,Yl,Ym,Yo,Yt,Yx,Yy,YF,YL,YM,YV,YZ,Xe,Xf,XW,XZ,Wa,Wb,Wc,Wd,We,Wf,Wg,Wi,Wj,Wm,Wn,Wp,Wq,Wr,Wt,Wv,Ww,Wx,Wy,WF,WG,WK,Vx,Vy,Vz,V0,V5,V9,VA,VB,VC,VD,VF,VG,VH,VI,VK,VR,VT,VU,VV,VW,VX,VZ,Ua,Ub,Uc,Ud,Ue,Ul,Um,Un,Uo,Uv,Uw,Ux,Uy,Uz,U0,U1,U3,U4,U8,U9,UB,UE,UF,UG,UH,UJ,UK,UL,UO,UQ,UR,UT,UV,UW,UX,UY,Tn,Tp,Tq,Tr,Tt,TS,TT,TU,k1,k2,s0,g0,rl,sx,i1,i2,bl,sa,lp,bu,tk,td,gp,one,ln,gn,gn1,so,z3,z4,a2,jW,jU,jV,bC,bE,bB];all_goals tactic=>exact rfl))
        ·generalize min s.length 39=m at *
         (sym=>(simp[aO,aP,bG,Za,Zb,Zd,Ze,Zf,Zh,Zl,Zm,Zo,Zp,Zs,Zu,Zw,Zy,Z0,ZD,ZJ,ZL,ZY,Yc,Yh,Yl,Ym,Yo,Yt,Yx,Yy,YF,YL,YM,YV,YZ,Xe,Xf,XW,XZ,Wa,Wb,Wc,Wd,We,Wf,Wg,Wi,Wj,Wm,Wn,Wp,Wq,Wr,Wt,Wv,Ww,Wx,Wy,WF,WG,WK,Vx,Vy,Vz,V0,V5,V9,VA,VB,VC,VD,VF,VG,VH,VI,VK,VR,VT,VV,VW,VX,VZ,Ua,Ub,Uc,Ud,Ue,Ul,Um,Un,Uo,Uv,Uw,Ux,Uy,Uz,U0,U1,U3,U4,U8,U9,UB,UE,UF,UG,UH,UJ,UK,UL,UO,UQ,UR,UT,UV,UW,UX,UY,Tn,Tp,Tq,Tr,Tt,TS,TT,TU,k1,s0,g0,rl,sx,i1,i2,bl,sa,lp,bu,tk,td,gp,one,ln,gn,gn1,so,z3,z4,a2,jW,jU,jV,bC,bE,bB];all_goals tactic=>exact rfl))
      ·have s0:iS 0 = .nilsl:=rfl
       have g0:iG l i s 0=[some (.blk true (.cells true (oG (jJ l i))))]:=rfl
       (sym=>(simp[aO,aP,bG,Za,Y5,YF,YL,YM,YO,YZ,Xe,Xf,Xh,XZ,Wj,Wm,Wn,Wp,Wq,Wr,Wt,Wv,Ww,Wx,Wy,WF,WG,WK,Vx,Vy,Vz,V9,VA,VC,VD,VF,VI,VT,VZ,Ua,Ub,Uc,UW,Tq,s0,g0,rl,jW,jU,jV];all_goals tactic=>exact rfl))
      ·intro k hk
       obtain⟨x,hxk⟩:=iA (l:=s) (i:=k) (by omega)
       have bx:=byat hxk
       have j1:((k:Int)<(s.length:Int))=True:=eq_true (by omega)
       have j2:((k:Int)<39)=True:=eq_true (by omega)
       have b2:=gJ (n:=39) (i:=k) (by omega) (by omega)
       have hx256:=hbx k x hxk
       have hr:=Nat.mod_lt x (show 0<95 by decide)
       have c1:zJ (x:Int) 95=((x%95:Nat):Int):=eR x 95
       have c2:IntKind.u8.wrap (32+((x%95:Nat):Int))=((32+x%95:Nat):Int):=by
        simp[IntKind.wrap,IntKind.bits,IntKind.signed];omega
       have ap:=aNj hxk
       have lP:=aDh (s:=s) (k:=k) (by omega)
       have lp:=aI (lH s k)
       rw[lP]at lp
       have gp:=aZ (lH s k)
       have gp1:=aZ (lH s (k+1))
       have s1:iS (k+1) = .sl 1 0 1 (k+1):=if_neg (by omega)
       have g1:iG l i s (k+1)=[some (.blk true (.cells true (oG (jJ l i)))),some (.blk true (.cells true (aW (lH s (k+1)))))]:=if_neg (by omega)
       have y3:(k+1≤1099511627776)=True:=eq_true (by omega)
       rw[s1,g1]
       by_cases hk0:k=0
       ·subst hk0
        have s0:iS 0 = .nilsl:=rfl
        have g0:iG l i s 0=[some (.blk true (.cells true (oG (jJ l i))))]:=rfl
        have u0:aW (lH s 0)=[]:=rfl
        rw[u0,List.nil_append]at ap
        rw[←ap]
        have j0:((0:Int)<(s.length:Int))=True:=eq_true (by omega)
        have j00:(0<s.length)=True:=eq_true (by omega)
        have bx0:=bx
        generalize 32+x%95=P at *
        generalize x%95=Q at *
        generalize jJ l (i+1)=N1 at *
        generalize jJ l i=N0 at *
        (sym=>(simp[aO,aP,bG,Za,Zb,Zd,Ze,Zf,Zh,Zl,Zm,Zo,Zp,Zq,Zu,Zw,Zy,Z0,ZD,ZJ,ZL,ZY,Yb,Yh,Yl,Ym,Yo,Yt,Yx,Yy,Y2,Y4,Y5,Y7,YF,YL,YM,YU,YZ,Xe,Xf,XV,XZ,Wa,Wb,Wd,We,Wf,Wg,Wi,Wj,Wk,Wm,Wn,Wp,Wq,Wr,Wt,Wv,Ww,Wx,Wy,WF,WG,WK,Vx,Vy,Vz,V0,V4,V9,VA,VB,VC,VD,VF,VG,VH,VI,VK,VR,VT,VU,VV,VW,VX,VZ,Ua,Ub,Uc,Ud,Ue,Ul,Um,Un,Uo,Uv,Uw,Ux,Uy,Uz,U0,U1,U2,U8,U9,UB,UE,UG,UH,UI,UJ,UL,UN,UP,UQ,UT,UW,UX,UY,Tq,Tt,s0,g0,rl,sx,i1,i2,bl,j0,j00,bx0,c1,c2,ln,gn,jW,jU,jV];all_goals tactic=>exact rfl))
       ·have s0:iS k = .sl 1 0 1 k:=if_neg hk0
        have g0:iG l i s k=[some (.blk true (.cells true (oG (jJ l i)))),some (.blk true (.cells true (aW (lH s k))))]:=if_neg hk0
        have y4:(k+1≤1099511627776∧True)=True:=eq_true ⟨by omega,trivial⟩
        have y5:((k+1)*1≤1099511627776)=True:=eq_true (by omega)
        generalize 32+x%95=P at *
        generalize x%95=Q at *
        generalize jJ l (i+1)=N1 at *
        generalize jJ l i=N0 at *
        generalize lH s (k+1)=P1 at *
        generalize lH s k=P0 at *
        (sym=>(simp[aO,aP,bG,Za,Zb,Zd,Ze,Zf,Zh,Zl,Zm,Zo,Zp,Zq,Zu,Zw,Zy,Z0,ZD,ZJ,ZL,ZY,Yb,Yh,Yl,Ym,Yo,Yt,Yx,Yy,YF,YL,YM,YU,YZ,Xe,Xf,XV,XZ,Wa,Wb,Wc,Wd,We,Wf,Wg,Wi,Wj,Wk,Wm,Wn,Wp,Wq,Wr,Wt,Wv,Ww,Wx,Wy,WF,WG,WK,Vx,Vy,Vz,V0,V4,V9,VA,VB,VC,VD,VF,VG,VH,VI,VK,VR,VT,VU,VV,VW,VX,VZ,Ua,Ub,Uc,Ud,Ue,Ul,Um,Un,Uo,Uv,Uw,Ux,Uy,Uz,U0,U1,U3,U4,U8,U9,UB,UE,UF,UG,UH,UJ,UL,UN,UP,UQ,UT,UW,UX,UY,Tn,Tq,Tt,s0,g0,rl,sx,i1,i2,bl,j1,j2,bx,c1,c2,b2,ap,lp,gp,gp1,y3,y4,y5,ln,gn,jW,jU,jV,bC,bE,bB];all_goals tactic=>exact rfl))
      ·by_cases hm0:min s.length 39=0
       ·have s0:iS (min s.length 39) = .nilsl:=by rw[hm0];rfl
        have g0:iG l i s (min s.length 39)=[some (.blk true (.cells true (oG (jJ l i))))]:=by rw[hm0];rfl
        have k1:(((min s.length 39:Nat):Int)<(s.length:Int))=False:=eq_false (by omega)
        generalize min s.length 39=m at *
        (sym=>(simp[aO,aP,bG,Za,Zb,Zf,Zh,Zl,Zm,Zp,Zs,Zu,Zw,Z0,ZD,ZJ,ZL,Yc,Yh,Yl,Ym,Yt,Yx,Yy,Wi,Vx,V0,V5,V6,VG,VH,VR,VV,U8,U9,UB,UJ,UL,UO,UQ,UR,UX,UY,k1,xH,s0,g0,rl,sx,i1,i2,bl];all_goals tactic=>exact rfl))
       ·have s0:iS (min s.length 39) = .sl 1 0 1 (min s.length 39):=if_neg hm0
        have g0:iG l i s (min s.length 39)=[some (.blk true (.cells true (oG (jJ l i)))),some (.blk true (.cells true (aW (lH s (min s.length 39)))))]:=if_neg hm0
        rcases wW (((min s.length 39:Nat):Int)<(s.length:Int))with k1|k1
        ·have k1':=of_eq_true k1
         have k2:(((min s.length 39:Nat):Int)<39)=False:=eq_false (by omega)
         generalize min s.length 39=m at *
         (sym=>(simp[aO,aP,bG,Za,Zb,Zf,Zh,Zl,Zm,Zp,Zq,Zu,Zw,Z0,ZD,ZJ,ZL,Yb,Yh,Yl,Ym,Yt,Yx,Yy,Wi,Vx,V0,V5,V6,VG,VH,VR,VU,VV,U8,U9,UB,UJ,UL,UO,UQ,UR,UX,UY,k1,k2,s0,g0,rl,sx,i1,i2,bl];all_goals tactic=>exact rfl))
        ·generalize min s.length 39=m at *
         (sym=>(simp[aO,aP,bG,Za,Zb,Zf,Zh,Zl,Zm,Zp,Zs,Zu,Zw,Z0,ZD,ZJ,ZL,Yc,Yh,Yl,Ym,Yt,Yx,Yy,Wi,Vx,V0,V5,V6,VG,VH,VR,VV,U8,U9,UB,UJ,UL,UO,UQ,UR,UX,UY,k1,s0,g0,rl,sx,i1,i2,bl];all_goals tactic=>exact rfl))
   ·rcases wW (((min l.length 5:Nat):Int)<(l.length:Int))with k1|k1
    ·have k1':=of_eq_true k1
     have k2:(((min l.length 5:Nat):Int)<5)=False:=eq_false (by omega)
     generalize min l.length 5=m at *
     (sym=>(simp[aO,aP,bG,Za,Zb,Zf,Zh,Zl,Zm,Zp,Zq,Zu,Zw,Z0,ZJ,Yb,Yh,Yt,Vx,V0,V5,V6,VU,VV,UJ,UL,UO,UQ,UR,UX,UY,rl,k1,k2];all_goals tactic=>exact rfl))
    ·generalize min l.length 5=m at *
     (sym=>(simp[aO,aP,bG,Za,Zb,Zf,Zh,Zl,Zm,Zp,Zs,Zu,Zw,Z0,ZJ,Yc,Yh,Yt,Vx,V0,V5,V6,VV,UJ,UL,UO,UQ,UR,UX,UY,rl,k1];all_goals tactic=>exact rfl))
theorem q28 {vs:List AV} {h:XH} (hl:vs.length≤100):runW aN 28 vs h=eG none x28.res x28.ownR h.length (execW aN 28 h.length none x28.body (aY (if x28.ownA then vs else iF vs)) h):=dB rfl hl h rfl
def rF (b:List Nat) (i c:Nat):Nat→List Nat
 | 0=>b
 | n+1=>(rF b i c n).set (i+n) c
def pI (b:List Nat) (i k:Nat):List Nat:=(b.set i (b.getD k 0)).set k (b.getD i 0)
def htL (b:List Nat) (row how at' other:Nat):List Nat :=
 if how%3=0 then b.set (row%(b.length/45)*45+at'%45) ((b.getD (row%(b.length/45)*45+at'%45) 0+(1+other%255))%256)
 else if how%3=1 then pI b (row%(b.length/45)*45+4+at'%40) (row%(b.length/45)*45+4+other%40)
 else rF b (row%(b.length/45)*45) (120+at'%2) 45
theorem dW (s:ByteArray):(bN s).length=s.size:=by
 unfold bN;rw[List.length_map,Array.length_toList];rfl
theorem aGw (s:ByteArray):s.data.toList.map (fun b=>AV.int .u8 (b.toNat:Int))=aW (bN s):=by
 unfold aW bN;rw[List.map_map];rfl
theorem w28 {s:ByteArray} {row how a o n:Nat} (hs:s.size=n*45) (hn:1≤n) (hn':n≤1000) (h1:row<256) (h2:how<256) (h3:a<256) (h4:o<256) :
 runW aN 28 [.str s,U row,U how,U a,U o] []=some (.tup [.str (lF (htL (bN s) row how a o)),.bool (!decide (lF (htL (bN s) row how a o)=s))],[]):=by
 rw[q28 (by simp)];unfold x28;dsimp only
 have d1:tdZ (s.size:Int) 45=((s.size/45:Nat):Int):=aEP s.size 45
 have d2:zJ (s.size:Int) 45=((s.size%45:Nat):Int):=eR s.size 45
 have z1:s.size/45=n:=by omega
 have z2:s.size%45=0:=by omega
 rw[z1]at d1
 rw[z2]at d2
 have d3:IntKind.i64.wrap ((n:Nat):Int)=((n:Nat):Int):=aL (by omega) (by omega)
 have d4:((n:Int)=0)=False:=eq_false (by omega)
 have e1:IntKind.i64.wrap (row:Int)=(row:Int):=aL (by omega) (by omega)
 have e2:zJ (row:Int) (n:Int)=((row%n:Nat):Int):=eR row n
 have hr:=Nat.mod_lt row (show 0<n by omega)
 have e3:IntKind.i64.wrap (((row%n:Nat):Int)*45)=((row%n*45:Nat):Int):=by rw[aL (by omega) (by omega)];omega
 have e4:zJ (how:Int) 3=((how%3:Nat):Int):=eR how 3
 have br:=aGw s
 have bl:=dW s
 have hl0:(aW (bN s)).length=s.size:=by rw[aI,bl]
 have b1:(row%n+1)*45≤n*45:=Nat.mul_le_mul_right _ hr
 have bz:(bN s).length/45=n:=by omega
 have bb:=oY s
 have e5:IntKind.i64.wrap (a:Int)=(a:Int):=aL (by omega) (by omega)
 have e6:IntKind.i64.wrap (o:Int)=(o:Int):=aL (by omega) (by omega)
 have a2':=Nat.mod_lt a (show 0<2 by decide)
 have a45:=Nat.mod_lt a (show 0<45 by decide)
 have a40:=Nat.mod_lt a (show 0<40 by decide)
 have o40:=Nat.mod_lt o (show 0<40 by decide)
 have o255:=Nat.mod_lt o (show 0<255 by decide)
 have h45:row%n*45+45≤s.size:=by omega
 have n0:((0:Nat):Int)=0:=rfl
 generalize hfr:row%n*45=fr at *
 rcases wW (how%3=0)with k0|k0
 ·have k0':=of_eq_true k0
  obtain⟨x,hx⟩:=iA (l:=bN s) (i:=fr+a%45) (by omega)
  have x256:=bb _ _ hx
  have hR0:htL (bN s) row how a o=(bN s).set (fr+a%45) ((x+(1+o%255))%256):=by
   unfold htL
   rw[if_pos k0',bz,hfr,List.getD_eq_getElem?_getD,hx,Option.getD_some]
  rw[hR0]
  have ux:=lB hx
  have us:=gH (l:=bN s) (i:=fr+a%45) (x:=(x+(1+o%255))%256) (by omega)
  have c0:(((how%3:Nat):Int)=0)=True:=eq_true (by omega)
  have c1:zJ (a:Int) 45=((a%45:Nat):Int):=eR a 45
  have c2:IntKind.i64.wrap (((fr:Nat):Int)+((a%45:Nat):Int))=((fr+a%45:Nat):Int):=by rw[aL (by omega) (by omega)];omega
  have c3:zJ (o:Int) 255=((o%255:Nat):Int):=eR o 255
  have c4:IntKind.u8.wrap (1+((o%255:Nat):Int))=((1+o%255:Nat):Int):=by
   simp[IntKind.wrap,IntKind.bits,IntKind.signed];omega
  have c5:IntKind.u8.wrap ((x:Int)+((1+o%255:Nat):Int))=(((x+(1+o%255))%256:Nat):Int):=by
   simp[IntKind.wrap,IntKind.bits,IntKind.signed]
  have i1:(((fr+a%45:Nat):Int)<(s.size:Int))=True:=eq_true (by omega)
  have i2:(fr+a%45+1≤s.size)=True:=eq_true (by omega)
  have i3:(fr+a%45<s.size)=True:=eq_true (by omega)
  have lR:((bN s).set (fr+a%45) ((x+(1+o%255))%256)).length=s.size:=by rw[List.length_set,bl]
  generalize (bN s).set (fr+a%45) ((x+(1+o%255))%256)=R at *
  have lR':(aW R).length=s.size:=by rw[aI,lR]
  have bu:=gE (f:=R)
  have tk:List.take s.size (aW R)=aW R:=List.take_of_length_le (by rw[lR'];exact Nat.le_refl _)
  have td:List.take s.size (List.drop 0 (aW R))=aW R:=tk
  have gR:=aZ R
  have nq:=tW (lF R) s
  have hR:(⟨⟨R.map UInt8.ofNat⟩⟩:ByteArray)=lF R:=rfl
  have one:(s.size*1≤s.size)=True:=eq_true (by omega)
  generalize (x+(1+o%255))%256=X at *
  generalize fr+a%45=P at *
  generalize 1+o%255=Z at *
  (sym=>(simp[aO,aP,bG,Za,Zb,Zc,Zf,Zh,Zi,Zl,Zm,Zo,Zp,Zr,Zu,Zw,Z0,ZA,ZD,ZJ,ZK,ZL,ZO,ZP,Yc,Yf,Yj,Yk,Yo,Yq,Yr,Ys,Yx,Yy,Y5,YG,YH,YK,YU,Xa,Xb,Xd,Xl,Xm,Xo,Xz,X0,XI,XK,XV,XZ,Wa,Wb,Wc,Wh,Wp,Wt,Wv,Ww,Wx,Va,Vj,Vk,Vl,Vm,Vn,Vo,Vq,Vr,Vs,Vt,Vu,Vw,V0,V4,V5,V8,VA,VC,VD,VF,VG,VH,VI,VK,VN,VR,VU,VV,VZ,Ua,Ub,Uc,Ud,Ue,Uf,Ug,Uj,Uk,Uz,U0,U6,U7,UB,UC,UD,UE,UJ,UK,UL,UM,UN,UP,UQ,UT,UX,UY,Tl,Tm,Tn,Tp,Tr,Tx,TS,TT,TU,c0,c1,c2,c3,c4,c5,e5,ux,us,i1,i2,i3,lR',bu,tk,td,gR,nq,hR,one,br,bl,hl0,d1,d2,d3,d4,e1,e2,e3,e4,bE,bC,bB,bH];all_goals tactic=>exact rfl))
 ·have k0':=of_eq_false k0
  have c0:(((how%3:Nat):Int)=0)=False:=eq_false (by omega)
  rcases wW (how%3=1)with k1|k1
  ·have k1':=of_eq_true k1
   have c1:(((how%3:Nat):Int)=1)=True:=eq_true (by omega)
   have hR0:htL (bN s) row how a o=pI (bN s) (fr+4+a%40) (fr+4+o%40):=by
    unfold htL
    rw[if_neg k0',if_pos k1',bz,hfr]
   rw[hR0]
   obtain⟨x,hx⟩:=iA (l:=bN s) (i:=fr+4+a%40) (by omega)
   obtain⟨y,hy⟩:=iA (l:=bN s) (i:=fr+4+o%40) (by omega)
   have ux:=lB hx
   have uy:=lB hy
   have sw:pI (bN s) (fr+4+a%40) (fr+4+o%40)=((bN s).set (fr+4+a%40) y).set (fr+4+o%40) x:=by
    unfold pI;rw[List.getD_eq_getElem?_getD,List.getD_eq_getElem?_getD,hx,hy];rfl
   rw[sw]
   have us:=gH (l:=bN s) (i:=fr+4+a%40) (x:=y) (by omega)
   have us2:=gH (l:=(bN s).set (fr+4+a%40) y) (i:=fr+4+o%40) (x:=x) (by rw[List.length_set];omega)
   have l1:=aI ((bN s).set (fr+4+a%40) y)
   rw[List.length_set,bl]at l1
   have c2:zJ (a:Int) 40=((a%40:Nat):Int):=eR a 40
   have c3:zJ (o:Int) 40=((o%40:Nat):Int):=eR o 40
   have c4:IntKind.i64.wrap (((fr:Nat):Int)+4)=((fr+4:Nat):Int):=by rw[aL (by omega) (by omega)];omega
   have c5:IntKind.i64.wrap (((fr+4:Nat):Int)+((a%40:Nat):Int))=((fr+4+a%40:Nat):Int):=by rw[aL (by omega) (by omega)];omega
   have c6:IntKind.i64.wrap (((fr+4:Nat):Int)+((o%40:Nat):Int))=((fr+4+o%40:Nat):Int):=by rw[aL (by omega) (by omega)];omega
   have i1:(((fr+4+a%40:Nat):Int)<(s.size:Int))=True:=eq_true (by omega)
   have i2:(fr+4+a%40+1≤s.size)=True:=eq_true (by omega)
   have i3:(fr+4+a%40<s.size)=True:=eq_true (by omega)
   have j1:(((fr+4+o%40:Nat):Int)<(s.size:Int))=True:=eq_true (by omega)
   have j2:(fr+4+o%40+1≤s.size)=True:=eq_true (by omega)
   have j3:(fr+4+o%40<s.size)=True:=eq_true (by omega)
   have sB:=dO (bN s)
   have lR:(((bN s).set (fr+4+a%40) y).set (fr+4+o%40) x).length=s.size:=by rw[List.length_set,List.length_set,bl]
   generalize ((bN s).set (fr+4+a%40) y).set (fr+4+o%40) x=R at *
   have sR:=dO R
   generalize (bN s).set (fr+4+a%40) y=R1 at *
   have sR1:=dO R1
   have lR':(aW R).length=s.size:=by rw[aI,lR]
   have bu:=gE (f:=R)
   have tk:List.take s.size (aW R)=aW R:=List.take_of_length_le (by rw[lR'];exact Nat.le_refl _)
   have td:List.take s.size (List.drop 0 (aW R))=aW R:=tk
   have gR:=aZ R
   have nq:=tW (lF R) s
   have hR:(⟨⟨R.map UInt8.ofNat⟩⟩:ByteArray)=lF R:=rfl
   have one:(s.size*1≤s.size)=True:=eq_true (by omega)
   generalize fr+4+a%40=P at *
   generalize fr+4+o%40=Q at *
   generalize fr+4=fr4 at *
   (sym=>(simp[aO,aP,bG,Za,Zb,Zc,Zf,Zh,Zi,Zl,Zm,Zo,Zp,Zr,Zu,Zw,Z0,ZA,ZD,ZJ,ZK,ZM,ZN,ZO,ZQ,ZR,Yc,Yf,Yj,Yk,Yo,Yq,Yr,Ys,Yx,Yy,Y5,YG,YH,YK,YU,Xa,Xb,Xd,Xl,Xm,Xo,Xz,X0,XI,XK,XV,XY,XZ,Wa,Wb,Wc,Wh,Wp,Wt,Wv,Ww,Wx,WQ,Va,Vj,Vk,Vl,Vm,Vn,Vo,Vq,Vr,Vs,Vt,Vu,Vw,V0,V4,V5,V8,VA,VC,VD,VF,VG,VH,VI,VK,VN,VO,VP,VR,VU,VV,VW,VX,VZ,Ua,Ub,Uc,Ud,Ue,Uf,Ug,Uj,Uk,Uz,U0,U6,U7,UB,UC,UD,UE,UJ,UK,UL,UM,UN,UP,UQ,UT,UX,UY,Tl,Tm,Tn,Tp,Tr,Tw,Tx,TS,TT,TU,c0,c1,c2,c3,c4,c5,c6,e5,e6,ux,uy,us,us2,l1,i1,i2,i3,j1,j2,j3,sB,sR,sR1,lR',bu,tk,td,gR,nq,hR,one,br,bl,hl0,d1,d2,d3,d4,e1,e2,e3,e4,bE,bC,bB,bH];all_goals tactic=>exact rfl))
  ·have k1':=of_eq_false k1
   have c1:(((how%3:Nat):Int)=1)=False:=eq_false (by omega)
   have hR0:htL (bN s) row how a o=rF (bN s) fr (120+a%2) 45:=by
    unfold htL
    rw[if_neg k0',if_neg k1',bz,hfr]
   rw[hR0]
   have c2:zJ (a:Int) 2=((a%2:Nat):Int):=eR a 2
   have c3:IntKind.u8.wrap (120+((a%2:Nat):Int))=((120+a%2:Nat):Int):=by
    simp[IntKind.wrap,IntKind.bits,IntKind.signed];omega
   generalize 120+a%2=c at *
   have lo:∀ j,(rF (bN s) fr c j).length=s.size:=by
    intro j
    induction j with
    | zero=>exact bl
    | succ j ih=>rw[rF,List.length_set,ih]
   sym =>
    simp[aO,aP,bG,Za,Zb,Zf,Zh,Zl,Zm,Zo,Zp,Zr,Zu,Zw,Z0,ZA,ZJ,ZK,Yc,Yf,Yj,Yq,Yr,Ys,Y5,Xz,XI,Wh,Vw,V0,V5,V8,VC,VH,VN,VU,VV,Uj,Uk,UE,UJ,UL,UN,UP,UQ,UX,UY,Tl,Tm,d1,d2,d3,d4,e1,e2,e3,e4,br,c0,c1]
    tactic =>
     unfold aIf
     rw[bU 45 (fun j=>[.str s,U a,.sl 0 0 1 s.size,I (fr:Nat),I (j:Nat)]) (fun j=>[some (.blk true (.cells true (aW (rF (bN s) fr c j))))])]
     ·have e0:((45:Int)<45)=False:=eq_false (by omega)
      have lR:=lo 45
      generalize rF (bN s) fr c 45=R at *
      have sR:=dO R
      have lR':(aW R).length=s.size:=by rw[aI,lR]
      have bu:=gE (f:=R)
      have tk:List.take s.size (aW R)=aW R:=List.take_of_length_le (by rw[lR'];exact Nat.le_refl _)
      have td:List.take s.size (List.drop 0 (aW R))=aW R:=tk
      have gR:=aZ R
      have nq:=tW (lF R) s
      have hR:(⟨⟨R.map UInt8.ofNat⟩⟩:ByteArray)=lF R:=rfl
      have one:(s.size*1≤s.size)=True:=eq_true (by omega)
      (sym=>(simp[aO,aP,bG,Za,Zb,Zf,Zh,Zi,Zl,Zm,Zu,Z0,Yt,YG,YH,YK,Xa,Xb,Xd,Xl,Xm,Xo,X0,XI,XK,XZ,Wa,Wb,Wp,Wt,Wv,Ww,Wx,Va,Vj,Vk,Vl,Vm,Vn,Vo,Vq,Vr,Vs,Vt,Vu,Vx,V0,V5,VA,VD,VF,VI,VR,VV,VZ,Ua,Ub,Uc,Uf,Ug,Uj,Uk,Uz,U0,UJ,UK,UL,UM,UO,UQ,UR,UT,UV,UX,UY,Tn,Tp,Tr,Tx,T7,TS,TT,TU,e0,sR,lR',bu,tk,td,gR,nq,hR,one,br,bl,hl0,d1,d2,d3,d4,e1,e2,e3,e4,bE,bC,bB,bH];all_goals tactic=>exact rfl))
     ·have o0:rF (bN s) fr c 0=bN s:=rfl
      (sym=>(simp[aO,aP,bG,Za,Y5,YF,YH,YM,YZ,Xb,Xf,XZ,Wh,Wj,Wm,Wn,Wp,Wq,Wr,Wt,Wv,Ww,Wx,Wy,WF,WG,WK,Vw,Vy,Vz,V9,VA,VC,VD,VF,VI,VT,VZ,Ua,Ub,Uc,UW,Tq,o0,hl0,bE,bC,bB,bH];all_goals tactic=>exact rfl))
     ·intro j hj
      have i1:((j:Int)<45)=True:=eq_true (by omega)
      have b2:=gJ (n:=45) (i:=j) (by omega) (by omega)
      have c4:IntKind.i64.wrap (((fr:Nat):Int)+(j:Int))=((fr+j:Nat):Int):=by rw[aL (by omega) (by omega)];omega
      have i2:(((fr+j:Nat):Int)<(s.size:Int))=True:=eq_true (by omega)
      have i3:(fr+j+1≤s.size)=True:=eq_true (by omega)
      have i4:(fr+j<s.size)=True:=eq_true (by omega)
      have us:=gH (l:=rF (bN s) fr c j) (i:=fr+j) (x:=c) (by rw[lo];omega)
      have ho:(rF (bN s) fr c j).set (fr+j) c=rF (bN s) fr c (j+1):=rfl
      rw[ho]at us
      have l1:=aI (rF (bN s) fr c j)
      rw[lo]at l1
      generalize rF (bN s) fr c (j+1)=O1 at *
      generalize rF (bN s) fr c j=O0 at *
      (sym=>(simp[aO,aP,bG,Za,Zb,Zc,Zf,Zh,Zl,Zm,Zu,Z0,ZD,ZO,ZP,Yk,Yo,Yt,Yx,Yy,YF,YH,YM,YU,YZ,Xb,Xf,XV,XZ,Wc,Wj,Wm,Wn,Wp,Wq,Wr,Wt,Wv,Ww,Wx,Wy,WF,WG,WK,Vx,Vy,Vz,V0,V4,V9,VA,VC,VD,VF,VG,VH,VI,VK,VR,VT,VU,VV,VZ,Ua,Ub,Uc,Ud,Ue,UC,UD,UJ,UL,UN,UP,UQ,UT,UW,UX,UY,Tn,Tp,Tq,i1,b2,c2,c3,c4,i2,i3,i4,us,l1,bE,bC,bB,bH];all_goals tactic=>exact rfl))
     ·have e0:((45:Int)<45)=False:=eq_false (by omega)
      (sym=>(simp[aO,aP,bG,Za,Zb,Zf,Zh,Zl,Zm,Zu,Z0,Yt,Vx,V0,V5,V6,VV,UJ,UL,UO,UQ,UR,UX,UY,T7,e0];all_goals tactic=>exact rfl))
end Go.Proofs.YtmapgnepfgnphaaGreatDoor
namespace Go.Proofs.YtmapgnepfgnphaaGreatDoor
open Go Go.DL
theorem aGx (a b:ByteArray):bN (a++b)=bN a++bN b:=by
 unfold bN
 rw[ByteArray.data_append,Array.toList_append,List.map_append]
theorem rQ {l:List Nat} (h:jT l):bN (lF l)=l:=by
 unfold bN lF
 rw[List.map_map]
 apply List.ext_getElem?
 intro i
 rw[List.getElem?_map]
 cases hx:l[i]? with
 | none=>rfl
 | some x =>
   have:=h i x hx
   simp only[Option.map_some,Function.comp]
   rw[UInt8.toNat_ofNat',Nat.mod_eq_of_lt this]
theorem aAb (s:ByteArray):lF (bN s)=s:=by
 unfold bN lF
 rw[List.map_map]
 cases s with
 | mk d =>
   cases d with
   | mk l =>
     congr 2
     conv=>rhs;rw[←List.map_id l]
     apply List.map_congr_left
     intro b _
     simp
theorem aCC (s:ByteArray) (a b:Nat):bN (oA s a b)=((bN s).drop a).take (b-a):=by
 unfold bN oA
 simp only[List.map_take,List.map_drop]
def lD (b:List Nat) (i:Nat):List Nat:=(b.drop (i*45)).take 45
def sK (r:List Nat):List Nat:=(r.drop 4).take 40
def rE (f:List Nat):Bool:=f.all fun x=>decide (32≤x)&&decide (x≤126)
def tF (n:Nat) (r:List Nat):Bool:=rE (sK r)&&decide (r=cM n (sK r))
theorem aLQ (s:ByteArray) (i:Nat):bN (wS s i)=lD (bN s) i:=by
 unfold wS lD
 rw[aCC]
 congr 1;omega
theorem sW:∀ l:List UInt8,iQ l = !rE (l.map UInt8.toNat)
 | []=>rfl
 | x::l=>by
   have ih:=sW l
   show (decide (x.toNat<32)||(decide (126<x.toNat)||iQ l)) = !((decide (32≤x.toNat)&&decide (x.toNat≤126))&&rE (l.map UInt8.toNat))
   rw[ih,Bool.not_and,Bool.not_and,←decide_not,←decide_not]
   simp only[Nat.not_le,Bool.or_assoc]
theorem aHr {l:List Nat} (h:l.length=40):cR l=l:=by
 unfold cR
 rw[List.take_of_length_le (by omega),h];simp
theorem aLU {s:ByteArray} (h:s.size=45):rdF s=sK (bN s):=by
 unfold rdF txB sK
 rw[aCC,aHr]
 simp[dW,h]
theorem uK {n:Nat} {f:List Nat} (h:jT f):jT (cM n f):=by
 intro i x hx
 unfold cM at hx
 have hm:=List.mem_of_getElem? hx
 have hc:oE n f<9973:=Nat.mod_lt _ (by decide)
 simp only[fL,List.mem_append,List.mem_cons,List.not_mem_nil,or_false]at hm
 rcases hm with (h1|h1|h1|h1)|h1|h1
 ·omega
 ·omega
 ·omega
 ·omega
 ·obtain⟨j,hj⟩:=List.getElem?_of_mem h1
  exact h j x hj
 ·omega
theorem aHJ {r:List Nat} (h:jT r):jT (sK r):=by
 intro i x hx
 unfold sK at hx
 rw[List.getElem?_take]at hx
 split at hx
 ·rw[List.getElem?_drop]at hx;exact h _ _ hx
 ·cases hx
theorem aBI (a b:ByteArray):(a.toList==b.toList)=decide (bN a=bN b):=by
 rw[xG,xG]
 by_cases h:bN a=bN b
 ·have:a=b:=by rw[←aAb a,←aAb b,h]
  subst this;simp
 ·have:¬a.data.toList=b.data.toList:=fun hh=>h (by unfold bN;rw[hh])
  rw[decide_eq_false h]
  exact beq_eq_false_iff_ne.2 this
theorem aHE {s:ByteArray} {n:Nat} (h:s.size=45):yP s n=tF n (bN s):=by
 unfold yP tF
 have e1:bN (txB s)=sK (bN s):=by unfold txB sK;rw[aCC]
 have e2:(txB s).data.toList.map UInt8.toNat=sK (bN s):=e1
 rw[sW,e2,Bool.not_not,aBI,aLU h,rQ (uK (aHJ (oY s)))]
 congr 1
 exact decide_eq_decide.2 ⟨fun h=>h.symm,fun h=>h.symm⟩
theorem aIB {s:ByteArray} {n i:Nat} (h:(i+1)*45≤s.size):gdS s n i=tF (n+i) (lD (bN s) i):=by
 unfold gdS
 rw[aHE (aAH h),aLQ]
theorem aDE {s:ByteArray} {n i j:Nat} (hij:i≠j) (hi:gdS s n i=false) (hj:gdS s n j=false):∀ k,(if i<k then 1 else 0)+(if j<k then 1 else 0)≤qW s n k
 | 0=>by simp
 | k+1=>by
   have ih:=aDE hij hi hj k
   rw[qW]
   by_cases h1:k=i
   ·subst h1
    rw[hi]
    rw[if_neg (by omega)]at ih
    rw[if_pos (by omega)]
    show _≤qW s n k+1
    by_cases h2:j<k
    ·rw[if_pos h2]at ih;rw[if_pos (by omega)];omega
    ·rw[if_neg (by omega)];omega
   ·by_cases h2:k=j
    ·subst h2
     rw[hj]
     rw[if_neg (by omega:¬k<k)]at ih
     show _≤qW s n k+1
     rw[if_pos (by omega:k<k+1)]
     by_cases h3:i<k
     ·rw[if_pos h3]at ih;rw[if_pos (by omega)];omega
     ·rw[if_neg (by omega)];omega
    ·have e1:(i<k+1)=(i<k):=by apply propext;omega
     have e2:(j<k+1)=(j<k):=by apply propext;omega
     simp only[e1,e2]
     refine Nat.le_trans ih ?_
     cases gdS s n k
     ·exact Nat.le_succ _
     ·exact Nat.le_refl _
def aHO (C:List Nat) (j:Nat):Nat→Nat
 | 0=>0
 | k+1=>aHO C j k+dN ((fA C k).getD j 0)
theorem aJX {y:Nat} (h:y<95):dN (32+y)=y:=by unfold dN;omega
theorem aAU {t:Nat}:∀ {f o:List Nat} {j x y:Nat},f[j]?=some x→o[j]?=some y→(cL t f o)[j]?=some (pv t x y)
 | [],_,_,_,_,h,_=>by simp at h
 | _::_,[],_,_,_,_,h=>by simp at h
 | a::f,b::o,0,x,y,h1,h2=>by
   simp only[List.getElem?_cons_zero,oSI]at h1 h2
   subst h1 h2;rfl
 | a::f,b::o,j+1,x,y,h1,h2=>by
   simp only[List.getElem?_cons_succ]at h1 h2
   rw[cL,List.getElem?_cons_succ]
   exact aAU h1 h2
theorem eO {l:List Nat} {j:Nat} (h:j<l.length):l[j]?=some (l.getD j 0):=by
 rw[List.getD_eq_getElem?_getD,List.getElem?_eq_getElem h];rfl
theorem aEU {C:List Nat} {n j:Nat} (hC:n*40≤C.length) (hj:j<40):∀ {k},k≤n→(cU C k)[j]?=some (32+aHO C j k%95)
 | 0,_=>by
   have:cU C 0=List.replicate 40 32:=rfl
   rw[this,List.getElem?_replicate,if_pos hj];rfl
 | k+1,hk=>by
   have ih:=aEU hC hj (k:=k) (by omega)
   have hf:=eO (l:=fA C k) (j:=j) (by rw[nT hC (by omega)];exact hj)
   rw[cU,aAU ih hf]
   unfold pv
   rw[aHO,aJX (Nat.mod_lt _ (by decide))]
   congr 2;omega
theorem qS {v x:Nat}:∀ {f:List Nat} {i:Nat} (k:Nat),f[i]?=some x→lM k (f.set i v)+(k+i+1)*dN x=lM k f+(k+i+1)*dN v
 | [],_,_,h=>by simp at h
 | a::f,0,k,h=>by
   simp only[List.getElem?_cons_zero,oSI]at h
   subst h
   simp only[List.set_cons_zero,lM,Nat.add_zero]
   omega
 | a::f,i+1,k,h=>by
   simp only[List.getElem?_cons_succ]at h
   have ih:=qS (v:=v) (k+1) h
   simp only[List.set_cons_succ,lM]
   rw[show k+1+i+1=k+(i+1)+1 by omega]at ih
   omega
theorem aGr {n p q:Nat} {f g:List Nat} (h:lM 0 g+p=lM 0 f+q) (hne:p≠q) (hp:p≤9000) (hq:q≤9000):oE n g≠oE n f:=by
 unfold oE;omega
theorem aBt {a b:Nat} (ha:a<10000) (hb:b<10000) (h:fL a=fL b):a=b:=by
 unfold fL at h
 simp only[List.cons.injEq,and_true]at h
 omega
theorem aAp (n:Nat) (f:List Nat):oE n f<9973:=Nat.mod_lt _ (by decide)
theorem rD {f:List Nat} (h:rE f=true) {i x:Nat} (hx:f[i]?=some x):32≤x∧x≤126:=by
 have:=List.all_eq_true.1 h x (List.mem_of_getElem? hx)
 simpa using this
theorem aAn {x:Nat} (h:32≤x∧x≤126):dN x=x-32:=by unfold dN;omega
theorem aHn {f:List Nat} (h:rE f=true):jT f:=fun i x hx=>by
 have:=rD h hx;omega
theorem gZ {n:Nat} {f:List Nat} (h:f.length=40):(cM n f).length=45:=by simp[cM,fL,h]
theorem qA {n:Nat} {f:List Nat} (h:f.length=40):sK (cM n f)=f:=by
 unfold sK cM
 rw[List.drop_append_of_le_length (by simp[fL])]
 have:List.drop 4 (fL (oE n f))=[]:=rfl
 rw[this,List.nil_append,List.take_append_of_le_length (by omega),List.take_of_length_le (by omega)]
theorem pZ {n:Nat} {f:List Nat}:(cM n f).take 4=fL (oE n f):=rfl
theorem zS {n:Nat} {f:List Nat} (h:f.length=40):(cM n f)[44]?=some 10:=by
 unfold cM
 rw[List.getElem?_append_right (by simp[fL]),List.getElem?_append_right (by simp[fL,h])]
 simp[fL,h]
theorem nL {n j:Nat} {f:List Nat} (h:f.length=40) (hj:j<40):(cM n f)[4+j]?=f[j]?:=by
 unfold cM
 rw[List.getElem?_append_right (by simp[fL]),List.getElem?_append_left (by simp[fL];omega)]
 simp[fL]
theorem jH {n:Nat} {r:List Nat} (h:rE (sK r)=true→r≠cM n (sK r)):tF n r=false:=by
 unfold tF
 cases hp:rE (sK r)with
 | false=>rfl
 | true=>rw[decide_eq_false (h hp)];rfl
theorem aCo {r:List Nat} {j v:Nat}:sK (r.set (4+j) v)=(sK r).set j v:=by
 unfold sK
 rw[List.drop_set,if_neg (by omega),List.take_set,Nat.add_sub_cancel_left]
theorem aEn {r:List Nat} {j v:Nat} (hj:j<4):sK (r.set j v)=sK r:=by
 unfold sK
 rw[List.drop_set,if_pos hj]
theorem aEo {r:List Nat} {j v:Nat} (hj:44≤j):sK (r.set j v)=sK r:=by
 unfold sK
 rw[List.drop_set,if_neg (by omega),List.take_set,List.set_eq_of_length_le (by simp;omega)]
theorem aBJ {r:List Nat} {j v:Nat}:(r.set (4+j) v).take 4=r.take 4:=by
 rw[List.take_set,List.set_eq_of_length_le (by simp;omega)]
theorem pQ {l:List Nat} {j x:Nat} (h:l[j]?=some x):l.set j x=l:=by
 obtain⟨h1,h2⟩:=List.getElem?_eq_some_iff.1 h
 rw[←h2]
 exact List.set_getElem_self h1
theorem aDd {n:Nat} {f g:List Nat} {r:List Nat} (ht:r.take 4=fL (oE n f)) (hf:sK r=g) (hc:rE g=true→oE n g≠oE n f):tF n r=false:=by
 refine jH fun hp hr=>?_
 rw[hf]at hp hr
 have h1:(cM n g).take 4=fL (oE n g):=pZ
 rw[←hr,ht]at h1
 have l1:=aAp n f
 have l2:=aAp n g
 exact hc hp (aBt (by omega) (by omega) h1.symm)
theorem aHf {n j v x:Nat} {f:List Nat} (hf:f.length=40) (hp:rE f=true) (hj:j<45) (hx:(cM n f)[j]?=some x) (hv:v≠x):tF n ((cM n f).set j v)=false:=by
 by_cases h1:j<4
 ·refine jH fun _ hr=>?_
  rw[aEn h1,qA hf]at hr
  have:=congrArg (fun l=>l[j]?) hr
  simp only[List.getElem?_set_self' ,hx]at this
  simp at this
  exact hv this
 ·by_cases h2:j<44
  ·obtain⟨i,rfl⟩:∃ i,j=4+i:=⟨j-4,by omega⟩
   rw[nL hf (by omega)]at hx
   refine aDd (f:=f) (g:=f.set i v) (by rw[aBJ];exact pZ) (by rw[aCo,qA hf]) fun hg=>?_
   have px:=aAn (rD hp hx)
   have hi:i<f.length:=(List.getElem?_eq_some_iff.1 hx).1
   have hvp:=rD hg (show (f.set i v)[i]?=some v by rw[List.getElem?_set_self hi])
   have pv:=aAn hvp
   have rx:=rD hp hx
   have hs:=qS (v:=v) 0 hx
   have m1:(0+i+1)*dN x≤40*94:=Nat.mul_le_mul (by omega) (by omega)
   have m2:(0+i+1)*dN v≤40*94:=Nat.mul_le_mul (by omega) (by omega)
   refine aGr hs (fun hh=>?_) (by omega) (by omega)
   have:=Nat.eq_of_mul_eq_mul_left (by omega) hh
   omega
  ·have h3:j=44:=by omega
   subst h3
   rw[zS hf]at hx
   refine jH fun _ hr=>?_
   rw[aEo (by omega),qA hf]at hr
   have:=congrArg (fun l=>l[44]?) hr
   simp only[List.getElem?_set_self',zS hf]at this
   simp at this
   simp only[oSI]at hx
   omega
theorem aGR {n i k:Nat} {f:List Nat} (hf:f.length=40) (hp:rE f=true) (hi:i<40) (hk:k<40) (hne:pI (cM n f) (4+i) (4+k)≠cM n f):tF n (pI (cM n f) (4+i) (4+k))=false:=by
 have hx:=eO (l:=f) (j:=i) (by omega)
 have hy:=eO (l:=f) (j:=k) (by omega)
 generalize f.getD i 0=x at *
 generalize f.getD k 0=y at *
 have sw:pI (cM n f) (4+i) (4+k)=((cM n f).set (4+i) y).set (4+k) x:=by
  unfold pI
  rw[List.getD_eq_getElem?_getD,List.getD_eq_getElem?_getD,nL hf hi,nL hf hk,hx,hy];rfl
 rw[sw]at hne ⊢
 refine aDd (f:=f) (g:=(f.set i y).set k x) (by rw[aBJ,aBJ];exact pZ) (by rw[aCo,aCo,qA hf]) fun _=>?_
 have hik:i≠k:=by
  rintro rfl
  rw[hx]at hy
  simp only[oSI]at hy
  subst hy
  apply hne
  have hr:(cM n f)[4+i]?=some x:=by rw[nL hf hi];exact hx
  rw[List.set_set]
  exact pQ hr
 have hxy:x≠y:=by
  rintro rfl
  apply hne
  have hr:(cM n f)[4+i]?=some x:=by rw[nL hf hi];exact hx
  have hr2:(cM n f)[4+k]?=some x:=by rw[nL hf hk];exact hy
  rw[pQ hr,pQ hr2]
 have rx:=rD hp hx
 have ry:=rD hp hy
 have px:=aAn rx
 have py:=aAn ry
 have s1:=qS (v:=y) 0 hx
 have hy':(f.set i y)[k]?=some y:=by rw[List.getElem?_set_ne hik];exact hy
 have s2:=qS (v:=x) 0 hy'
 have m1:(0+i+1)*dN x≤40*94:=Nat.mul_le_mul (by omega) (by omega)
 have m2:(0+i+1)*dN y≤40*94:=Nat.mul_le_mul (by omega) (by omega)
 have m3:(0+k+1)*dN x≤40*94:=Nat.mul_le_mul (by omega) (by omega)
 have m4:(0+k+1)*dN y≤40*94:=Nat.mul_le_mul (by omega) (by omega)
 refine aGr (p:=(0+i+1)*dN x+(0+k+1)*dN y) (q:=(0+i+1)*dN y+(0+k+1)*dN x) (by omega) (fun hh=>?_) (by omega) (by omega)
 have hz:((i:Int)-(k:Int))*((dN x:Int)-(dN y:Int))≠0:=Int.mul_ne_zero (by omega) (by omega)
 apply hz
 have hh':((0+i+1:Nat):Int)*(dN x:Int)+((0+k+1:Nat):Int)*(dN y:Int)=((0+i+1:Nat):Int)*(dN y:Int)+((0+k+1:Nat):Int)*(dN x:Int):=by
  rw[←Int.natCast_mul,←Int.natCast_mul,←Int.natCast_mul,←Int.natCast_mul,←Int.natCast_add,←Int.natCast_add,hh]
 have e1:((0+i+1:Nat):Int)=(i:Int)+1:=by omega
 have e2:((0+k+1:Nat):Int)=(k:Int)+1:=by omega
 rw[e1,e2,Int.add_mul,Int.add_mul,Int.add_mul,Int.add_mul]at hh'
 rw[Int.sub_mul,Int.mul_sub,Int.mul_sub]
 omega
def htR (b:List Nat) (how a o:Nat):List Nat :=
 if how%3=0 then b.set (a%45) ((b.getD (a%45) 0+(1+o%255))%256)
 else if how%3=1 then pI b (4+a%40) (4+o%40)
 else rF b 0 (120+a%2) 45
theorem tE (b:List Nat) (i c:Nat):∀ n,(rF b i c n).length=b.length
 | 0=>rfl
 | n+1=>by rw[rF,List.length_set,tE b i c n]
theorem aJu {b:List Nat} {c:Nat} (hb:b.length=45):(rF b 0 c 45)[44]?=some c:=by
 rw[rF]
 exact List.getElem?_set_self (by rw[tE,hb];omega)
theorem aHp {n c:Nat} {f:List Nat} (hf:f.length=40) (hc:c≠10):tF n (rF (cM n f) 0 c 45)=false:=by
 refine jH fun _ hr=>?_
 have h1:=aJu (b:=cM n f) (c:=c) (gZ hf)
 have lr:(rF (cM n f) 0 c 45).length=45:=by rw[tE,gZ hf]
 have lf:(sK (rF (cM n f) 0 c 45)).length=40:=by simp[sK,lr]
 rw[hr,zS lf]at h1
 simp only[oSI]at h1
 omega
theorem aDp {n how a o:Nat} {f:List Nat} (hf:f.length=40) (hp:rE f=true) (hne:htR (cM n f) how a o≠cM n f):tF n (htR (cM n f) how a o)=false:=by
 unfold htR at hne ⊢
 have a45:=Nat.mod_lt a (show 0<45 by decide)
 have a40:=Nat.mod_lt a (show 0<40 by decide)
 have o40:=Nat.mod_lt o (show 0<40 by decide)
 split
 ·rename_i h0
  rw[if_pos h0]at hne
  have hx:=eO (l:=cM n f) (j:=a%45) (by rw[gZ hf];exact a45)
  generalize (cM n f).getD (a%45) 0=x at *
  refine aHf hf hp a45 hx fun hv=>hne ?_
  rw[hv]
  exact pQ hx
 ·rename_i h0
  rw[if_neg h0]at hne
  split
  ·rename_i h1
   rw[if_pos h1]at hne
   exact aGR hf hp a40 o40 hne
  ·exact aHp hf (by omega)
theorem oL {b:List Nat} {r j:Nat} (hj:j<45):(lD b r)[j]?=b[r*45+j]?:=by
 unfold lD
 rw[List.getElem?_take,if_pos hj,List.getElem?_drop]
theorem uF {b:List Nat} {r j:Nat} (hj:j<45):b.getD (r*45+j) 0=(lD b r).getD j 0:=by
 rw[List.getD_eq_getElem?_getD,List.getD_eq_getElem?_getD,oL hj]
theorem pV {b:List Nat} {r j v:Nat} (hj:j<45) (i:Nat):lD (b.set (r*45+j) v) i=if i=r then (lD b r).set j v else lD b i:=by
 unfold lD
 rw[List.drop_set]
 by_cases h1:i=r
 ·subst h1
  rw[if_neg (by omega),if_pos rfl,List.take_set,Nat.add_sub_cancel_left]
 ·rw[if_neg h1]
  by_cases h2:r<i
  ·have:(r+1)*45≤i*45:=Nat.mul_le_mul_right _ h2
   rw[if_pos (by omega)]
  ·have:(i+1)*45≤r*45:=Nat.mul_le_mul_right _ (by omega)
   rw[if_neg (by omega),List.take_set,List.set_eq_of_length_le (by rw[List.length_take];omega)]
theorem aHg {b:List Nat} {r x y:Nat} (hx:x<45) (hy:y<45) (i:Nat):lD (pI b (r*45+x) (r*45+y)) i=if i=r then pI (lD b r) x y else lD b i:=by
 unfold pI
 rw[pV hy,pV hx,pV hx,uF hx,uF hy]
 by_cases h:i=r
 ·rw[if_pos h,if_pos rfl,if_pos h]
 ·rw[if_neg h,if_neg h,if_neg h]
theorem zP {b:List Nat} {r c:Nat} (i:Nat):∀ n,n≤45→lD (rF b (r*45) c n) i=if i=r then rF (lD b r) 0 c n else lD b i
 | 0,_=>by
   by_cases h:i=r
   ·subst h;rw[if_pos rfl];rfl
   ·rw[if_neg h];rfl
 | n+1,hn=>by
   rw[rF,pV (by omega),zP i n (by omega),zP r n (by omega),if_pos rfl]
   by_cases h:i=r
   ·rw[if_pos h,if_pos h,rF,Nat.zero_add]
   ·rw[if_neg h,if_neg h,if_neg h]
theorem aJm {b:List Nat} {m row how a o:Nat} (hb:b.length=m*45) (i:Nat):lD (htL b row how a o) i=if i=row%m then htR (lD b (row%m)) how a o else lD b i:=by
 have hm:b.length/45=m:=by omega
 have a45:=Nat.mod_lt a (show 0<45 by decide)
 have a40:=Nat.mod_lt a (show 0<40 by decide)
 have o40:=Nat.mod_lt o (show 0<40 by decide)
 unfold htL htR
 rw[hm]
 by_cases h0:how%3=0
 ·rw[if_pos h0,if_pos h0,pV a45,uF a45]
 ·rw[if_neg h0,if_neg h0]
  by_cases h1:how%3=1
  ·rw[if_pos h1,if_pos h1,Nat.add_assoc,Nat.add_assoc,aHg (by omega) (by omega)]
  ·rw[if_neg h1,if_neg h1,zP i 45 (by omega)]
theorem aFk {x y:List Nat} {m:Nat} (hx:x.length=m*45) (hy:y.length=m*45) (h:∀ i,i<m→lD x i=lD y i):x=y:=by
 apply List.ext_getElem?
 intro k
 by_cases hk:k<m*45
 ·have h1:=h (k/45) (by omega)
  have h2:k%45<45:=Nat.mod_lt _ (by decide)
  have h3:k/45*45+k%45=k:=by omega
  rw[←h3,←oL h2,←oL h2,h1]
 ·rw[List.getElem?_eq_none (by omega),List.getElem?_eq_none (by omega)]
theorem aJI {b:List Nat} {row how a o:Nat}:(htL b row how a o).length=b.length:=by
 unfold htL
 split
 ·rw[List.length_set]
 ·split
  ·unfold pI;rw[List.length_set,List.length_set]
  ·rw[tE]
theorem nJ {b:List Nat} {i v:Nat} (hb:jT b) (hv:v<256):jT (b.set i v):=by
 intro j x hx
 rw[List.getElem?_set]at hx
 split at hx
 ·split at hx
  ·simp only[oSI]at hx;omega
  ·cases hx
 ·exact hb j x hx
theorem qR {b:List Nat} (hb:jT b) (i:Nat):b.getD i 0<256:=by
 rw[List.getD_eq_getElem?_getD]
 cases hx:b[i]? with
 | none=>exact(by decide:(0:Nat)<256)
 | some x=>exact hb i x hx
theorem aDb {b:List Nat} {i c:Nat} (hb:jT b) (hc:c<256):∀ n,jT (rF b i c n)
 | 0=>hb
 | n+1=>nJ (aDb hb hc n) hc
theorem aJJ {b:List Nat} {row how a o:Nat} (hb:jT b):jT (htL b row how a o):=by
 unfold htL
 split
 ·exact nJ hb (Nat.mod_lt _ (by decide))
 ·split
  ·exact nJ (nJ hb (qR hb _)) (qR hb _)
  ·exact aDb hb (by omega) _
def pgL:Nat→List (List Nat)→List Nat
 | _,[]=>[]
 | n,f::F=>cM n f++pgL (n+1) F
theorem aHo {F:List (List Nat)} (h:∀ f∈F,f.length=40) (n:Nat):(pgL n F).length=F.length*45:=by
 induction F generalizing n with
 | nil=>rfl
 | cons f F ih =>
   rw[pgL,List.length_append,gZ (h f (by simp)),ih (fun g hg=>h g (by simp[hg])),List.length_cons]
   omega
theorem aJs {F:List (List Nat)} (h:∀ f∈F,f.length=40) {n i:Nat} {f:List Nat} (hi:F[i]?=some f):lD (pgL n F) i=cM (n+i) f:=by
 induction F generalizing n i with
 | nil=>simp at hi
 | cons g F ih =>
   have lg:=gZ (n:=n) (h g (by simp))
   cases i with
   | zero =>
     simp only[List.getElem?_cons_zero,oSI]at hi
     subst hi
     unfold lD
     rw[pgL,Nat.zero_mul,List.drop_zero,List.take_append_of_le_length (by omega),List.take_of_length_le (by omega),Nat.add_zero]
   | succ i =>
     simp only[List.getElem?_cons_succ]at hi
     have:=ih (fun g hg=>h g (by simp[hg])) (n:=n+1) hi
     unfold lD at this ⊢
     rw[pgL,List.drop_append,List.drop_eq_nil_of_le (by omega),List.nil_append,lg,show (i+1)*45-45=i*45 by omega,this]
     congr 1;omega
theorem uZ {f:List Nat}:∀ {F:List (List Nat)} {n:Nat},pgL n (F++[f])=pgL n F++cM (n+F.length) f
 | [],n=>by simp[pgL]
 | g::F,n=>by
   rw[List.cons_append,pgL,uZ,pgL,List.append_assoc,List.length_cons]
   congr 3;omega
theorem aIG {ls:List ByteArray} {row:Nat}:∀ {i},i≤ls.length→bN (Bn ls row i)=pgL row ((ls.take i).map sG)
 | 0,_=>rfl
 | i+1,h=>by
   obtain⟨s,hs⟩:=iA (l:=ls) (i:=i) (by omega)
   rw[aKp hs,aGx,aIG (by omega),List.take_add_one,hs,List.map_append]
   show _=pgL row ((ls.take i).map sG++[sG s])
   rw[uZ,List.length_map,List.length_take,Nat.min_eq_left (by omega)]
   unfold wT
   rw[rQ (uK (aAd s))]
def rL (ls:List ByteArray):List (List Nat):=ls.map sG++[cU (Cn ls ls.length) ls.length]
theorem aIF {ls:List ByteArray} {row:Nat}:bN (cW ls row)=pgL row (rL ls):=by
 unfold cW rL
 rw[aGx,aIG (Nat.le_refl _),List.take_of_length_le (Nat.le_refl _),uZ,List.length_map]
 unfold wT
 rw[rQ (uK (nH _))]
theorem aIz {s:ByteArray} (h:yJ s=0):s.size≤40∧s.size≠0∧iQ s.data.toList=false∧Lib.hasSuffix s.data.toList [32]=false:=by
 unfold yJ at h
 split at h
 ·exact absurd h (by decide)
 ·rename_i h1
  split at h
  ·exact absurd h (by decide)
  ·rename_i h2
   simp only[Bool.or_eq_true,not_or,Bool.not_eq_true,decide_eq_false_iff_not]at h2
   exact⟨by omega,h2.1,h2.2.1,h2.2.2⟩
theorem aHA {s:ByteArray} (h:yJ s=0):rE (bN s)=true:=by
 have h1:=(aIz h).2.2.1
 rw[sW]at h1
 have:rE (s.data.toList.map UInt8.toNat)=true:=by
  cases hx:rE (s.data.toList.map UInt8.toNat)with
  | true=>rfl
  | false=>rw[hx]at h1;cases h1
 exact this
theorem aHq {l:List Nat} (h:rE l=true):rE (cR l)=true:=by
 unfold cR rE at *
 rw[List.all_append,Bool.and_eq_true]
 refine⟨List.all_eq_true.2 fun x hx=>List.all_eq_true.1 h x (List.mem_of_mem_take hx),List.all_eq_true.2 fun x hx=>?_⟩
 rw[List.eq_of_mem_replicate hx];rfl
theorem aJD {s:ByteArray} (h:yJ s=0):rE (sG s)=true:=aHq (aHA h)
theorem aJg {C:List Nat} {n k:Nat} (hC:n*40≤C.length) (hk:k≤n):rE (cU C k)=true:=by
 refine List.all_eq_true.2 fun x hx=>?_
 obtain⟨j,hj⟩:=List.getElem?_of_mem hx
 have lj:j<(cU C k).length:=(List.getElem?_eq_some_iff.1 hj).1
 rw[dZ hC k hk]at lj
 rw[aEU hC lj hk]at hj
 simp only[oSI]at hj
 have:=Nat.mod_lt (aHO C j k) (show 0<95 by decide)
 simp;omega
section
variable {ls:List ByteArray} {n:Nat} {s:ByteArray}
def lst (ls:List ByteArray):List Nat:=cU (Cn ls ls.length) ls.length
theorem aHy:(lst ls).length=40:=dZ (n:=ls.length) (by rw[pA (Nat.le_refl _)];exact Nat.le_refl _) _ (Nat.le_refl _)
theorem aJC:rE (lst ls)=true:=aJg (n:=ls.length) (by rw[pA (Nat.le_refl _)];exact Nat.le_refl _) (Nat.le_refl _)
theorem fZ:∀ f∈rL ls,f.length=40:=by
 intro f hf
 unfold rL at hf
 rcases List.mem_append.1 hf with h|h
 ·obtain⟨x,_,rfl⟩:=List.mem_map.1 h
  exact qL x
 ·simp only[List.mem_singleton]at h
  rw[h];exact aHy
theorem aDt (gl:∀ l∈ls,yJ l=0):∀ f∈rL ls,rE f=true:=by
 intro f hf
 unfold rL at hf
 rcases List.mem_append.1 hf with h|h
 ·obtain⟨x,hx,rfl⟩:=List.mem_map.1 h
  exact aJD (gl x hx)
 ·simp only[List.mem_singleton]at h
  rw[h];exact aJC
theorem aCn:(rL ls).length=ls.length+1:=by simp[rL]
def rwO (ls:List ByteArray) (n i:Nat):List Nat:=cM (n+i) ((rL ls).getD i [])
theorem mP {i:Nat} (hi:i≤ls.length):(rL ls).getD i []∈rL ls:=by
 rw[List.getD_eq_getElem?_getD,List.getElem?_eq_getElem (by rw[aCn];omega)]
 exact List.getElem_mem _
theorem lU {i:Nat} (hi:i≤ls.length):lD (bN (cW ls n)) i=rwO ls n i:=by
 rw[aIF]
 unfold rwO
 have:(rL ls)[i]?=some ((rL ls).getD i []):=by
  rw[List.getD_eq_getElem?_getD,List.getElem?_eq_getElem (by rw[aCn];omega)];rfl
 exact aJs fZ this
theorem tD:(cW ls n).size=(ls.length+1)*45:=by
 rw[←dW,aIF,aHo fZ,aCn]

theorem aJA (h1:1≤ls.length) (h5:ls.length≤5) (hn:n≤1000) (hz:s.size=(ls.length+1)*45) :
 mnV s (n:Int)=oC (iC s (ls.length+1)) ls.length (xB s n (ls.length+1)) (qW s n (ls.length+1)):=by
 have e1:s.size%45=0:=by omega
 have e2:s.size/45=ls.length+1:=by omega
 have hb:(decide ((0:Int)≤(n:Int))&&decide ((n:Int)≤1000))=true:=by simp;omega
 unfold mnV
 rw[if_pos hb,e1,e2,if_neg (by omega),if_neg (by omega)]
 rfl
theorem aCe (h1:1≤ls.length) (h5:ls.length≤5) (hn:n≤1000) (hz:s.size=(ls.length+1)*45) {i j:Nat} (hij:i≠j) (hi:i≤ls.length) (hj:j≤ls.length)
 (hi':tF (n+i) (lD (bN s) i)=false) (hj':tF (n+j) (lD (bN s) j)=false):mnV s (n:Int)=sN 19:=by
 rw[aJA h1 h5 hn hz]
 have l1:(i+1)*45≤(ls.length+1)*45:=Nat.mul_le_mul_right _ (by omega)
 have l2:(j+1)*45≤(ls.length+1)*45:=Nat.mul_le_mul_right _ (by omega)
 have:=aDE (s:=s) (n:=n) hij (by rw[aIB (by omega),hi']) (by rw[aIB (by omega),hj']) (ls.length+1)
 rw[if_pos (by omega),if_pos (by omega)]at this
 unfold oC
 rw[if_pos (by omega)]
end
theorem aJE {s:ByteArray} {f:List Nat} {x:Nat} (hs:bN s=f++[x]) (hl:f.length≤39) (hp:rE f=true) (hx:33≤x∧x≤126):yJ s=0:=by
 have hz:s.size=f.length+1:=by rw[←dW,hs];simp
 have hpr:rE (bN s)=true:=by
  rw[hs];unfold rE at *
  rw[List.all_append,hp];simp;omega
 have hu:iQ s.data.toList=false:=by
  rw[sW]
  have:rE (s.data.toList.map UInt8.toNat)=true:=hpr
  rw[this];rfl
 have hh:Lib.hasSuffix s.data.toList [32]=false:=by
  cases h:Lib.hasSuffix s.data.toList [32]with
  | false=>rfl
  | true =>
    unfold Lib.hasSuffix at h
    rw[List.isSuffixOf_iff_suffix]at h
    obtain⟨t,ht⟩:=h
    have:bN s=t.map UInt8.toNat++[32]:=by unfold bN;rw[←ht];simp
    rw[hs]at this
    have h2:=List.append_inj_right' this rfl
    simp only[List.cons.injEq,and_true]at h2
    omega
 unfold yJ
 rw[if_neg (by omega),hu,hh,decide_eq_false (by omega)]
 rfl
theorem aFJ (s:List Nat) (k:Nat):rE (lH s k)=true:=by
 unfold rE lH
 refine List.all_eq_true.2 fun x hx=>?_
 obtain⟨y,_,rfl⟩:=List.mem_map.1 hx
 have:=Nat.mod_lt y (show 0<95 by decide)
 simp;omega
theorem aBb (s:List Nat):yJ (mdL s)=0:=by
 refine aJE (f:=lH s 39) (x:=122) ?_ (by simp[lH];omega) (aFJ _ _) (by omega)
 unfold mdL
 refine rQ fun i x hx=>?_
 have hm:=List.mem_of_getElem? hx
 rcases List.mem_append.1 hm with h|h
 ·obtain⟨j,hj⟩:=List.getElem?_of_mem h
  exact aHn (aFJ s 39) j x hj
 ·simp only[List.mem_singleton]at h;omega
theorem aEg (l:List (List Nat)):∀ s∈aBc l,yJ s=0:=by
 intro s hs
 unfold aBc at hs
 split at hs
 ·simp only[List.mem_singleton]at hs
  rw[hs];exact aBb []
 ·unfold jJ at hs
  obtain⟨x,_,rfl⟩:=List.mem_map.1 hs
  exact aBb x
theorem aJB (l:List (List Nat)):1≤(aBc l).length∧(aBc l).length≤5:=by
 unfold aBc
 split
 ·exact⟨Nat.le_refl _,by decide⟩
 ·unfold jJ
  simp;omega
theorem yU {f:Nat→Int}:∀ {n},(∀ i,i<n→f i=0)→iV f n=0
 | 0,_=>rfl
 | n+1,h=>by rw[iV,if_pos (yU fun i hi=>h i (by omega))];exact h n (by omega)
section
variable {ls:List ByteArray} {n:Nat}
theorem aMc (gl:∀ l∈ls,yJ l=0) (h1:1≤ls.length) (h5:ls.length≤5) (hn:n≤1000):pgE ls (n:Int)=0:=by
 have hb:(decide ((0:Int)≤(n:Int))&&decide ((n:Int)≤1000))=true:=by simp;omega
 unfold pgE
 rw[if_pos hb,if_neg (by omega),if_neg (by omega)]
 refine yU fun i hi=>?_
 have:ls.getD i emB∈ls:=by
  rw[List.getD_eq_getElem?_getD,List.getElem?_eq_getElem hi]
  exact List.getElem_mem _
 exact gl _ this
def iB (s:ByteArray) (row how a o:Nat):ByteArray:=lF (htL (bN s) row how a o)
theorem aGb {s:ByteArray} {row how a o:Nat}:bN (iB s row how a o)=htL (bN s) row how a o:=rQ (aJJ (oY s))
theorem mJ {s:ByteArray} {row how a o:Nat}:(iB s row how a o).size=s.size:=by
 rw[←dW,aGb,aJI,dW]
theorem rG {s:ByteArray} {row how a o m:Nat} (hs:s.size=m*45) (i:Nat):lD (bN (iB s row how a o)) i=if i=row%m then htR (lD (bN s) (row%m)) how a o else lD (bN s) i:=by
 rw[aGb,aJm (by rw[dW];exact hs)]
theorem aGa {s:ByteArray} {row how a o m:Nat} (hs:s.size=m*45) (hm:0<m) (h:iB s row how a o≠s):htR (lD (bN s) (row%m)) how a o≠lD (bN s) (row%m):=by
 intro he
 apply h
 have hr:=Nat.mod_lt row hm
 have:bN (iB s row how a o)=bN s:=by
  refine aFk (m:=m) (by rw[dW,mJ];exact hs) (by rw[dW];exact hs) fun i hi=>?_
  rw[rG hs]
  split
  ·rename_i h;rw[he,h]
  ·rfl
 rw[←aAb (iB s row how a o),this,aAb]
end
end Go.Proofs.YtmapgnepfgnphaaGreatDoor
namespace Go.Proofs.YtmapgnepfgnphaaGreatDoor
open Go Go.DL
set_option maxRecDepth 100000
set_option maxHeartbeats 4000000
theorem p13 {h:XH}:runW aN 13 [] h=some (.bool true,h):=(fC (f:=tA) rfl rfl [] h).trans rfl
end Go.Proofs.YtmapgnepfgnphaaGreatDoor
namespace Go.Proofs.YtmapgnepfgnphaaGreatDoor
open Go Go.DL Go.ChangeShapes Go.WideShapes Go.ChangeAt Go.RowKit
set_option maxRecDepth 100000
theorem uQ {H:Type} {enc:TypeId×Value→H} {a:Assume} {C:Checked} {os:Os} {f:FuncId} {fn:Func} {s:ChangeSpec} {X:World→Array Value→Prop}
 (hX:∀ (w w':World) (args:Array Value),w.heap=w'.heap→X w args→X w' args)
 (own:ownKnob C.prog.godebug=none) (started:os.Started) (noInit:C.prog.inits.idxOf? f=none) (hfn:C.prog.funcs[f]?=some fn)
 (witness:∃ (w:World) (tape:Tape) (i:Input),w.os=os∧(w.forCall tape i).Shaped C.prog∧i.vars=[]∧Input.okWide C.prog (w.forCall tape i) .any w.heap.size f i ∧
  ((s.pre enc C.prog fn [] false (w.forCall tape i).memory i.args∧X (w.forCall tape i).memory i.args)∧sizedMet enc C.prog fn (OpenSpec.ofChange s) false (w.forCall tape i).memory i.args)∧a.holds C.prog (lone (Frame.enter C.prog f i.args .normal) [] (w.forCall tape i)))
 (contract:∀ (W:World) (base:Nat) (args:Array Value) (ds gs:List (DataW H)) (before:List MemPlace),
  (∀ (j:Nat) t v,fn.params[j]?=some t→args[j]?=some v→Value.okWide C.prog W .any base t v) →
  DataW.Whole enc C.prog fn.params.toList s.vars false W args.toList ds gs before→X W args→W.ShapedOpen C.prog →
  Calls C.prog f args W fun e W'=>∃ v,e = .returned v∧s.post enc C.prog fn false true false false W args v W') :
 ReturnsInHanded a C os f .any (fun w args=>(s.pre enc C.prog fn [] false w args∧X w args)∧sizedMet enc C.prog fn (OpenSpec.ofChange s) false w args) (s.post enc C.prog fn false true false false):=by
 refine returnsInHanded_of_calls own started noInit witness ?_
 rintro w tape i _ hsh _ ⟨_,_,_,fn',hfn',_,_,_,_,hval⟩ ⟨⟨⟨ds,gs,before,hw,_⟩,hx⟩,_⟩ _
 cases hfn'.symm.trans hfn
 exact(contract _ _ _ ds gs before hval (DataW.Whole.of_heap (by rfl) hw) (hX _ _ _ (by rfl) hx) hsh).mono fun e W' ⟨v,he,hp⟩=>by
  subst he
  exact ChangeSpec.post_blind hp
abbrev a2T:List CT:=[.int .u8,.int .u8]
theorem aIC:Flat Tryz.prog 5 [.int .u8]:=.int Tryz.underlying5
theorem aJR:Flat Tryz.prog 59 [.sl [.int .u8]]:=.sl Tryz.underlying59 aIC (by kernel_rfl) (by decide)
theorem aJT:Flat Tryz.prog 52 [.sl [.sl [.int .u8]]]:=.sl Tryz.underlying52 aJR (by kernel_rfl) (by decide)
theorem aJS:Flat Tryz.prog 58 a2T:=.array (n:=2) Tryz.underlying58 aIC (by kernel_rfl) (by kernel_rfl)
theorem aAh {k:IntKind} {a:AV} (h:Sh (.int k) a):∃ n,a = .int k n∧(Lit.int k n).wf=true:=by cases h;exact⟨_,rfl,by assumption⟩
theorem xF {n:Int} (h:(Lit.int .u8 n).wf=true):∃ m:Nat,n=(m:Int)∧m<256:=by
 simp[Lit.wf,IntKind.bits,IntKind.signed,IntKind.min,IntKind.max]at h
 exact⟨n.toNat,by omega,by omega⟩
theorem aIZ {n:Int} (h:(Lit.int .u16 n).wf=true):∃ m:Nat,n=(m:Int)∧m<65536:=by
 simp[Lit.wf,IntKind.bits,IntKind.signed,IntKind.min,IntKind.max]at h
 exact⟨n.toNat,by omega,by omega⟩
theorem aAL {α:Type} {f:α→List AV} {r:List CT} (key:∀ row:List AV,row.length=r.length→(∀ (i:Nat) (c:CT) (a:AV),r[i]?=some c→row[i]?=some a→Sh c a)→∃ x,row=f x):∀ {rows:List (List AV)},(∀ row∈rows,row.length=r.length) →
 (∀ row∈rows,∀ (i:Nat) (c:CT) (a:AV),r[i]?=some c→row[i]?=some a→Sh c a)→∃ l:List α,rows=l.map f
 | [],_,_=>⟨[],rfl⟩
 | a::rows,h1,h2=>by
   obtain⟨l,rfl⟩:=aAL key (rows:=rows) (fun row hr=>h1 row (by simp[hr])) (fun row hr=>h2 row (by simp[hr]))
   obtain⟨x,rfl⟩:=key a (h1 a (by simp)) (h2 a (by simp))
   exact⟨x::l,rfl⟩
theorem aIm {α:Type} {f:α→List AV} {r:List CT} (key:∀ row:List AV,row.length=r.length→(∀ (i:Nat) (c:CT) (a:AV),r[i]?=some c→row[i]?=some a→Sh c a)→∃ x,row=f x) {a:AV} (h:Sh (.sl r) a):∃ l:List α,a = .fs (l.map f)∧l.length≤maxLen:=by
 cases h with
 | sl _ rows h1 hn h2 =>
   obtain⟨l,rfl⟩:=aAL key h1 h2
   exact⟨l,rfl,by simpa using hn⟩
theorem aTp:∀ row:List AV,row.length=([.int .u8]:List CT).length→(∀ (i:Nat) (c:CT) (a:AV),([.int .u8]:List CT)[i]?=some c→row[i]?=some a→Sh c a)→∃ x:{ x:Nat // x<256 },row=[U x.1]:=by
 intro row hl h
 match row,hl with
 | [a0],_ =>
   cases h 0 _ _ rfl rfl with
   | int _ n0 q0 =>
   obtain⟨m0,rfl,b0⟩:=xF q0
   exact⟨⟨m0,b0⟩,rfl⟩
theorem aOv:∀ row:List AV,row.length=([.sl [.int .u8]]:List CT).length→(∀ (i:Nat) (c:CT) (a:AV),([.sl [.int .u8]]:List CT)[i]?=some c→row[i]?=some a→Sh c a)→∃ x:{ x:List Nat // jT x },row=[byA x.1]:=by
 intro row hl h
 match row,hl with
 | [a0],_ =>
   obtain⟨us,rfl,_⟩:=aIm aTp (h 0 _ _ rfl rfl)
   refine⟨⟨us.map (·.1),fun i x hx=>?_⟩,?_⟩
   ·rw[List.getElem?_map,Option.map_eq_some_iff]at hx
    obtain⟨y,_,rfl⟩:=hx
    exact y.2
   ·unfold byA;rw[List.map_map];rfl
theorem aFe {a:AV} (h:Sh (.sl [.sl [.int .u8]]) a):∃ L:List (List Nat),(∀ s∈L,jT s)∧a=shA L:=by
 obtain⟨us,rfl,_⟩:=aIm aOv h
 refine⟨us.map (·.1),fun s hs=>?_,by unfold shA shR;rw[List.map_map];rfl⟩
 obtain⟨x,_,rfl⟩:=List.mem_map.1 hs
 exact x.2
theorem aBZ {P:Program} {w:World} {r:Reach} {base:Nat} {t:TypeId} {n:Nat} {e:TypeId} (ht:P.underlying t=some (.array n e)) {v:Value} (h:Value.okWide P w r base t v):∃ vs,v = .agg vs:=by
 unfold Value.okWide at h
 rw[ht]at h
 obtain⟨cs,h,_⟩:=h
 exact⟨cs,h⟩
theorem aOz {xs:List AV} (hl:xs.length=2) (h:∀ (i:Nat) (c:CT) (a:AV),a2T[i]?=some c→xs[i]?=some a→Sh c a):∃ m0 m1:Nat,AV.agg xs = .agg [U m0,U m1]∧Gd (.agg [U m0,U m1])∧m0<256∧m1<256:=by
 match xs,hl with
 | [a0,a1],_ =>
   cases h 0 _ _ rfl rfl with
   | int _ n0 q0 =>
   cases h 1 _ _ rfl rfl with
   | int _ n1 q1 =>
   obtain⟨m0,rfl,b0⟩:=xF q0
   obtain⟨m1,rfl,b1⟩:=xF q1
   refine⟨m0,m1,rfl,.agg _ fun c hc=>?_,b0,b1⟩
   simp only[List.mem_cons,List.not_mem_nil,or_false]at hc
   rcases hc with rfl|rfl
   ·exact .int _ _
   ·exact .int _ _
theorem aGz {F:Nat→Prop} {w:World}:Args F w [] #[]:=⟨rfl,fun i a' v' h1 h2=>by simp at h1⟩
theorem gU {F:Nat→Prop} {w:World} {a:AV} {v:Value} {xs:List AV} {vs:List Value} (h:Rv F w a v) (hs:Args F w xs vs.toArray):Args F w (a::xs) (v::vs).toArray:=by
 refine⟨by have:=hs.1;simp at this ⊢;exact this,fun i a' v' h1 h2=>?_⟩
 match i with
 | 0=>simp at h1 h2;rw[←h1,←h2];exact h
 | i+1 =>
   simp at h1 h2
   exact hs.2 i a' v' h1 (by simpa using h2)
end Go.Proofs.YtmapgnepfgnphaaGreatDoor
namespace Go.Proofs.YtmapgnepfgnphaaGreatDoor
open Go Go.DL
section
variable {ls:List ByteArray} {n:Nat}
theorem nI {p q:Nat} {f:List Nat} (hf:f.length=40) (h:p≠q) (h1:p≤q+5) (h2:q≤p+5):tF p (cM q f)=false:=by
 refine jH fun _ hr=>?_
 rw[qA hf]at hr
 have ht:=congrArg (List.take 4) hr
 rw[pZ,pZ]at ht
 have l1:=aAp p f
 have l2:=aAp q f
 have he:=aBt (by omega) (by omega) ht
 unfold oE at he
 omega
theorem aHv (h1:1≤ls.length) (h5:ls.length≤5) (hn:n<1000):mnV (cW ls n) ((n+1:Nat):Int)=sN 19:=by
 refine aCe h1 h5 (by omega) tD (i:=0) (j:=1) (by decide) (by omega) (by omega) ?_ ?_
 ·rw[lU (by omega)]
  exact nI (fZ _ (mP (by omega))) (by omega) (by omega) (by omega)
 ·rw[lU (by omega)]
  exact nI (fZ _ (mP (by omega))) (by omega) (by omega) (by omega)
theorem aFH (gl:∀ l∈ls,yJ l=0) (h1:1≤ls.length) (h5:ls.length≤5) (hn:n≤1000) {i k how a o how' a' o':Nat} (hik:i≠k) (hi:i≤ls.length) (hk:k≤ls.length)
 (hx:iB (cW ls n) i how a o≠cW ls n) (hy:iB (iB (cW ls n) i how a o) k how' a' o'≠iB (cW ls n) i how a o):mnV (iB (iB (cW ls n) i how a o) k how' a' o') (n:Int)=sN 19:=by
 have hs:(cW ls n).size=(ls.length+1)*45:=tD
 have hs2:(iB (cW ls n) i how a o).size=(ls.length+1)*45:=by rw[mJ];exact hs
 have ei:i%(ls.length+1)=i:=Nat.mod_eq_of_lt (by omega)
 have ek:k%(ls.length+1)=k:=Nat.mod_eq_of_lt (by omega)
 have n1:=aGa hs (by omega) hx
 have n2:=aGa hs2 (by omega) hy
 rw[ei,lU hi]at n1
 rw[ek,rG hs,ei,if_neg (fun h=>hik h.symm),lU hk]at n2
 refine aCe h1 h5 hn (by rw[mJ];exact hs2) hik hi hk ?_ ?_
 ·rw[rG hs2,ek,if_neg hik,rG hs,ei,if_pos rfl,lU hi]
  exact aDp (fZ _ (mP hi)) (aDt gl _ (mP hi)) n1
 ·rw[rG hs2,ek,if_pos rfl,rG hs,ei,if_neg (fun h=>hik h.symm),lU hk]
  exact aDp (fZ _ (mP hk)) (aDt gl _ (mP hk)) n2
def iX (b:List Nat) (i k:Nat):Nat→List Nat
 | 0=>b
 | m+1=>pI (iX b i k m) (i*45+m) (k*45+m)
theorem aGP (b:List Nat) (p q:Nat):(pI b p q).length=b.length:=by unfold pI;rw[List.length_set,List.length_set]
theorem gN (b:List Nat) (i k:Nat):∀ m,(iX b i k m).length=b.length
 | 0=>rfl
 | m+1=>by rw[iX,aGP,gN b i k m]
theorem aKH {b:List Nat} {p q:Nat} (hp:p<b.length) (hq:q<b.length) (h:p≠q):(pI b p q)[p]?=b[q]?:=by
 unfold pI
 rw[List.getElem?_set_ne (fun h'=>h h'.symm),List.getElem?_set_self hp,eO hq]
theorem aKG {b:List Nat} {p q:Nat} (hp:p<b.length) (hq:q<b.length):(pI b p q)[q]?=b[p]?:=by
 unfold pI
 rw[List.getElem?_set_self (by rw[List.length_set];exact hq),eO hp]
theorem aIj {b:List Nat} {p q r:Nat} (h1:r≠p) (h2:r≠q):(pI b p q)[r]?=b[r]?:=by
 unfold pI
 rw[List.getElem?_set_ne (fun h=>h2 h.symm),List.getElem?_set_ne (fun h=>h1 h.symm)]
theorem aIk {b:List Nat} {i k m':Nat} (hb:b.length=m'*45) (hi:i<m') (hk:k<m') (hik:i≠k):∀ {m},m≤45→∀ j,j<45 →
 (iX b i k m)[i*45+j]?=(if j<m then b[k*45+j]? else b[i*45+j]?)∧(iX b i k m)[k*45+j]?=(if j<m then b[i*45+j]? else b[k*45+j]?)
 | 0,_,j,_=>⟨rfl,rfl⟩
 | m+1,hm,j,hj=>by
   obtain⟨h1,h2⟩:=aIk hb hi hk hik (m:=m) (by omega) j hj
   have l1:(i+1)*45≤m'*45:=Nat.mul_le_mul_right _ hi
   have l2:(k+1)*45≤m'*45:=Nat.mul_le_mul_right _ hk
   have hne:∀ x y:Nat,x<45→y<45→i*45+x≠k*45+y:=fun x y hx hy=>by omega
   have ll:=gN b i k m
   rw[iX]
   by_cases hjm:j=m
   ·subst hjm
    rw[if_neg (by omega)]at h1 h2
    rw[if_pos (by omega),if_pos (by omega),aKH (by omega) (by omega) (hne _ _ hj hj),aKG (by omega) (by omega)]
    exact⟨h2,h1⟩
   ·have e1:(j<m+1)=(j<m):=by apply propext;omega
    simp only[e1]
    rw[aIj (by omega) (hne _ _ hj (by omega)),aIj (fun h=>hne _ _ (by omega) hj h.symm) (by omega)]
    exact⟨h1,h2⟩
theorem aJb {b:List Nat} {i k m':Nat} (hb:b.length=m'*45) (hi:i<m') (hk:k<m') (hik:i≠k):lD (iX b i k 45) i=lD b k∧lD (iX b i k 45) k=lD b i:=by
 have key:=aIk hb hi hk hik (m:=45) (Nat.le_refl _)
 have l1:(i+1)*45≤m'*45:=Nat.mul_le_mul_right _ hi
 have l2:(k+1)*45≤m'*45:=Nat.mul_le_mul_right _ hk
 have ll:=gN b i k 45
 have len:∀ (c:List Nat) (r:Nat),(lD c r).length≤45:=fun c r=>by unfold lD;rw[List.length_take];omega
 constructor
 ·apply List.ext_getElem?
  intro j
  by_cases hj:j<45
  ·rw[oL hj,oL hj,(key j hj).1,if_pos hj]
  ·have:=len (iX b i k 45) i
   have:=len b k
   rw[List.getElem?_eq_none (by omega),List.getElem?_eq_none (by omega)]
 ·apply List.ext_getElem?
  intro j
  by_cases hj:j<45
  ·rw[oL hj,oL hj,(key j hj).2,if_pos hj]
  ·have:=len (iX b i k 45) k
   have:=len b i
   rw[List.getElem?_eq_none (by omega),List.getElem?_eq_none (by omega)]
theorem aGQ {b:List Nat} (hb:jT b) (p q:Nat):jT (pI b p q):=nJ (nJ hb (qR hb _)) (qR hb _)
theorem aCL {b:List Nat} (hb:jT b) (i k:Nat):∀ m,jT (iX b i k m)
 | 0=>hb
 | m+1=>aGQ (aCL hb i k m) _ _
theorem aHu (h1:1≤ls.length) (h5:ls.length≤5) (hn:n≤1000) {i k:Nat} (hik:i≠k) (hi:i≤ls.length) (hk:k≤ls.length):mnV (lF (iX (bN (cW ls n)) i k 45)) (n:Int)=sN 19:=by
 have hs:(bN (cW ls n)).length=(ls.length+1)*45:=by rw[dW];exact tD
 have hb:bN (lF (iX (bN (cW ls n)) i k 45))=iX (bN (cW ls n)) i k 45:=rQ (aCL (oY _) _ _ _)
 obtain⟨r1,r2⟩:=aJb hs (i:=i) (k:=k) (by omega) (by omega) hik
 refine aCe h1 h5 hn (by rw[←dW,hb,gN];exact hs) hik hi hk ?_ ?_
 ·rw[hb,r1,lU hk]
  exact nI (fZ _ (mP hk)) (by omega) (by omega) (by omega)
 ·rw[hb,r2,lU hi]
  exact nI (fZ _ (mP hi)) (by omega) (by omega) (by omega)
theorem aHt {s:ByteArray} (hn:n≤1000) (h:s.size%45≠0):mnV s (n:Int)=sN 20:=by
 have hb:(decide ((0:Int)≤(n:Int))&&decide ((n:Int)≤1000))=true:=by simp;omega
 unfold mnV
 rw[if_pos hb,if_pos (Or.inl h)]
end
end Go.Proofs.YtmapgnepfgnphaaGreatDoor
namespace Go.Proofs.YtmapgnepfgnphaaGreatDoor
open Go Go.DL
set_option maxRecDepth 100000
set_option maxHeartbeats 4000000
theorem q8 {vs:List AV} {h:XH} (hl:vs.length≤191):runW aN 8 vs h=eG none x8.res x8.ownR h.length (execW aN 8 h.length none x8.body (aY (if x8.ownA then vs else iF vs)) h):=dB rfl hl h rfl
theorem w8 {L:List (List Nat)} {row v0 v1 how a o:Nat} (hb:∀ s∈L,jT s) (h0:row<65536) (hv0:v0<256) (hv1:v1<256) (h2:how<256) (h3:a<256) (h4:o<256) :
 runW aN 8 [shA L,.int .u16 (row:Int),.agg [U v0,U v1],U how,U a,U o] []=some (.bool true,[]):=by
 rw[q8 (by simp)];unfold x8;dsimp only
 have gl:=aEg L
 obtain⟨m1,m5⟩:=aJB L
 have c1:=w27 hb
 unfold shA at c1 ⊢
 generalize aBc L=ls at *
 have e1:IntKind.i64.wrap (row:Int)=(row:Int):=aL (by omega) (by omega)
 have e2:zJ (row:Int) 1000=((row%1000:Nat):Int):=eR row 1000
 have hn:=Nat.mod_lt row (show 0<1000 by decide)
 generalize row%1000=n at *
 have lz:∀ s∈ls,s.size≤1000000:=fun s hs=>by have:=(aIz (gl s hs)).1;omega
 have c2:=w14 (ls:=ls) (row:=(n:Int)) (by omega) lz
 rw[aMc gl m1 m5 (by omega),if_pos rfl]at c2
 have ht:((n:Int)).toNat=n:=rfl
 rw[ht]at c2
 have ps:(cW ls n).size=(ls.length+1)*45:=tD
 have a1:IntKind.i64.wrap ((ls.length:Int)+1)=((ls.length+1:Nat):Int):=by rw[aL (by omega) (by omega)];omega
 have a2:IntKind.i64.wrap (45*((ls.length+1:Nat):Int))=((cW ls n).size:Int):=by rw[aL (by omega) (by omega),ps];omega
 have b0:IntKind.i64.wrap (v0:Int)=(v0:Int):=aL (by omega) (by omega)
 have b1:IntKind.i64.wrap (v1:Int)=(v1:Int):=aL (by omega) (by omega)
 have d0:zJ (v0:Int) ((ls.length+1:Nat):Int)=((v0%(ls.length+1):Nat):Int):=eR _ _
 have d1:zJ (v1:Int) ((ls.length+1:Nat):Int)=((v1%(ls.length+1):Nat):Int):=eR _ _
 have d2:(((ls.length+1:Nat):Int)=0)=False:=eq_false (by omega)
 have hi:=Nat.mod_lt v0 (show 0<ls.length+1 by omega)
 have hk:=Nat.mod_lt v1 (show 0<ls.length+1 by omega)
 generalize v0%(ls.length+1)=i at *
 generalize v1%(ls.length+1)=k at *
 have u0:IntKind.u8.wrap (i:Int)=(i:Int):=by simp[IntKind.wrap,IntKind.bits,IntKind.signed];omega
 have u1:IntKind.u8.wrap (k:Int)=(k:Int):=by simp[IntKind.wrap,IntKind.bits,IntKind.signed];omega
 have u2:IntKind.u8.wrap ((how:Int)+1)=(((how+1)%256:Nat):Int):=by simp[IntKind.wrap,IntKind.bits,IntKind.signed]
 have hh:=Nat.mod_lt (how+1) (show 0<256 by decide)
 generalize (how+1)%256=how' at *
 have c5:=w28 (s:=cW ls n) (row:=i) (how:=how) (a:=a) (o:=o) ps (by omega) (by omega) (by omega) h2 h3 h4
 have hx:lF (htL (bN (cW ls n)) i how a o)=iB (cW ls n) i how a o:=rfl
 rw[hx]at c5
 have hsz:(iB (cW ls n) i how a o).size=(ls.length+1)*45:=by rw[mJ,ps]
 have c6:=w28 (s:=iB (cW ls n) i how a o) (row:=k) (how:=how') (a:=o) (o:=a) hsz (by omega) (by omega) (by omega) hh h4 h3
 have hy:lF (htL (bN (iB (cW ls n) i how a o)) k how' o a)=iB (iB (cW ls n) i how a o) k how' o a:=rfl
 rw[hy]at c6
 have hsy:(iB (iB (cW ls n) i how a o) k how' o a).size=(ls.length+1)*45:=by rw[mJ,hsz]
 have c7:=w16 (s:=iB (iB (cW ls n) i how a o) k how' o a) (row:=(n:Int)) (by omega)
 have c8:=w16 (s:=cW ls n) (row:=((n+1:Nat):Int)) (by omega)
 rw[aHv m1 m5 hn]at c8
 have nw:IntKind.i64.wrap ((n:Int)+1)=((n+1:Nat):Int):=by rw[aL (by omega) (by omega)];omega
 have w13:=p13 (h:=[])
 have rl:=aBW ls
 unfold sN at c8
 have T0:∀ {y:Bool},(i≠k→iB (cW ls n) i how a o≠cW ls n→iB (iB (cW ls n) i how a o) k how' o a≠iB (cW ls n) i how a o→runW aN 16 [.str (iB (iB (cW ls n) i how a o) k how' o a),I (n:Int)] []=some (.tup [.fs [],I 0,I 19],[])):=fun h1 h2 h3=>by
  rw[c7,aFH gl m1 m5 (by omega) h1 (by omega) (by omega) h2 h3];rfl
 have T1:=T0 (y:=true)
 clear T0
 rcases wW (i=k)with g1|g1
 ·have g1':=of_eq_true g1
  have g2:((i:Int)=(k:Int))=True:=eq_true (by omega)
  generalize iB (iB (cW ls n) i how a o) k how' o a=Y at *
  generalize iB (cW ls n) i how a o=X at *
  generalize cW ls n=P at *
  clear T1 c7
  (sym=>(simp[aO,aP,bG,Za,Zb,Zf,Zg,Zh,Zi,Zj,Zl,Zm,Zo,Zp,Zr,Zs,Zt,Zu,Zw,Zx,Z0,ZA,ZC,ZI,ZJ,ZM,ZN,ZS,ZU,ZZ,Ya,Yb,Yc,Yf,Yh,Yj,Yn,Yo,Yq,Yr,Ys,Y4,Y6,Y8,YA,YF,YG,YH,YL,YU,YX,YZ,Xa,Xb,Xd,Xe,Xk,Xl,Xm,Xp,Xz,X0,XI,XJ,XL,XX,XZ,Wa,Wb,Wg,Wh,Wi,Wp,Ws,Wt,Wu,Wv,Ww,Wx,Wz,WB,WM,WN,WO,Va,Vc,Vd,Ve,Vj,Vk,Vl,Vm,Vn,Vo,Vp,Vr,Vs,Vt,Vu,Vw,V0,V4,V5,V8,V9,VA,VC,VD,VF,VG,VH,VK,VN,VR,VU,VV,VY,VZ,Ua,Ub,Uc,Ud,Ue,Uj,Uk,Ut,Uu,U6,U7,UB,UE,UJ,UL,UM,UN,UQ,US,UX,UY,Tx,T8,T9,TA,TB,TC,TD,c1,e1,e2,c2,a1,a2,b0,b1,d0,d1,d2,u0,u1,u2,c5,c6,c8,nw,w13,rl,g2];all_goals tactic=>exact rfl))
 ·have g1':=of_eq_false g1
  have g2:((i:Int)=(k:Int))=False:=eq_false (by omega)
  have T2:=T1 g1'
  clear T1
  have lP:(aW (bN (cW ls n))).length=(cW ls n).size:=by rw[aI,dW]
  have o0:iX (bN (cW ls n)) i k 0=bN (cW ls n):=rfl
  have e45:((45:Int)<45)=False:=eq_false (by omega)
  have br:=aGw (cW ls n)
  have hms:=aHu (ls:=ls) (n:=n) m1 m5 (by omega) g1' (by omega) (by omega)
  have m5a:=w16 (s:=lF (iX (bN (cW ls n)) i k 45)) (row:=(n:Int)) (by
   have:(lF (iX (bN (cW ls n)) i k 45)).size=(cW ls n).size:=by unfold lF;rw[rV,List.length_map,gN,dW]
   omega)
  rw[hms]at m5a
  have sz1:(oA (cW ls n) 0 ((cW ls n).size-1)).size=(cW ls n).size-1:=by rw[←aAl,ByteArray.size_extract];omega
  have m5b:=w16 (s:=oA (cW ls n) 0 ((cW ls n).size-1)) (row:=(n:Int)) (by omega)
  rw[aHt (n:=n) (by omega) (by omega)]at m5b
  unfold sN at m5a m5b
  have m6a:IntKind.i64.wrap (((cW ls n).size:Int)-1)=(((cW ls n).size-1:Nat):Int):=by rw[aL (by omega) (by omega)];omega
  have m6b:((((cW ls n).size-1:Nat):Int)≤((cW ls n).size:Int))=True:=eq_true (by omega)
  have m6c:((((cW ls n).size-1:Nat):Int)).toNat=(cW ls n).size-1:=rfl
  have m6d:((0:Int)≤(((cW ls n).size-1:Nat):Int))=True:=eq_true (by omega)
  have lR:=gN (bN (cW ls n)) i k 45
  rw[dW]at lR
  have lR':=aI (iX (bN (cW ls n)) i k 45)
  rw[lR]at lR'
  have bu:=gE (f:=iX (bN (cW ls n)) i k 45)
  have tk:List.take (cW ls n).size (aW (iX (bN (cW ls n)) i k 45))=aW (iX (bN (cW ls n)) i k 45):=List.take_of_length_le (by rw[lR'];exact Nat.le_refl _)
  have td:List.take (cW ls n).size (List.drop 0 (aW (iX (bN (cW ls n)) i k 45)))=aW (iX (bN (cW ls n)) i k 45):=tk
  have gR:=aZ (iX (bN (cW ls n)) i k 45)
  have one:((cW ls n).size*1≤(cW ls n).size)=True:=eq_true (by omega)
  have hR:(⟨⟨(iX (bN (cW ls n)) i k 45).map UInt8.ofNat⟩⟩:ByteArray)=lF (iX (bN (cW ls n)) i k 45):=rfl
  have same:=dO (iX (bN (cW ls n)) i k 45)
  clear c7 hms
  by_cases hX:iB (cW ls n) i how a o=cW ls n
  ·rw[decide_eq_true hX]at c5
   generalize iB (iB (cW ls n) i how a o) k how' o a=Y at *
   generalize iB (cW ls n) i how a o=X at *
   generalize cW ls n=P at *
   clear T2
   rcases wW (ls.length<2)with g5|g5
   ·have g5':=of_eq_true g5
    have g6:((ls.length:Int)<2)=True:=eq_true (by omega)
    skip
    (sym=>(simp[aO,aP,bG,Za,Zb,Zf,Zg,Zh,Zi,Zj,Zl,Zm,Zo,Zp,Zq,Zr,Zs,Zu,Zw,Zx,Z0,ZA,ZC,ZI,ZJ,ZM,ZN,ZS,ZU,ZZ,Ya,Yb,Yc,Yf,Yh,Yj,Yn,Yo,Yq,Yr,Ys,Yt,Y4,Y6,Y8,YA,YF,YG,YH,YL,YU,YX,YZ,Xa,Xb,Xd,Xe,Xk,Xl,Xm,Xp,Xz,X0,XI,XJ,XL,XX,XZ,Wa,Wb,Wg,Wh,Wi,Wp,Ws,Wt,Wu,Wv,Ww,Wx,Wz,WB,WM,WN,WO,Va,Vc,Vd,Ve,Vj,Vk,Vl,Vm,Vn,Vo,Vp,Vr,Vs,Vt,Vu,Vw,V0,V4,V5,V8,V9,VA,VC,VD,VF,VG,VH,VK,VN,VO,VR,VU,VV,VY,VZ,Ua,Ub,Uc,Ud,Ue,Uj,Uk,Ut,Uu,U6,U7,UB,UE,UJ,UL,UM,UN,UQ,US,UX,UY,Tx,T8,T9,TA,TB,TC,TD,c1,e1,e2,c2,a1,a2,b0,b1,d0,d1,d2,u0,u1,u2,c5,c6,c8,nw,w13,rl,br,lP,g2,g6];all_goals tactic=>exact rfl))
   ·have g5':=of_eq_false g5
    have g6:((ls.length:Int)<2)=False:=eq_false (by omega)
    skip
    sym =>
     simp[aO,aP,bG,Za,Zb,Zf,Zg,Zh,Zi,Zj,Zl,Zm,Zo,Zp,Zq,Zr,Zs,Zu,Zw,Zx,Z0,ZA,ZC,ZI,ZJ,ZK,ZM,ZN,ZS,ZU,ZZ,Ya,Yb,Yc,Yf,Yh,Yj,Yn,Yo,Yq,Yr,Ys,Yt,Y4,Y6,Y8,YA,YF,YH,YL,YU,YX,YZ,Xa,Xb,Xd,Xe,Xk,Xm,Xp,Xz,XI,XJ,XL,XX,XZ,Wa,Wb,Wg,Wh,Wi,Wp,Ws,Wu,Wz,WB,WM,WN,WO,Va,Vc,Vd,Ve,Vw,V0,V5,V8,V9,VA,VB,VC,VD,VG,VH,VK,VN,VO,VR,VU,VV,VY,VZ,Ua,Ub,Uc,Ud,Ue,Uj,Uk,Ut,Uu,U6,U7,UB,UE,UJ,UL,UN,UP,UQ,UX,UY,Tl,Tm,Tx,T8,T9,TA,TB,TC,TD,c1,e1,e2,c2,a1,a2,b0,b1,d0,d1,d2,u0,u1,u2,c5,c6,c8,nw,w13,rl,br,lP,g2,g6]
     tactic =>
      unfold aGJ
      rw[bU 45 (fun j=>[I (n:Nat),.str P,I (i:Nat),I (k:Nat),.sl 0 0 1 P.size,I (j:Nat)]) (fun j=>[some (.blk true (.cells true (aW (iX (bN P) i k j))))])]
      ·(sym=>(simp[aO,aP,bG,Za,Zb,Zf,Zh,Zl,Zm,Zn,Zp,Zq,Zu,Zw,Z0,ZH,ZI,ZJ,ZS,ZU,ZZ,Ya,Yb,Yj,Yn,Yp,Yr,Yt,Yx,Yy,YF,YG,YH,YZ,Xa,Xb,Xd,Xe,Xl,X0,XZ,Wa,Wb,Wg,Wi,Wp,Ws,Wt,Wu,Wv,Ww,Wx,Wz,WB,WM,WN,WO,Va,Vj,Vk,Vl,Vm,Vn,Vo,Vp,Vr,Vs,Vt,Vu,Vx,V0,V5,V9,VA,VC,VD,VF,VG,VH,VI,VR,VU,VV,VY,VZ,Ua,Ub,Uc,Uq,Ur,Us,Uz,U0,UJ,UL,UM,UO,UQ,UR,UV,UX,UY,Th,Ti,Tj,Tk,Tn,Tp,Tr,Tx,T7,TS,TT,TU,e45,lR',bu,tk,td,gR,one,hR,same,m5a,m5b,m6a,m6b,m6c,m6d,w13,bE,bC,bB,bH];all_goals tactic=>exact rfl))
      ·(sym=>(simp[aO,aP,bG,Za,Y5,YF,YH,YM,YZ,Xb,Xf,XZ,Wj,Wm,Wn,Wp,Wq,Wr,Wt,Wv,Ww,Wx,Wy,WF,WG,WK,Vy,Vz,V9,VA,VC,VD,VF,VI,VT,VZ,Ua,Ub,Uc,UW,Tq,T9,TA,o0,lP,bE,bC,bB,bH];all_goals tactic=>exact rfl))
      ·intro j hj
       have i1:((j:Int)<45)=True:=eq_true (by omega)
       have b2:=gJ (n:=45) (i:=j) (by omega) (by omega)
       have c4:IntKind.i64.wrap ((i:Int)*45)=((i*45:Nat):Int):=by rw[aL (by omega) (by omega)];omega
       have c5:IntKind.i64.wrap ((k:Int)*45)=((k*45:Nat):Int):=by rw[aL (by omega) (by omega)];omega
       have c6:IntKind.i64.wrap (((i*45:Nat):Int)+(j:Int))=((i*45+j:Nat):Int):=by rw[aL (by omega) (by omega)];omega
       have c7:IntKind.i64.wrap (((k*45:Nat):Int)+(j:Int))=((k*45+j:Nat):Int):=by rw[aL (by omega) (by omega)];omega
       have i2:(((i*45+j:Nat):Int)<(P.size:Int))=True:=eq_true (by omega)
       have i3:(i*45+j+1≤P.size)=True:=eq_true (by omega)
       have i4:(i*45+j<P.size)=True:=eq_true (by omega)
       have j2:(((k*45+j:Nat):Int)<(P.size:Int))=True:=eq_true (by omega)
       have j3:(k*45+j+1≤P.size)=True:=eq_true (by omega)
       have j4:(k*45+j<P.size)=True:=eq_true (by omega)
       have lj:=gN (bN P) i k j
       rw[dW]at lj
       have l1:=aI (iX (bN P) i k j)
       rw[lj]at l1
       have so:iX (bN P) i k (j+1)=pI (iX (bN P) i k j) (i*45+j) (k*45+j):=rfl
       rw[so]
       generalize iX (bN P) i k j=O0 at *
       have hx:=eO (l:=O0) (j:=i*45+j) (by omega)
       have hy:=eO (l:=O0) (j:=k*45+j) (by omega)
       have sw:pI O0 (i*45+j) (k*45+j)=(O0.set (i*45+j) (O0.getD (k*45+j) 0)).set (k*45+j) (O0.getD (i*45+j) 0):=rfl
       rw[sw]
       generalize O0.getD (i*45+j) 0=x at *
       generalize O0.getD (k*45+j) 0=y at *
       have ux:=lB hx
       have uy:=lB hy
       have us:=gH (l:=O0) (i:=i*45+j) (x:=y) (by omega)
       have us2:=gH (l:=O0.set (i*45+j) y) (i:=k*45+j) (x:=x) (by rw[List.length_set];omega)
       have l2:=aI (O0.set (i*45+j) y)
       rw[List.length_set,lj]at l2
       have s0:=dO O0
       have s1:=dO (O0.set (i*45+j) y)
       have s2:=dO ((O0.set (i*45+j) y).set (k*45+j) x)
       have l3:=aI ((O0.set (i*45+j) y).set (k*45+j) x)
       rw[List.length_set,List.length_set,lj]at l3
       generalize (O0.set (i*45+j) y).set (k*45+j) x=O2 at *
       generalize O0.set (i*45+j) y=O1 at *
       (sym=>(simp[aO,aP,bG,Za,Zb,Zc,Zf,Zh,Zi,Zl,Zm,Zu,Z0,ZD,ZM,ZN,ZO,ZQ,ZR,Yk,Yo,Yq,Yt,Yx,Yy,YF,YH,YM,YU,YZ,Xb,Xf,XV,XY,XZ,Wa,Wb,Wc,Wj,Wm,Wn,Wp,Wq,Wr,Wt,Wv,Ww,Wx,Wy,WF,WG,WK,WQ,Vx,Vy,Vz,V0,V4,V9,VA,VC,VD,VF,VG,VH,VI,VK,VO,VP,VR,VT,VU,VW,VX,VZ,Ua,Ub,Uc,Ud,Ue,U6,U7,UB,UC,UD,UJ,UL,UN,UP,UQ,UT,UW,UX,UY,Tn,Tp,Tq,Tw,i1,b2,c4,c5,c6,c7,i2,i3,i4,j2,j3,j4,ux,uy,us,us2,l1,l2,l3,s0,s1,s2,bE,bC,bB,bH];all_goals tactic=>exact rfl))
      ·(sym=>(simp[aO,aP,bG,Za,Zb,Zf,Zh,Zl,Zm,Zu,Z0,Yt,Vx,V0,V5,V6,VV,UJ,UL,UO,UQ,UR,UX,UY,T7,e45];all_goals tactic=>exact rfl))
  ·rw[decide_eq_false hX]at c5
   have T3:=T2 hX
   clear T2
   by_cases hY:iB (iB (cW ls n) i how a o) k how' o a=iB (cW ls n) i how a o
   ·rw[decide_eq_true hY]at c6
    generalize iB (iB (cW ls n) i how a o) k how' o a=Y at *
    generalize iB (cW ls n) i how a o=X at *
    generalize cW ls n=P at *
    clear T3
    rcases wW (ls.length<2)with g5|g5
    ·have g5':=of_eq_true g5
     have g6:((ls.length:Int)<2)=True:=eq_true (by omega)
     skip
     (sym=>(simp[aO,aP,bG,Za,Zb,Zf,Zg,Zh,Zi,Zj,Zl,Zm,Zo,Zp,Zq,Zr,Zu,Zw,Zx,Z0,ZA,ZC,ZI,ZJ,ZM,ZN,ZS,ZU,ZZ,Ya,Yb,Yc,Yf,Yh,Yj,Yn,Yo,Yq,Yr,Ys,Yt,Y4,Y6,Y8,YA,YF,YG,YH,YL,YU,YX,YZ,Xa,Xb,Xd,Xe,Xk,Xl,Xm,Xp,Xz,X0,XI,XJ,XL,XX,XZ,Wa,Wb,Wg,Wh,Wi,Wp,Ws,Wt,Wu,Wv,Ww,Wx,Wz,WB,WM,WN,WO,Va,Vc,Vd,Ve,Vj,Vk,Vl,Vm,Vn,Vo,Vp,Vr,Vs,Vt,Vu,Vw,V0,V4,V5,V8,V9,VA,VC,VD,VF,VG,VH,VK,VN,VO,VR,VU,VV,VY,VZ,Ua,Ub,Uc,Ud,Ue,Uj,Uk,Ut,Uu,U6,U7,UB,UE,UJ,UL,UM,UN,UQ,US,UX,UY,Tx,T8,T9,TA,TB,TC,TD,c1,e1,e2,c2,a1,a2,b0,b1,d0,d1,d2,u0,u1,u2,c5,c6,c8,nw,w13,rl,br,lP,g2,g6];all_goals tactic=>exact rfl))
    ·have g5':=of_eq_false g5
     have g6:((ls.length:Int)<2)=False:=eq_false (by omega)
     skip
     sym =>
      simp[aO,aP,bG,Za,Zb,Zf,Zg,Zh,Zi,Zj,Zl,Zm,Zo,Zp,Zq,Zr,Zu,Zw,Zx,Z0,ZA,ZC,ZI,ZJ,ZK,ZM,ZN,ZS,ZU,ZZ,Ya,Yb,Yc,Yf,Yh,Yj,Yn,Yo,Yq,Yr,Ys,Yt,Y4,Y6,Y8,YA,YF,YH,YL,YU,YX,YZ,Xa,Xb,Xd,Xe,Xk,Xm,Xp,Xz,XI,XJ,XL,XX,XZ,Wa,Wb,Wg,Wh,Wi,Wp,Ws,Wu,Wz,WB,WM,WN,WO,Va,Vc,Vd,Ve,Vw,V0,V5,V8,V9,VA,VB,VC,VD,VG,VH,VK,VN,VO,VR,VU,VV,VY,VZ,Ua,Ub,Uc,Ud,Ue,Uj,Uk,Ut,Uu,U6,U7,UB,UE,UJ,UL,UN,UP,UQ,UX,UY,Tl,Tm,Tx,T8,T9,TA,TB,TC,TD,c1,e1,e2,c2,a1,a2,b0,b1,d0,d1,d2,u0,u1,u2,c5,c6,c8,nw,w13,rl,br,lP,g2,g6]
      tactic =>
       unfold aGJ
       rw[bU 45 (fun j=>[I (n:Nat),.str P,I (i:Nat),I (k:Nat),.sl 0 0 1 P.size,I (j:Nat)]) (fun j=>[some (.blk true (.cells true (aW (iX (bN P) i k j))))])]
       ·(sym=>(simp[aO,aP,bG,Za,Zb,Zf,Zh,Zl,Zm,Zn,Zp,Zq,Zu,Zw,Z0,ZH,ZI,ZJ,ZS,ZU,ZZ,Ya,Yb,Yj,Yn,Yp,Yr,Yt,Yx,Yy,YF,YG,YH,YZ,Xa,Xb,Xd,Xe,Xl,X0,XZ,Wa,Wb,Wg,Wi,Wp,Ws,Wt,Wu,Wv,Ww,Wx,Wz,WB,WM,WN,WO,Va,Vj,Vk,Vl,Vm,Vn,Vo,Vp,Vr,Vs,Vt,Vu,Vx,V0,V5,V9,VA,VC,VD,VF,VG,VH,VI,VR,VU,VV,VY,VZ,Ua,Ub,Uc,Uq,Ur,Us,Uz,U0,UJ,UL,UM,UO,UQ,UR,UV,UX,UY,Th,Ti,Tj,Tk,Tn,Tp,Tr,Tx,T7,TS,TT,TU,e45,lR',bu,tk,td,gR,one,hR,same,m5a,m5b,m6a,m6b,m6c,m6d,w13,bE,bC,bB,bH];all_goals tactic=>exact rfl))
       ·(sym=>(simp[aO,aP,bG,Za,Y5,YF,YH,YM,YZ,Xb,Xf,XZ,Wj,Wm,Wn,Wp,Wq,Wr,Wt,Wv,Ww,Wx,Wy,WF,WG,WK,Vy,Vz,V9,VA,VC,VD,VF,VI,VT,VZ,Ua,Ub,Uc,UW,Tq,T9,TA,o0,lP,bE,bC,bB,bH];all_goals tactic=>exact rfl))
       ·intro j hj
        have i1:((j:Int)<45)=True:=eq_true (by omega)
        have b2:=gJ (n:=45) (i:=j) (by omega) (by omega)
        have c4:IntKind.i64.wrap ((i:Int)*45)=((i*45:Nat):Int):=by rw[aL (by omega) (by omega)];omega
        have c5:IntKind.i64.wrap ((k:Int)*45)=((k*45:Nat):Int):=by rw[aL (by omega) (by omega)];omega
        have c6:IntKind.i64.wrap (((i*45:Nat):Int)+(j:Int))=((i*45+j:Nat):Int):=by rw[aL (by omega) (by omega)];omega
        have c7:IntKind.i64.wrap (((k*45:Nat):Int)+(j:Int))=((k*45+j:Nat):Int):=by rw[aL (by omega) (by omega)];omega
        have i2:(((i*45+j:Nat):Int)<(P.size:Int))=True:=eq_true (by omega)
        have i3:(i*45+j+1≤P.size)=True:=eq_true (by omega)
        have i4:(i*45+j<P.size)=True:=eq_true (by omega)
        have j2:(((k*45+j:Nat):Int)<(P.size:Int))=True:=eq_true (by omega)
        have j3:(k*45+j+1≤P.size)=True:=eq_true (by omega)
        have j4:(k*45+j<P.size)=True:=eq_true (by omega)
        have lj:=gN (bN P) i k j
        rw[dW]at lj
        have l1:=aI (iX (bN P) i k j)
        rw[lj]at l1
        have so:iX (bN P) i k (j+1)=pI (iX (bN P) i k j) (i*45+j) (k*45+j):=rfl
        rw[so]
        generalize iX (bN P) i k j=O0 at *
        have hx:=eO (l:=O0) (j:=i*45+j) (by omega)
        have hy:=eO (l:=O0) (j:=k*45+j) (by omega)
        have sw:pI O0 (i*45+j) (k*45+j)=(O0.set (i*45+j) (O0.getD (k*45+j) 0)).set (k*45+j) (O0.getD (i*45+j) 0):=rfl
        rw[sw]
        generalize O0.getD (i*45+j) 0=x at *
        generalize O0.getD (k*45+j) 0=y at *
        have ux:=lB hx
        have uy:=lB hy
        have us:=gH (l:=O0) (i:=i*45+j) (x:=y) (by omega)
        have us2:=gH (l:=O0.set (i*45+j) y) (i:=k*45+j) (x:=x) (by rw[List.length_set];omega)
        have l2:=aI (O0.set (i*45+j) y)
        rw[List.length_set,lj]at l2
        have s0:=dO O0
        have s1:=dO (O0.set (i*45+j) y)
        have s2:=dO ((O0.set (i*45+j) y).set (k*45+j) x)
        have l3:=aI ((O0.set (i*45+j) y).set (k*45+j) x)
        rw[List.length_set,List.length_set,lj]at l3
        generalize (O0.set (i*45+j) y).set (k*45+j) x=O2 at *
        generalize O0.set (i*45+j) y=O1 at *
        (sym=>(simp[aO,aP,bG,Za,Zb,Zc,Zf,Zh,Zi,Zl,Zm,Zu,Z0,ZD,ZM,ZN,ZO,ZQ,ZR,Yk,Yo,Yq,Yt,Yx,Yy,YF,YH,YM,YU,YZ,Xb,Xf,XV,XY,XZ,Wa,Wb,Wc,Wj,Wm,Wn,Wp,Wq,Wr,Wt,Wv,Ww,Wx,Wy,WF,WG,WK,WQ,Vx,Vy,Vz,V0,V4,V9,VA,VC,VD,VF,VG,VH,VI,VK,VO,VP,VR,VT,VU,VW,VX,VZ,Ua,Ub,Uc,Ud,Ue,U6,U7,UB,UC,UD,UJ,UL,UN,UP,UQ,UT,UW,UX,UY,Tn,Tp,Tq,Tw,i1,b2,c4,c5,c6,c7,i2,i3,i4,j2,j3,j4,ux,uy,us,us2,l1,l2,l3,s0,s1,s2,bE,bC,bB,bH];all_goals tactic=>exact rfl))
       ·(sym=>(simp[aO,aP,bG,Za,Zb,Zf,Zh,Zl,Zm,Zu,Z0,Yt,Vx,V0,V5,V6,VV,UJ,UL,UO,UQ,UR,UX,UY,T7,e45];all_goals tactic=>exact rfl))
   ·rw[decide_eq_false hY]at c6
    have T4:=T3 hY
    clear T3
    generalize iB (iB (cW ls n) i how a o) k how' o a=Y at *
    generalize iB (cW ls n) i how a o=X at *
    generalize cW ls n=P at *
    rcases wW (ls.length<2)with g5|g5
    ·have g5':=of_eq_true g5
     have g6:((ls.length:Int)<2)=True:=eq_true (by omega)
     skip
     (sym=>(simp[aO,aP,bG,Za,Zb,Zf,Zg,Zh,Zi,Zj,Zl,Zm,Zo,Zp,Zq,Zr,Zu,Zw,Zx,Z0,ZA,ZC,ZI,ZJ,ZM,ZN,ZS,ZU,ZZ,Ya,Yb,Yc,Yf,Yh,Yj,Yn,Yo,Yq,Yr,Ys,Yt,Y4,Y6,Y8,YA,YF,YG,YH,YL,YU,YX,YZ,Xa,Xb,Xd,Xe,Xk,Xl,Xm,Xp,Xz,X0,XI,XJ,XL,XX,XZ,Wa,Wb,Wg,Wh,Wi,Wp,Ws,Wt,Wu,Wv,Ww,Wx,Wz,WB,WM,WN,WO,Va,Vc,Vd,Ve,Vj,Vk,Vl,Vm,Vn,Vo,Vp,Vr,Vs,Vt,Vu,Vw,V0,V4,V5,V8,V9,VA,VC,VD,VF,VG,VH,VK,VN,VO,VR,VU,VV,VY,VZ,Ua,Ub,Uc,Ud,Ue,Uj,Uk,Ut,Uu,U6,U7,UB,UE,UJ,UL,UM,UN,UQ,US,UX,UY,Tx,T8,T9,TA,TB,TC,TD,c1,e1,e2,c2,a1,a2,b0,b1,d0,d1,d2,u0,u1,u2,c5,c6,c8,nw,w13,rl,br,lP,T4,g2,g6];all_goals tactic=>exact rfl))
    ·have g5':=of_eq_false g5
     have g6:((ls.length:Int)<2)=False:=eq_false (by omega)
     skip
     sym =>
      simp[aO,aP,bG,Za,Zb,Zf,Zg,Zh,Zi,Zj,Zl,Zm,Zo,Zp,Zq,Zr,Zu,Zw,Zx,Z0,ZA,ZC,ZI,ZJ,ZK,ZM,ZN,ZS,ZU,ZZ,Ya,Yb,Yc,Yf,Yh,Yj,Yn,Yo,Yq,Yr,Ys,Yt,Y4,Y6,Y8,YA,YF,YH,YL,YU,YX,YZ,Xa,Xb,Xd,Xe,Xk,Xm,Xp,Xz,XI,XJ,XL,XX,XZ,Wa,Wb,Wg,Wh,Wi,Wp,Ws,Wu,Wz,WB,WM,WN,WO,Va,Vc,Vd,Ve,Vw,V0,V4,V5,V8,V9,VA,VB,VC,VD,VG,VH,VK,VN,VO,VR,VU,VV,VY,VZ,Ua,Ub,Uc,Ud,Ue,Uj,Uk,Ut,Uu,U6,U7,UB,UE,UJ,UL,UN,UP,UQ,UX,UY,Tl,Tm,Tx,T8,T9,TA,TB,TC,TD,c1,e1,e2,c2,a1,a2,b0,b1,d0,d1,d2,u0,u1,u2,c5,c6,c8,nw,w13,rl,br,lP,T4,g2,g6]
      tactic =>
       unfold aGJ
       rw[bU 45 (fun j=>[I (n:Nat),.str P,I (i:Nat),I (k:Nat),.sl 0 0 1 P.size,I (j:Nat)]) (fun j=>[some (.blk true (.cells true (aW (iX (bN P) i k j))))])]
       ·(sym=>(simp[aO,aP,bG,Za,Zb,Zf,Zh,Zl,Zm,Zn,Zp,Zq,Zu,Zw,Z0,ZH,ZI,ZJ,ZS,ZU,ZZ,Ya,Yb,Yj,Yn,Yp,Yr,Yt,Yx,Yy,YF,YG,YH,YZ,Xa,Xb,Xd,Xe,Xl,X0,XZ,Wa,Wb,Wg,Wi,Wp,Ws,Wt,Wu,Wv,Ww,Wx,Wz,WB,WM,WN,WO,Va,Vj,Vk,Vl,Vm,Vn,Vo,Vp,Vr,Vs,Vt,Vu,Vx,V0,V5,V9,VA,VC,VD,VF,VG,VH,VI,VR,VU,VV,VY,VZ,Ua,Ub,Uc,Uq,Ur,Us,Uz,U0,UJ,UL,UM,UO,UQ,UR,UV,UX,UY,Th,Ti,Tj,Tk,Tn,Tp,Tr,Tx,T7,TS,TT,TU,e45,lR',bu,tk,td,gR,one,hR,same,m5a,m5b,m6a,m6b,m6c,m6d,w13,bE,bC,bB,bH];all_goals tactic=>exact rfl))
       ·(sym=>(simp[aO,aP,bG,Za,Y5,YF,YH,YM,YZ,Xb,Xf,XZ,Wj,Wm,Wn,Wp,Wq,Wr,Wt,Wv,Ww,Wx,Wy,WF,WG,WK,Vy,Vz,V9,VA,VC,VD,VF,VI,VT,VZ,Ua,Ub,Uc,UW,Tq,T9,TA,o0,lP,bE,bC,bB,bH];all_goals tactic=>exact rfl))
       ·intro j hj
        have i1:((j:Int)<45)=True:=eq_true (by omega)
        have b2:=gJ (n:=45) (i:=j) (by omega) (by omega)
        have c4:IntKind.i64.wrap ((i:Int)*45)=((i*45:Nat):Int):=by rw[aL (by omega) (by omega)];omega
        have c5:IntKind.i64.wrap ((k:Int)*45)=((k*45:Nat):Int):=by rw[aL (by omega) (by omega)];omega
        have c6:IntKind.i64.wrap (((i*45:Nat):Int)+(j:Int))=((i*45+j:Nat):Int):=by rw[aL (by omega) (by omega)];omega
        have c7:IntKind.i64.wrap (((k*45:Nat):Int)+(j:Int))=((k*45+j:Nat):Int):=by rw[aL (by omega) (by omega)];omega
        have i2:(((i*45+j:Nat):Int)<(P.size:Int))=True:=eq_true (by omega)
        have i3:(i*45+j+1≤P.size)=True:=eq_true (by omega)
        have i4:(i*45+j<P.size)=True:=eq_true (by omega)
        have j2:(((k*45+j:Nat):Int)<(P.size:Int))=True:=eq_true (by omega)
        have j3:(k*45+j+1≤P.size)=True:=eq_true (by omega)
        have j4:(k*45+j<P.size)=True:=eq_true (by omega)
        have lj:=gN (bN P) i k j
        rw[dW]at lj
        have l1:=aI (iX (bN P) i k j)
        rw[lj]at l1
        have so:iX (bN P) i k (j+1)=pI (iX (bN P) i k j) (i*45+j) (k*45+j):=rfl
        rw[so]
        generalize iX (bN P) i k j=O0 at *
        have hx:=eO (l:=O0) (j:=i*45+j) (by omega)
        have hy:=eO (l:=O0) (j:=k*45+j) (by omega)
        have sw:pI O0 (i*45+j) (k*45+j)=(O0.set (i*45+j) (O0.getD (k*45+j) 0)).set (k*45+j) (O0.getD (i*45+j) 0):=rfl
        rw[sw]
        generalize O0.getD (i*45+j) 0=x at *
        generalize O0.getD (k*45+j) 0=y at *
        have ux:=lB hx
        have uy:=lB hy
        have us:=gH (l:=O0) (i:=i*45+j) (x:=y) (by omega)
        have us2:=gH (l:=O0.set (i*45+j) y) (i:=k*45+j) (x:=x) (by rw[List.length_set];omega)
        have l2:=aI (O0.set (i*45+j) y)
        rw[List.length_set,lj]at l2
        have s0:=dO O0
        have s1:=dO (O0.set (i*45+j) y)
        have s2:=dO ((O0.set (i*45+j) y).set (k*45+j) x)
        have l3:=aI ((O0.set (i*45+j) y).set (k*45+j) x)
        rw[List.length_set,List.length_set,lj]at l3
        generalize (O0.set (i*45+j) y).set (k*45+j) x=O2 at *
        generalize O0.set (i*45+j) y=O1 at *
        (sym=>(simp[aO,aP,bG,Za,Zb,Zc,Zf,Zh,Zi,Zl,Zm,Zu,Z0,ZD,ZM,ZN,ZO,ZQ,ZR,Yk,Yo,Yq,Yt,Yx,Yy,YF,YH,YM,YU,YZ,Xb,Xf,XV,XY,XZ,Wa,Wb,Wc,Wj,Wm,Wn,Wp,Wq,Wr,Wt,Wv,Ww,Wx,Wy,WF,WG,WK,WQ,Vx,Vy,Vz,V0,V4,V9,VA,VC,VD,VF,VG,VH,VI,VK,VO,VP,VR,VT,VU,VW,VX,VZ,Ua,Ub,Uc,Ud,Ue,U6,U7,UB,UC,UD,UJ,UL,UN,UP,UQ,UT,UW,UX,UY,Tn,Tp,Tq,Tw,i1,b2,c4,c5,c6,c7,i2,i3,i4,j2,j3,j4,ux,uy,us,us2,l1,l2,l3,s0,s1,s2,bE,bC,bB,bH];all_goals tactic=>exact rfl))
       ·(sym=>(simp[aO,aP,bG,Za,Zb,Zf,Zh,Zl,Zm,Zu,Z0,Yt,Vx,V0,V5,V6,VV,UJ,UL,UO,UQ,UR,UX,UY,T7,e45];all_goals tactic=>exact rfl))
end Go.Proofs.YtmapgnepfgnphaaGreatDoor
