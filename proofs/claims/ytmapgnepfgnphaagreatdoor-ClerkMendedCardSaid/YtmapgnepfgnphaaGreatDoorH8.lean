/- Parts of a proof, joined: K9 K10 K11 K12 P1 P2 P3 P4 P5 P6 K13 LB. No statement of the seed is proved here. -/
import Derived.Test.YtmapgnepfgnphaaGreatDoorH7
set_option linter.unusedSimpArgs false
set_option linter.unusedVariables false
set_option linter.unusedSectionVars false
namespace Go.Proofs.YtmapgnepfgnphaaGreatDoor
open Go Go.DL
set_option maxRecDepth 100000
set_option maxHeartbeats 4000000
theorem q16 {vs:List AV} {h:XH} (hl:vs.length≤121):runW aL 16 vs h=eA none x16.res x16.ownR h.length (execW aL 16 h.length none x16.body (aW (if x16.ownA then vs else hZ vs)) h):=cV rfl hl h rfl
def aIg:XCode:=(.loop [0,1,4,5,7,8,9,35,36] (.seq (.reg [] false [⟨0,(some 37),(.bin .lss (.t 36) (.t 35)),none⟩]) (.seq (.cond (.t 37) .skip (.exit 1)) (.seq (.block 2 (.seq (.reg [] false [⟨0,(some 38),(.mv (.t 36)),none⟩,⟨0,(some 10),(.mv (.t 38)),none⟩]) (.seq (.reg [] false [⟨0,(some 40),(.mv (.t 0)),none⟩,⟨0,(some 41),(.mv (.t 10)),none⟩,⟨0,(some 42),(.bin .mul (.t 41) (.c (.int .i64 45))),none⟩,⟨0,(some 43),(.mv (.t 10)),none⟩,⟨0,(some 44),(.bin .add (.t 43) (.c (.int .i64 1))),none⟩,⟨0,(some 45),(.bin .mul (.t 44) (.c (.int .i64 45))),none⟩,⟨0,(some 46),(.slstr (.t 40) (some (.t 42)) (some (.t 45))),none⟩,⟨0,(some 47),(.mv (.t 1)),none⟩,⟨0,(some 48),(.mv (.t 10)),none⟩,⟨0,(some 49),(.bin .add (.t 47) (.t 48)),none⟩,⟨0,(some 50),(.callf false (.c (.fn (.func 42) [] [])) [(.t 46),(.t 49)] []),none⟩,⟨0,(some 39),(.mv (.t 50)),none⟩,⟨0,(some 51),(.ext (.t 39) 0),none⟩,⟨0,(some 52),(.ext (.t 39) 1),none⟩,⟨0,(some 11),(.alloc (aY (nf 0))),none⟩,⟨0,none,(.store 40 (.t 11) (.t 51) []),none⟩,⟨0,(some 12),(.mv (.t 52)),none⟩]) (.seq (.seq (.reg [] false [⟨0,(some 53),(.mv (.t 12)),none⟩,⟨0,(some 54),(.not (.t 53)),none⟩]) (.cond (.t 54) (.seq (.reg [] false [⟨0,(some 55),(.mv (.t 10)),none⟩,⟨0,(some 9),(.mv (.t 55)),none⟩]) (.reg [] false [⟨0,(some 56),(.mv (.t 5)),none⟩,⟨0,(some 57),(.bin .add (.t 56) (.c (.int .i64 1))),none⟩,⟨0,(some 5),(.mv (.t 57)),none⟩])) .skip)) (.reg [] false [⟨0,(some 58),(.mv (.t 8)),none⟩,⟨0,(some 59),(.load true 40 (.t 11)),none⟩,⟨0,(some 60),(.bslice 40 1 (aY (nf 0)) [(0,(40,(.t 59)))]),none⟩,⟨0,(some 61),(.app 40 40 (.t 58) (.t 60)),none⟩,⟨0,(some 8),(.mv (.t 61)),none⟩]))))) (.reg [] false [⟨0,(some 62),(.bin .add (.t 36) (.c (.int .i64 1))),none⟩,⟨0,(some 36),(.mv (.t 62)),none⟩])))))
def aIf:XCode:=(.loop [4,5,105,106,107] (.seq (.reg [] false [⟨0,(some 108),(.bin .lss (.t 107) (.t 106)),none⟩]) (.seq (.cond (.t 108) .skip (.exit 4)) (.seq (.block 5 (.seq (.reg [] false [⟨0,(some 109),(.idx 40 (.t 105) (.t 107)),none⟩,⟨0,(some 110),(.load true 40 (.t 109)),none⟩,⟨0,(some 15),(.alloc (aY (nf 0))),none⟩,⟨0,none,(.store 40 (.t 15) (.t 110) []),none⟩]) (.reg [] false [⟨0,(some 111),(.mv (.t 4)),none⟩,⟨0,(some 112),(.load true 40 (.t 15)),none⟩,⟨0,(some 113),(.callf false (.c (.fn (.func 46) [] [])) [(.t 112)] []),none⟩,⟨0,(some 114),(.bslice 1 1 [(.str ⟨#[]⟩)] [(0,(1,(.t 113)))]),none⟩,⟨0,(some 115),(.app 1 16 (.t 111) (.t 114)),none⟩,⟨0,(some 4),(.mv (.t 115)),none⟩]))) (.reg [] false [⟨0,(some 116),(.bin .add (.t 107) (.c (.int .i64 1))),none⟩,⟨0,(some 107),(.mv (.t 116)),none⟩])))))
def aIQ:XCode:=(.seq (.seq (.reg [] false [⟨0,(some 103),(.mv (.t 8)),none⟩,⟨0,(some 104),(.mv (.t 13)),none⟩,⟨0,(some 105),(.slsl 40 (.t 103) none (some (.t 104))),none⟩,⟨0,(some 106),(.len false (.t 105)),none⟩,⟨0,(some 107),(.mv (.c (.int .i64 0))),none⟩]) (.block 4 aIf)) (.seq (.seq (.reg [(4,false)] false [⟨0,(some 117),(.mv (.t 4)),none⟩,⟨0,(some 118),(.callf false (.c (.fn (.func 47) [] [])) [(.t 117),(.c (.str ⟨#[]⟩))] []),none⟩]) (.cond (.t 118) (.seq (.reg [] false [⟨0,(some 4),(.mv (.c .nilsl)),none⟩,⟨0,(some 5),(.mv (.c (.int .i64 0))),none⟩,⟨0,(some 6),(.mv (.c (.int .i64 13))),none⟩]) .ret) .skip)) (.seq (.reg [] false [⟨0,(some 119),(.mv (.t 4)),none⟩,⟨0,(some 120),(.mv (.t 5)),none⟩,⟨0,(some 4),(.mv (.t 119)),none⟩,⟨0,(some 5),(.mv (.t 120)),none⟩,⟨0,(some 6),(.mv (.c (.int .i64 0))),none⟩]) .ret)))
def aKz:XCode:=(.seq (.reg [] false [⟨0,(some 4),(.mv (.c .nilsl)),none⟩,⟨0,(some 5),(.mv (.c (.int .i64 0))),none⟩,⟨0,(some 6),(.mv (.c (.int .i64 0))),none⟩]) (.seq (.reg [] false [⟨0,(some 16),(.mv (.t 0)),none⟩,⟨0,(some 17),(.len true (.t 16)),none⟩,⟨0,(some 18),(.bin .quo (.t 17) (.c (.int .i64 45))),none⟩,⟨0,(some 7),(.mv (.t 18)),none⟩]) (.seq (.block 0 (.seq (.reg [] false [⟨0,(some 20),(.mv (.t 1)),none⟩,⟨0,(some 21),(.callf false (.c (.fn (.func 35) [] [])) [(.c (.int .i64 0)),(.t 20),(.c (.int .i64 1000))] []),none⟩,⟨0,(some 22),(.not (.t 21)),none⟩,⟨0,(some 19),(.mv (.t 22)),none⟩]) (.cond (.t 19) (.seq (.reg [] false [⟨0,(some 4),(.mv (.c .nilsl)),none⟩,⟨0,(some 5),(.mv (.c (.int .i64 0))),none⟩,⟨0,(some 6),(.mv (.c (.int .i64 2))),none⟩]) .ret) (.seq (.reg [] false [⟨0,(some 24),(.mv (.t 0)),none⟩,⟨0,(some 25),(.len true (.t 24)),none⟩,⟨0,(some 26),(.bin .rem (.t 25) (.c (.int .i64 45))),none⟩,⟨0,(some 27),(.bin .neq (.t 26) (.c (.int .i64 0))),none⟩,⟨0,(some 28),(.mv (.t 27)),none⟩,⟨0,(some 29),(.mv (.t 7)),(some (28,false))⟩,⟨0,(some 30),(.bin .lss (.t 29) (.c (.int .i64 2))),(some (28,false))⟩,⟨0,(some 31),(.pick (.t 28) (.c (.bool true)) (.t 30)),none⟩,⟨0,(some 23),(.mv (.t 31)),none⟩]) (.cond (.t 23) (.seq (.reg [] false [⟨0,(some 4),(.mv (.c .nilsl)),none⟩,⟨0,(some 5),(.mv (.c (.int .i64 0))),none⟩,⟨0,(some 6),(.mv (.c (.int .i64 20))),none⟩]) .ret) (.seq (.reg [] false [⟨0,(some 33),(.mv (.t 7)),none⟩,⟨0,(some 34),(.bin .gtr (.t 33) (.c (.int .i64 6))),none⟩,⟨0,(some 32),(.mv (.t 34)),none⟩]) (.cond (.t 32) (.seq (.reg [] false [⟨0,(some 4),(.mv (.c .nilsl)),none⟩,⟨0,(some 5),(.mv (.c (.int .i64 0))),none⟩,⟨0,(some 6),(.mv (.c (.int .i64 1))),none⟩]) .ret) .skip))))))) (.seq (.reg [] false [⟨0,(some 8),(.mv (.c .nilsl)),none⟩]) (.seq (.reg [] false [⟨0,(some 9),(.mv (.c (.int .i64 (-1)))),none⟩]) (.seq (.seq (.reg [] false [⟨0,(some 35),(.mv (.t 7)),none⟩,⟨0,(some 36),(.mv (.c (.int .i64 0))),none⟩]) (.block 1 aIg)) (.seq (.reg [] false [⟨0,(some 63),(.mv (.t 7)),none⟩,⟨0,(some 64),(.bin .sub (.t 63) (.c (.int .i64 1))),none⟩,⟨0,(some 13),(.mv (.t 64)),none⟩]) (.seq (.block 3 (.seq (.reg [] false [⟨0,(some 66),(.mv (.t 5)),none⟩,⟨0,(some 67),(.bin .gtr (.t 66) (.c (.int .i64 1))),none⟩,⟨0,(some 65),(.mv (.t 67)),none⟩]) (.cond (.t 65) (.seq (.reg [] false [⟨0,(some 4),(.mv (.c .nilsl)),none⟩,⟨0,(some 5),(.mv (.c (.int .i64 0))),none⟩,⟨0,(some 6),(.mv (.c (.int .i64 19))),none⟩]) .ret) (.seq (.reg [] true [⟨0,(some 69),(.mv (.t 5)),none⟩,⟨1,(some 70),(.bin .eql (.t 69) (.c (.int .i64 0))),none⟩,⟨2,(some 71),(.mv (.t 70)),none⟩,⟨3,(some 72),(.mv (.t 8)),(some (71,true))⟩,⟨4,(some 73),(.mv (.t 13)),(some (71,true))⟩,⟨5,(some 74),(.slsl 40 (.t 72) none (some (.t 73))),(some (71,true))⟩,⟨7,(some 76),(.mv (.t 8)),(some (71,true))⟩,⟨8,(some 77),(.mv (.t 13)),(some (71,true))⟩,⟨9,(some 78),(.idx 40 (.t 76) (.t 77)),(some (71,true))⟩,⟨10,(some 79),(.load true 40 (.t 78)),(some (71,true))⟩,⟨6,(some 75),(.callf false (.c (.fn (.func 43) [] [])) [(.t 74)] [10]),(some (71,true))⟩,⟨11,(some 80),(.eqag true (List.replicate 40 0) (.t 75) (.t 79)),(some (71,true))⟩,⟨12,(some 81),(.pick (.t 71) (.t 80) (.c (.bool false))),none⟩,⟨13,(some 68),(.mv (.t 81)),none⟩]) (.cond (.t 68) (.seq (.reg [] false [⟨0,(some 4),(.mv (.c .nilsl)),none⟩,⟨0,(some 5),(.mv (.c (.int .i64 0))),none⟩,⟨0,(some 6),(.mv (.c (.int .i64 22))),none⟩]) .ret) (.seq (.reg [] false [⟨0,(some 83),(.mv (.t 9)),none⟩,⟨0,(some 84),(.mv (.t 13)),none⟩,⟨0,(some 85),(.bin .sub (.t 84) (.c (.int .i64 1))),none⟩,⟨0,(some 86),(.callf false (.c (.fn (.func 35) [] [])) [(.c (.int .i64 0)),(.t 83),(.t 85)] []),none⟩,⟨0,(some 82),(.mv (.t 86)),none⟩]) (.cond (.t 82) (.seq (.reg [] false [⟨0,(some 87),(.mv (.t 8)),none⟩,⟨0,(some 88),(.mv (.t 9)),none⟩,⟨0,(some 89),(.callf false (.c (.fn (.func 44) [] [])) [(.c (.str ⟨#[]⟩))] []),none⟩,⟨0,(some 90),(.idx 40 (.t 87) (.t 88)),none⟩,⟨0,none,(.store 40 (.t 90) (.t 89) []),none⟩]) (.reg [] true [⟨0,(some 91),(.mv (.t 8)),none⟩,⟨1,(some 92),(.mv (.t 9)),none⟩,⟨2,(some 93),(.mv (.t 8)),none⟩,⟨3,(some 94),(.mv (.t 13)),none⟩,⟨4,(some 95),(.idx 40 (.t 93) (.t 94)),none⟩,⟨5,(some 96),(.load true 40 (.t 95)),none⟩,⟨6,(some 97),(.mv (.t 8)),none⟩,⟨7,(some 98),(.mv (.t 13)),none⟩,⟨8,(some 99),(.slsl 40 (.t 97) none (some (.t 98))),none⟩,⟨9,(some 100),(.callf false (.c (.fn (.func 43) [] [])) [(.t 99)] [5]),none⟩,⟨10,(some 101),(.callf false (.c (.fn (.func 45) [] [])) [(.t 96),(.t 100),(.c (.int .i64 94))] []),none⟩,⟨11,(some 102),(.idx 40 (.t 91) (.t 92)),none⟩,⟨12,none,(.store 40 (.t 102) (.t 101) []),none⟩])) .skip))))))) aIQ))))))))
theorem aIR:x16=⟨121,[(4,none),(5,none),(6,none)],false,false,aKz,none,none⟩:=rfl
theorem aER (a b:Nat):tdZ (a:Int) (b:Int)=((a/b:Nat):Int):=by
 rw[tdZ,Int.tdiv_eq_ediv_of_nonneg (by omega)];exact(Int.natCast_ediv a b).symm
def wO (s:ByteArray) (i:Nat):ByteArray:=qJ s (i*45) ((i+1)*45)
def gdS (s:ByteArray) (row i:Nat):Bool:=yK (wO s i) (row+i)
def gE (s:ByteArray):Nat→List Nat
 | 0=>[]
 | i+1=>gE s i++rdF (wO s i)
def sK (s:ByteArray) (row:Nat):Nat→Int
 | 0 => -1
 | i+1=>if gdS s row i then sK s row i else (i:Int)
def qN (s:ByteArray) (row:Nat):Nat→Nat
 | 0=>0
 | i+1=>if gdS s row i then qN s row i else qN s row i+1
theorem zU (s:ByteArray):(rdF s).length=40:=eK _
theorem kU (s:ByteArray):∀ i,(gE s i).length=i*40
 | 0=>rfl
 | i+1=>by rw[gE,List.length_append,kU s i,zU];omega
theorem aDJ (s:ByteArray):∀ i,lI (gE s i)
 | 0=>by intro k x h;simp[gE]at h
 | i+1=>by
   intro k x h
   rw[gE,List.getElem?_append]at h
   split at h
   ·exact aDJ s i k x h
   ·exact jD (rI _) _ x h
theorem aCc (s:ByteArray) (row:Nat):∀ i,qN s row i≤i
 | 0=>Nat.le_refl _
 | i+1=>by
   have:=aCc s row i
   rw[qN];split<;>omega
theorem aGB (s:ByteArray) (row:Nat):∀ i,-1≤sK s row i∧sK s row i<i
 | 0=>by simp[sK]
 | i+1=>by
   have:=aGB s row i
   rw[sK];split<;>omega
theorem tV {s:ByteArray} {i:Nat} (h:(i+1)*45≤s.size):(wO s i).size=45:=by
 unfold wO
 rw[←aDu,ByteArray.size_extract];omega

def gV (C:List Nat) (k:Nat) (f:List Nat):List Nat:=C.take (k*40)++(f++C.drop (k*40+40))
def aCm (C:List Nat) (n k:Nat):List Nat:=gV (gV C k (bT [])) k (cL 94 (cQ (gV C k (bT [])) n) (cP (gV C k (bT [])) n))
def sJ (C:List Nat) (n:Nat):List ByteArray:=(List.range n).map fun i=>lnB (cQ C i)
def erV (e:Int):AV:=.tup [.fs [],I 0,I e]
def wS (C:List Nat) (n md:Nat):AV:=if Lib.containsS (sJ C n) emB then erV 13 else .tup [.fs (rS (sJ C n)),I (md:Nat),I 0]
def mQ (C:List Nat) (n:Nat) (bad:Int) (md:Nat):AV:=if 1<md then erV 19 else if md=0∧cP C n≠cQ C n then erV 22 else
 if 0≤bad∧bad<n then wS (aCm C n bad.toNat) n md else wS C n md
def mnV (s:ByteArray) (row:Int):AV:=if (decide (0≤row)&&decide (row≤1000))=true then
 (if s.size%45≠0∨s.size/45<2 then erV 20 else if 6<s.size/45 then erV 1 else mQ (gE s (s.size/45)) (s.size/45-1) (sK s row.toNat (s.size/45)) (qN s row.toNat (s.size/45))) else erV 2
def mS (i:Nat):AV:=if i=0 then .nilsl else .sl 0 0 40 i
def mG (s:ByteArray) (i:Nat):XH:=if i=0 then [] else [some (.blk true (.cells true (aY (gE s i))))]

theorem q47 {xs:List AV} {h:XH}:runW aL 47 xs h=aAP xs h:=eZ rfl rfl xs h
theorem aCM:∀ l:List ByteArray,pF (rS l)=some l
 | []=>rfl
 | s::l=>by
   have ih:=aCM l
   show (pF (rS l)).map (s :: ·)=_
   rw[ih];rfl
theorem w47 {l:List ByteArray} {x:ByteArray} (h:l.length≤1000000):runW aL 47 [.fs (rS l),.str x] []=some (.bool (Lib.containsS l x),[]):=by
 rw[q47];unfold aAP;dsimp only;rw[aCM];dsimp only;rw[if_pos h]
def nZ (l:List ByteArray):List AV:=l.map AV.str
theorem sO (l:List ByteArray):(nZ l).length=l.length:=by simp[nZ]
theorem jQ (l:List ByteArray):qA (nZ l)=[]:=aFR (fun _=>rfl) _
theorem jO (l:List ByteArray):slL (nZ l)=[]:=aFP (fun _=>rfl) _
theorem jP (f:Nat→Option Nat) (l:List ByteArray):jB f (nZ l)=nZ l:=aFQ (fun _=>rfl) _
theorem tO (l:List ByteArray):gZ (nZ l)=true:=cZ fun v hv=>by
 obtain⟨n,_,rfl⟩:=List.mem_map.1 hv;rfl
theorem aEV (l:List ByteArray):bY (nZ l) 0 1 l.length=rS l:=aDB (f:=AV.str) l []
theorem aDk (C:List Nat) (n:Nat):(sJ C n).length=n:=by simp[sJ]
theorem aNq (C:List Nat) (i:Nat):nZ (sJ C i)++[.str (lnB (cQ C i))]=nZ (sJ C (i+1)):=by
 simp[nZ,sJ,List.range_succ]
def tS (i:Nat):AV:=if i=0 then .nilsl else .sl 0 0 1 i
def tB (p i:Nat):AV:=if i=0 then .sl 0 0 40 p else .sl 1 0 40 p
def tG (C:List Nat) (i:Nat):XH:=if i=0 then [some (.blk true (.cells true (aY C)))] else [some (.blk true (.cells true (nZ (sJ C i)))),some (.blk true (.cells true (aY C)))]
theorem t16 {C:List Nat} {n p md:Nat} {e:aF} (hn:n=p+1) (hC:C.length=n*40) (hb:lI C) (h0:1≤p) (h1:p≤1000) (e4:e 4 = .nilsl) (e5:e 5=I (md:Nat)) (e8:e 8 = .sl 0 0 40 n) (e13:e 13=I (p:Nat)) :
 eA none [(4,none),(5,none),(6,none)] false 0 (execW aL 16 0 none aIQ e [some (.blk true (.cells true (aY C)))])=some (wS C p md,[]):=by
 unfold aIQ
 have z1:((p:Int)≤(n:Int))=True:=eq_true (by omega)
 have z2:(0<p)=True:=eq_true (by omega)
 sym =>
  simp[aT,aU,bR,Za,Zb,Zf,Zh,Zl,Zm,Zn,Zu,ZG,ZJ,Yj,Yy,Yz,VQ,Uo,Uq,Ur,UK,UO,UP,UW,UX,Tc,Td,Te,Tf,Tr,e4,e5,e8,e13,z1,z2]
  tactic =>
   unfold aIf
   rw[cN p (fun i=>[tS i,I (md:Nat),tB p i,I (p:Nat),I (i:Nat)]) (fun i=>tG C i)]
   ·have s0:tS p = .sl 0 0 1 p:=if_neg (by omega)
    have b0:tB p p = .sl 1 0 40 p:=if_neg (by omega)
    have g0:tG C p=[some (.blk true (.cells true (nZ (sJ C p)))),some (.blk true (.cells true (aY C)))]:=if_neg (by omega)
    have x0:((p:Int)<(p:Int))=False:=eq_false (by omega)
    have ll:=aDk C p
    have lc:=sO (sJ C p)
    rw[ll]at lc
    have ch:=aEV (sJ C p)
    rw[ll]at ch
    have c1:=w47 (l:=sJ C p) (x:=⟨#[]⟩) (by omega)
    unfold wS
    have hE:Lib.containsS (sJ C p) emB=Lib.containsS (sJ C p) ⟨#[]⟩:=rfl
    rw[hE]
    have p1:(p*1≤p)=True:=eq_true (by omega)
    have p2:(p≤p)=True:=eq_true (by omega)
    generalize sJ C p=L at *
    cases hc:Lib.containsS L ⟨#[]⟩with
    | true =>
      rw[hc]at c1
      unfold erV
      (sym=>(simp[aT,aU,bR,Za,Zb,Zf,Zg,Zh,Zj,Zl,Zm,Zu,Z0,ZT,ZV,Ya,Yb,Yu,YE,YG,YJ,YK,YY,YZ,Xa,Xc,Xd,Xj,Xn,Xp,Xq,Xw,Xy,XJ,XK,XM,XY,Wb,Wf,Wo,Wr,Ws,Wt,Wu,Wv,Ww,Wy,Wz,WL,WM,WN,WU,WV,WW,WX,Va,Vb,Vc,Vd,Vf,Vh,Vi,Vj,Vk,Vl,Vm,Vn,Vp,Vq,Vr,Vs,Vt,Vw,Vz,V0,V4,V8,V9,VB,VC,VE,VF,VG,VQ,VU,VX,VY,VZ,Ua,Ub,Ue,Uf,Ui,Uj,U4,UI,UK,UL,UN,UP,UQ,UR,UU,UW,UX,Tm,Tn,Tq,Tw,Tx,Ty,T2,T3,T4,T5,T6,T7,s0,b0,g0,x0,lc,ch,c1,p1,p2];all_goals tactic=>exact rfl))
    | false =>
      rw[hc]at c1
      (sym=>(simp[aT,aU,bR,Za,Zb,Zf,Zg,Zh,Zj,Zl,Zm,Zu,Z0,ZT,ZV,Ya,Yb,Yu,YE,YG,YJ,YK,YY,YZ,Xa,Xc,Xd,Xj,Xn,Xo,Xp,Xv,Xw,Xy,XJ,XK,XY,Wb,Wf,Wo,Wr,Ws,Wt,Wu,Wv,Ww,Wy,Wz,WL,WM,WN,WU,WV,WW,WX,Va,Vb,Vc,Vd,Vf,Vh,Vi,Vj,Vk,Vl,Vm,Vn,Vp,Vq,Vr,Vs,Vt,Vw,Vz,V4,V7,V8,V9,VB,VC,VE,VF,VG,VQ,VU,VX,VY,VZ,Ua,Ub,Ue,Uf,Ui,Uj,U4,UI,UK,UL,UM,UN,UP,UQ,UU,UW,UX,Tm,Tn,Tq,Tw,Tx,Ty,T2,T3,T4,T5,T6,T7,s0,b0,g0,x0,lc,ch,c1,p1,p2];all_goals tactic=>exact rfl))
   ·have s0:tS 0 = .nilsl:=rfl
    have b0:tB p 0 = .sl 0 0 40 p:=rfl
    have g0:tG C 0=[some (.blk true (.cells true (aY C)))]:=rfl
    (sym=>(simp[aT,aU,bR,Za,Y6,YE,YL,YN,YY,Xe,Xg,XY,Wi,Wl,Wm,Wo,Wp,Wq,Ws,Wu,Wv,Ww,Wx,WE,WF,WJ,Vx,Vy,V8,V9,VB,VC,VE,VH,VS,VY,VZ,Ua,Ub,UV,Tp,s0,b0,g0,e4,e5,bL,bJ,bI,bP];all_goals tactic=>exact rfl))
   ·intro i hi
    have i1:((i:Int)<(p:Int))=True:=eq_true (by omega)
    have a2:=iA hi (by omega)
    have hC2:p*40≤C.length:=by omega
    have lC:=aK C
    have i3:(i*40+40≤(aY C).length)=True:=eq_true (by
     rw[lC]
     have h1:(i+1)*40≤p*40:=Nat.mul_le_mul_right _ hi
     omega)
    have fu:=yQ (C:=C) (k:=i)
    have l5:=kK hC2 hi
    have c1:=w46 l5
    rw[bE]at c1
    have m5:=aK (cQ C i)
    rw[l5]at m5
    have l0:(aY (nf 0)).length=40:=by rw[aK];exact cJ (by omega)
    have gz:=bA (nf 0)
    have c8:=eY (a:=nf 0) (b:=cQ C i) (by rw[l5];exact cJ (by omega))
    have k5:=dT l5
    have k6:=fI l5
    have g5:=bA (cQ C i)
    have gC:=bA C
    have ls:=aNq C i
    have n1:=sO (sJ C i)
    rw[aDk]at n1
    have n2:=tO (sJ C i)
    have n3:=tO (sJ C (i+1))
    have s1:tS (i+1) = .sl 0 0 1 (i+1):=if_neg (by omega)
    have b1:tB p (i+1) = .sl 1 0 40 p:=if_neg (by omega)
    have g1:tG C (i+1)=[some (.blk true (.cells true (nZ (sJ C (i+1))))),some (.blk true (.cells true (aY C)))]:=if_neg (by omega)
    have z3:(i+1≤1099511627776)=True:=eq_true (by omega)
    have z4:((i+1)*16≤1099511627776)=True:=eq_true (by omega)
    by_cases hi0:i=0
    ·subst hi0
     have s0:tS 0 = .nilsl:=rfl
     have b0:tB p 0 = .sl 0 0 40 p:=rfl
     have g0:tG C 0=[some (.blk true (.cells true (aY C)))]:=rfl
     have L0:nZ (sJ C 0)=[]:=rfl
     rw[L0,List.nil_append]at ls
     have j1:((0:Int)<(p:Int))=True:=eq_true (by omega)
     rw[s1,b1,g1]
     rw[←ls]
     have fu:List.take 40 (aY C)=aY (cQ C 0):=fu
     have fv:List.take 40 (List.drop 0 (aY C))=aY (cQ C 0):=fu
     have i3:(40≤(aY C).length)=True:=eq_true (by rw[lC];omega)
     generalize lnB (cQ C 0)=B at *
     generalize cQ C 0=f at *
     (sym=>(simp[aT,aU,bR,Za,Zb,Zc,Zd,Ze,Zf,Zh,Zl,Zm,Zo,Zu,Zv,Zy,Z0,ZD,ZL,ZP,ZQ,ZT,ZV,ZZ,Ya,Yb,Yl,Yp,Yu,Y3,Y5,Y6,Y7,YE,YH,YL,YU,YY,Xa,Xb,Xe,XV,XW,XY,XZ,Wa,Wb,Wc,Wd,We,Wf,Wi,Wj,Wl,Wm,Wo,Wp,Wq,Wr,Ws,Wt,Wu,Wv,Ww,Wx,Wy,Wz,WE,WF,WJ,WL,WM,WN,Vw,Vx,Vy,Vz,V0,V8,V9,VA,VB,VC,VE,VF,VG,VH,VJ,VQ,VS,VT,VV,VW,VX,VY,VZ,Ua,Ub,Uc,Ud,Uk,Ul,Um,Un,Uu,Uv,Uw,Ux,Uy,Uz,U0,U1,U5,U6,U9,UB,UC,UD,UF,UG,UH,UI,UK,UM,UO,UP,US,UV,UW,UX,Tp,Ts,j1,i3,fu,fv,m5,c1,l0,gz,c8,k5,k6,g5,gC,s0,b0,g0,bL,bJ,bI,bP];all_goals tactic=>exact rfl))
    ·have s0:tS i = .sl 0 0 1 i:=if_neg hi0
     have b0:tB p i = .sl 1 0 40 p:=if_neg hi0
     have g0:tG C i=[some (.blk true (.cells true (nZ (sJ C i)))),some (.blk true (.cells true (aY C)))]:=if_neg hi0
     rw[s1,b1,g1]
     generalize sJ C (i+1)=L1 at *
     generalize sJ C i=L0 at *
     generalize lnB (cQ C i)=B at *
     generalize cQ C i=f at *
     (sym=>(simp[aT,aU,bR,Za,Zb,Zc,Zd,Ze,Zf,Zh,Zl,Zm,Zo,Zu,Zv,Zy,Z0,ZD,ZL,ZP,ZQ,ZT,ZV,ZZ,Ya,Yb,Yl,Yp,Yu,Yy,Yz,YE,YH,YL,YU,YY,Xa,Xb,Xe,XV,XW,XY,XZ,Wa,Wb,Wc,Wd,We,Wf,Wi,Wj,Wl,Wm,Wo,Wp,Wq,Wr,Ws,Wt,Wu,Wv,Ww,Wx,Wy,Wz,WE,WF,WJ,WL,WM,WN,Vw,Vx,Vy,Vz,V0,V8,V9,VA,VB,VC,VE,VF,VG,VH,VJ,VQ,VS,VT,VV,VW,VX,VY,VZ,Ua,Ub,Uc,Ud,Uk,Ul,Um,Un,Uu,Uv,Uw,Ux,Uy,Uz,U0,U2,U3,U5,U6,U9,UB,UC,UD,UE,UF,UG,UI,UK,UM,UO,UP,US,UV,UW,UX,Tm,Tn,Tp,Ts,i1,a2,i3,fu,m5,c1,l0,gz,c8,k5,k6,g5,gC,ls,n1,n2,n3,s0,b0,g0,z3,z4,bL,bJ,bI,bP,jQ,jO,jP];all_goals tactic=>exact rfl))
   ·have x0:((p:Int)<(p:Int))=False:=eq_false (by omega)
    (sym=>(simp[aT,aU,bR,Za,Zb,Zf,Zh,Zl,Zm,Z0,Yu,Vw,Vz,V4,V5,VU,U4,UI,UK,UN,UP,UQ,UW,x0];all_goals tactic=>exact rfl))

theorem yZ:∀ {a b:List Nat} {n:Nat},a.length=n→b.length=n→bW (List.replicate n 0) (aY a) (aY b)=some (decide (a=b))
 | [],[],0,_,_=>rfl
 | x::a,y::b,n+1,ha,hb=>by
   have ih:=yZ (a:=a) (b:=b) (n:=n) (by simpa using ha) (by simpa using hb)
   rw[List.replicate_succ]
   show (match mY 0 (.int .u8 (x:Int)) (.int .u8 (y:Int)),bW (List.replicate n 0) (aY a) (aY b)with
    | some x,some y=>some (x&&y)
    | _,_=>none)=_
   rw[ih]
   show some (decide ((x:Int)=(y:Int))&&decide (a=b))=_
   congr 1
   rw[←Bool.decide_and]
   exact decide_eq_decide.2 (by rw[List.cons.injEq];constructor<;>(rintro ⟨h1,h2⟩;exact⟨by omega,h2⟩))
theorem aCP {C:List Nat} {k:Nat} {f:List Nat} (hf:f.length=40):bG (aY C) (k*40) (aY f)=aY (gV C k f):=by
 unfold bG gV aY
 simp[hf]
theorem lL {C:List Nat} {k n:Nat} {f:List Nat} (hC:C.length=n*40) (hk:k<n) (hf:f.length=40):(gV C k f).length=n*40:=by
 have:(k+1)*40≤n*40:=Nat.mul_le_mul_right _ hk
 simp[gV,hf,hC];omega
theorem pM {C:List Nat} {k:Nat} {f:List Nat} (hC:lI C) (hf:lI f):lI (gV C k f):=by
 intro i x h
 unfold gV at h
 rw[List.getElem?_append]at h
 split at h
 ·rw[List.getElem?_take]at h
  split at h
  ·exact hC _ _ h
  ·cases h
 ·rw[List.getElem?_append]at h
  split at h
  ·exact hf _ _ h
  ·rw[List.getElem?_drop]at h
   exact hC _ _ h
theorem vO {C:List Nat} {n p:Nat} (hC:C.length=n*40) (hp:n=p+1):(cQ C p).length=40:=kK (n:=n) (by omega) (by omega)
theorem aGC (b:Bool):b=false∨b=true:=by cases b;exact .inl rfl;exact .inr rfl
theorem lM:∀ l:List Nat,eD (aY l) (aY l)=true
 | []=>rfl
 | x::l=>by
   show (cH (.int .u8 (x:Int)) (.int .u8 (x:Int))&&eD (aY l) (aY l))=true
   rw[lM l]
   simp[cH]
theorem aDx:runW aL 44 [.str ⟨#[]⟩] []=some (.agg (aY (bT [])),[]):=w44 ⟨#[]⟩
theorem w16 {s:ByteArray} {row:Int} (hz:s.size≤1000000):runW aL 16 [.str s,I row] []=some (mnV s row,[]):=by
 rw[q16 (by simp),aIR];unfold aKz;dsimp only
 have c1:=w35 0 row 1000
 have d1:tdZ (s.size:Int) 45=((s.size/45:Nat):Int):=aER s.size 45
 have d2:tmZ (s.size:Int) 45=((s.size%45:Nat):Int):=fJ s.size 45
 have d3:IntKind.i64.wrap ((s.size/45:Nat):Int)=((s.size/45:Nat):Int):=aX (by omega) (by omega)
 cases hb:decide (0≤row)&&decide (row≤1000)with
 | false =>
   rw[hb]at c1
   have hv:mnV s row=erV 2:=by unfold mnV;rw[hb,if_neg (by decide)]
   rw[hv];unfold erV
   (sym=>(simp[aT,aU,bR,Za,Zb,Zf,Zh,Zl,Zm,Zu,Z0,Z8,ZJ,ZT,ZV,Ya,Yb,Yf,Yk,YE,YJ,YK,YY,YZ,Xc,Xd,Xj,Xn,Xq,Xy,X0,XJ,XM,Wf,Wg,Wo,Wr,Ws,Wt,Wv,Ww,Wy,Wz,WL,WM,WN,WX,Vi,Vj,Vk,Vl,Vm,Vn,Vp,Vq,Vr,Vs,Vt,Vv,Vz,V0,V7,V8,V9,VB,VC,VE,VG,VN,VU,VX,VY,VZ,Ua,Ub,Ue,Uf,Ui,Uj,UI,UK,UL,UO,UP,UR,UT,UW,UX,Tw,c1,d1,d2,d3];all_goals tactic=>exact rfl))
 | true =>
   rw[hb]at c1
   rcases ptf (s.size%45=0)with h0|h0
   ·have h0':=of_eq_true h0
    have z0:(((s.size%45:Nat):Int)=0)=True:=eq_true (by omega)
    rcases ptf (s.size/45<2)with h2|h2
    ·have h2':=of_eq_true h2
     have z2:(((s.size/45:Nat):Int)<2)=True:=eq_true (by omega)
     have hv:mnV s row=erV 20:=by unfold mnV;rw[hb,if_pos rfl,if_pos (Or.inr h2')]
     rw[hv];unfold erV
     generalize s.size%45=rm at *
     generalize s.size/45=n at *
     (sym=>(simp[aT,aU,bR,Za,Zb,Zf,Zh,Zl,Zm,Zp,Zr,Zu,Zw,Z0,Z8,ZJ,ZT,ZV,Ya,Yb,Yd,Yf,Yk,Yt,Yu,YE,YJ,YK,YY,YZ,Xc,Xd,Xj,Xn,Xq,Xy,X0,XJ,XM,Wf,Wg,Wo,Wr,Ws,Wt,Wv,Ww,Wy,Wz,WL,WM,WN,WX,Vi,Vj,Vk,Vl,Vm,Vn,Vp,Vq,Vr,Vs,Vt,Vv,Vz,V0,V4,V7,V8,V9,VB,VC,VE,VG,VM,VT,VU,VX,VY,VZ,Ua,Ub,Ue,Uf,Ui,Uj,UI,UK,UL,UO,UP,UR,UT,UW,UX,Tw,c1,d1,d2,d3,z0,z2];all_goals tactic=>exact rfl))
    ·have h2':=of_eq_false h2
     have z2:(((s.size/45:Nat):Int)<2)=False:=eq_false (by omega)
     rcases ptf (6<s.size/45)with h6|h6
     ·have h6':=of_eq_true h6
      have z6:((6:Int)<((s.size/45:Nat):Int))=True:=eq_true (by omega)
      have hv:mnV s row=erV 1:=by unfold mnV;rw[hb,if_pos rfl,if_neg (by omega),if_pos h6']
      rw[hv];unfold erV
      generalize s.size%45=rm at *
      generalize s.size/45=n at *
      (sym=>(simp[aT,aU,bR,Za,Zb,Zf,Zh,Zl,Zm,Zp,Zr,Zu,Zw,Z0,Z8,ZJ,ZT,ZV,Ya,Yb,Yd,Yf,Yk,Yt,Yu,Yw,YE,YJ,YK,YY,YZ,Xc,Xd,Xj,Xn,Xq,Xy,X0,XJ,XM,Wf,Wg,Wo,Wr,Ws,Wt,Wv,Ww,Wy,Wz,WL,WM,WN,WX,Vi,Vj,Vk,Vl,Vm,Vn,Vp,Vq,Vr,Vs,Vt,Vv,Vz,V0,V4,V7,V8,V9,VB,VC,VE,VG,VM,VT,VU,VX,VY,VZ,Ua,Ub,Ue,Uf,Ui,Uj,UI,UK,UL,UO,UP,UR,UT,UW,UX,Tw,c1,d1,d2,d3,z0,z2,z6];all_goals tactic=>exact rfl))
     ·have h6':=of_eq_false h6
      have z6:((6:Int)<((s.size/45:Nat):Int))=False:=eq_false (by omega)
      have hv:mnV s row=mQ (gE s (s.size/45)) (s.size/45-1) (sK s row.toNat (s.size/45)) (qN s row.toNat (s.size/45)):=by unfold mnV;rw[hb,if_pos rfl,if_neg (by omega),if_neg h6']
      rw[hv]
      have hsz:s.size/45*45=s.size:=by omega
      simp only[Bool.and_eq_true,decide_eq_true_eq]at hb
      obtain⟨R,hR⟩:∃ R:Nat,row=(R:Int):=⟨row.toNat,by omega⟩
      have hR1:row.toNat=R:=by omega
      rw[hR1]
      subst hR
      generalize s.size%45=rm at *
      generalize s.size/45=n at *
      sym =>
       simp[aT,aU,bR,Za,Zb,Zf,Zh,Zl,Zm,Zp,Zr,Zu,Zw,Z0,Z8,ZJ,ZT,ZV,Ya,Yb,Yd,Yf,Yk,Yt,Yu,Yw,YE,YY,YZ,Xy,X0,Wf,Wg,Wo,Wr,Wt,Wy,Wz,WL,WM,WN,Vv,Vz,V4,V7,V8,V9,VB,VC,VG,VM,VT,VU,VX,VY,VZ,Ua,Ub,Ui,Uj,UI,UK,UM,UO,UP,US,UW,UX,c1,d1,d2,d3,z0,z2,z6]
       tactic =>
        unfold aIg
        rw[cN n (fun i=>[.str s,I (R:Int),.nilsl,I (qN s R i:Nat),I (n:Nat),mS i,I (sK s R i),I (n:Nat),I (i:Nat)]) (fun i=>mG s i)]
        ·obtain⟨p,hp⟩:∃ p,n=p+1:=⟨n-1,by omega⟩
         have hnp:n-1=p:=by omega
         have s0:mS n = .sl 0 0 40 n:=if_neg (by omega)
         have g0:mG s n=[some (.blk true (.cells true (aY (gE s n))))]:=if_neg (by omega)
         have x0:((n:Int)<(n:Int))=False:=eq_false (by omega)
         have wr:IntKind.i64.wrap ((n:Int)-1)=(p:Int):=by rw[aX (by omega) (by omega)];omega
         have wq:IntKind.i64.wrap ((p:Int)-1)=(p:Int)-1:=aX (by omega) (by omega)
         have hC:=kU s n
         have hB:=aDJ s n
         have hmd:=aCc s R n
         have hbd:=aGB s R n
         rw[hnp]
         generalize gE s n=C at *
         generalize qN s R n=md at *
         generalize sK s R n=bad at *
         have lC:=aK C
         rw[hC]at lC
         have gC:=bA C
         have sC:=lM C
         rcases ptf ((1:Int)<(md:Int))with k1|k1
         ·have hv:mQ C p bad md=erV 19:=by unfold mQ;rw[if_pos (by have:=of_eq_true k1;omega)]
          rw[hv];unfold erV
          (sym=>(simp[aT,aU,bR,Za,Zb,Zf,Zh,Zl,Zm,Zu,Z0,Yq,Yu,Yw,YE,YJ,YK,YY,Xc,Xd,Xj,Xn,Xq,Xy,XJ,XM,Wo,Ws,Wu,Wv,Ww,WX,Vi,Vj,Vk,Vl,Vm,Vn,Vp,Vq,Vr,Vs,Vt,Vw,Vz,V0,V4,V9,VC,VE,VT,VU,VY,VZ,Ua,Ub,Ue,Uf,Ui,Uj,U4,UI,UK,UL,UN,UO,UP,UQ,UR,UT,UU,UW,UX,Tw,s0,g0,x0,wr,k1,lC,gC,bL,bJ,bI,bP];all_goals tactic=>exact rfl))
         ·have k1':¬1<md:=by have:=of_eq_false k1;omega
          rcases ptf ((md:Int)=0)with k0|k0
          ·have k0':md=0:=by have:=of_eq_true k0;omega
           have f9:=yQ (C:=C) (k:=p)
           have l9:=vO hC hp
           have l8:=dK (C:=C) (n:=p) (by omega) p (Nat.le_refl _)
           have cs9:=w43 (C:=C) (n:=p) (by omega) hB (by omega)
           rw[bE]at cs9
           have ce:=yZ l8 l9
           have y1:((p:Int)<(n:Int))=True:=eq_true (by omega)
           have y2:(p*40+40≤n*40)=True:=eq_true (by omega)
           have y3:((p:Int)≤(n:Int))=True:=eq_true (by omega)
           have y4:(0<p)=True:=eq_true (by omega)
           have g9:=bA (cQ C p)
           have g8:=bA (cP C p)
           have m9:=aK (cQ C p)
           rw[l9]at m9
           have m8:=aK (cP C p)
           rw[l8]at m8
           rcases aGC (decide (cP C p=cQ C p))with hq|hq
           ·skip
            rw[hq]at ce
            have hv:mQ C p bad md=erV 22:=by unfold mQ;rw[if_neg k1',if_pos ⟨k0',of_decide_eq_false hq⟩]
            rw[hv];unfold erV
            (sym=>(simp[aT,aU,bR,Za,Zb,Zd,Ze,Zf,Zh,Zi,Zl,Zm,Zn,Zp,Zq,Zu,Zw,Z0,Z7,ZD,ZG,ZM,ZO,ZR,ZW,ZX,Ya,Yb,Yc,Yl,Yq,Ys,Yu,Yw,Yy,Yz,YA,YB,YE,YJ,YK,YL,YY,Xb,Xc,Xd,Xe,Xj,Xn,Xq,Xy,XJ,XM,XY,XZ,Wa,Wb,We,Wf,Wi,Wk,Wl,Wo,Wp,Wq,Wr,Ws,Wt,Wu,Wv,Ww,Wy,Wz,WB,WE,WF,WJ,WL,WM,WN,WO,WQ,WR,WS,WT,WX,Vi,Vj,Vk,Vl,Vm,Vn,Vp,Vq,Vr,Vs,Vt,Vw,Vz,V0,V4,V8,V9,VB,VC,VE,VF,VG,VJ,VM,VN,VP,VQ,VS,VT,VU,VV,VW,VX,VY,VZ,Ua,Ub,Ue,Uf,Ui,Uj,Uo,Uq,Ur,U4,U5,U6,U9,UI,UK,UL,UN,UO,UP,UQ,UR,UT,UU,UW,UX,Tc,Td,Te,Tf,Tn,Tr,Tw,Tz,s0,g0,x0,wr,wq,k1,k0,lC,gC,sC,f9,cs9,ce,y1,y2,y3,y4,g9,g8,m9,m8,bL,bJ,bI,bP];all_goals tactic=>exact rfl))
           ·skip
            rw[hq]at ce
            have hz9:¬(md=0∧cP C p≠cQ C p):=fun hh=>hh.2 (of_decide_eq_true hq)
            have c35:=w35 0 bad ((p:Int)-1)
            rcases aGC (decide (0≤bad)&&decide (bad≤(p:Int)-1))with hbt|hbt
            ·skip
             rw[hbt]at c35
             have hfx:¬(0≤bad∧bad<p):=fun hh=>by
              rw[Bool.and_eq_false_iff,decide_eq_false_iff_not,decide_eq_false_iff_not]at hbt
              omega
             have hv:mQ C p bad md=wS C p md:=by unfold mQ;rw[if_neg k1',if_neg hz9,if_neg hfx]
             rw[hv]
             sym =>
              simp[aT,aU,bR,Za,Zb,Zd,Ze,Zf,Zh,Zi,Zl,Zm,Zn,Zp,Zq,Zu,Zw,Z0,Z7,ZD,ZG,ZM,ZO,ZR,ZT,ZV,ZW,ZX,Ya,Yb,Yc,Yl,Yq,Ys,Yu,Yw,Yy,Yz,YA,YB,YE,YL,YY,YZ,Xb,Xe,XY,XZ,Wa,Wb,We,Wf,Wi,Wk,Wl,Wo,Wp,Wq,Wr,Wt,Wu,Wy,Wz,WB,WE,WF,WJ,WL,WM,WN,WO,WQ,WR,WS,WT,Vw,Vz,V4,V8,V9,VB,VC,VF,VG,VJ,VM,VP,VQ,VS,VT,VU,VV,VW,VX,VY,VZ,Ua,Ub,Uo,Uq,Ur,U4,U5,U6,U9,UI,UK,UM,UN,UO,UP,UQ,US,UU,UW,UX,Tc,Td,Te,Tf,Tn,Tr,Tz,s0,g0,x0,wr,wq,k1,lC,gC,sC,c35,bL,bJ,bI,bP,k0,f9,cs9,ce,y1,y2,y3,y4,g9,g8,m9,m8]
              tactic =>
               exact t16 hp hC hB (by omega) (by omega) rfl rfl rfl rfl
            ·skip
             rw[hbt]at c35
             have hfx:0≤bad∧bad<p:=by
              rw[Bool.and_eq_true,decide_eq_true_eq,decide_eq_true_eq]at hbt
              omega
             have hv:mQ C p bad md=wS (aCm C p bad.toNat) p md:=by unfold mQ;rw[if_neg k1',if_neg hz9,if_pos hfx]
             rw[hv]
             obtain⟨k,hk⟩:∃ k:Nat,bad=(k:Int):=⟨bad.toNat,by omega⟩
             subst hk
             have ht:((k:Int)).toNat=k:=rfl
             rw[ht]
             unfold aCm
             have j1:((k:Int)<(n:Int))=True:=eq_true (by omega)
             have f0:=aDx
             have le0:=eK []
             have su:=aCP (C:=C) (k:=k) le0
             have hC1:=lL (k:=k) hC (by omega) le0
             have hB1:=pM (k:=k) hB (jD (l:=[]) (fun i x h=>by simp at h))
             have m0:=aK (bT [])
             rw[le0]at m0
             have t0:=dT le0
             have gf0:=bA (bT [])
             generalize gV C k (bT [])=C1 at *
             have lC1:=aK C1
             rw[hC1]at lC1
             have gC1:=bA C1
             have sC1:=lM C1
             have f1:=yQ (C:=C1) (k:=p)
             have lf1:=vO hC1 hp
             have cs:=w43 (C:=C1) (n:=p) (by omega) hB1 (by omega)
             rw[bE]at cs
             have ls1:=dK (C:=C1) (n:=p) (by omega) p (Nat.le_refl _)
             have w9:=w45 (t:=94) lf1 ls1 (sY hB1 p) (nE p) (by omega)
             rw[bE,bE,bE]at w9
             have w9:runW aL 45 [.agg (aY (cQ C1 p)),.agg (aY (cP C1 p)),I 94] []=some (.agg (aY (cL 94 (cQ C1 p) (cP C1 p))),[]):=w9
             have lp:=gL (t:=94) (l:=cQ C1 p) (m:=cP C1 p) (by rw[lf1,ls1])
             rw[lf1]at lp
             have bp:=nK (t:=94) (l:=cQ C1 p) (m:=cP C1 p)
             have su2:=aCP (C:=C1) (k:=k) lp
             have hC2:=lL (k:=k) hC1 (by omega) lp
             have hB2:=pM (k:=k) hB1 bp
             have q1:=aK (cQ C1 p)
             rw[lf1]at q1
             have q2:=aK (cP C1 p)
             rw[ls1]at q2
             have q3:=aK (cL 94 (cQ C1 p) (cP C1 p))
             rw[lp]at q3
             have g1:=bA (cQ C1 p)
             have g2:=bA (cP C1 p)
             have g3:=bA (cL 94 (cQ C1 p) (cP C1 p))
             have tk1:=dT lp
             generalize cL 94 (cQ C1 p) (cP C1 p)=fp at *
             generalize cP C1 p=fs at *
             generalize cQ C1 p=fa at *
             generalize gV C1 k fp=C2 at *
             have kl:(k*40+40≤n*40)=True:=eq_true (by have:(k+1)*40≤n*40:=Nat.mul_le_mul_right _ (by omega);omega)
             sym =>
              simp[aT,aU,bR,Za,Zb,Zc,Zd,Ze,Zf,Zh,Zi,Zl,Zm,Zn,Zp,Zq,Zu,Zw,Z0,Z7,ZD,ZG,ZM,ZO,ZP,ZQ,ZR,ZS,ZT,ZV,ZW,ZX,Ya,Yb,Yc,Yl,Yq,Ys,Yu,Yw,Yy,Yz,YA,YB,YE,YG,YH,YL,YY,YZ,Xa,Xb,Xe,XW,XX,XY,XZ,Wa,Wb,We,Wf,Wi,Wk,Wl,Wo,Wp,Wq,Wr,Wt,Wu,Wy,Wz,WB,WE,WF,WJ,WL,WM,WN,WO,WP,WQ,WR,WS,WT,Vw,Vz,V0,V4,V8,V9,VB,VC,VF,VG,VJ,VM,VN,VO,VP,VQ,VS,VT,VU,VV,VW,VX,VY,VZ,Ua,Ub,Uo,Uq,Ur,U4,U5,U6,U9,UB,UC,UI,UK,UN,UO,UP,UQ,US,UU,UW,UX,Tc,Td,Te,Tf,Tn,Tr,Tv,Tz,s0,g0,x0,wr,wq,k1,lC,gC,sC,c35,bL,bJ,bI,bP,k0,f9,cs9,ce,y1,y2,y3,y4,g9,g8,m9,m8,j1,f0,su,m0,t0,gf0,lC1,gC1,sC1,f1,cs,w9,su2,q1,q2,q3,g1,g2,g3,tk1,kl]
              tactic =>
               exact t16 hp hC2 hB2 (by omega) (by omega) rfl rfl rfl rfl
          ·have k0':¬md=0:=by have:=of_eq_false k0;omega
           have hz9:¬(md=0∧cP C p≠cQ C p):=fun hh=>k0' hh.1
           have y1:((p:Int)<(n:Int))=True:=eq_true (by omega)
           have y2:(p*40+40≤n*40)=True:=eq_true (by omega)
           have y3:((p:Int)≤(n:Int))=True:=eq_true (by omega)
           have y4:(0<p)=True:=eq_true (by omega)
           have c35:=w35 0 bad ((p:Int)-1)
           rcases aGC (decide (0≤bad)&&decide (bad≤(p:Int)-1))with hbt|hbt
           ·skip
            rw[hbt]at c35
            have hfx:¬(0≤bad∧bad<p):=fun hh=>by
             rw[Bool.and_eq_false_iff,decide_eq_false_iff_not,decide_eq_false_iff_not]at hbt
             omega
            have hv:mQ C p bad md=wS C p md:=by unfold mQ;rw[if_neg k1',if_neg hz9,if_neg hfx]
            rw[hv]
            sym =>
             simp[aT,aU,bR,Za,Zb,Zf,Zh,Zi,Zl,Zm,Zp,Zs,Zu,Zw,Z0,ZT,ZV,Ya,Yb,Yd,Yq,Ys,Yu,Yw,YE,YY,YZ,Wf,Wo,Wr,Wt,Wy,Wz,WL,WM,WN,Vw,Vz,V4,V8,V9,VB,VC,VF,VG,VU,VX,VY,VZ,Ua,Ub,U4,UI,UK,UM,UN,UO,UP,UQ,US,UU,UW,UX,s0,g0,x0,wr,wq,k1,lC,gC,sC,c35,bL,bJ,bI,bP,k0,y1,y2,y3,y4]
             tactic =>
              exact t16 hp hC hB (by omega) (by omega) rfl rfl rfl rfl
           ·skip
            rw[hbt]at c35
            have hfx:0≤bad∧bad<p:=by
             rw[Bool.and_eq_true,decide_eq_true_eq,decide_eq_true_eq]at hbt
             omega
            have hv:mQ C p bad md=wS (aCm C p bad.toNat) p md:=by unfold mQ;rw[if_neg k1',if_neg hz9,if_pos hfx]
            rw[hv]
            obtain⟨k,hk⟩:∃ k:Nat,bad=(k:Int):=⟨bad.toNat,by omega⟩
            subst hk
            have ht:((k:Int)).toNat=k:=rfl
            rw[ht]
            unfold aCm
            have j1:((k:Int)<(n:Int))=True:=eq_true (by omega)
            have f0:=aDx
            have le0:=eK []
            have su:=aCP (C:=C) (k:=k) le0
            have hC1:=lL (k:=k) hC (by omega) le0
            have hB1:=pM (k:=k) hB (jD (l:=[]) (fun i x h=>by simp at h))
            have m0:=aK (bT [])
            rw[le0]at m0
            have t0:=dT le0
            have gf0:=bA (bT [])
            generalize gV C k (bT [])=C1 at *
            have lC1:=aK C1
            rw[hC1]at lC1
            have gC1:=bA C1
            have sC1:=lM C1
            have f1:=yQ (C:=C1) (k:=p)
            have lf1:=vO hC1 hp
            have cs:=w43 (C:=C1) (n:=p) (by omega) hB1 (by omega)
            rw[bE]at cs
            have ls1:=dK (C:=C1) (n:=p) (by omega) p (Nat.le_refl _)
            have w9:=w45 (t:=94) lf1 ls1 (sY hB1 p) (nE p) (by omega)
            rw[bE,bE,bE]at w9
            have w9:runW aL 45 [.agg (aY (cQ C1 p)),.agg (aY (cP C1 p)),I 94] []=some (.agg (aY (cL 94 (cQ C1 p) (cP C1 p))),[]):=w9
            have lp:=gL (t:=94) (l:=cQ C1 p) (m:=cP C1 p) (by rw[lf1,ls1])
            rw[lf1]at lp
            have bp:=nK (t:=94) (l:=cQ C1 p) (m:=cP C1 p)
            have su2:=aCP (C:=C1) (k:=k) lp
            have hC2:=lL (k:=k) hC1 (by omega) lp
            have hB2:=pM (k:=k) hB1 bp
            have q1:=aK (cQ C1 p)
            rw[lf1]at q1
            have q2:=aK (cP C1 p)
            rw[ls1]at q2
            have q3:=aK (cL 94 (cQ C1 p) (cP C1 p))
            rw[lp]at q3
            have g1:=bA (cQ C1 p)
            have g2:=bA (cP C1 p)
            have g3:=bA (cL 94 (cQ C1 p) (cP C1 p))
            have tk1:=dT lp
            generalize cL 94 (cQ C1 p) (cP C1 p)=fp at *
            generalize cP C1 p=fs at *
            generalize cQ C1 p=fa at *
            generalize gV C1 k fp=C2 at *
            have kl:(k*40+40≤n*40)=True:=eq_true (by have:(k+1)*40≤n*40:=Nat.mul_le_mul_right _ (by omega);omega)
            sym =>
             simp[aT,aU,bR,Za,Zb,Zc,Zd,Ze,Zf,Zh,Zi,Zl,Zm,Zn,Zp,Zs,Zu,Zw,Z0,ZD,ZG,ZM,ZO,ZP,ZQ,ZR,ZS,ZT,ZV,ZW,ZX,Ya,Yb,Yd,Yl,Yq,Ys,Yu,Yw,Yy,Yz,YE,YG,YH,YL,YY,YZ,Xa,Xb,Xe,XW,XX,XY,XZ,Wa,Wb,We,Wf,Wi,Wk,Wl,Wo,Wp,Wq,Wr,Wt,Wu,Wy,Wz,WB,WE,WF,WJ,WL,WM,WN,WO,WP,WQ,WR,WS,WT,Vw,Vz,V0,V4,V8,V9,VB,VC,VF,VG,VJ,VM,VN,VO,VP,VQ,VS,VU,VV,VW,VX,VY,VZ,Ua,Ub,Uo,Uq,Ur,U4,U5,U6,U9,UB,UC,UI,UK,UN,UO,UP,UQ,US,UU,UW,UX,Tc,Td,Te,Tf,Tn,Tr,Tv,Tz,s0,g0,x0,wr,wq,k1,lC,gC,sC,c35,bL,bJ,bI,bP,k0,y1,y2,y3,y4,j1,f0,su,m0,t0,gf0,lC1,gC1,sC1,f1,cs,w9,su2,q1,q2,q3,g1,g2,g3,tk1,kl]
             tactic =>
              exact t16 hp hC2 hB2 (by omega) (by omega) rfl rfl rfl rfl
        ·have s0:mS 0 = .nilsl:=rfl
         have g0:mG s 0=[]:=rfl
         have b0:sK s R 0 = -1:=rfl
         have m0:qN s R 0=0:=rfl
         (sym=>(simp[aT,aU,bR,Za,Y6,YE,YG,YN,YY,Xa,Xg,Wg,Wo,Ws,Wt,Wv,Ww,Vv,Vx,Vy,V8,V9,VC,VE,VX,VY,VZ,Ua,Ub,UV,s0,g0,b0,m0];all_goals tactic=>exact rfl))
        ·intro i hi
         have i1:((i:Int)<(n:Int))=True:=eq_true (by omega)
         have a2:=iA hi (by omega)
         have a3:IntKind.i64.wrap ((i:Int)*45)=((i*45:Nat):Int):=by rw[aX (by omega) (by omega)];omega
         have a4:IntKind.i64.wrap (((i:Int)+1)*45)=(((i+1)*45:Nat):Int):=by rw[aX (by omega) (by omega)];omega
         have a5:IntKind.i64.wrap ((R:Int)+(i:Int))=((R+i:Nat):Int):=by rw[aX (by omega) (by omega)];omega
         have hle:(i+1)*45≤s.size:=by rw[←hsz];exact Nat.mul_le_mul_right _ hi
         have a6:(((i+1)*45:Nat):Int)≤(s.size:Int):=by omega
         have a6b:(((i*45:Nat):Int)≤(((i+1)*45:Nat):Int))=True:=eq_true (by omega)
         have hx:qJ s (i*45) ((i+1)*45)=wO s i:=rfl
         have c2:=w42 (s:=wO s i) (n:=R+i) (tV hle) (by omega)
         have hg:yK (wO s i) (R+i)=gdS s R i:=rfl
         rw[hg]at c2
         rw[bE]at c2
         have lf:=zU (wO s i)
         have m1:=aK (rdF (wO s i))
         rw[lf]at m1
         have k5:=dT lf
         have k6:=fI lf
         have g5:=bA (rdF (wO s i))
         have l0:(aY (nf 0)).length=40:=by rw[aK];exact cJ (by omega)
         have gz:=bA (nf 0)
         have c8:=eY (a:=nf 0) (b:=rdF (wO s i)) (by rw[lf];exact cJ (by omega))
         have ap:=aEO (gE s i) (rdF (wO s i))
         have hF:gE s i++rdF (wO s i)=gE s (i+1):=rfl
         rw[hF]at ap
         have lc:=aK (gE s i)
         rw[kU]at lc
         have lc1:=aK (gE s (i+1))
         rw[kU]at lc1
         have gc:=bA (gE s i)
         have gc1:=bA (gE s (i+1))
         have ml:=aCc s R i
         have a7:IntKind.i64.wrap (((qN s R i:Nat):Int)+1)=((qN s R i+1:Nat):Int):=by rw[aX (by omega) (by omega)];omega
         have s1:mS (i+1) = .sl 0 0 40 (i+1):=if_neg (by omega)
         have g1:mG s (i+1)=[some (.blk true (.cells true (aY (gE s (i+1)))))]:=if_neg (by omega)
         have z2':((i+1)*40≤1099511627776)=True:=eq_true (by omega)
         have z3:(i+1≤1099511627776)=True:=eq_true (by omega)
         by_cases hi0:i=0
         ·subst hi0
          have s0:mS 0 = .nilsl:=rfl
          have g0:mG s 0=[]:=rfl
          have b0:sK s R 0 = -1:=rfl
          have m0:qN s R 0=0:=rfl
          have F1:gE s (0+1)=rdF (wO s 0):=rfl
          rw[s1,g1,F1]
          have j1:((0:Int)<(n:Int))=True:=eq_true (by omega)
          have hx':qJ s 0 45=wO s 0:=rfl
          have a8:IntKind.i64.wrap ((R:Int)+0)=(R:Int):=aX (by omega) (by omega)
          have a9:((45:Int)≤(s.size:Int))=True:=eq_true (by omega)
          have wz:IntKind.i64.wrap 45=45:=rfl
          have tz:Int.toNat 45=45:=rfl
          have j4:(0<n)=True:=eq_true (by omega)
          rw[Nat.add_zero]at c2
          cases hg:gdS s R 0 with
          | true =>
            rw[hg]at c2
            have bb:sK s R (0+1) = -1:=by rw[sK,hg];rfl
            have mm:qN s R (0+1)=0:=by rw[qN,hg];rfl
            rw[bb,mm]
            generalize rdF (wO s 0)=f at *
            (sym=>(simp[aT,aU,bR,Za,Zb,Zc,Zd,Ze,Zf,Zh,Zl,Zm,Zn,Zo,Zu,Zv,Zy,Z0,Z8,ZH,ZI,ZL,ZP,ZQ,ZT,ZV,ZZ,Ya,Yb,Yf,Yo,Yp,Yr,Yu,Y2,Y3,Y5,Y6,Y7,YE,YG,YL,YN,YV,YY,YZ,Xa,Xb,Xc,Xe,Xg,XW,XY,XZ,Wa,Wb,Wf,Wh,Wi,Wl,Wm,Wo,Wp,Wq,Wr,Ws,Wt,Wu,Wv,Ww,Wx,Wy,Wz,WE,WF,WJ,WL,WM,WN,Vw,Vx,Vy,Vz,V0,V4,V8,V9,VA,VB,VC,VE,VF,VG,VH,VJ,VM,VQ,VS,VT,VV,VW,VX,VY,VZ,Ua,Ub,Ul,Um,Un,Uq,Ur,Uu,Uv,Uw,Ux,Uy,Uz,U0,U1,U5,U6,U9,UB,UC,UD,UF,UG,UH,UI,UK,UM,UO,UP,US,UV,UW,UX,Tg,Th,Ti,Tj,Tp,Ts,T1,s0,g0,b0,m0,wz,tz,j1,j4,hx',c2,a8,a9,m1,k5,k6,g5,l0,gz,c8,bL,bJ,bI,bP];all_goals tactic=>exact rfl))
          | false =>
            rw[hg]at c2
            have bb:sK s R (0+1)=0:=by rw[sK,hg];rfl
            have mm:qN s R (0+1)=1:=by rw[qN,hg];rfl
            rw[bb,mm]
            generalize rdF (wO s 0)=f at *
            (sym=>(simp[aT,aU,bR,Za,Zb,Zc,Zd,Ze,Zf,Zh,Zl,Zm,Zn,Zo,Zu,Zv,Zy,Z0,Z8,ZH,ZI,ZL,ZP,ZQ,ZT,ZV,ZZ,Ya,Yb,Yf,Yo,Yp,Yr,Yu,Y2,Y3,Y5,Y6,Y7,YE,YG,YL,YN,YV,YY,YZ,Xa,Xb,Xc,Xe,Xg,XW,XY,XZ,Wa,Wb,Wf,Wh,Wi,Wl,Wm,Wo,Wp,Wq,Wr,Ws,Wt,Wu,Wv,Ww,Wx,Wy,Wz,WE,WF,WJ,WL,WM,WN,Vw,Vx,Vy,Vz,V0,V8,V9,VA,VB,VC,VE,VF,VG,VH,VJ,VN,VQ,VS,VT,VV,VW,VX,VY,VZ,Ua,Ub,Ul,Um,Un,Uq,Ur,Uu,Uv,Uw,Ux,Uy,Uz,U0,U1,U5,U6,U9,UB,UC,UD,UF,UG,UH,UI,UK,UM,UO,UP,US,UV,UW,UX,Tg,Th,Ti,Tj,Tp,Ts,T1,s0,g0,b0,m0,wz,tz,j1,j4,hx',c2,a8,a9,m1,k5,k6,g5,l0,gz,c8,bL,bJ,bI,bP];all_goals tactic=>exact rfl))
         ·have s0:mS i = .sl 0 0 40 i:=if_neg hi0
          have g0:mG s i=[some (.blk true (.cells true (aY (gE s i))))]:=if_neg hi0
          have e45:(i+1)*45=i*45+45:=by omega
          have a3':((i*45:Nat):Int).toNat=i*45:=rfl
          rw[s1,g1]
          cases hg:gdS s R i with
          | true =>
            rw[hg]at c2
            have bb:sK s R (i+1)=sK s R i:=by rw[sK,hg];rfl
            have mm:qN s R (i+1)=qN s R i:=by rw[qN,hg];rfl
            rw[bb,mm]
            generalize gE s (i+1)=C1 at *
            generalize gE s i=C0 at *
            generalize rdF (wO s i)=f at *
            (sym=>(simp[aT,aU,bR,Za,Zb,Zc,Zd,Ze,Zf,Zh,Zl,Zm,Zn,Zo,Zu,Zv,Zy,Z0,Z8,ZH,ZI,ZL,ZP,ZQ,ZT,ZV,ZZ,Ya,Yb,Yf,Yo,Yp,Yr,Yu,Yy,Yz,YE,YG,YL,YN,YV,YY,YZ,Xa,Xb,Xc,Xe,Xg,XW,XY,XZ,Wa,Wb,Wf,Wh,Wi,Wl,Wm,Wo,Wp,Wq,Wr,Ws,Wt,Wu,Wv,Ww,Wx,Wy,Wz,WE,WF,WJ,WL,WM,WN,Vw,Vx,Vy,Vz,V0,V4,V8,V9,VA,VB,VC,VE,VF,VG,VH,VJ,VM,VQ,VS,VT,VV,VW,VX,VY,VZ,Ua,Ub,Ul,Um,Un,Uq,Ur,Uu,Uv,Uw,Ux,Uy,Uz,U0,U2,U3,U5,U6,U9,UB,UC,UD,UE,UF,UG,UI,UK,UM,UO,UP,US,UV,UW,UX,Tg,Th,Ti,Tj,Tp,Ts,s0,g0,i1,a2,a3,a4,a5,a6,a6b,hx,c2,m1,k5,k6,g5,l0,gz,c8,ap,lc,lc1,gc,gc1,z2',z3,bL,bJ,bI,bP];all_goals tactic=>exact rfl))
          | false =>
            rw[hg]at c2
            have bb:sK s R (i+1)=(i:Int):=by rw[sK,hg];rfl
            have mm:qN s R (i+1)=qN s R i+1:=by rw[qN,hg];rfl
            rw[bb,mm]
            generalize gE s (i+1)=C1 at *
            generalize gE s i=C0 at *
            generalize rdF (wO s i)=f at *
            generalize qN s R i=md at *
            (sym=>(simp[aT,aU,bR,Za,Zb,Zc,Zd,Ze,Zf,Zh,Zl,Zm,Zn,Zo,Zu,Zv,Zy,Z0,Z8,ZH,ZI,ZL,ZP,ZQ,ZT,ZV,ZZ,Ya,Yb,Yf,Yo,Yp,Yr,Yu,Yy,Yz,YE,YG,YL,YN,YV,YY,YZ,Xa,Xb,Xc,Xe,Xg,XW,XY,XZ,Wa,Wb,Wf,Wh,Wi,Wl,Wm,Wo,Wp,Wq,Wr,Ws,Wt,Wu,Wv,Ww,Wx,Wy,Wz,WE,WF,WJ,WL,WM,WN,Vw,Vx,Vy,Vz,V0,V8,V9,VA,VB,VC,VE,VF,VG,VH,VJ,VN,VQ,VS,VT,VV,VW,VX,VY,VZ,Ua,Ub,Ul,Um,Un,Uq,Ur,Uu,Uv,Uw,Ux,Uy,Uz,U0,U2,U3,U5,U6,U9,UB,UC,UD,UE,UF,UG,UI,UK,UM,UO,UP,US,UV,UW,UX,Tg,Th,Ti,Tj,Tp,Ts,s0,g0,i1,a2,a3,a4,a5,a6,a6b,a7,hx,c2,m1,k5,k6,g5,l0,gz,c8,ap,lc,lc1,gc,gc1,z2',z3,bL,bJ,bI,bP];all_goals tactic=>exact rfl))
        ·have e0:((n:Int)<(n:Int))=False:=eq_false (by omega)
         (sym=>(simp[aT,aU,bR,Za,Zb,Zf,Zh,Zl,Zm,Z0,Yu,Vw,Vz,V4,V5,VU,U4,UI,UK,UN,UP,UQ,UW,e0];all_goals tactic=>exact rfl))
   ·have h0':=of_eq_false h0
    have z0:(((s.size%45:Nat):Int)=0)=False:=eq_false (by omega)
    have hv:mnV s row=erV 20:=by unfold mnV;rw[hb,if_pos rfl,if_pos (Or.inl h0')]
    rw[hv];unfold erV
    generalize s.size%45=rm at *
    generalize s.size/45=n at *
    (sym=>(simp[aT,aU,bR,Za,Zb,Zf,Zh,Zl,Zm,Zp,Zt,Zu,Zw,Z0,Z8,ZJ,ZT,ZV,Ya,Yb,Yc,Yf,Yk,Yt,YE,YJ,YK,YY,YZ,Xc,Xd,Xj,Xn,Xq,Xy,X0,XJ,XM,Wf,Wg,Wo,Wr,Ws,Wt,Wv,Ww,Wy,Wz,WL,WM,WN,WX,Vi,Vj,Vk,Vl,Vm,Vn,Vp,Vq,Vr,Vs,Vt,Vv,Vz,V0,V4,V7,V8,V9,VB,VC,VE,VG,VM,VN,VU,VX,VY,VZ,Ua,Ub,Ue,Uf,Ui,Uj,UI,UK,UL,UO,UP,UR,UT,UW,UX,Tw,c1,d1,d2,d3,z0];all_goals tactic=>exact rfl))
theorem q18 {vs:List AV} {h:XH} (hl:vs.length≤26):runW aL 18 vs h=eA none x18.res x18.ownR h.length (execW aL 18 h.length none x18.body (aW (if x18.ownA then vs else hZ vs)) h):=cV rfl hl h rfl
def aKr (a b:List ByteArray) (m n:Nat):Prop:=m≤n∧(∀ i,i<m→a[i]?=b[i]?)∧(m=n∨a[m]?≠b[m]?)
theorem zD (a b:List ByteArray):∀ n,∃ m,aKr a b m n
 | 0=>⟨0,Nat.le_refl _,fun i hi=>by omega,.inl rfl⟩
 | n+1=>by
   obtain⟨m,h1,h2,h3⟩:=zD a b n
   rcases h3 with rfl|h3
   ·by_cases h:a[m]?=b[m]?
    ·exact⟨m+1,Nat.le_refl _,fun i hi=>by
      by_cases hi2:i=m
      ·rw[hi2];exact h
      ·exact h2 i (by omega),.inl rfl⟩
    ·exact⟨m,by omega,h2,.inr h⟩
   ·exact⟨m,by omega,h2,.inr h3⟩
theorem gT (a b:ByteArray):tL BinOp.neq a b=some (.bool (!decide (a=b))):=by
 show some (AV.bool (!(a.toList==b.toList)))=_
 rw[xC,xC]
 congr 3
 cases a with
 | mk x =>
   cases b with
   | mk y =>
     cases x with
     | mk x =>
       cases y with
       | mk y =>
         show (x==y)=decide ((⟨⟨x⟩⟩:ByteArray)=⟨⟨y⟩⟩)
         by_cases h:x=y
         ·subst h;simp
         ·have:¬((⟨⟨x⟩⟩:ByteArray)=⟨⟨y⟩⟩):=fun hh=>h (by injection hh with h1;injection h1)
          simp[h]
theorem w18 {a b:List ByteArray} (hb:b.length<1000000000):runW aL 18 [.fs (rS a),.fs (rS b)] []=some (.bool (decide (a=b)),[]):=by
 have la:=uK a
 have lb:=uK b
 rw[q18 (by simp)];unfold x18;dsimp only
 by_cases hl:a.length=b.length
 ·have e1:((a.length:Int)=(b.length:Int))=True:=eq_true (by omega)
  obtain⟨m,m1,m2,m3⟩:=zD a b b.length
  have z:=U4 (n:=(b.length:Int))
  sym =>
   simp[Za,Zb,Zf,Zh,Zl,Zm,Zu,Z0,ZJ,Yi,Yt,XK,Wg,Vv,Vz,V4,V7,VG,VM,VT,Ui,Uj,UI,UK,UM,UO,UP,UW,UX,la,lb,e1]
   tactic =>
    unfold aIo
    rw[cN m (fun i=>[.fs (rS a),.fs (rS b),I (i:Nat)]) (fun _=>[])]
    ·rcases m3 with rfl|m3
     ·have hab:a=b:=List.ext_getElem? fun i=>by
       by_cases hi:i<b.length
       ·exact m2 i hi
       ·rw[List.getElem?_eq_none (by omega),List.getElem?_eq_none (by omega)]
      have d:decide (a=b)=true:=decide_eq_true hab
      rw[d]
      (sym=>(simp[Za,Zb,Zf,Zh,Zl,Zm,Zu,Z0,ZJ,Yi,Yu,YF,YZ,Xk,Xz,Wo,Ws,Wt,Wv,Ww,WX,Vi,Vj,Vk,Vl,Vm,Vn,Vo,Vq,Vr,Vs,Vt,Vw,Vz,V4,V9,VC,VE,VU,VX,VY,VZ,U4,UI,UK,UL,UN,UP,UQ,UU,UW,UX,Tw,la,lb,z,hl];all_goals tactic=>exact rfl))
     ·have hm:m<b.length:=by
       by_cases hm:m<b.length
       ·exact hm
       ·exact absurd (by rw[List.getElem?_eq_none (by omega),List.getElem?_eq_none (by omega)]) m3
      have d:decide (a=b)=false:=decide_eq_false fun h=>m3 (by rw[h])
      rw[d]
      obtain⟨x,hx⟩:=dR (l:=a) (i:=m) (by omega)
      obtain⟨y,hy⟩:=dR (l:=b) (i:=m) hm
      have hxy:=gT x y
      rw[decide_eq_false (fun h=>m3 (by rw[hx,hy,h]):¬x=y)]at hxy
      have ax:=oA hx
      have ay:=oA hy
      have i1:((m:Int)<(b.length:Int))=True:=eq_true (by omega)
      have i2:((m:Int)<(a.length:Int))=True:=eq_true (by omega)
      (sym=>(simp[Za,Zb,Zf,Zh,Zi,Zl,Zm,Zu,Z0,ZD,ZJ,ZN,ZO,Yi,Ym,Yn,Yu,Yy,Yz,YF,YZ,Xk,Xz,Wh,Wo,Ws,Wt,Wv,Ww,WX,Vi,Vj,Vk,Vl,Vm,Vn,Vo,Vq,Vr,Vs,Vt,Vw,Vz,V0,V9,VC,VE,VF,VG,VN,VQ,VT,VX,VY,VZ,U7,U8,UA,UI,UJ,UK,UL,UM,UO,UP,UR,UT,UW,UX,Tw,la,lb,ax,ay,hxy,i1,i2];all_goals tactic=>exact rfl))
    ·(sym=>(simp[Za,Y6,YE,YK,YY,Xd,Wg,Wo,Ws,Wt,Wv,Ww,Vv,Vx,Vy,V8,V9,VC,VE,VX,VY,VZ,Ua,Ub,UV,la];all_goals tactic=>exact rfl))
    ·intro i hi
     have hib:i<b.length:=by omega
     obtain⟨y,hy⟩:=dR (l:=b) hib
     have hx:a[i]?=some y:=by rw[m2 i hi];exact hy
     have ax:=oA hx
     have ay:=oA hy
     have hxy:=gT y y
     rw[decide_eq_true (rfl:y=y)]at hxy
     have i1:((i:Int)<(b.length:Int))=True:=eq_true (by omega)
     have i2:((i:Int)<(a.length:Int))=True:=eq_true (by omega)
     have a2:=iA hib (by omega)
     (sym=>(simp[Za,Zb,Zf,Zh,Zi,Zl,Zm,Zu,Z0,ZD,ZJ,ZN,ZO,Yi,Ym,Yn,Yp,Yu,Yy,Yz,YE,YK,YY,Xd,Wh,Wo,Ws,Wt,Wv,Ww,Vw,Vx,Vy,Vz,V0,V4,V8,V9,VC,VE,VF,VG,VM,VQ,VT,VX,VY,VZ,Ua,Ub,U7,U8,UA,UI,UJ,UK,UM,UO,UP,US,UV,UW,UX,la,lb,ax,ay,hxy,i1,i2,a2];all_goals tactic=>exact rfl))
    ·rcases m3 with rfl|m3
     ·(sym=>(simp[Za,Zb,Zf,Zh,Zl,Zm,Zu,Z0,ZJ,Yi,Yu,Vw,Vz,V4,V5,VU,U4,UI,UK,UN,UP,UQ,UW,la,lb,z,hl];all_goals tactic=>exact rfl))
     ·have hm:m<b.length:=by
       by_cases hm:m<b.length
       ·exact hm
       ·exact absurd (by rw[List.getElem?_eq_none (by omega),List.getElem?_eq_none (by omega)]) m3
      obtain⟨x,hx⟩:=dR (l:=a) (i:=m) (by omega)
      obtain⟨y,hy⟩:=dR (l:=b) (i:=m) hm
      have hxy:=gT x y
      rw[decide_eq_false (fun h=>m3 (by rw[hx,hy,h]):¬x=y)]at hxy
      have ax:=oA hx
      have ay:=oA hy
      have i1:((m:Int)<(b.length:Int))=True:=eq_true (by omega)
      have i2:((m:Int)<(a.length:Int))=True:=eq_true (by omega)
      (sym=>(simp[Za,Zb,Zf,Zh,Zi,Zl,Zm,Zu,Z0,ZD,ZJ,ZN,ZO,Yi,Ym,Yn,Yu,Yy,Yz,Wh,Vw,Vz,V0,V6,VF,VG,VN,VQ,VT,U7,U8,UA,UI,UJ,UK,UL,UM,UO,UP,UR,UT,UW,UX,la,lb,ax,ay,hxy,i1,i2];all_goals tactic=>exact rfl))
 ·have e1:((a.length:Int)=(b.length:Int))=False:=eq_false (by omega)
  have d:decide (a=b)=false:=decide_eq_false fun h=>hl (by rw[h])
  rw[d]
  (sym=>(simp[Za,Zb,Zf,Zh,Zl,Zm,Zu,Z0,ZJ,Yi,Yt,YF,YZ,Xk,Xz,XK,Wg,Wo,Ws,Wt,Wv,Ww,WX,Vi,Vj,Vk,Vl,Vm,Vn,Vo,Vq,Vr,Vs,Vt,Vv,Vz,V0,V7,V9,VC,VE,VG,VN,VU,VX,VY,VZ,Ui,Uj,UI,UK,UL,UP,UR,UW,UX,Tw,la,lb,e1];all_goals tactic=>exact rfl))
theorem q27 {vs:List AV} {h:XH} (hl:vs.length≤56):runW aL 27 vs h=eA none x27.res x27.ownR h.length (execW aL 27 h.length none x27.body (aW (if x27.ownA then vs else hZ vs)) h):=cV rfl hl h rfl
def byA (s:List Nat):AV:=.fs (s.map fun x=>[U x])
def shR (l:List (List Nat)):List (List AV):=l.map fun s=>[byA s]
def shA (l:List (List Nat)):AV:=.fs (shR l)
def kY (s:List Nat) (k:Nat):List Nat:=(s.take k).map fun x=>32+x%95
def mdL (s:List Nat):ByteArray:=oE (kY s 39++[122])
def jE (l:List (List Nat)) (i:Nat):List ByteArray:=(l.take i).map mdL
def aAW (l:List (List Nat)):List ByteArray:=if l.length=0 then [oE [122]] else jE l 5
theorem aHj (l:List (List Nat)):(shR l).length=l.length:=by simp[shR]
theorem aJn {l:List (List Nat)} {i:Nat} {s:List Nat} (h:l[i]?=some s):(shR l)[i]?=some [byA s]:=by simp[shR,h]
theorem aHW (s:List Nat):(s.map fun x=>[U x]).length=s.length:=by simp
theorem aKi {s:List Nat} {i x:Nat} (h:s[i]?=some x):(s.map fun x=>[U x])[i]?=some [U x]:=by simp[h]
theorem aNo {l:List (List Nat)} {i:Nat} {s:List Nat} (h:l[i]?=some s):jE l (i+1)=jE l i++[mdL s]:=by
 unfold jE;rw[List.take_add_one,h];simp
theorem aDh {l:List (List Nat)} {i:Nat} (h:i≤l.length):(jE l i).length=i:=by simp[jE];omega
theorem aGX (l:List ByteArray) (b:ByteArray):nZ l++[.str b]=nZ (l++[b]):=by simp[nZ]
theorem aNn {s:List Nat} {k x:Nat} (h:s[k]?=some x):aY (kY s k)++[U (32+x%95)]=aY (kY s (k+1)):=by
 unfold kY aY;rw[List.take_add_one,h];simp
theorem aDg {s:List Nat} {k:Nat} (h:k≤s.length):(kY s k).length=k:=by simp[kY];omega
def iS (k:Nat):AV:=if k=0 then .nilsl else .sl 1 0 1 k
def iG (l:List (List Nat)) (i:Nat) (s:List Nat) (k:Nat):XH:=if k=0 then [some (.blk true (.cells true (nZ (jE l i))))] else [some (.blk true (.cells true (nZ (jE l i)))),some (.blk true (.cells true (aY (kY s k))))]
theorem aHA (s:List Nat):kY s 39=kY s (min s.length 39):=by
 unfold kY
 by_cases h:s.length≤39
 ·rw[Nat.min_eq_left h,List.take_of_length_le h,List.take_of_length_le (Nat.le_refl _)]
 ·rw[Nat.min_eq_right (by omega)]
theorem aHB (l:List (List Nat)):jE l 5=jE l (min l.length 5):=by
 unfold jE
 by_cases h:l.length≤5
 ·rw[Nat.min_eq_left h,List.take_of_length_le h,List.take_of_length_le (Nat.le_refl _)]
 ·rw[Nat.min_eq_right (by omega)]
theorem aHx (a b:List Nat):oE a++oE b=oE (a++b):=by
 unfold oE;rw[aGE];simp
theorem xD {H:Hp}:eF H .nilsl=some (.str ⟨⟨[]⟩⟩):=rfl
theorem w27 {l:List (List Nat)} (hs:∀ s∈l,lI s):runW aL 27 [shA l] []=some (.fs (rS (aAW l)),[]):=by
 rw[q27 (by simp)];unfold x27;dsimp only
 unfold shA
 have rl:=aHj l
 have n5:min l.length 5≤l.length:=Nat.min_le_left ..
 have n5':min l.length 5≤5:=Nat.min_le_right ..
 have hM:=aHB l
 sym =>
  simp[aT,aU,bR,Za,Zb,Zf,Zh,Zl,Zo,Zu,Zy,YU,XK,V7,V9,VB,VG,VJ,VV,VX,Uc,Ud,Ui,Uj,Ul,Uu,Uv,Uw,UD,UK,UO,UP,UW,UX,rl]
  tactic =>
   unfold aIm
   rw[cN (min l.length 5) (fun i=>[.fs (shR l),.sl 0 0 1 i,I (i:Nat)]) (fun i=>[some (.blk true (.cells true (nZ (jE l i))))])]
   ·unfold aAW
    rw[hM]
    have ln:=aDh n5
    have lc:=sO (jE l (min l.length 5))
    rw[ln]at lc
    have ch:=aEV (jE l (min l.length 5))
    rw[ln]at ch
    have gr:=tO (jE l (min l.length 5))
    by_cases h0:l.length=0
    ·have hm0:min l.length 5=0:=by omega
     rw[if_pos h0]
     have z0:((0:Int)<(l.length:Int))=False:=eq_false (by omega)
     rw[hm0]at ln lc ch gr ⊢
     have hN:jE l 0=[]:=rfl
     rw[hN]at ln lc ch gr ⊢
     have h1:nZ []=[]:=rfl
     have h2:rS [oE [122]]=[[.str ⟨⟨[122]⟩⟩]]:=rfl
     (sym=>(simp[aT,aU,bR,Za,Zb,Zd,Ze,Zf,Zh,Zl,Zm,Zo,Zp,Zs,Zu,Zw,Zy,Z0,ZJ,ZZ,Yd,Yi,Yj,Ys,Yu,Y6,YK,YU,Xd,Xp,Xw,XK,XV,XY,XZ,Wa,Wb,Wc,Wd,We,Wf,Wo,Ws,Wu,Wv,Ww,WU,WV,WW,WX,Va,Ve,Vf,Vh,Vi,Vj,Vk,Vl,Vm,Vn,Vo,Vq,Vr,Vs,Vt,Vw,Vz,V0,V4,V8,V9,VA,VB,VC,VE,VF,VG,VJ,VQ,VT,VU,VV,VW,VY,VZ,Uc,Ud,Uk,Ul,Um,Un,Uu,Uv,Uw,Ux,Uy,Uz,U0,U2,U3,UD,UE,UF,UG,UI,UK,UL,UN,UP,UQ,UU,UW,UX,Ts,Tt,Tu,Tw,Tx,Ty,rl,z0,h1,h2];all_goals tactic=>exact rfl))
    ·rw[if_neg h0]
     have z2:(((min l.length 5:Nat):Int)=0)=False:=eq_false (by omega)
     have p1:(min l.length 5*1≤min l.length 5)=True:=eq_true (by omega)
     rcases ptf (((min l.length 5:Nat):Int)<(l.length:Int))with k1|k1
     ·have k1':=of_eq_true k1
      have k2:(((min l.length 5:Nat):Int)<5)=False:=eq_false (by omega)
      generalize jE l (min l.length 5)=L at *
      generalize min l.length 5=m at *
      (sym=>(simp[aT,aU,bR,Za,Zb,Zf,Zh,Zl,Zm,Zp,Zq,Zu,Zw,Z0,ZJ,Yc,Yi,Yj,Ys,Yu,YK,Xd,Xp,Xw,XK,XY,Wb,Wo,Ws,Wu,Wv,Ww,WU,WV,WW,WX,Va,Vf,Vh,Vi,Vj,Vk,Vl,Vm,Vn,Vo,Vq,Vr,Vs,Vt,Vw,Vz,V4,V8,V9,VC,VE,VQ,VT,VU,VY,VZ,UI,UK,UL,UM,UN,UP,UQ,UU,UW,UX,Tm,Tn,Tq,Tw,Tx,Ty,rl,k1,k2,z2,lc,ch,gr,p1,jQ,jO,jP];all_goals tactic=>exact rfl))
     ·generalize jE l (min l.length 5)=L at *
      generalize min l.length 5=m at *
      (sym=>(simp[aT,aU,bR,Za,Zb,Zf,Zh,Zl,Zm,Zp,Zs,Zu,Zw,Z0,ZJ,Yd,Yi,Yj,Ys,Yu,YK,Xd,Xp,Xw,XK,XY,Wb,Wo,Ws,Wu,Wv,Ww,WU,WV,WW,WX,Va,Vf,Vh,Vi,Vj,Vk,Vl,Vm,Vn,Vo,Vq,Vr,Vs,Vt,Vw,Vz,V4,V8,V9,VC,VE,VQ,VU,VY,VZ,UI,UK,UL,UM,UN,UP,UQ,UU,UW,UX,Tm,Tn,Tq,Tw,Tx,Ty,rl,k1,z2,lc,ch,gr,p1,jQ,jO,jP];all_goals tactic=>exact rfl))
   ·have hN:nZ (jE l 0)=[]:=rfl
    (sym=>(simp[aT,aU,bR,Za,Y6,YE,YK,YL,YY,Xd,Xe,XY,Wg,Wi,Wl,Wm,Wo,Wp,Wq,Ws,Wu,Wv,Ww,Wx,WE,WF,WJ,Vv,Vx,Vy,V8,V9,VB,VC,VE,VH,VS,VY,VZ,Ua,Ub,UV,Tp,rl,hN];all_goals tactic=>exact rfl))
   ·intro i hi
    obtain⟨s,hx⟩:=dR (l:=l) (i:=i) (by omega)
    have sx:=aJn hx
    have hsb:=hs s (List.mem_of_getElem? hx)
    have i1:((i:Int)<(l.length:Int))=True:=eq_true (by omega)
    have i2:((i:Int)<5)=True:=eq_true (by omega)
    have a2:=iA (n:=5) (i:=i) (by omega) (by omega)
    have bl:=aHW s
    have hb:byA s = .fs (s.map fun x=>[U x]):=rfl
    rw[hb]at sx
    have mS:=aNo hx
    have m39:min s.length 39≤s.length:=Nat.min_le_left ..
    have m39':min s.length 39≤39:=Nat.min_le_right ..
    have lN:=aDh (l:=l) (i:=i) (by omega)
    have ln:=sO (jE l i)
    rw[lN]at ln
    have gn:=tO (jE l i)
    have gn1:=tO (jE l (i+1))
    have so:=aGX (jE l i) (mdL s)
    rw[←mS]at so
    have z3:(i+1≤1099511627776)=True:=eq_true (by omega)
    have z4:((i+1)*16≤1099511627776)=True:=eq_true (by omega)
    have hbx:∀ k x,s[k]?=some x→x<256:=hsb
    have byat:∀ {k x:Nat},s[k]?=some x→(s.map fun x=>[U x])[k]?=some [U x]:=fun h=>aKi h
    generalize (s.map fun x=>[U x])=R at *
    sym =>
     simp[aT,aU,bR,Za,Zb,Zf,Zh,Zl,Zm,Zp,Zq,Zu,Zw,Z0,ZJ,Yc,Yi,Yu,Vw,Vz,V0,VT,UI,UK,UM,UO,UP,UW,UX,rl,sx,i1,i2,bl]
     tactic =>
      unfold aIn
      rw[cN (min s.length 39) (fun k=>[.fs (shR l),.sl 0 0 1 i,I (i:Nat),iS k,I (k:Nat)]) (fun k=>iG l i s k)]
      ·have hm:=aHA s
       have lP:=aDg m39
       have lp:=aK (kY s (min s.length 39))
       rw[lP]at lp
       have bu:=hJ (f:=kY s (min s.length 39))
       have bu:eT (aY (kY s (min s.length 39)))=some ((kY s (min s.length 39)).map UInt8.ofNat):=bu
       have tk:List.take (min s.length 39) (aY (kY s (min s.length 39)))=aY (kY s (min s.length 39)):=List.take_of_length_le (by rw[lp];exact Nat.le_refl _)
       have td:List.take (min s.length 39) (List.drop 0 (aY (kY s (min s.length 39))))=aY (kY s (min s.length 39)):=tk
       have mL:mdL s=⟨⟨(kY s (min s.length 39)).map UInt8.ofNat⟩⟩++⟨#[122]⟩:=by
        unfold mdL;rw[hm,←aHx];rfl
       have sa:=pJ (a:=⟨⟨(kY s (min s.length 39)).map UInt8.ofNat⟩⟩) (b:=⟨#[122]⟩) (by rw[tJ,List.length_map,lP];have:(⟨#[122]⟩:ByteArray).size=1:=rfl;omega)
       rw[←mL]at sa
       have gp:=bA (kY s (min s.length 39))
       have one:((min s.length 39)*1≤min s.length 39)=True:=eq_true (by omega)
       by_cases hm0:min s.length 39=0
       ·have s0:iS (min s.length 39) = .nilsl:=by rw[hm0];rfl
        have g0:iG l i s (min s.length 39)=[some (.blk true (.cells true (nZ (jE l i))))]:=by rw[hm0];rfl
        have u0:aY (kY s (min s.length 39))=[]:=by rw[hm0];rfl
        have v0:(kY s (min s.length 39)).map UInt8.ofNat=[]:=by rw[hm0];rfl
        rw[v0]at sa
        generalize mdL s=ML at *
        generalize jE l (i+1)=N1 at *
        generalize jE l i=N0 at *
        have k1:(((min s.length 39:Nat):Int)<(s.length:Int))=False:=eq_false (by omega)
        generalize min s.length 39=m at *
        (sym=>(simp[aT,aU,bR,Za,Zb,Zd,Ze,Zf,Zh,Zl,Zm,Zo,Zp,Zs,Zu,Zw,Zy,Z0,ZD,ZJ,ZL,ZZ,Yd,Yi,Ym,Yn,Yp,Yu,Yy,Yz,YE,YK,YL,YU,YY,Xd,Xe,XV,XY,XZ,Wa,Wb,Wc,Wd,We,Wf,Wh,Wi,Wl,Wm,Wo,Wp,Wq,Ws,Wu,Wv,Ww,Wx,WE,WF,WJ,Vw,Vx,Vy,Vz,V4,V8,V9,VA,VB,VC,VE,VF,VG,VH,VJ,VQ,VS,VU,VV,VW,VY,VZ,Ua,Ub,Uc,Ud,Uk,Ul,Um,Un,Uu,Uv,Uw,Ux,Uy,Uz,U0,U2,U3,U7,U8,UA,UD,UE,UF,UG,UI,UJ,UK,UN,UP,UQ,US,UU,UV,UW,UX,Tm,Tp,Ts,TM,k1,xD,s0,g0,rl,sx,i1,i2,bl,sa,ln,gn,gn1,so,z3,z4,a2,jQ,jO,jP];all_goals tactic=>exact rfl))
       ·have s0:iS (min s.length 39) = .sl 1 0 1 (min s.length 39):=if_neg hm0
        have g0:iG l i s (min s.length 39)=[some (.blk true (.cells true (nZ (jE l i)))),some (.blk true (.cells true (aY (kY s (min s.length 39)))))]:=if_neg hm0
        generalize mdL s=ML at *
        generalize jE l (i+1)=N1 at *
        generalize jE l i=N0 at *
        generalize kY s (min s.length 39)=MP at *
        rcases ptf (((min s.length 39:Nat):Int)<(s.length:Int))with k1|k1
        ·have k1':=of_eq_true k1
         have k2:(((min s.length 39:Nat):Int)<39)=False:=eq_false (by omega)
         generalize min s.length 39=m at *
         (sym=>(simp[aT,aU,bR,Za,Zb,Zd,Ze,Zf,Zh,Zl,Zm,Zo,Zp,Zq,Zu,Zw,Zy,Z0,ZD,ZJ,ZL,ZZ,Yc,Yi,Ym,Yn,Yp,Yu,Yy,Yz,YE,YK,YL,YU,YY,Xd,Xe,XV,XY,XZ,Wa,Wb,Wc,Wd,We,Wf,Wh,Wi,Wl,Wm,Wo,Wp,Wq,Ws,Wu,Wv,Ww,Wx,WE,WF,WJ,Vw,Vx,Vy,Vz,V4,V8,V9,VA,VB,VC,VE,VF,VG,VH,VJ,VQ,VS,VT,VU,VV,VW,VY,VZ,Ua,Ub,Uc,Ud,Uk,Ul,Um,Un,Uu,Uv,Uw,Ux,Uy,Uz,U0,U2,U3,U7,U8,UA,UD,UE,UF,UG,UI,UJ,UK,UN,UP,UQ,US,UU,UV,UW,UX,Tm,Tn,Tp,Tq,Ts,TM,TN,TO,k1,k2,s0,g0,rl,sx,i1,i2,bl,sa,lp,bu,tk,td,gp,one,ln,gn,gn1,so,z3,z4,a2,jQ,jO,jP,bJ,bL,bI];all_goals tactic=>exact rfl))
        ·generalize min s.length 39=m at *
         (sym=>(simp[aT,aU,bR,Za,Zb,Zd,Ze,Zf,Zh,Zl,Zm,Zo,Zp,Zs,Zu,Zw,Zy,Z0,ZD,ZJ,ZL,ZZ,Yd,Yi,Ym,Yn,Yp,Yu,Yy,Yz,YE,YK,YL,YU,YY,Xd,Xe,XV,XY,XZ,Wa,Wb,Wc,Wd,We,Wf,Wh,Wi,Wl,Wm,Wo,Wp,Wq,Ws,Wu,Wv,Ww,Wx,WE,WF,WJ,Vw,Vx,Vy,Vz,V4,V8,V9,VA,VB,VC,VE,VF,VG,VH,VJ,VQ,VS,VU,VV,VW,VY,VZ,Ua,Ub,Uc,Ud,Uk,Ul,Um,Un,Uu,Uv,Uw,Ux,Uy,Uz,U0,U2,U3,U7,U8,UA,UD,UE,UF,UG,UI,UJ,UK,UN,UP,UQ,US,UU,UV,UW,UX,Tm,Tn,Tp,Tq,Ts,TM,TN,TO,k1,s0,g0,rl,sx,i1,i2,bl,sa,lp,bu,tk,td,gp,one,ln,gn,gn1,so,z3,z4,a2,jQ,jO,jP,bJ,bL,bI];all_goals tactic=>exact rfl))
      ·have s0:iS 0 = .nilsl:=rfl
       have g0:iG l i s 0=[some (.blk true (.cells true (nZ (jE l i))))]:=rfl
       (sym=>(simp[aT,aU,bR,Za,Y6,YE,YK,YL,YN,YY,Xd,Xe,Xg,XY,Wi,Wl,Wm,Wo,Wp,Wq,Ws,Wu,Wv,Ww,Wx,WE,WF,WJ,Vw,Vx,Vy,V8,V9,VB,VC,VE,VH,VS,VY,VZ,Ua,Ub,UV,Tp,s0,g0,rl,jQ,jO,jP];all_goals tactic=>exact rfl))
      ·intro k hk
       obtain⟨x,hxk⟩:=dR (l:=s) (i:=k) (by omega)
       have bx:=byat hxk
       have j1:((k:Int)<(s.length:Int))=True:=eq_true (by omega)
       have j2:((k:Int)<39)=True:=eq_true (by omega)
       have b2:=iA (n:=39) (i:=k) (by omega) (by omega)
       have hx256:=hbx k x hxk
       have hr:=Nat.mod_lt x (show 0<95 by decide)
       have c1:tmZ (x:Int) 95=((x%95:Nat):Int):=fJ x 95
       have c2:IntKind.u8.wrap (32+((x%95:Nat):Int))=((32+x%95:Nat):Int):=by
        simp[IntKind.wrap,IntKind.bits,IntKind.signed];omega
       have ap:=aNn hxk
       have lP:=aDg (s:=s) (k:=k) (by omega)
       have lp:=aK (kY s k)
       rw[lP]at lp
       have gp:=bA (kY s k)
       have gp1:=bA (kY s (k+1))
       have s1:iS (k+1) = .sl 1 0 1 (k+1):=if_neg (by omega)
       have g1:iG l i s (k+1)=[some (.blk true (.cells true (nZ (jE l i)))),some (.blk true (.cells true (aY (kY s (k+1)))))]:=if_neg (by omega)
       have y3:(k+1≤1099511627776)=True:=eq_true (by omega)
       rw[s1,g1]
       by_cases hk0:k=0
       ·subst hk0
        have s0:iS 0 = .nilsl:=rfl
        have g0:iG l i s 0=[some (.blk true (.cells true (nZ (jE l i))))]:=rfl
        have u0:aY (kY s 0)=[]:=rfl
        rw[u0,List.nil_append]at ap
        rw[←ap]
        have j0:((0:Int)<(s.length:Int))=True:=eq_true (by omega)
        have j00:(0<s.length)=True:=eq_true (by omega)
        have bx0:=bx
        generalize 32+x%95=P at *
        generalize x%95=Q at *
        generalize jE l (i+1)=N1 at *
        generalize jE l i=N0 at *
        (sym=>(simp[aT,aU,bR,Za,Zb,Zd,Ze,Zf,Zh,Zl,Zm,Zo,Zp,Zq,Zu,Zw,Zy,Z0,ZD,ZJ,ZL,ZZ,Yc,Yi,Ym,Yn,Yp,Yu,Yy,Yz,Y3,Y5,Y6,Y7,YE,YK,YL,YT,YY,Xd,Xe,XO,XY,XZ,Wa,Wc,Wd,We,Wf,Wh,Wi,Wj,Wl,Wm,Wo,Wp,Wq,Ws,Wu,Wv,Ww,Wx,WE,WF,WJ,Vw,Vx,Vy,Vz,V0,V8,V9,VA,VB,VC,VE,VF,VG,VH,VJ,VQ,VS,VT,VU,VV,VW,VY,VZ,Ua,Ub,Uc,Ud,Uk,Ul,Um,Un,Uu,Uv,Uw,Ux,Uy,Uz,U0,U1,U7,U8,UA,UD,UF,UG,UH,UI,UK,UM,UO,UP,US,UV,UW,UX,Tp,Ts,s0,g0,rl,sx,i1,i2,bl,j0,j00,bx0,c1,c2,ln,gn,jQ,jO,jP];all_goals tactic=>exact rfl))
       ·have s0:iS k = .sl 1 0 1 k:=if_neg hk0
        have g0:iG l i s k=[some (.blk true (.cells true (nZ (jE l i)))),some (.blk true (.cells true (aY (kY s k))))]:=if_neg hk0
        have y4:(k+1≤1099511627776∧True)=True:=eq_true ⟨by omega,trivial⟩
        have y5:((k+1)*1≤1099511627776)=True:=eq_true (by omega)
        generalize 32+x%95=P at *
        generalize x%95=Q at *
        generalize jE l (i+1)=N1 at *
        generalize jE l i=N0 at *
        generalize kY s (k+1)=P1 at *
        generalize kY s k=P0 at *
        (sym=>(simp[aT,aU,bR,Za,Zb,Zd,Ze,Zf,Zh,Zl,Zm,Zo,Zp,Zq,Zu,Zw,Zy,Z0,ZD,ZJ,ZL,ZZ,Yc,Yi,Ym,Yn,Yp,Yu,Yy,Yz,YE,YK,YL,YT,YY,Xd,Xe,XO,XY,XZ,Wa,Wb,Wc,Wd,We,Wf,Wh,Wi,Wj,Wl,Wm,Wo,Wp,Wq,Ws,Wu,Wv,Ww,Wx,WE,WF,WJ,Vw,Vx,Vy,Vz,V0,V8,V9,VA,VB,VC,VE,VF,VG,VH,VJ,VQ,VS,VT,VU,VV,VW,VY,VZ,Ua,Ub,Uc,Ud,Uk,Ul,Um,Un,Uu,Uv,Uw,Ux,Uy,Uz,U0,U2,U3,U7,U8,UA,UD,UE,UF,UG,UI,UK,UM,UO,UP,US,UV,UW,UX,Tm,Tp,Ts,s0,g0,rl,sx,i1,i2,bl,j1,j2,bx,c1,c2,b2,ap,lp,gp,gp1,y3,y4,y5,ln,gn,jQ,jO,jP,bJ,bL,bI];all_goals tactic=>exact rfl))
      ·by_cases hm0:min s.length 39=0
       ·have s0:iS (min s.length 39) = .nilsl:=by rw[hm0];rfl
        have g0:iG l i s (min s.length 39)=[some (.blk true (.cells true (nZ (jE l i))))]:=by rw[hm0];rfl
        have k1:(((min s.length 39:Nat):Int)<(s.length:Int))=False:=eq_false (by omega)
        generalize min s.length 39=m at *
        (sym=>(simp[aT,aU,bR,Za,Zb,Zf,Zh,Zl,Zm,Zp,Zs,Zu,Zw,Z0,ZD,ZJ,ZL,Yd,Yi,Ym,Yn,Yu,Yy,Yz,Wh,Vw,Vz,V4,V5,VF,VG,VQ,VU,U7,U8,UA,UI,UK,UN,UP,UQ,UW,UX,k1,xD,s0,g0,rl,sx,i1,i2,bl];all_goals tactic=>exact rfl))
       ·have s0:iS (min s.length 39) = .sl 1 0 1 (min s.length 39):=if_neg hm0
        have g0:iG l i s (min s.length 39)=[some (.blk true (.cells true (nZ (jE l i)))),some (.blk true (.cells true (aY (kY s (min s.length 39)))))]:=if_neg hm0
        rcases ptf (((min s.length 39:Nat):Int)<(s.length:Int))with k1|k1
        ·have k1':=of_eq_true k1
         have k2:(((min s.length 39:Nat):Int)<39)=False:=eq_false (by omega)
         generalize min s.length 39=m at *
         (sym=>(simp[aT,aU,bR,Za,Zb,Zf,Zh,Zl,Zm,Zp,Zq,Zu,Zw,Z0,ZD,ZJ,ZL,Yc,Yi,Ym,Yn,Yu,Yy,Yz,Wh,Vw,Vz,V4,V5,VF,VG,VQ,VT,VU,U7,U8,UA,UI,UK,UN,UP,UQ,UW,UX,k1,k2,s0,g0,rl,sx,i1,i2,bl];all_goals tactic=>exact rfl))
        ·generalize min s.length 39=m at *
         (sym=>(simp[aT,aU,bR,Za,Zb,Zf,Zh,Zl,Zm,Zp,Zs,Zu,Zw,Z0,ZD,ZJ,ZL,Yd,Yi,Ym,Yn,Yu,Yy,Yz,Wh,Vw,Vz,V4,V5,VF,VG,VQ,VU,U7,U8,UA,UI,UK,UN,UP,UQ,UW,UX,k1,s0,g0,rl,sx,i1,i2,bl];all_goals tactic=>exact rfl))
   ·rcases ptf (((min l.length 5:Nat):Int)<(l.length:Int))with k1|k1
    ·have k1':=of_eq_true k1
     have k2:(((min l.length 5:Nat):Int)<5)=False:=eq_false (by omega)
     generalize min l.length 5=m at *
     (sym=>(simp[aT,aU,bR,Za,Zb,Zf,Zh,Zl,Zm,Zp,Zq,Zu,Zw,Z0,ZJ,Yc,Yi,Yu,Vw,Vz,V4,V5,VT,VU,UI,UK,UN,UP,UQ,UW,UX,rl,k1,k2];all_goals tactic=>exact rfl))
    ·generalize min l.length 5=m at *
     (sym=>(simp[aT,aU,bR,Za,Zb,Zf,Zh,Zl,Zm,Zp,Zs,Zu,Zw,Z0,ZJ,Yd,Yi,Yu,Vw,Vz,V4,V5,VU,UI,UK,UN,UP,UQ,UW,UX,rl,k1];all_goals tactic=>exact rfl))
theorem q28 {vs:List AV} {h:XH} (hl:vs.length≤100):runW aL 28 vs h=eA none x28.res x28.ownR h.length (execW aL 28 h.length none x28.body (aW (if x28.ownA then vs else hZ vs)) h):=cV rfl hl h rfl
def qX (b:List Nat) (i c:Nat):Nat→List Nat
 | 0=>b
 | n+1=>(qX b i c n).set (i+n) c
def swp (b:List Nat) (i k:Nat):List Nat:=(b.set i (b.getD k 0)).set k (b.getD i 0)
def htL (b:List Nat) (row how at' other:Nat):List Nat :=
 if how%3=0 then b.set (row%(b.length/45)*45+at'%45) ((b.getD (row%(b.length/45)*45+at'%45) 0+(1+other%255))%256)
 else if how%3=1 then swp b (row%(b.length/45)*45+4+at'%40) (row%(b.length/45)*45+4+other%40)
 else qX b (row%(b.length/45)*45) (120+at'%2) 45
theorem hO (s:ByteArray):(bN s).length=s.size:=by
 unfold bN;rw[List.length_map,Array.length_toList];rfl
theorem aKo (s:ByteArray):s.data.toList.map (fun b=>AV.int .u8 (b.toNat:Int))=aY (bN s):=by
 unfold aY bN;rw[List.map_map];rfl
theorem w28 {s:ByteArray} {row how a o n:Nat} (hs:s.size=n*45) (hn:1≤n) (hn':n≤1000) (h1:row<256) (h2:how<256) (h3:a<256) (h4:o<256) :
 runW aL 28 [.str s,U row,U how,U a,U o] []=some (.tup [.str (oE (htL (bN s) row how a o)),.bool (!decide (oE (htL (bN s) row how a o)=s))],[]):=by
 rw[q28 (by simp)];unfold x28;dsimp only
 have d1:tdZ (s.size:Int) 45=((s.size/45:Nat):Int):=aER s.size 45
 have d2:tmZ (s.size:Int) 45=((s.size%45:Nat):Int):=fJ s.size 45
 have z1:s.size/45=n:=by omega
 have z2:s.size%45=0:=by omega
 rw[z1]at d1
 rw[z2]at d2
 have d3:IntKind.i64.wrap ((n:Nat):Int)=((n:Nat):Int):=aX (by omega) (by omega)
 have d4:((n:Int)=0)=False:=eq_false (by omega)
 have e1:IntKind.i64.wrap (row:Int)=(row:Int):=aX (by omega) (by omega)
 have e2:tmZ (row:Int) (n:Int)=((row%n:Nat):Int):=fJ row n
 have hr:=Nat.mod_lt row (show 0<n by omega)
 have e3:IntKind.i64.wrap (((row%n:Nat):Int)*45)=((row%n*45:Nat):Int):=by rw[aX (by omega) (by omega)];omega
 have e4:tmZ (how:Int) 3=((how%3:Nat):Int):=fJ how 3
 have br:=aKo s
 have bl:=hO s
 have hl0:(aY (bN s)).length=s.size:=by rw[aK,bl]
 have b1:(row%n+1)*45≤n*45:=Nat.mul_le_mul_right _ hr
 have bz:(bN s).length/45=n:=by omega
 have bb:=rI s
 have e5:IntKind.i64.wrap (a:Int)=(a:Int):=aX (by omega) (by omega)
 have e6:IntKind.i64.wrap (o:Int)=(o:Int):=aX (by omega) (by omega)
 have a2':=Nat.mod_lt a (show 0<2 by decide)
 have a45:=Nat.mod_lt a (show 0<45 by decide)
 have a40:=Nat.mod_lt a (show 0<40 by decide)
 have o40:=Nat.mod_lt o (show 0<40 by decide)
 have o255:=Nat.mod_lt o (show 0<255 by decide)
 have h45:row%n*45+45≤s.size:=by omega
 have n0:((0:Nat):Int)=0:=rfl
 generalize hfr:row%n*45=fr at *
 rcases ptf (how%3=0)with k0|k0
 ·have k0':=of_eq_true k0
  obtain⟨x,hx⟩:=dR (l:=bN s) (i:=fr+a%45) (by omega)
  have x256:=bb _ _ hx
  have hR0:htL (bN s) row how a o=(bN s).set (fr+a%45) ((x+(1+o%255))%256):=by
   unfold htL
   rw[if_pos k0',bz,hfr,List.getD_eq_getElem?_getD,hx,Option.getD_some]
  rw[hR0]
  have ux:=xB hx
  have us:=qP (l:=bN s) (i:=fr+a%45) (x:=(x+(1+o%255))%256) (by omega)
  have c0:(((how%3:Nat):Int)=0)=True:=eq_true (by omega)
  have c1:tmZ (a:Int) 45=((a%45:Nat):Int):=fJ a 45
  have c2:IntKind.i64.wrap (((fr:Nat):Int)+((a%45:Nat):Int))=((fr+a%45:Nat):Int):=by rw[aX (by omega) (by omega)];omega
  have c3:tmZ (o:Int) 255=((o%255:Nat):Int):=fJ o 255
  have c4:IntKind.u8.wrap (1+((o%255:Nat):Int))=((1+o%255:Nat):Int):=by
   simp[IntKind.wrap,IntKind.bits,IntKind.signed];omega
  have c5:IntKind.u8.wrap ((x:Int)+((1+o%255:Nat):Int))=(((x+(1+o%255))%256:Nat):Int):=by
   simp[IntKind.wrap,IntKind.bits,IntKind.signed]
  have i1:(((fr+a%45:Nat):Int)<(s.size:Int))=True:=eq_true (by omega)
  have i2:(fr+a%45+1≤s.size)=True:=eq_true (by omega)
  have i3:(fr+a%45<s.size)=True:=eq_true (by omega)
  have lR:((bN s).set (fr+a%45) ((x+(1+o%255))%256)).length=s.size:=by rw[List.length_set,bl]
  generalize (bN s).set (fr+a%45) ((x+(1+o%255))%256)=R at *
  have lR':(aY R).length=s.size:=by rw[aK,lR]
  have bu:=hJ (f:=R)
  have tk:List.take s.size (aY R)=aY R:=List.take_of_length_le (by rw[lR'];exact Nat.le_refl _)
  have td:List.take s.size (List.drop 0 (aY R))=aY R:=tk
  have gR:=bA R
  have nq:=gT (oE R) s
  have hR:(⟨⟨R.map UInt8.ofNat⟩⟩:ByteArray)=oE R:=rfl
  have one:(s.size*1≤s.size)=True:=eq_true (by omega)
  generalize (x+(1+o%255))%256=X at *
  generalize fr+a%45=P at *
  generalize 1+o%255=Z at *
  (sym=>(simp[aT,aU,bR,Za,Zb,Zc,Zf,Zh,Zi,Zl,Zm,Zo,Zp,Zr,Zu,Zw,Z0,ZA,ZD,ZJ,ZK,ZL,ZP,ZQ,Yd,Yg,Yk,Yl,Yp,Yr,Ys,Yt,Yy,Yz,Y6,YF,YG,YJ,YT,YZ,Xa,Xc,Xk,Xl,Xn,Xy,Xz,X0,XJ,XO,XY,XZ,Wa,Wb,Wg,Wo,Ws,Wu,Wv,Ww,WX,Vi,Vj,Vk,Vl,Vm,Vn,Vp,Vq,Vr,Vs,Vt,Vv,Vz,V0,V4,V7,V9,VB,VC,VE,VF,VG,VH,VJ,VM,VQ,VT,VU,VY,VZ,Ua,Ub,Uc,Ud,Ue,Uf,Ui,Uj,Uy,Uz,U5,U6,UA,UB,UC,UD,UI,UJ,UK,UL,UM,UO,UP,US,UW,UX,Tk,Tl,Tm,Tn,Tq,Tw,TM,TN,TO,c0,c1,c2,c3,c4,c5,e5,ux,us,i1,i2,i3,lR',bu,tk,td,gR,nq,hR,one,br,bl,hl0,d1,d2,d3,d4,e1,e2,e3,e4,bL,bJ,bI,bP];all_goals tactic=>exact rfl))
 ·have k0':=of_eq_false k0
  have c0:(((how%3:Nat):Int)=0)=False:=eq_false (by omega)
  rcases ptf (how%3=1)with k1|k1
  ·have k1':=of_eq_true k1
   have c1:(((how%3:Nat):Int)=1)=True:=eq_true (by omega)
   have hR0:htL (bN s) row how a o=swp (bN s) (fr+4+a%40) (fr+4+o%40):=by
    unfold htL
    rw[if_neg k0',if_pos k1',bz,hfr]
   rw[hR0]
   obtain⟨x,hx⟩:=dR (l:=bN s) (i:=fr+4+a%40) (by omega)
   obtain⟨y,hy⟩:=dR (l:=bN s) (i:=fr+4+o%40) (by omega)
   have ux:=xB hx
   have uy:=xB hy
   have sw:swp (bN s) (fr+4+a%40) (fr+4+o%40)=((bN s).set (fr+4+a%40) y).set (fr+4+o%40) x:=by
    unfold swp;rw[List.getD_eq_getElem?_getD,List.getD_eq_getElem?_getD,hx,hy];rfl
   rw[sw]
   have us:=qP (l:=bN s) (i:=fr+4+a%40) (x:=y) (by omega)
   have us2:=qP (l:=(bN s).set (fr+4+a%40) y) (i:=fr+4+o%40) (x:=x) (by rw[List.length_set];omega)
   have l1:=aK ((bN s).set (fr+4+a%40) y)
   rw[List.length_set,bl]at l1
   have c2:tmZ (a:Int) 40=((a%40:Nat):Int):=fJ a 40
   have c3:tmZ (o:Int) 40=((o%40:Nat):Int):=fJ o 40
   have c4:IntKind.i64.wrap (((fr:Nat):Int)+4)=((fr+4:Nat):Int):=by rw[aX (by omega) (by omega)];omega
   have c5:IntKind.i64.wrap (((fr+4:Nat):Int)+((a%40:Nat):Int))=((fr+4+a%40:Nat):Int):=by rw[aX (by omega) (by omega)];omega
   have c6:IntKind.i64.wrap (((fr+4:Nat):Int)+((o%40:Nat):Int))=((fr+4+o%40:Nat):Int):=by rw[aX (by omega) (by omega)];omega
   have i1:(((fr+4+a%40:Nat):Int)<(s.size:Int))=True:=eq_true (by omega)
   have i2:(fr+4+a%40+1≤s.size)=True:=eq_true (by omega)
   have i3:(fr+4+a%40<s.size)=True:=eq_true (by omega)
   have j1:(((fr+4+o%40:Nat):Int)<(s.size:Int))=True:=eq_true (by omega)
   have j2:(fr+4+o%40+1≤s.size)=True:=eq_true (by omega)
   have j3:(fr+4+o%40<s.size)=True:=eq_true (by omega)
   have sB:=lM (bN s)
   have lR:(((bN s).set (fr+4+a%40) y).set (fr+4+o%40) x).length=s.size:=by rw[List.length_set,List.length_set,bl]
   generalize ((bN s).set (fr+4+a%40) y).set (fr+4+o%40) x=R at *
   have sR:=lM R
   generalize (bN s).set (fr+4+a%40) y=R1 at *
   have sR1:=lM R1
   have lR':(aY R).length=s.size:=by rw[aK,lR]
   have bu:=hJ (f:=R)
   have tk:List.take s.size (aY R)=aY R:=List.take_of_length_le (by rw[lR'];exact Nat.le_refl _)
   have td:List.take s.size (List.drop 0 (aY R))=aY R:=tk
   have gR:=bA R
   have nq:=gT (oE R) s
   have hR:(⟨⟨R.map UInt8.ofNat⟩⟩:ByteArray)=oE R:=rfl
   have one:(s.size*1≤s.size)=True:=eq_true (by omega)
   generalize fr+4+a%40=P at *
   generalize fr+4+o%40=Q at *
   generalize fr+4=fr4 at *
   (sym=>(simp[aT,aU,bR,Za,Zb,Zc,Zf,Zh,Zi,Zl,Zm,Zo,Zp,Zr,Zu,Zw,Z0,ZA,ZD,ZJ,ZK,ZM,ZO,ZP,ZR,ZS,Yd,Yg,Yk,Yl,Yp,Yr,Ys,Yt,Yy,Yz,Y6,YF,YG,YJ,YT,YZ,Xa,Xc,Xk,Xl,Xn,Xy,Xz,X0,XJ,XO,XX,XY,XZ,Wa,Wb,Wg,Wo,Ws,Wu,Wv,Ww,WP,WX,Vi,Vj,Vk,Vl,Vm,Vn,Vp,Vq,Vr,Vs,Vt,Vv,Vz,V0,V4,V7,V9,VB,VC,VE,VF,VG,VH,VJ,VM,VN,VO,VQ,VT,VU,VV,VW,VY,VZ,Ua,Ub,Uc,Ud,Ue,Uf,Ui,Uj,Uy,Uz,U5,U6,UA,UB,UC,UD,UI,UJ,UK,UL,UM,UO,UP,US,UW,UX,Tk,Tl,Tm,Tn,Tq,Tv,Tw,TM,TN,TO,c0,c1,c2,c3,c4,c5,c6,e5,e6,ux,uy,us,us2,l1,i1,i2,i3,j1,j2,j3,sB,sR,sR1,lR',bu,tk,td,gR,nq,hR,one,br,bl,hl0,d1,d2,d3,d4,e1,e2,e3,e4,bL,bJ,bI,bP];all_goals tactic=>exact rfl))
  ·have k1':=of_eq_false k1
   have c1:(((how%3:Nat):Int)=1)=False:=eq_false (by omega)
   have hR0:htL (bN s) row how a o=qX (bN s) fr (120+a%2) 45:=by
    unfold htL
    rw[if_neg k0',if_neg k1',bz,hfr]
   rw[hR0]
   have c2:tmZ (a:Int) 2=((a%2:Nat):Int):=fJ a 2
   have c3:IntKind.u8.wrap (120+((a%2:Nat):Int))=((120+a%2:Nat):Int):=by
    simp[IntKind.wrap,IntKind.bits,IntKind.signed];omega
   generalize 120+a%2=c at *
   have lo:∀ j,(qX (bN s) fr c j).length=s.size:=by
    intro j
    induction j with
    | zero=>exact bl
    | succ j ih=>rw[qX,List.length_set,ih]
   sym =>
    simp[aT,aU,bR,Za,Zb,Zf,Zh,Zl,Zm,Zo,Zp,Zr,Zu,Zw,Z0,ZA,ZJ,ZK,Yd,Yg,Yk,Yr,Ys,Yt,Y6,Xy,X0,Wg,Vv,Vz,V4,V7,VB,VG,VM,VT,VU,Ui,Uj,UD,UI,UK,UM,UO,UP,UW,UX,Tk,Tl,d1,d2,d3,d4,e1,e2,e3,e4,br,c0,c1]
    tactic =>
     unfold aIl
     rw[cN 45 (fun j=>[.str s,U a,.sl 0 0 1 s.size,I (fr:Nat),I (j:Nat)]) (fun j=>[some (.blk true (.cells true (aY (qX (bN s) fr c j))))])]
     ·have e0:((45:Int)<45)=False:=eq_false (by omega)
      have lR:=lo 45
      generalize qX (bN s) fr c 45=R at *
      have sR:=lM R
      have lR':(aY R).length=s.size:=by rw[aK,lR]
      have bu:=hJ (f:=R)
      have tk:List.take s.size (aY R)=aY R:=List.take_of_length_le (by rw[lR'];exact Nat.le_refl _)
      have td:List.take s.size (List.drop 0 (aY R))=aY R:=tk
      have gR:=bA R
      have nq:=gT (oE R) s
      have hR:(⟨⟨R.map UInt8.ofNat⟩⟩:ByteArray)=oE R:=rfl
      have one:(s.size*1≤s.size)=True:=eq_true (by omega)
      (sym=>(simp[aT,aU,bR,Za,Zb,Zf,Zh,Zi,Zl,Zm,Zu,Z0,Yu,YF,YG,YJ,YZ,Xa,Xc,Xk,Xl,Xn,Xz,X0,XJ,XY,XZ,Wa,Wo,Ws,Wu,Wv,Ww,WX,Vi,Vj,Vk,Vl,Vm,Vn,Vp,Vq,Vr,Vs,Vt,Vw,Vz,V4,V9,VC,VE,VH,VQ,VU,VY,VZ,Ua,Ub,Ue,Uf,Ui,Uj,Uy,Uz,UI,UJ,UK,UL,UN,UP,UQ,US,UU,UW,UX,Tm,Tn,Tq,Tw,T1,TM,TN,TO,e0,sR,lR',bu,tk,td,gR,nq,hR,one,br,bl,hl0,d1,d2,d3,d4,e1,e2,e3,e4,bL,bJ,bI,bP];all_goals tactic=>exact rfl))
     ·have o0:qX (bN s) fr c 0=bN s:=rfl
      (sym=>(simp[aT,aU,bR,Za,Y6,YE,YG,YL,YY,Xa,Xe,XY,Wg,Wi,Wl,Wm,Wo,Wp,Wq,Ws,Wu,Wv,Ww,Wx,WE,WF,WJ,Vv,Vx,Vy,V8,V9,VB,VC,VE,VH,VS,VY,VZ,Ua,Ub,UV,Tp,o0,hl0,bL,bJ,bI,bP];all_goals tactic=>exact rfl))
     ·intro j hj
      have i1:((j:Int)<45)=True:=eq_true (by omega)
      have b2:=iA (n:=45) (i:=j) (by omega) (by omega)
      have c4:IntKind.i64.wrap (((fr:Nat):Int)+(j:Int))=((fr+j:Nat):Int):=by rw[aX (by omega) (by omega)];omega
      have i2:(((fr+j:Nat):Int)<(s.size:Int))=True:=eq_true (by omega)
      have i3:(fr+j+1≤s.size)=True:=eq_true (by omega)
      have i4:(fr+j<s.size)=True:=eq_true (by omega)
      have us:=qP (l:=qX (bN s) fr c j) (i:=fr+j) (x:=c) (by rw[lo];omega)
      have ho:(qX (bN s) fr c j).set (fr+j) c=qX (bN s) fr c (j+1):=rfl
      rw[ho]at us
      have l1:=aK (qX (bN s) fr c j)
      rw[lo]at l1
      generalize qX (bN s) fr c (j+1)=O1 at *
      generalize qX (bN s) fr c j=O0 at *
      (sym=>(simp[aT,aU,bR,Za,Zb,Zc,Zf,Zh,Zl,Zm,Zu,Z0,ZD,ZP,ZQ,Yl,Yp,Yu,Yy,Yz,YE,YG,YL,YT,YY,Xa,Xe,XO,XY,Wb,Wi,Wl,Wm,Wo,Wp,Wq,Ws,Wu,Wv,Ww,Wx,WE,WF,WJ,Vw,Vx,Vy,Vz,V0,V8,V9,VB,VC,VE,VF,VG,VH,VJ,VQ,VS,VT,VU,VY,VZ,Ua,Ub,Uc,Ud,UB,UC,UI,UK,UM,UO,UP,US,UV,UW,UX,Tm,Tn,Tp,i1,b2,c2,c3,c4,i2,i3,i4,us,l1,bL,bJ,bI,bP];all_goals tactic=>exact rfl))
     ·have e0:((45:Int)<45)=False:=eq_false (by omega)
      (sym=>(simp[aT,aU,bR,Za,Zb,Zf,Zh,Zl,Zm,Zu,Z0,Yu,Vw,Vz,V4,V5,VU,UI,UK,UN,UP,UQ,UW,UX,T1,e0];all_goals tactic=>exact rfl))
end Go.Proofs.YtmapgnepfgnphaaGreatDoor
namespace Go.Proofs.YtmapgnepfgnphaaGreatDoor
open Go Go.DL
theorem aGD (a b:ByteArray):bN (a++b)=bN a++bN b:=by
 unfold bN
 rw[ByteArray.data_append,Array.toList_append,List.map_append]
theorem wG {l:List Nat} (h:lI l):bN (oE l)=l:=by
 unfold bN oE
 rw[List.map_map]
 apply List.ext_getElem?
 intro i
 rw[List.getElem?_map]
 cases hx:l[i]? with
 | none=>rfl
 | some x =>
   have:=h i x hx
   simp only[Option.map_some,Function.comp]
   rw[UInt8.toNat_ofNat',Nat.mod_eq_of_lt this]
theorem uW (s:ByteArray):oE (bN s)=s:=by
 unfold bN oE
 rw[List.map_map]
 cases s with
 | mk d =>
   cases d with
   | mk l =>
     congr 2
     conv=>rhs;rw[←List.map_id l]
     apply List.map_congr_left
     intro b _
     simp
theorem aCD (s:ByteArray) (a b:Nat):bN (qJ s a b)=((bN s).drop a).take (b-a):=by
 unfold bN qJ
 simp only[List.map_take,List.map_drop]
def lO (b:List Nat) (i:Nat):List Nat:=(b.drop (i*45)).take 45
def qO (r:List Nat):List Nat:=(r.drop 4).take 40
def pW (f:List Nat):Bool:=f.all fun x=>decide (32≤x)&&decide (x≤126)
def sH (n:Nat) (r:List Nat):Bool:=pW (qO r)&&decide (r=cM n (qO r))
theorem aIs (s:ByteArray) (i:Nat):bN (wO s i)=lO (bN s) i:=by
 unfold wO lO
 rw[aCD]
 congr 1;omega
theorem sM:∀ l:List UInt8,iN l = !pW (l.map UInt8.toNat)
 | []=>rfl
 | x::l=>by
   have ih:=sM l
   show (decide (x.toNat<32)||(decide (126<x.toNat)||iN l)) = !((decide (32≤x.toNat)&&decide (x.toNat≤126))&&pW (l.map UInt8.toNat))
   rw[ih,Bool.not_and,Bool.not_and,←decide_not,←decide_not]
   simp only[Nat.not_le,Bool.or_assoc]
theorem aHw {l:List Nat} (h:l.length=40):bT l=l:=by
 unfold bT
 rw[List.take_of_length_le (by omega),h];simp
theorem aIv {s:ByteArray} (h:s.size=45):rdF s=qO (bN s):=by
 unfold rdF txB qO
 rw[aCD,aHw]
 simp[hO,h]
theorem uB {n:Nat} {f:List Nat} (h:lI f):lI (cM n f):=by
 intro i x hx
 unfold cM at hx
 have hm:=List.mem_of_getElem? hx
 have hc:oH n f<9973:=Nat.mod_lt _ (by decide)
 simp only[fH,List.mem_append,List.mem_cons,List.not_mem_nil,or_false]at hm
 rcases hm with (h1|h1|h1|h1)|h1|h1
 ·omega
 ·omega
 ·omega
 ·omega
 ·obtain⟨j,hj⟩:=List.getElem?_of_mem h1
  exact h j x hj
 ·omega
theorem aHQ {r:List Nat} (h:lI r):lI (qO r):=by
 intro i x hx
 unfold qO at hx
 rw[List.getElem?_take]at hx
 split at hx
 ·rw[List.getElem?_drop]at hx;exact h _ _ hx
 ·cases hx
theorem aBE (a b:ByteArray):(a.toList==b.toList)=decide (bN a=bN b):=by
 rw[xC,xC]
 by_cases h:bN a=bN b
 ·have:a=b:=by rw[←uW a,←uW b,h]
  subst this;simp
 ·have:¬a.data.toList=b.data.toList:=fun hh=>h (by unfold bN;rw[hh])
  rw[decide_eq_false h]
  exact beq_eq_false_iff_ne.2 this
theorem aHK {s:ByteArray} {n:Nat} (h:s.size=45):yK s n=sH n (bN s):=by
 unfold yK sH
 have e1:bN (txB s)=qO (bN s):=by unfold txB qO;rw[aCD]
 have e2:(txB s).data.toList.map UInt8.toNat=qO (bN s):=e1
 rw[sM,e2,Bool.not_not,aBE,aIv h,wG (uB (aHQ (rI s)))]
 congr 1
 exact decide_eq_decide.2 ⟨fun h=>h.symm,fun h=>h.symm⟩
theorem aGj {s:ByteArray} {n i:Nat} (h:(i+1)*45≤s.size):gdS s n i=sH (n+i) (lO (bN s) i):=by
 unfold gdS
 rw[aHK (tV h),aIs]
theorem aDt {C D:List Nat} {n k:Nat} (hC:C.length=n*40) (hk:k<n):cQ (C++D) k=cQ C k:=by
 have:(k+1)*40≤n*40:=Nat.mul_le_mul_right _ hk
 unfold cQ
 rw[List.drop_append_of_le_length (by omega),List.take_append_of_le_length (by simp;omega)]
theorem aBk {C f:List Nat} {n:Nat} (hC:C.length=n*40) (hf:f.length=40):cQ (C++f) n=f:=by
 unfold cQ
 rw[List.drop_append,List.drop_eq_nil_of_le (by omega),hC,Nat.sub_self,List.nil_append,List.drop_zero,List.take_of_length_le (by omega)]
theorem aGM {s:ByteArray}:∀ {n k:Nat},k<n→n*45≤s.size→cQ (gE s n) k=qO (lO (bN s) k)
 | 0,_,h,_=>absurd h (by omega)
 | n+1,k,h,hs=>by
   rw[gE]
   by_cases hk:k<n
   ·rw[aDt (kU s n) hk]
    exact aGM hk (by omega)
   ·have:k=n:=by omega
    subst this
    rw[aBk (kU s k) (zU _),aIv (tV hs),aIs]
theorem aBv {s:ByteArray} {n:Nat}:∀ {k:Nat},(∀ i,i<k→gdS s n i=true)→qN s n k=0∧sK s n k = -1
 | 0,_=>⟨rfl,rfl⟩
 | k+1,h=>by
   obtain⟨h1,h2⟩:=aBv (k:=k) fun i hi=>h i (by omega)
   have hk:=h k (by omega)
   rw[qN,sK,hk]
   exact⟨h1,h2⟩
theorem aDF {s:ByteArray} {n r:Nat} (hr:gdS s n r=false):∀ {k:Nat},(∀ i,i<k→i≠r→gdS s n i=true)→qN s n k=(if r<k then 1 else 0)∧sK s n k=(if r<k then (r:Int) else -1)
 | 0,_=>⟨rfl,rfl⟩
 | k+1,h=>by
   obtain⟨h1,h2⟩:=aDF hr (k:=k) fun i hi=>h i (by omega)
   rw[qN,sK]
   by_cases hk:k=r
   ·subst hk
    rw[hr,h1]
    simp
   ·rw[h k (by omega) hk]
    have e1:(r<k+1)=(r<k):=by apply propext;omega
    simp only[e1,if_true]
    exact⟨h1,h2⟩
def wX (C:List Nat) (j:Nat):Nat→Nat
 | 0=>0
 | k+1=>wX C j k+dN ((cQ C k).getD j 0)
theorem aCz {y:Nat} (h:y<95):dN (32+y)=y:=by unfold dN;omega
theorem uP {t:Nat}:∀ {f o:List Nat} {j x y:Nat},f[j]?=some x→o[j]?=some y→(cL t f o)[j]?=some (pv t x y)
 | [],_,_,_,_,h,_=>by simp at h
 | _::_,[],_,_,_,_,h=>by simp at h
 | a::f,b::o,0,x,y,h1,h2=>by
   simp only[List.getElem?_cons_zero,oSI]at h1 h2
   subst h1 h2;rfl
 | a::f,b::o,j+1,x,y,h1,h2=>by
   simp only[List.getElem?_cons_succ]at h1 h2
   rw[cL,List.getElem?_cons_succ]
   exact uP h1 h2
theorem qI {l:List Nat} {j:Nat} (h:j<l.length):l[j]?=some (l.getD j 0):=by
 rw[List.getD_eq_getElem?_getD,List.getElem?_eq_getElem h];rfl
theorem zJ {C:List Nat} {n j:Nat} (hC:n*40≤C.length) (hj:j<40):∀ {k},k≤n→(cP C k)[j]?=some (32+wX C j k%95)
 | 0,_=>by
   have:cP C 0=List.replicate 40 32:=rfl
   rw[this,List.getElem?_replicate,if_pos hj];rfl
 | k+1,hk=>by
   have ih:=zJ hC hj (k:=k) (by omega)
   have hf:=qI (l:=cQ C k) (j:=j) (by rw[kK hC (by omega)];exact hj)
   rw[cP,uP ih hf]
   unfold pv
   rw[wX,aCz (Nat.mod_lt _ (by decide))]
   congr 2;omega
theorem yU {C D:List Nat} {j r:Nat} (hj:j<40) (hr:cQ D r=bT []):∀ {k},(∀ i,i<k→i≠r→cQ C i=cQ D i)→wX C j k=wX D j k+(if r<k then dN ((cQ C r).getD j 0) else 0)
 | 0,_=>rfl
 | k+1,h=>by
   rw[wX,wX,yU hj hr fun i hi=>h i (by omega)]
   by_cases hk:k=r
   ·subst hk
    rw[if_neg (by omega),if_pos (by omega),hr]
    have:(bT []).getD j 0=32:=by
     have e:bT []=List.replicate 40 32:=rfl
     rw[e,List.getD_eq_getElem?_getD,List.getElem?_replicate,if_pos hj];rfl
    rw[this]
    have c0:dN 32=0:=rfl
    omega
   ·rw[h k (by omega) hk]
    by_cases hrk:r<k
    ·rw[if_pos hrk,if_pos (by omega)];omega
    ·rw[if_neg hrk,if_neg (by omega)];omega
theorem qK {v x:Nat}:∀ {f:List Nat} {i:Nat} (k:Nat),f[i]?=some x→lE k (f.set i v)+(k+i+1)*dN x=lE k f+(k+i+1)*dN v
 | [],_,_,h=>by simp at h
 | a::f,0,k,h=>by
   simp only[List.getElem?_cons_zero,oSI]at h
   subst h
   simp only[List.set_cons_zero,lE,Nat.add_zero]
   omega
 | a::f,i+1,k,h=>by
   simp only[List.getElem?_cons_succ]at h
   have ih:=qK (v:=v) (k+1) h
   simp only[List.set_cons_succ,lE]
   rw[show k+1+i+1=k+(i+1)+1 by omega]at ih
   omega
theorem aGx {n p q:Nat} {f g:List Nat} (h:lE 0 g+p=lE 0 f+q) (hne:p≠q) (hp:p≤9000) (hq:q≤9000):oH n g≠oH n f:=by
 unfold oH;omega
theorem aGs {a b:Nat} (ha:a<10000) (hb:b<10000) (h:fH a=fH b):a=b:=by
 unfold fH at h
 simp only[List.cons.injEq,and_true]at h
 omega
theorem aGy (n:Nat) (f:List Nat):oH n f<9973:=Nat.mod_lt _ (by decide)
theorem oM {f:List Nat} (h:pW f=true) {i x:Nat} (hx:f[i]?=some x):32≤x∧x≤126:=by
 have:=List.all_eq_true.1 h x (List.mem_of_getElem? hx)
 simpa using this
theorem vW {x:Nat} (h:32≤x∧x≤126):dN x=x-32:=by unfold dN;omega
theorem aHs {f:List Nat} (h:pW f=true):lI f:=fun i x hx=>by
 have:=oM h hx;omega
theorem gW {n:Nat} {f:List Nat} (h:f.length=40):(cM n f).length=45:=by simp[cM,fH,h]
theorem nG {n:Nat} {f:List Nat} (h:f.length=40):qO (cM n f)=f:=by
 unfold qO cM
 rw[List.drop_append_of_le_length (by simp[fH])]
 have:List.drop 4 (fH (oH n f))=[]:=rfl
 rw[this,List.nil_append,List.take_append_of_le_length (by omega),List.take_of_length_le (by omega)]
theorem zP {n:Nat} {f:List Nat}:(cM n f).take 4=fH (oH n f):=rfl
theorem zQ {n:Nat} {f:List Nat} (h:f.length=40):(cM n f)[44]?=some 10:=by
 unfold cM
 rw[List.getElem?_append_right (by simp[fH]),List.getElem?_append_right (by simp[fH,h])]
 simp[fH,h]
theorem nH {n j:Nat} {f:List Nat} (h:f.length=40) (hj:j<40):(cM n f)[4+j]?=f[j]?:=by
 unfold cM
 rw[List.getElem?_append_right (by simp[fH]),List.getElem?_append_left (by simp[fH];omega)]
 simp[fH]
theorem nL {n:Nat} {r:List Nat} (h:pW (qO r)=true→r≠cM n (qO r)):sH n r=false:=by
 unfold sH
 cases hp:pW (qO r)with
 | false=>rfl
 | true=>rw[decide_eq_false (h hp)];rfl
theorem aFJ {n:Nat} {f:List Nat} (h:f.length=40) (hp:pW f=true):sH n (cM n f)=true:=by
 unfold sH
 rw[nG h,hp,decide_eq_true rfl];rfl
theorem aCn {r:List Nat} {j v:Nat}:qO (r.set (4+j) v)=(qO r).set j v:=by
 unfold qO
 rw[List.drop_set,if_neg (by omega),List.take_set,Nat.add_sub_cancel_left]
theorem aEp {r:List Nat} {j v:Nat} (hj:j<4):qO (r.set j v)=qO r:=by
 unfold qO
 rw[List.drop_set,if_pos hj]
theorem aEq {r:List Nat} {j v:Nat} (hj:44≤j):qO (r.set j v)=qO r:=by
 unfold qO
 rw[List.drop_set,if_neg (by omega),List.take_set,List.set_eq_of_length_le (by simp;omega)]
theorem aBF {r:List Nat} {j v:Nat}:(r.set (4+j) v).take 4=r.take 4:=by
 rw[List.take_set,List.set_eq_of_length_le (by simp;omega)]
theorem pL {l:List Nat} {j x:Nat} (h:l[j]?=some x):l.set j x=l:=by
 obtain⟨h1,h2⟩:=List.getElem?_eq_some_iff.1 h
 rw[←h2]
 exact List.set_getElem_self h1
theorem aDb {n:Nat} {f g:List Nat} {r:List Nat} (ht:r.take 4=fH (oH n f)) (hf:qO r=g) (hc:pW g=true→oH n g≠oH n f):sH n r=false:=by
 refine nL fun hp hr=>?_
 rw[hf]at hp hr
 have h1:(cM n g).take 4=fH (oH n g):=zP
 rw[←hr,ht]at h1
 have l1:=aGy n f
 have l2:=aGy n g
 exact hc hp (aGs (by omega) (by omega) h1.symm)
theorem aHk {n j v x:Nat} {f:List Nat} (hf:f.length=40) (hp:pW f=true) (hj:j<45) (hx:(cM n f)[j]?=some x) (hv:v≠x):sH n ((cM n f).set j v)=false:=by
 by_cases h1:j<4
 ·refine nL fun _ hr=>?_
  rw[aEp h1,nG hf]at hr
  have:=congrArg (fun l=>l[j]?) hr
  simp only[List.getElem?_set_self' ,hx]at this
  simp at this
  exact hv this
 ·by_cases h2:j<44
  ·obtain⟨i,rfl⟩:∃ i,j=4+i:=⟨j-4,by omega⟩
   rw[nH hf (by omega)]at hx
   refine aDb (f:=f) (g:=f.set i v) (by rw[aBF];exact zP) (by rw[aCn,nG hf]) fun hg=>?_
   have px:=vW (oM hp hx)
   have hi:i<f.length:=(List.getElem?_eq_some_iff.1 hx).1
   have hvp:=oM hg (show (f.set i v)[i]?=some v by rw[List.getElem?_set_self hi])
   have pv:=vW hvp
   have rx:=oM hp hx
   have hs:=qK (v:=v) 0 hx
   have m1:(0+i+1)*dN x≤40*94:=Nat.mul_le_mul (by omega) (by omega)
   have m2:(0+i+1)*dN v≤40*94:=Nat.mul_le_mul (by omega) (by omega)
   refine aGx hs (fun hh=>?_) (by omega) (by omega)
   have:=Nat.eq_of_mul_eq_mul_left (by omega) hh
   omega
  ·have h3:j=44:=by omega
   subst h3
   rw[zQ hf]at hx
   refine nL fun _ hr=>?_
   rw[aEq (by omega),nG hf]at hr
   have:=congrArg (fun l=>l[44]?) hr
   simp only[List.getElem?_set_self',zQ hf]at this
   simp at this
   simp only[oSI]at hx
   omega
theorem aGV {n i k:Nat} {f:List Nat} (hf:f.length=40) (hp:pW f=true) (hi:i<40) (hk:k<40) (hne:swp (cM n f) (4+i) (4+k)≠cM n f):sH n (swp (cM n f) (4+i) (4+k))=false:=by
 have hx:=qI (l:=f) (j:=i) (by omega)
 have hy:=qI (l:=f) (j:=k) (by omega)
 generalize f.getD i 0=x at *
 generalize f.getD k 0=y at *
 have sw:swp (cM n f) (4+i) (4+k)=((cM n f).set (4+i) y).set (4+k) x:=by
  unfold swp
  rw[List.getD_eq_getElem?_getD,List.getD_eq_getElem?_getD,nH hf hi,nH hf hk,hx,hy];rfl
 rw[sw]at hne ⊢
 refine aDb (f:=f) (g:=(f.set i y).set k x) (by rw[aBF,aBF];exact zP) (by rw[aCn,aCn,nG hf]) fun _=>?_
 have hik:i≠k:=by
  rintro rfl
  rw[hx]at hy
  simp only[oSI]at hy
  subst hy
  apply hne
  have hr:(cM n f)[4+i]?=some x:=by rw[nH hf hi];exact hx
  rw[List.set_set]
  exact pL hr
 have hxy:x≠y:=by
  rintro rfl
  apply hne
  have hr:(cM n f)[4+i]?=some x:=by rw[nH hf hi];exact hx
  have hr2:(cM n f)[4+k]?=some x:=by rw[nH hf hk];exact hy
  rw[pL hr,pL hr2]
 have rx:=oM hp hx
 have ry:=oM hp hy
 have px:=vW rx
 have py:=vW ry
 have s1:=qK (v:=y) 0 hx
 have hy':(f.set i y)[k]?=some y:=by rw[List.getElem?_set_ne hik];exact hy
 have s2:=qK (v:=x) 0 hy'
 have m1:(0+i+1)*dN x≤40*94:=Nat.mul_le_mul (by omega) (by omega)
 have m2:(0+i+1)*dN y≤40*94:=Nat.mul_le_mul (by omega) (by omega)
 have m3:(0+k+1)*dN x≤40*94:=Nat.mul_le_mul (by omega) (by omega)
 have m4:(0+k+1)*dN y≤40*94:=Nat.mul_le_mul (by omega) (by omega)
 refine aGx (p:=(0+i+1)*dN x+(0+k+1)*dN y) (q:=(0+i+1)*dN y+(0+k+1)*dN x) (by omega) (fun hh=>?_) (by omega) (by omega)
 have hz:((i:Int)-(k:Int))*((dN x:Int)-(dN y:Int))≠0:=Int.mul_ne_zero (by omega) (by omega)
 apply hz
 have hh':((0+i+1:Nat):Int)*(dN x:Int)+((0+k+1:Nat):Int)*(dN y:Int)=((0+i+1:Nat):Int)*(dN y:Int)+((0+k+1:Nat):Int)*(dN x:Int):=by
  rw[←Int.natCast_mul,←Int.natCast_mul,←Int.natCast_mul,←Int.natCast_mul,←Int.natCast_add,←Int.natCast_add,hh]
 have e1:((0+i+1:Nat):Int)=(i:Int)+1:=by omega
 have e2:((0+k+1:Nat):Int)=(k:Int)+1:=by omega
 rw[e1,e2,Int.add_mul,Int.add_mul,Int.add_mul,Int.add_mul]at hh'
 rw[Int.sub_mul,Int.mul_sub,Int.mul_sub]
 omega
def htR (b:List Nat) (how a o:Nat):List Nat :=
 if how%3=0 then b.set (a%45) ((b.getD (a%45) 0+(1+o%255))%256)
 else if how%3=1 then swp b (4+a%40) (4+o%40)
 else qX b 0 (120+a%2) 45
theorem sU (b:List Nat) (i c:Nat):∀ n,(qX b i c n).length=b.length
 | 0=>rfl
 | n+1=>by rw[qX,List.length_set,sU b i c n]
theorem aJz {b:List Nat} {c:Nat} (hb:b.length=45):(qX b 0 c 45)[44]?=some c:=by
 rw[qX]
 exact List.getElem?_set_self (by rw[sU,hb];omega)
theorem aHu {n c:Nat} {f:List Nat} (hf:f.length=40) (hc:c≠10):sH n (qX (cM n f) 0 c 45)=false:=by
 refine nL fun _ hr=>?_
 have h1:=aJz (b:=cM n f) (c:=c) (gW hf)
 have lr:(qX (cM n f) 0 c 45).length=45:=by rw[sU,gW hf]
 have lf:(qO (qX (cM n f) 0 c 45)).length=40:=by simp[qO,lr]
 rw[hr,zQ lf]at h1
 simp only[oSI]at h1
 omega
theorem aHI {n how a o:Nat} {f:List Nat} (hf:f.length=40) (hp:pW f=true) (hne:htR (cM n f) how a o≠cM n f):sH n (htR (cM n f) how a o)=false:=by
 unfold htR at hne ⊢
 have a45:=Nat.mod_lt a (show 0<45 by decide)
 have a40:=Nat.mod_lt a (show 0<40 by decide)
 have o40:=Nat.mod_lt o (show 0<40 by decide)
 split
 ·rename_i h0
  rw[if_pos h0]at hne
  have hx:=qI (l:=cM n f) (j:=a%45) (by rw[gW hf];exact a45)
  generalize (cM n f).getD (a%45) 0=x at *
  refine aHk hf hp a45 hx fun hv=>hne ?_
  rw[hv]
  exact pL hx
 ·rename_i h0
  rw[if_neg h0]at hne
  split
  ·rename_i h1
   rw[if_pos h1]at hne
   exact aGV hf hp a40 o40 hne
  ·exact aHu hf (by omega)
theorem aBM {b:List Nat} {r j:Nat} (hj:j<45):(lO b r)[j]?=b[r*45+j]?:=by
 unfold lO
 rw[List.getElem?_take,if_pos hj,List.getElem?_drop]
theorem tW {b:List Nat} {r j:Nat} (hj:j<45):b.getD (r*45+j) 0=(lO b r).getD j 0:=by
 rw[List.getD_eq_getElem?_getD,List.getD_eq_getElem?_getD,aBM hj]
theorem pO {b:List Nat} {r j v:Nat} (hj:j<45) (i:Nat):lO (b.set (r*45+j) v) i=if i=r then (lO b r).set j v else lO b i:=by
 unfold lO
 rw[List.drop_set]
 by_cases h1:i=r
 ·subst h1
  rw[if_neg (by omega),if_pos rfl,List.take_set,Nat.add_sub_cancel_left]
 ·rw[if_neg h1]
  by_cases h2:r<i
  ·have:(r+1)*45≤i*45:=Nat.mul_le_mul_right _ h2
   rw[if_pos (by omega)]
  ·have:(i+1)*45≤r*45:=Nat.mul_le_mul_right _ (by omega)
   rw[if_neg (by omega),List.take_set,List.set_eq_of_length_le (by rw[List.length_take];omega)]
theorem aHl {b:List Nat} {r x y:Nat} (hx:x<45) (hy:y<45) (i:Nat):lO (swp b (r*45+x) (r*45+y)) i=if i=r then swp (lO b r) x y else lO b i:=by
 unfold swp
 rw[pO hy,pO hx,pO hx,tW hx,tW hy]
 by_cases h:i=r
 ·rw[if_pos h,if_pos rfl,if_pos h]
 ·rw[if_neg h,if_neg h,if_neg h]
theorem zM {b:List Nat} {r c:Nat} (i:Nat):∀ n,n≤45→lO (qX b (r*45) c n) i=if i=r then qX (lO b r) 0 c n else lO b i
 | 0,_=>by
   by_cases h:i=r
   ·subst h;rw[if_pos rfl];rfl
   ·rw[if_neg h];rfl
 | n+1,hn=>by
   rw[qX,pO (by omega),zM i n (by omega),zM r n (by omega),if_pos rfl]
   by_cases h:i=r
   ·rw[if_pos h,if_pos h,qX,Nat.zero_add]
   ·rw[if_neg h,if_neg h,if_neg h]
theorem aJr {b:List Nat} {m row how a o:Nat} (hb:b.length=m*45) (i:Nat):lO (htL b row how a o) i=if i=row%m then htR (lO b (row%m)) how a o else lO b i:=by
 have hm:b.length/45=m:=by omega
 have a45:=Nat.mod_lt a (show 0<45 by decide)
 have a40:=Nat.mod_lt a (show 0<40 by decide)
 have o40:=Nat.mod_lt o (show 0<40 by decide)
 unfold htL htR
 rw[hm]
 by_cases h0:how%3=0
 ·rw[if_pos h0,if_pos h0,pO a45,tW a45]
 ·rw[if_neg h0,if_neg h0]
  by_cases h1:how%3=1
  ·rw[if_pos h1,if_pos h1,Nat.add_assoc,Nat.add_assoc,aHl (by omega) (by omega)]
  ·rw[if_neg h1,if_neg h1,zM i 45 (by omega)]
theorem aFo {x y:List Nat} {m:Nat} (hx:x.length=m*45) (hy:y.length=m*45) (h:∀ i,i<m→lO x i=lO y i):x=y:=by
 apply List.ext_getElem?
 intro k
 by_cases hk:k<m*45
 ·have h1:=h (k/45) (by omega)
  have h2:k%45<45:=Nat.mod_lt _ (by decide)
  have h3:k/45*45+k%45=k:=by omega
  rw[←h3,←aBM h2,←aBM h2,h1]
 ·rw[List.getElem?_eq_none (by omega),List.getElem?_eq_none (by omega)]
theorem aJP {b:List Nat} {row how a o:Nat}:(htL b row how a o).length=b.length:=by
 unfold htL
 split
 ·rw[List.length_set]
 ·split
  ·unfold swp;rw[List.length_set,List.length_set]
  ·rw[sU]
theorem sQ {b:List Nat} {i v:Nat} (hb:lI b) (hv:v<256):lI (b.set i v):=by
 intro j x hx
 rw[List.getElem?_set]at hx
 split at hx
 ·split at hx
  ·simp only[oSI]at hx;omega
  ·cases hx
 ·exact hb j x hx
theorem aBd {b:List Nat} (hb:lI b) (i:Nat):b.getD i 0<256:=by
 rw[List.getD_eq_getElem?_getD]
 cases hx:b[i]? with
 | none=>exact(by decide:(0:Nat)<256)
 | some x=>exact hb i x hx
theorem aCZ {b:List Nat} {i c:Nat} (hb:lI b) (hc:c<256):∀ n,lI (qX b i c n)
 | 0=>hb
 | n+1=>sQ (aCZ hb hc n) hc
theorem aJQ {b:List Nat} {row how a o:Nat} (hb:lI b):lI (htL b row how a o):=by
 unfold htL
 split
 ·exact sQ hb (Nat.mod_lt _ (by decide))
 ·split
  ·exact sQ (sQ hb (aBd hb _)) (aBd hb _)
  ·exact aCZ hb (by omega) _
def pgL:Nat→List (List Nat)→List Nat
 | _,[]=>[]
 | n,f::F=>cM n f++pgL (n+1) F
theorem aHt {F:List (List Nat)} (h:∀ f∈F,f.length=40) (n:Nat):(pgL n F).length=F.length*45:=by
 induction F generalizing n with
 | nil=>rfl
 | cons f F ih =>
   rw[pgL,List.length_append,gW (h f (by simp)),ih (fun g hg=>h g (by simp[hg])),List.length_cons]
   omega
theorem aJx {F:List (List Nat)} (h:∀ f∈F,f.length=40) {n i:Nat} {f:List Nat} (hi:F[i]?=some f):lO (pgL n F) i=cM (n+i) f:=by
 induction F generalizing n i with
 | nil=>simp at hi
 | cons g F ih =>
   have lg:=gW (n:=n) (h g (by simp))
   cases i with
   | zero =>
     simp only[List.getElem?_cons_zero,oSI]at hi
     subst hi
     unfold lO
     rw[pgL,Nat.zero_mul,List.drop_zero,List.take_append_of_le_length (by omega),List.take_of_length_le (by omega),Nat.add_zero]
   | succ i =>
     simp only[List.getElem?_cons_succ]at hi
     have:=ih (fun g hg=>h g (by simp[hg])) (n:=n+1) hi
     unfold lO at this ⊢
     rw[pgL,List.drop_append,List.drop_eq_nil_of_le (by omega),List.nil_append,lg,show (i+1)*45-45=i*45 by omega,this]
     congr 1;omega
theorem uR {f:List Nat}:∀ {F:List (List Nat)} {n:Nat},pgL n (F++[f])=pgL n F++cM (n+F.length) f
 | [],n=>by simp[pgL]
 | g::F,n=>by
   rw[List.cons_append,pgL,uR,pgL,List.append_assoc,List.length_cons]
   congr 3;omega
theorem aIL {ls:List ByteArray} {row:Nat}:∀ {i},i≤ls.length→bN (Bn ls row i)=pgL row ((ls.take i).map oP)
 | 0,_=>rfl
 | i+1,h=>by
   obtain⟨s,hs⟩:=dR (l:=ls) (i:=i) (by omega)
   rw[aKy hs,aGD,aIL (by omega),List.take_add_one,hs,List.map_append]
   show _=pgL row ((ls.take i).map oP++[oP s])
   rw[uR,List.length_map,List.length_take,Nat.min_eq_left (by omega)]
   unfold wP
   rw[wG (uB (aAc s))]
def fM (ls:List ByteArray):List (List Nat):=ls.map oP++[cP (Cn ls ls.length) ls.length]
theorem aIK {ls:List ByteArray} {row:Nat}:bN (qW ls row)=pgL row (fM ls):=by
 unfold qW fM
 rw[aGD,aIL (Nat.le_refl _),List.take_of_length_le (Nat.le_refl _),uR,List.length_map]
 unfold wP
 rw[wG (uB (nE _))]
theorem aDl {s:ByteArray} (h:qY s=0):s.size≤40∧s.size≠0∧iN s.data.toList=false∧Lib.hasSuffix s.data.toList [32]=false:=by
 unfold qY at h
 split at h
 ·exact absurd h (by decide)
 ·rename_i h1
  split at h
  ·exact absurd h (by decide)
  ·rename_i h2
   simp only[Bool.or_eq_true,not_or,Bool.not_eq_true,decide_eq_false_iff_not]at h2
   exact⟨by omega,h2.1,h2.2.1,h2.2.2⟩
theorem aHF {s:ByteArray} (h:qY s=0):pW (bN s)=true:=by
 have h1:=(aDl h).2.2.1
 rw[sM]at h1
 have:pW (s.data.toList.map UInt8.toNat)=true:=by
  cases hx:pW (s.data.toList.map UInt8.toNat)with
  | true=>rfl
  | false=>rw[hx]at h1;cases h1
 exact this
theorem aHv {l:List Nat} (h:pW l=true):pW (bT l)=true:=by
 unfold bT pW at *
 rw[List.all_append,Bool.and_eq_true]
 refine⟨List.all_eq_true.2 fun x hx=>List.all_eq_true.1 h x (List.mem_of_mem_take hx),List.all_eq_true.2 fun x hx=>?_⟩
 rw[List.eq_of_mem_replicate hx];rfl
theorem aJK {s:ByteArray} (h:qY s=0):pW (oP s)=true:=aHv (aHF h)
theorem aKp (s:ByteArray):(bN s).map UInt8.ofNat=s.data.toList:=by
 have:=uW s
 unfold oE at this
 have h:=congrArg (fun x=>x.data.toList) this
 exact h
theorem aHE {s:ByteArray} (h:qY s=0):lnB (oP s)=s:=by
 obtain⟨h1,h2,_,h3⟩:=aDl h
 have hl:s.data.toList.length=s.size:=by rw[Array.length_toList];rfl
 unfold lnB oP bT
 have e:(List.take 40 (bN s)++List.replicate (40-(bN s).length) 32).map UInt8.ofNat=s.data.toList++List.replicate (40-s.size) 32:=by
  rw[List.take_of_length_le (by rw[hO];omega),List.map_append,aKp,hO,List.map_replicate];rfl
 rw[e,Lib.trimRightB_take _ _ s.size (by rw[List.length_append,hl];omega)]
 ·rw[List.take_append_of_le_length (by omega),List.take_of_length_le (by omega)]
 ·intro j b hj hb
  rw[List.getElem?_append_right (by omega)]at hb
  rw[List.getElem?_replicate]at hb
  split at hb
  ·simp only[oSI]at hb;exact hb.symm
  ·cases hb
 ·intro b hk hb hb32
  subst hb32
  rw[List.getElem?_append_left (by omega)]at hb
  have:Lib.hasSuffix s.data.toList [32]=true:=by
   unfold Lib.hasSuffix
   rw[List.isSuffixOf_iff_suffix]
   refine⟨s.data.toList.take (s.size-1),?_⟩
   obtain⟨k1,k2⟩:=List.getElem?_eq_some_iff.1 hb
   have hd:=List.drop_eq_getElem_cons k1
   have hd2:s.data.toList.drop (s.size-1+1)=[]:=List.drop_eq_nil_of_le (by omega)
   rw[k2,hd2]at hd
   rw[←hd,List.take_append_drop]
  rw[this]at h3;cases h3
theorem aJk {C:List Nat} {n k:Nat} (hC:n*40≤C.length) (hk:k≤n):pW (cP C k)=true:=by
 refine List.all_eq_true.2 fun x hx=>?_
 obtain⟨j,hj⟩:=List.getElem?_of_mem hx
 have lj:j<(cP C k).length:=(List.getElem?_eq_some_iff.1 hj).1
 rw[dK hC k hk]at lj
 rw[zJ hC lj hk]at hj
 simp only[oSI]at hj
 have:=Nat.mod_lt (wX C j k) (show 0<95 by decide)
 simp;omega
theorem aEX {C D:List Nat}:∀ {k},(∀ i,i<k→cQ C i=cQ D i)→cP C k=cP D k
 | 0,_=>rfl
 | k+1,h=>by rw[cP,cP,aEX fun i hi=>h i (by omega),h k (by omega)]
theorem aCo {ls:List ByteArray}:∀ {n i:Nat} {s:ByteArray},n≤ls.length→i<n→ls[i]?=some s→cQ (Cn ls n) i=oP s
 | 0,_,_,_,h,_=>absurd h (by omega)
 | n+1,i,s,hn,h,hs=>by
   obtain⟨u,hu⟩:=dR (l:=ls) (i:=n) (by omega)
   rw[aId hu]
   by_cases hi:i<n
   ·rw[aDt (iU (by omega)) hi]
    exact aCo (by omega) hi hs
   ·have:i=n:=by omega
    subst this
    rw[hs]at hu
    cases hu
    exact aBk (iU (by omega)) (nN s)
theorem aDs {C f:List Nat} {n k:Nat} (hC:C.length=n*40) (hk:k<n) (hf:f.length=40) {i:Nat} (hi:i<n):cQ (gV C k f) i=if i=k then f else cQ C i:=by
 have h1:(k+1)*40≤n*40:=Nat.mul_le_mul_right _ hk
 have h2:(i+1)*40≤n*40:=Nat.mul_le_mul_right _ hi
 unfold cQ gV
 by_cases h:i=k
 ·subst h
  rw[if_pos rfl,List.drop_append,List.drop_eq_nil_of_le (by simp;omega),List.nil_append,List.length_take,Nat.min_eq_left (by omega),Nat.sub_self,List.drop_zero,List.take_append_of_le_length (by omega),List.take_of_length_le (by omega)]
 ·rw[if_neg h]
  by_cases hlt:i<k
  ·have h3:(i+1)*40≤k*40:=Nat.mul_le_mul_right _ hlt
   rw[List.drop_append_of_le_length (by simp;omega),List.take_append_of_le_length (by simp;omega),List.drop_take,List.take_take,Nat.min_eq_left (by omega)]
  ·have h3:(k+1)*40≤i*40:=Nat.mul_le_mul_right _ (by omega)
   rw[List.drop_append,List.drop_eq_nil_of_le (by simp;omega),List.nil_append,List.length_take,Nat.min_eq_left (by omega),List.drop_append,List.drop_eq_nil_of_le (by omega),List.nil_append,hf,List.drop_drop]
   congr 2;omega
section
variable {ls:List ByteArray} {n:Nat} {s:ByteArray}
def lst (ls:List ByteArray):List Nat:=cP (Cn ls ls.length) ls.length
theorem aHO {i:Nat} {l:ByteArray} (h:ls[i]?=some l):(fM ls)[i]?=some (oP l):=by
 have hi:i<ls.length:=(List.getElem?_eq_some_iff.1 h).1
 unfold fM
 rw[List.getElem?_append_left (by simpa using hi),List.getElem?_map,h];rfl
theorem aEo:(fM ls)[ls.length]?=some (lst ls):=by
 unfold fM
 rw[List.getElem?_append_right (by simp)]
 simp[lst]
theorem aHC:(lst ls).length=40:=dK (n:=ls.length) (by rw[iU (Nat.le_refl _)];exact Nat.le_refl _) _ (Nat.le_refl _)
theorem aJH:pW (lst ls)=true:=aJk (n:=ls.length) (by rw[iU (Nat.le_refl _)];exact Nat.le_refl _) (Nat.le_refl _)
theorem mK:∀ f∈fM ls,f.length=40:=by
 intro f hf
 unfold fM at hf
 rcases List.mem_append.1 hf with h|h
 ·obtain⟨x,_,rfl⟩:=List.mem_map.1 h
  exact nN x
 ·simp only[List.mem_singleton]at h
  rw[h];exact aHC
theorem aAj (gl:∀ l∈ls,qY l=0):∀ f∈fM ls,pW f=true:=by
 intro f hf
 unfold fM at hf
 rcases List.mem_append.1 hf with h|h
 ·obtain⟨x,hx,rfl⟩:=List.mem_map.1 h
  exact aJK (gl x hx)
 ·simp only[List.mem_singleton]at h
  rw[h];exact aJH
theorem aCk:(fM ls).length=ls.length+1:=by simp[fM]
def rwO (ls:List ByteArray) (n i:Nat):List Nat:=cM (n+i) ((fM ls).getD i [])
theorem rD {i:Nat} (hi:i≤ls.length):(fM ls).getD i []∈fM ls:=by
 rw[List.getD_eq_getElem?_getD,List.getElem?_eq_getElem (by rw[aCk];omega)]
 exact List.getElem_mem _
theorem aCl {i:Nat} {l:ByteArray} (h:ls[i]?=some l):(fM ls).getD i []=oP l:=by rw[List.getD_eq_getElem?_getD,aHO h];rfl
theorem aGl:(fM ls).getD ls.length []=lst ls:=by rw[List.getD_eq_getElem?_getD,aEo];rfl
theorem aJq {i:Nat} (hi:i≤ls.length):qO (rwO ls n i)=(fM ls).getD i []:=nG (mK _ (rD hi))
theorem aFm (gl:∀ l∈ls,qY l=0) {i:Nat} (hi:i≤ls.length):sH (n+i) (rwO ls n i)=true:=aFJ (mK _ (rD hi)) (aAj gl _ (rD hi))
theorem zL {i:Nat} (hi:i≤ls.length):lO (bN (qW ls n)) i=rwO ls n i:=by
 rw[aIK]
 unfold rwO
 have:(fM ls)[i]?=some ((fM ls).getD i []):=by
  rw[List.getD_eq_getElem?_getD,List.getElem?_eq_getElem (by rw[aCk];omega)];rfl
 exact aJx mK this
theorem zX:(qW ls n).size=(ls.length+1)*45:=by
 rw[←hO,aIK,aHt mK,aCk]

theorem aFM (h1:1≤ls.length) (h5:ls.length≤5) (hn:n≤1000) (hz:s.size=(ls.length+1)*45) :
 mnV s (n:Int)=mQ (gE s (ls.length+1)) ls.length (sK s n (ls.length+1)) (qN s n (ls.length+1)):=by
 have e1:s.size%45=0:=by omega
 have e2:s.size/45=ls.length+1:=by omega
 have hb:(decide ((0:Int)≤(n:Int))&&decide ((n:Int)≤1000))=true:=by simp;omega
 unfold mnV
 rw[if_pos hb,e1,e2,if_neg (by omega),if_neg (by omega)]
 rfl
theorem aIH (hz:s.size=(ls.length+1)*45) {i:Nat} (hi:i≤ls.length) (hr:lO (bN s) i=rwO ls n i):cQ (gE s (ls.length+1)) i=(fM ls).getD i []:=by
 rw[aGM (by omega) (by omega),hr,aJq hi]
theorem aJJ (gl:∀ l∈ls,qY l=0) {C:List Nat} (h:∀ i,i<ls.length→cQ C i=(fM ls).getD i []):sJ C ls.length=ls:=by
 unfold sJ
 apply List.ext_getElem?
 intro i
 rw[List.getElem?_map]
 by_cases hi:i<ls.length
 ·obtain⟨l,hl⟩:=dR hi
  rw[List.getElem?_range hi,Option.map_some,h i hi,aCl hl,aHE (gl l (List.mem_of_getElem? hl)),hl]
 ·rw[List.getElem?_eq_none (by simpa using hi),List.getElem?_eq_none (by omega)];rfl
theorem aBW (gl:∀ l∈ls,qY l=0) {C:List Nat} {md:Nat} (h:∀ i,i<ls.length→cQ C i=(fM ls).getD i []):wS C ls.length md = .tup [.fs (rS ls),I (md:Nat),I 0]:=by
 unfold wS
 rw[aJJ gl h]
 have hc:Lib.containsS ls emB=false:=by
  cases hx:Lib.containsS ls emB with
  | false=>rfl
  | true =>
    have:=(Lib.containsS_iff ls emB).1 hx
    exact absurd rfl (aDl (gl _ this)).2.1
 rw[hc];rfl
theorem aEW {C:List Nat} (h:∀ i,i<ls.length→cQ C i=(fM ls).getD i []):cP C ls.length=lst ls:=by
 unfold lst
 refine aEX fun i hi=>?_
 obtain⟨l,hl⟩:=dR hi
 rw[h i hi,aCl hl,aCo (Nat.le_refl _) hi hl]
theorem aHy (gl:∀ l∈ls,qY l=0) (h1:1≤ls.length) (h5:ls.length≤5) (hn:n≤1000) (hz:s.size=(ls.length+1)*45) (h:∀ i,i≤ls.length→lO (bN s) i=rwO ls n i) :
 mnV s (n:Int) = .tup [.fs (rS ls),I 0,I 0]:=by
 rw[aFM h1 h5 hn hz]
 obtain⟨e1,e2⟩:=aBv (s:=s) (n:=n) (k:=ls.length+1) fun i hi=>by
  have:(i+1)*45≤(ls.length+1)*45:=Nat.mul_le_mul_right _ hi
  rw[aGj (by omega),h i (by omega),aFm gl (by omega)]
 have hf:∀ i,i≤ls.length→cQ (gE s (ls.length+1)) i=(fM ls).getD i []:=fun i hi=>aIH hz hi (h i hi)
 unfold mQ
 rw[e1,e2,if_neg (by omega),if_neg,if_neg (by omega),aBW gl fun i hi=>hf i (by omega)]
 ·rfl
 ·rw[aEW fun i hi=>hf i (by omega),hf _ (Nat.le_refl _),aGl]
  exact fun hh=>hh.2 rfl
theorem aKb {C:List Nat} {m r:Nat} {D:List Nat} (hC:C.length=(m+1)*40) (hr:r<m) (hD:D.length=m*40) (hpr:pW (cQ D r)=true) (hsum:cQ C m=cP D m)
 (he:∀ i,i<m→i≠r→cQ C i=cQ D i):∀ i,i<m→cQ (aCm C m r) i=cQ D i:=by
 intro i hi
 have n40:=eK []
 have l1:=lL (k:=r) hC (by omega) n40
 have hfix:∀ i,i<m+1→cQ (gV C r (bT [])) i=if i=r then bT [] else cQ C i:=fun i hi=>aDs hC (by omega) n40 hi
 unfold aCm
 have e1:cQ (gV C r (bT [])) m=cP D m:=by rw[hfix m (by omega),if_neg (by omega),hsum]
 rw[e1]
 have s1:=dK (C:=D) (n:=m) (by omega) m (Nat.le_refl _)
 have s2:=dK (C:=gV C r (bT [])) (n:=m) (by omega) m (Nat.le_refl _)
 have lp:=gL (t:=94) (l:=cP D m) (m:=cP (gV C r (bT [])) m) (by rw[s1,s2])
 rw[s1]at lp
 rw[aDs l1 (by omega) lp (by omega)]
 by_cases hir:i=r
 ·subst hir
  rw[if_pos rfl]
  have lf:=kK (C:=D) (n:=m) (k:=i) (by omega) hi
  apply List.ext_getElem?
  intro j
  by_cases hj:j<40
  ·have a1:=zJ (C:=D) (n:=m) (j:=j) (by omega) hj (Nat.le_refl m)
   have a2:=zJ (C:=gV C i (bT [])) (n:=m) (j:=j) (by omega) hj (Nat.le_refl m)
   rw[uP a1 a2]
   have hx:=qI (l:=cQ D i) (j:=j) (by omega)
   rw[hx]
   have hcol:=yU (C:=D) (D:=gV C i (bT [])) (j:=j) (r:=i) hj (by rw[hfix i (by omega),if_pos rfl]) (k:=m) fun q hq hqi=>by rw[hfix q (by omega),if_neg hqi,he q hq hqi]
   rw[if_pos hi]at hcol
   generalize (cQ D i).getD j 0=x at *
   have px:=oM hpr hx
   have cx:=vW px
   have m1:=Nat.mod_lt (wX D j m) (show 0<95 by decide)
   have m2:=Nat.mod_lt (wX (gV C i (bT [])) j m) (show 0<95 by decide)
   congr 1
   unfold pv
   rw[aCz m1,aCz m2]
   omega
  ·rw[List.getElem?_eq_none (by omega),List.getElem?_eq_none (by omega)]
 ·rw[if_neg hir,hfix i (by omega),if_neg hir,he i hi hir]
theorem aJF (gl:∀ l∈ls,qY l=0) (h1:1≤ls.length) (h5:ls.length≤5) (hn:n≤1000) (hz:s.size=(ls.length+1)*45) {r:Nat} (hr:r≤ls.length)
 (h:∀ i,i≤ls.length→i≠r→lO (bN s) i=rwO ls n i) (hbad:sH (n+r) (lO (bN s) r)=false):mnV s (n:Int) = .tup [.fs (rS ls),I 1,I 0]:=by
 rw[aFM h1 h5 hn hz]
 have l1:(r+1)*45≤(ls.length+1)*45:=Nat.mul_le_mul_right _ (by omega)
 obtain⟨e1,e2⟩:=aDF (s:=s) (n:=n) (r:=r) (by rw[aGj (by omega),hbad]) (k:=ls.length+1) fun i hi hne=>by
  have:(i+1)*45≤(ls.length+1)*45:=Nat.mul_le_mul_right _ hi
  rw[aGj (by omega),h i (by omega) hne,aFm gl (by omega)]
 rw[if_pos (by omega)]at e1 e2
 have hf:∀ i,i≤ls.length→i≠r→cQ (gE s (ls.length+1)) i=(fM ls).getD i []:=fun i hi hne=>aIH hz hi (h i hi hne)
 have hC:=kU s (ls.length+1)
 generalize gE s (ls.length+1)=C at *
 unfold mQ
 rw[e1,e2,if_neg (by omega),if_neg (by omega)]
 by_cases hrl:r=ls.length
 ·subst hrl
  rw[if_neg (by omega),aBW gl fun i hi=>hf i (by omega) (by omega)]
  rfl
 ·have hlt:r<ls.length:=by omega
  rw[if_pos (by omega)]
  have ht:((r:Int)).toNat=r:=rfl
  rw[ht]
  have hD:(Cn ls ls.length).length=ls.length*40:=iU (Nat.le_refl _)
  have hCn:∀ i,i<ls.length→cQ (Cn ls ls.length) i=(fM ls).getD i []:=fun i hi=>by
   obtain⟨l,hl⟩:=dR hi
   rw[aCo (Nat.le_refl _) hi hl,aCl hl]
  have key:=aKb (C:=C) (m:=ls.length) (r:=r) (D:=Cn ls ls.length) hC hlt hD (by rw[hCn r hlt];exact aAj gl _ (rD hr)) (by rw[hf _ (Nat.le_refl _) (by omega),aGl];rfl)
   fun i hi hne=>by rw[hf i (by omega) hne,hCn i hi]
  rw[aBW gl fun i hi=>by rw[key i hi,hCn i hi]]
  rfl
end
theorem aJL {s:ByteArray} {f:List Nat} {x:Nat} (hs:bN s=f++[x]) (hl:f.length≤39) (hp:pW f=true) (hx:33≤x∧x≤126):qY s=0:=by
 have hz:s.size=f.length+1:=by rw[←hO,hs];simp
 have hpr:pW (bN s)=true:=by
  rw[hs];unfold pW at *
  rw[List.all_append,hp];simp;omega
 have hu:iN s.data.toList=false:=by
  rw[sM]
  have:pW (s.data.toList.map UInt8.toNat)=true:=hpr
  rw[this];rfl
 have hh:Lib.hasSuffix s.data.toList [32]=false:=by
  cases h:Lib.hasSuffix s.data.toList [32]with
  | false=>rfl
  | true =>
    unfold Lib.hasSuffix at h
    rw[List.isSuffixOf_iff_suffix]at h
    obtain⟨t,ht⟩:=h
    have:bN s=t.map UInt8.toNat++[32]:=by unfold bN;rw[←ht];simp
    rw[hs]at this
    have h2:=List.append_inj_right' this rfl
    simp only[List.cons.injEq,and_true]at h2
    omega
 unfold qY
 rw[if_neg (by omega),hu,hh,decide_eq_false (by omega)]
 rfl
theorem aFO (s:List Nat) (k:Nat):pW (kY s k)=true:=by
 unfold pW kY
 refine List.all_eq_true.2 fun x hx=>?_
 obtain⟨y,_,rfl⟩:=List.mem_map.1 hx
 have:=Nat.mod_lt y (show 0<95 by decide)
 simp;omega
theorem aAV (s:List Nat):qY (mdL s)=0:=by
 refine aJL (f:=kY s 39) (x:=122) ?_ (by simp[kY];omega) (aFO _ _) (by omega)
 unfold mdL
 refine wG fun i x hx=>?_
 have hm:=List.mem_of_getElem? hx
 rcases List.mem_append.1 hm with h|h
 ·obtain⟨j,hj⟩:=List.getElem?_of_mem h
  exact aHs (aFO s 39) j x hj
 ·simp only[List.mem_singleton]at h;omega
theorem aEh (l:List (List Nat)):∀ s∈aAW l,qY s=0:=by
 intro s hs
 unfold aAW at hs
 split at hs
 ·simp only[List.mem_singleton]at hs
  rw[hs];exact aAV []
 ·unfold jE at hs
  obtain⟨x,_,rfl⟩:=List.mem_map.1 hs
  exact aAV x
theorem aJG (l:List (List Nat)):1≤(aAW l).length∧(aAW l).length≤5:=by
 unfold aAW
 split
 ·exact⟨Nat.le_refl _,by decide⟩
 ·unfold jE
  simp;omega
theorem yP {f:Nat→Int}:∀ {n},(∀ i,i<n→f i=0)→iR f n=0
 | 0,_=>rfl
 | n+1,h=>by rw[iR,if_pos (yP fun i hi=>h i (by omega))];exact h n (by omega)
section
variable {ls:List ByteArray} {n:Nat}
theorem aMg (gl:∀ l∈ls,qY l=0) (h1:1≤ls.length) (h5:ls.length≤5) (hn:n≤1000):pgE ls (n:Int)=0:=by
 have hb:(decide ((0:Int)≤(n:Int))&&decide ((n:Int)≤1000))=true:=by simp;omega
 unfold pgE
 rw[if_pos hb,if_neg (by omega),if_neg (by omega)]
 refine yP fun i hi=>?_
 have:ls.getD i emB∈ls:=by
  rw[List.getD_eq_getElem?_getD,List.getElem?_eq_getElem hi]
  exact List.getElem_mem _
 exact gl _ this
theorem aDe (gl:∀ l∈ls,qY l=0) (h1:1≤ls.length) (h5:ls.length≤5) (hn:n≤1000):mnV (qW ls n) (n:Int) = .tup [.fs (rS ls),I 0,I 0] :=
 aHy gl h1 h5 hn zX fun i hi=>zL hi
def htB (s:ByteArray) (row how a o:Nat):ByteArray:=oE (htL (bN s) row how a o)
theorem aGf {s:ByteArray} {row how a o:Nat}:bN (htB s row how a o)=htL (bN s) row how a o:=wG (aJQ (rI s))
theorem vC {s:ByteArray} {row how a o:Nat}:(htB s row how a o).size=s.size:=by
 rw[←hO,aGf,aJP,hO]
theorem aCe {s:ByteArray} {row how a o m:Nat} (hs:s.size=m*45) (i:Nat):lO (bN (htB s row how a o)) i=if i=row%m then htR (lO (bN s) (row%m)) how a o else lO (bN s) i:=by
 rw[aGf,aJr (by rw[hO];exact hs)]
theorem aJR {s:ByteArray} {row how a o m:Nat} (hs:s.size=m*45) (hm:0<m) (h:htB s row how a o≠s):htR (lO (bN s) (row%m)) how a o≠lO (bN s) (row%m):=by
 intro he
 apply h
 have hr:=Nat.mod_lt row hm
 have:bN (htB s row how a o)=bN s:=by
  refine aFo (m:=m) (by rw[hO,vC];exact hs) (by rw[hO];exact hs) fun i hi=>?_
  rw[aCe hs]
  split
  ·rename_i h;rw[he,h]
  ·rfl
 rw[←uW (htB s row how a o),this,uW]
theorem aHz (gl:∀ l∈ls,qY l=0) (h1:1≤ls.length) (h5:ls.length≤5) (hn:n≤1000) {row how a o:Nat} (h:htB (qW ls n) row how a o≠qW ls n) :
 mnV (htB (qW ls n) row how a o) (n:Int) = .tup [.fs (rS ls),I 1,I 0]:=by
 have hs:(qW ls n).size=(ls.length+1)*45:=zX
 have hr:=Nat.mod_lt row (show 0<ls.length+1 by omega)
 have hne:=aJR hs (by omega) h
 rw[zL (by omega)]at hne
 refine aJF gl h1 h5 hn (by rw[vC];exact hs) (r:=row%(ls.length+1)) (by omega) (fun i hi hne=>?_) ?_
 ·rw[aCe hs,if_neg hne,zL hi]
 ·rw[aCe hs,if_pos rfl,zL (by omega)]
  exact aHI (mK _ (rD (by omega))) (aAj gl _ (rD (by omega))) hne
end
end Go.Proofs.YtmapgnepfgnphaaGreatDoor
namespace Go.Proofs.YtmapgnepfgnphaaGreatDoor
open Go Go.DL
set_option maxRecDepth 100000
set_option maxHeartbeats 4000000
theorem q7 {vs:List AV} {h:XH} (hl:vs.length≤114):runW aL 7 vs h=eA none x7.res x7.ownR h.length (execW aL 7 h.length none x7.body (aW (if x7.ownA then vs else hZ vs)) h):=cV rfl hl h rfl
theorem p13 {h:XH}:runW aL 13 [] h=some (.bool true,h):=(eZ (f:=sS) rfl rfl [] h).trans rfl
theorem aGW (a b:ByteArray):tL BinOp.eql a b=some (.bool (decide (a=b))):=by
 have:=gT a b
 rw[show tL BinOp.neq a b=some (AV.bool (!(a.toList==b.toList))) from rfl]at this
 rw[lJ]
 simp only[oSI,AV.bool.injEq,Bool.not_inj_iff]at this
 rw[this]
theorem w7 {L:List (List Nat)} {row w how a o:Nat} (hb:∀ s∈L,lI s) (h0:row<65536) (h1:w<256) (h2:how<256) (h3:a<256) (h4:o<256) :
 runW aL 7 [shA L,.int .u16 (row:Int),U w,U how,U a,U o] []=some (.bool true,[]):=by
 rw[q7 (by simp)];unfold x7;dsimp only
 have gl:=aEh L
 obtain⟨m1,m5⟩:=aJG L
 have c1:=w27 hb
 unfold shA at c1 ⊢
 generalize aAW L=ls at *
 have e1:IntKind.i64.wrap (row:Int)=(row:Int):=aX (by omega) (by omega)
 have e2:tmZ (row:Int) 1001=((row%1001:Nat):Int):=fJ row 1001
 have hn:=Nat.mod_lt row (show 0<1001 by decide)
 generalize row%1001=n at *
 have lz:∀ s∈ls,s.size≤1000000:=fun s hs=>by have:=(aDl (gl s hs)).1;omega
 have c2:=w14 (ls:=ls) (row:=(n:Int)) (by omega) lz
 rw[aMg gl m1 m5 (by omega),if_pos rfl]at c2
 have ht:((n:Int)).toNat=n:=rfl
 rw[ht]at c2
 have ps:(qW ls n).size=(ls.length+1)*45:=zX
 have c3:=w16 (s:=qW ls n) (row:=(n:Int)) (by omega)
 rw[aDe gl m1 m5 (by omega)]at c3
 have c4:=w18 (a:=ls) (b:=ls) (by omega)
 rw[decide_eq_true rfl]at c4
 have a1:IntKind.i64.wrap ((ls.length:Int)+1)=((ls.length:Int)+1):=aX (by omega) (by omega)
 have a2:IntKind.i64.wrap (45*((ls.length:Int)+1))=((qW ls n).size:Int):=by rw[aX (by omega) (by omega),ps];omega
 have c5:=w28 (s:=qW ls n) (row:=w) (how:=how) (a:=a) (o:=o) ps (by omega) (by omega) h1 h2 h3 h4
 have hx:oE (htL (bN (qW ls n)) w how a o)=htB (qW ls n) w how a o:=rfl
 rw[hx]at c5
 have hsz:(htB (qW ls n) w how a o).size=(ls.length+1)*45:=by rw[vC,ps]
 have c6:=w16 (s:=htB (qW ls n) w how a o) (row:=(n:Int)) (by omega)
 have sq:=aGW (qW ls n) (qW ls n)
 rw[decide_eq_true rfl]at sq
 have w13:=p13 (h:=[])
 have rl:=uK ls
 by_cases hc:htB (qW ls n) w how a o=qW ls n
 ·rw[hc]at c5 c6
  rw[decide_eq_true rfl]at c5
  rw[aDe gl m1 m5 (by omega)]at c6
  generalize qW ls n=P at *
  (sym=>(simp[aT,aU,bR,Za,Zb,Zf,Zg,Zh,Zj,Zl,Zm,Zp,Zq,Zr,Zu,Zw,Z0,Z8,ZA,ZI,ZJ,ZT,ZV,Ya,Yb,Yc,Yd,Yf,Yg,Yi,Yk,Yo,Yp,Yr,Ys,Yt,YE,YF,YG,YK,YY,YZ,Xa,Xc,Xd,Xj,Xk,Xl,Xo,Xy,Xz,X0,XK,Wf,Wg,Wh,Wo,Wr,Ws,Wt,Wv,Ww,Wy,Wz,WL,WM,WN,WX,Vb,Vc,Vd,Vi,Vj,Vk,Vl,Vm,Vn,Vo,Vq,Vr,Vs,Vt,Vv,Vz,V4,V7,V8,V9,VB,VC,VE,VG,VM,VT,VU,VX,VY,VZ,Ua,Ub,Ui,Uj,UI,UJ,UK,UL,UM,UP,UW,UX,Tw,T2,T3,T4,T5,T6,T7,c1,e1,e2,c2,c3,c4,a1,a2,c5,c6,sq,w13,rl];all_goals tactic=>exact rfl))
 ·rw[aHz gl m1 m5 (by omega) hc]at c6
  rw[decide_eq_false hc]at c5
  generalize htB (qW ls n) w how a o=X at *
  generalize qW ls n=P at *
  (sym=>(simp[aT,aU,bR,Za,Zb,Zf,Zg,Zh,Zj,Zl,Zm,Zp,Zq,Zr,Zu,Zw,Z0,Z8,ZA,ZI,ZJ,ZT,ZV,Ya,Yb,Yc,Yd,Yf,Yg,Yi,Yk,Yo,Yp,Yr,Ys,Yt,YE,YF,YG,YK,YY,YZ,Xa,Xc,Xd,Xj,Xk,Xl,Xo,Xy,Xz,X0,XK,Wf,Wg,Wh,Wo,Wr,Ws,Wt,Wv,Ww,Wy,Wz,WL,WM,WN,WX,Vb,Vc,Vd,Vi,Vj,Vk,Vl,Vm,Vn,Vo,Vq,Vr,Vs,Vt,Vv,Vz,V0,V4,V7,V8,V9,VB,VC,VE,VG,VM,VN,VT,VU,VX,VY,VZ,Ua,Ub,Ui,Uj,UI,UJ,UK,UL,UM,UP,UW,UX,Tw,T2,T3,T4,T5,T6,T7,c1,e1,e2,c2,c3,c4,a1,a2,c5,c6,sq,w13,rl];all_goals tactic=>exact rfl))
end Go.Proofs.YtmapgnepfgnphaaGreatDoor
namespace Go.Proofs.YtmapgnepfgnphaaGreatDoor
open Go Go.DL Go.ChangeShapes Go.WideShapes Go.ChangeAt Go.RowKit
set_option maxRecDepth 100000
theorem uH {H:Type} {enc:TypeId×Value→H} {a:Assume} {C:Checked} {os:Os} {f:FuncId} {fn:Func} {s:ChangeSpec} {X:World→Array Value→Prop}
 (hX:∀ (w w':World) (args:Array Value),w.heap=w'.heap→X w args→X w' args)
 (own:ownKnob C.prog.godebug=none) (started:os.Started) (noInit:C.prog.inits.idxOf? f=none) (hfn:C.prog.funcs[f]?=some fn)
 (witness:∃ (w:World) (tape:Tape) (i:Input),w.os=os∧(w.forCall tape i).Shaped C.prog∧i.vars=[]∧Input.okWide C.prog (w.forCall tape i) .any w.heap.size f i ∧
  ((s.pre enc C.prog fn [] false (w.forCall tape i).memory i.args∧X (w.forCall tape i).memory i.args)∧sizedMet enc C.prog fn (OpenSpec.ofChange s) false (w.forCall tape i).memory i.args)∧a.holds C.prog (lone (Frame.enter C.prog f i.args .normal) [] (w.forCall tape i)))
 (contract:∀ (W:World) (base:Nat) (args:Array Value) (ds gs:List (DataW H)) (before:List MemPlace),
  (∀ (j:Nat) t v,fn.params[j]?=some t→args[j]?=some v→Value.okWide C.prog W .any base t v) →
  DataW.Whole enc C.prog fn.params.toList s.vars false W args.toList ds gs before→X W args→W.ShapedOpen C.prog →
  Calls C.prog f args W fun e W'=>∃ v,e = .returned v∧s.post enc C.prog fn false true false false W args v W') :
 ReturnsInHanded a C os f .any (fun w args=>(s.pre enc C.prog fn [] false w args∧X w args)∧sizedMet enc C.prog fn (OpenSpec.ofChange s) false w args) (s.post enc C.prog fn false true false false):=by
 refine returnsInHanded_of_calls own started noInit witness ?_
 rintro w tape i _ hsh _ ⟨_,_,_,fn',hfn',_,_,_,_,hval⟩ ⟨⟨⟨ds,gs,before,hw,_⟩,hx⟩,_⟩ _
 cases hfn'.symm.trans hfn
 exact(contract _ _ _ ds gs before hval (DataW.Whole.of_heap (by rfl) hw) (hX _ _ _ (by rfl) hx) hsh).mono fun e W' ⟨v,he,hp⟩=>by
  subst he
  exact ChangeSpec.post_blind hp
theorem aOw:Flat Tryz.prog 5 [.int .u8]:=.int Tryz.underlying5
theorem aJZ:Flat Tryz.prog 59 [.sl [.int .u8]]:=.sl Tryz.underlying59 aOw (by kernel_rfl) (by decide)
theorem aKa:Flat Tryz.prog 52 [.sl [.sl [.int .u8]]]:=.sl Tryz.underlying52 aJZ (by kernel_rfl) (by decide)
theorem vB {k:IntKind} {a:AV} (h:Sh (.int k) a):∃ n,a = .int k n∧(Lit.int k n).wf=true:=by cases h;exact⟨_,rfl,by assumption⟩
theorem aAt {n:Int} (h:(Lit.int .u8 n).wf=true):∃ m:Nat,n=(m:Int)∧m<256:=by
 simp[Lit.wf,IntKind.bits,IntKind.signed,IntKind.min,IntKind.max]at h
 exact⟨n.toNat,by omega,by omega⟩
theorem aJe {n:Int} (h:(Lit.int .u16 n).wf=true):∃ m:Nat,n=(m:Int)∧m<65536:=by
 simp[Lit.wf,IntKind.bits,IntKind.signed,IntKind.min,IntKind.max]at h
 exact⟨n.toNat,by omega,by omega⟩
theorem aAH {α:Type} {f:α→List AV} {r:List CT} (key:∀ row:List AV,row.length=r.length→(∀ (i:Nat) (c:CT) (a:AV),r[i]?=some c→row[i]?=some a→Sh c a)→∃ x,row=f x):∀ {rows:List (List AV)},(∀ row∈rows,row.length=r.length) →
 (∀ row∈rows,∀ (i:Nat) (c:CT) (a:AV),r[i]?=some c→row[i]?=some a→Sh c a)→∃ l:List α,rows=l.map f
 | [],_,_=>⟨[],rfl⟩
 | a::rows,h1,h2=>by
   obtain⟨l,rfl⟩:=aAH key (rows:=rows) (fun row hr=>h1 row (by simp[hr])) (fun row hr=>h2 row (by simp[hr]))
   obtain⟨x,rfl⟩:=key a (h1 a (by simp)) (h2 a (by simp))
   exact⟨x::l,rfl⟩
theorem aIr {α:Type} {f:α→List AV} {r:List CT} (key:∀ row:List AV,row.length=r.length→(∀ (i:Nat) (c:CT) (a:AV),r[i]?=some c→row[i]?=some a→Sh c a)→∃ x,row=f x) {a:AV} (h:Sh (.sl r) a):∃ l:List α,a = .fs (l.map f)∧l.length≤maxLen:=by
 cases h with
 | sl _ rows h1 hn h2 =>
   obtain⟨l,rfl⟩:=aAH key h1 h2
   exact⟨l,rfl,by simpa using hn⟩
theorem aTs:∀ row:List AV,row.length=([.int .u8]:List CT).length→(∀ (i:Nat) (c:CT) (a:AV),([.int .u8]:List CT)[i]?=some c→row[i]?=some a→Sh c a)→∃ x:{ x:Nat // x<256 },row=[U x.1]:=by
 intro row hl h
 match row,hl with
 | [a0],_ =>
   cases h 0 _ _ rfl rfl with
   | int _ n0 q0 =>
   obtain⟨m0,rfl,b0⟩:=aAt q0
   exact⟨⟨m0,b0⟩,rfl⟩
theorem aOz:∀ row:List AV,row.length=([.sl [.int .u8]]:List CT).length→(∀ (i:Nat) (c:CT) (a:AV),([.sl [.int .u8]]:List CT)[i]?=some c→row[i]?=some a→Sh c a)→∃ x:{ x:List Nat // lI x },row=[byA x.1]:=by
 intro row hl h
 match row,hl with
 | [a0],_ =>
   obtain⟨us,rfl,_⟩:=aIr aTs (h 0 _ _ rfl rfl)
   refine⟨⟨us.map (·.1),fun i x hx=>?_⟩,?_⟩
   ·rw[List.getElem?_map,Option.map_eq_some_iff]at hx
    obtain⟨y,_,rfl⟩:=hx
    exact y.2
   ·unfold byA;rw[List.map_map];rfl
theorem aFh {a:AV} (h:Sh (.sl [.sl [.int .u8]]) a):∃ L:List (List Nat),(∀ s∈L,lI s)∧a=shA L:=by
 obtain⟨us,rfl,_⟩:=aIr aOz h
 refine⟨us.map (·.1),fun s hs=>?_,by unfold shA shR;rw[List.map_map];rfl⟩
 obtain⟨x,_,rfl⟩:=List.mem_map.1 hs
 exact x.2
theorem aGF {F:Nat→Prop} {w:World}:Args F w [] #[]:=⟨rfl,fun i a' v' h1 h2=>by simp at h1⟩
theorem gO {F:Nat→Prop} {w:World} {a:AV} {v:Value} {xs:List AV} {vs:List Value} (h:Rv F w a v) (hs:Args F w xs vs.toArray):Args F w (a::xs) (v::vs).toArray:=by
 refine⟨by have:=hs.1;simp at this ⊢;exact this,fun i a' v' h1 h2=>?_⟩
 match i with
 | 0=>simp at h1 h2;rw[←h1,←h2];exact h
 | i+1 =>
   simp at h1 h2
   exact hs.2 i a' v' h1 (by simpa using h2)
end Go.Proofs.YtmapgnepfgnphaaGreatDoor
