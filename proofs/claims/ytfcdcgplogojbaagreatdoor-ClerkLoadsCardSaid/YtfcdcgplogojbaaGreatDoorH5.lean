/- Parts of a proof, joined. No statement of the seed is proved here. -/
import Derived.Test.YtfcdcgplogojbaaGreatDoorH4
set_option linter.unusedSimpArgs false
set_option linter.unusedVariables false
set_option linter.unusedSectionVars false
set_option maxRecDepth 100000
section
namespace Go.Proofs.YtfcdcgplogojbaaGreatDoor
open Go Go.DL Go.Proofs.Tryz
theorem cZ{k:Nat}{x:XFn}{fn:Func}(h1:∀(vs:Array Value)(w:World),(callFunc k vs).run prog w = .ok (.enter k vs) w)(h2:prog.funcs[k]?=some fn)(h3:∃ c,fn.body=some c/\fn.ntmps=x.fn.N/\fn.results.toList.mapM (aCF prog)=some x.fn.res/\aJq prog x.fn.N c=some (x.fn.dfr,x.fn.body):=by exact⟨_,rfl,rfl,by kernel_rfl,by kernel_rfl⟩)(h4:okD x=true:=by kernel_rfl)(h5:iG x x.body:=by exact bB rfl)(h6:x.prm=none:=by rfl):aO prog (k,x) :=
 ⟨⟨h1,by obtain⟨c,h⟩:=h3;exact⟨fn,c,h2,h⟩⟩,h4,h5,h6⟩
abbrev jA(n k:Nat):DOper:=⟨0,some n,.mv (.t k),none⟩
abbrev jP(n:Nat)(o:DOp):DOper:=⟨0,some n,o,none⟩
abbrev jI(i n:Nat)(o:DOp):DOper:=⟨i,some n,o,none⟩
abbrev jT(i:Nat)(o:DOp):DOper:=⟨i,none,o,none⟩
abbrev jC(k:Int):AO:=.c (.int .i64 k)
abbrev jF(k:Nat)(a:List AO)(l:List Nat):DOp:=.callf false (.c (.fn (.func k) [] [])) a l
abbrev jR(l:List DOper):XCode:=.reg [] false l
abbrev jM(k:Nat):DOp:=.mv (.t k)
abbrev jL(k:Nat):DOp:=.load false 1 (.t k)
abbrev jaa(a:XFn):=(g:XFn)->a=g->XFn
abbrev jab(a:XCode):=(g:XCode)->a=g->XCode
noncomputable abbrev jac(f:Func)(m:RM)(l:List XCode):XFn:=mkF prog f m false false l
abbrev jba(F:XCode->XFn):=(g:XCode->XFn)->(∀ a,F a=g a)->XFn
abbrev jbb(F:XCode->XCode):=(g:XCode->XCode)->(∀ a,F a=g a)->XCode
def m3:RM:=⟨[(1,[(1,false)]),(3,[(0,false)]),(4,[(0,false)]),(9,[(5,false),(8,false)]),(12,[(5,false),(8,false)])],[[1,5,8,11]],[]⟩
def aGB:XCode:=by
 refine' (?f:jab (mkL prog f3 m3 0 [])) _ ?h
 case f=>exact λg _=>g
 case h=>conv=>lhs;cbv
def x3:XFn:=by
 refine' (?f:jba (jac f3 m3 [·])) _ ?h
 case f=>exact λg _=>g aGB
 case h=>intro a;conv=>lhs;cbv
def m4:RM:=⟨[],[[0,3,4]],[]⟩
def aYo:XCode:=by
 refine' (?f:jab (mkL prog f4 m4 0 [])) _ ?h
 case f=>exact λg _=>g
 case h=>conv=>lhs;cbv
def x4:XFn:=by
 refine' (?f:jba (jac f4 m4 [·])) _ ?h
 case f=>exact λg _=>g aYo
 case h=>intro a;conv=>lhs;cbv
def m5:RM:=⟨[(4,[(5,false)]),(7,[(8,false),(5,false)]),(10,[(14,false)]),(11,[(15,false)]),(13,[(14,false)]),(14,[(16,false),(14,false)])],[],[]⟩
def x5:XFn:=by
 refine' (?f:jaa (jac f5 m5 [])) _ ?h
 case f=>exact λg _=>g
 case h=>conv=>lhs;cbv
def m6:RM:=⟨[(1,[(0,false)]),(22,[(2,false),(15,false)])],[[3,5,8,9],[2,3,58,59,60]],[]⟩
def aIc:XCode:=by
 refine' (?f:jab (mkL prog f6 m6 0 [])) _ ?h
 case f=>exact λg _=>g
 case h=>conv=>lhs;cbv
def aJF:XCode:=by
 refine' (?f:jbb (mkL prog f6 m6 1 [·])) _ ?h
 case f=>exact λg _=>g aIc
 case h=>intro a;conv=>lhs;cbv
def x6:XFn:=by
 refine' (?f:(g:XCode->XCode->XFn)->(∀ a b,jac f6 m6 [a,b]=g a b)->XFn) _ ?h
 case f=>exact λg _=>g aIc aJF
 case h=>intro a b;conv=>lhs;cbv
def m7:RM:=⟨[(22,[(13,false)])],[[5,6,7,8,9],[7,8,13,14]],[]⟩
def aIa:XCode:=by
 refine' (?f:jab (mkL prog f7 m7 0 [])) _ ?h
 case f=>exact λg _=>g
 case h=>conv=>lhs;cbv
def aMv:XCode:=by
 refine' (?f:jbb (mkL prog f7 m7 1 [·])) _ ?h
 case f=>exact λg _=>g aIa
 case h=>intro a;conv=>lhs;cbv
def x7:XFn:=by
 refine' (?f:(g:XCode->XCode->XFn)->(∀ a b,jac f7 m7 [a,b]=g a b)->XFn) _ ?h
 case f=>exact λg _=>g aIa aMv
 case h=>intro a b;conv=>lhs;cbv
def m9:RM:=⟨[(3,[(1,false)]),(7,[(0,false),(5,false),(6,false)]),(11,[(0,false)]),(12,[(10,false),(5,false),(6,false)]),(17,[(1,false)]),(18,[(10,true)])],[],[]⟩
def x9:XFn:=by
 refine' (?f:jaa (jac f9 m9 [])) _ ?h
 case f=>exact λg _=>g
 case h=>conv=>lhs;cbv
def m10:RM:=⟨[(1,[(0,false)]),(4,[(3,false)]),(5,[(0,false)]),(8,[(4,false),(3,false)]),(9,[(3,false)])],[],[[3]]⟩
def x10:XFn:=by
 refine' (?f:jaa (jac f10 m10 [])) _ ?h
 case f=>exact λg _=>g
 case h=>conv=>lhs;cbv
theorem bEO:aO prog (10,x10):=⟨⟨λvs w=>call10 vs w,_,_,func10,rfl,rfl,by kernel_rfl,by kernel_rfl⟩,by kernel_rfl,⟨bB rfl,⟨bB rfl,⟨bB rfl,⟨bB rfl,⟨⟨bB rfl,⟨by kernel_rfl,bB rfl,bB rfl⟩⟩,bB rfl⟩⟩⟩⟩⟩,rfl⟩
def m11:RM:=⟨[(7,[(6,false)])],[[0,3,4,5]],[]⟩
def aFz:XCode:=by
 refine' (?f:jab (mkL prog f11 m11 0 [])) _ ?h
 case f=>exact λg _=>g
 case h=>conv=>lhs;cbv
def x11:XFn:=by
 refine' (?f:jba (jac f11 m11 [·])) _ ?h
 case f=>exact λg _=>g aFz
 case h=>intro a;conv=>lhs;cbv
def aYu:XCode:=by
 refine' (?f:jab (mkL prog f12 m4 0 [])) _ ?h
 case f=>exact λg _=>g
 case h=>conv=>lhs;cbv
def x12:XFn:=by
 refine' (?f:jba (jac f12 m4 [·])) _ ?h
 case f=>exact λg _=>g aYu
 case h=>intro a;conv=>lhs;cbv
def m13:RM:=⟨[(1,[(1,false)]),(15,[(0,false),(1,false)])],[[0,1,20,21,22]],[]⟩
def aYt:XCode:=by
 refine' (?f:jab (mkL prog f13 m13 0 [])) _ ?h
 case f=>exact λg _=>g
 case h=>conv=>lhs;cbv
def x13:XFn:=by
 refine' (?f:jba (jac f13 m13 [·])) _ ?h
 case f=>exact λg _=>g aYt
 case h=>intro a;conv=>lhs;cbv
def m14:RM:=⟨[(32,[(4,false)])],[[0,1,4,5,7,8,9,35,36],[4,5,105,106,107]],[]⟩
def aVq:XCode:=by
 refine' (?f:jab (mkL prog f14 m14 0 [])) _ ?h
 case f=>exact λg _=>g
 case h=>conv=>lhs;cbv
def aYs:XCode:=by
 refine' (?f:jbb (mkL prog f14 m14 1 [·])) _ ?h
 case f=>exact λg _=>g aVq
 case h=>intro a;conv=>lhs;cbv
def x14:XFn:=by
 refine' (?f:(g:XCode->XCode->XFn)->(∀ a b,jac f14 m14 [a,b]=g a b)->XFn) _ ?h
 case f=>exact λg _=>g aVq aYs
 case h=>intro a b;conv=>lhs;cbv
def m15:RM:=⟨[],[[0,1,5]],[]⟩
def aVp:XCode:=by
 refine' (?f:jab (mkL prog f15 m15 0 [])) _ ?h
 case f=>exact λg _=>g
 case h=>conv=>lhs;cbv
def x15:XFn:=by
 refine' (?f:jba (jac f15 m15 [·])) _ ?h
 case f=>exact λg _=>g aVp
 case h=>intro a;conv=>lhs;cbv
def m16:RM:=⟨[],[],[]⟩
def x16:XFn:=by
 refine' (?f:jaa (jac f16 m16 [])) _ ?h
 case f=>exact λg _=>g
 case h=>conv=>lhs;cbv
def m17:RM:=⟨[(4,[(0,false)])],[[0,1,5,6]],[]⟩
def aLd:XCode:=by
 refine' (?f:jab (mkL prog f17 m17 0 [])) _ ?h
 case f=>exact λg _=>g
 case h=>conv=>lhs;cbv
def x17:XFn:=by
 refine' (?f:jba (jac f17 m17 [·])) _ ?h
 case f=>exact λg _=>g aLd
 case h=>intro a;conv=>lhs;cbv
def x19:XFn:=by
 refine' (?f:jaa (jac f19 m16 [])) _ ?h
 case f=>exact λg _=>g
 case h=>conv=>lhs;cbv
def m20:RM:=⟨[(22,[(9,false)]),(25,[(9,false)])],[[0,1,7,8,9,10,11,12],[7,8,11,14,15]],[]⟩
def aAz:XCode:=by
 refine' (?f:jab (mkL prog f20 m20 0 [])) _ ?h
 case f=>exact λg _=>g
 case h=>conv=>lhs;cbv
def aNV:XCode:=by
 refine' (?f:jbb (mkL prog f20 m20 1 [·])) _ ?h
 case f=>exact λg _=>g aAz
 case h=>intro a;conv=>lhs;cbv
def x20:XFn:=by
 refine' (?f:(g:XCode->XCode->XFn)->(∀ a b,jac f20 m20 [a,b]=g a b)->XFn) _ ?h
 case f=>exact λg _=>g aAz aNV
 case h=>intro a b;conv=>lhs;cbv
def x21:XFn:=by
 refine' (?f:jaa (jac f21 m16 [])) _ ?h
 case f=>exact λg _=>g
 case h=>conv=>lhs;cbv
def x24:XFn:=by
 refine' (?f:jaa (jac f24 m16 [])) _ ?h
 case f=>exact λg _=>g
 case h=>conv=>lhs;cbv
def x25:XFn:=by
 refine' (?f:jaa (jac f25 m16 [])) _ ?h
 case f=>exact λg _=>g
 case h=>conv=>lhs;cbv
def m26:RM:=⟨[(2,[(0,false)]),(15,[(11,false)])],[[2,4,6,47],[2,6,64]],[]⟩
def aCf:XCode:=by
 refine' (?f:jab (mkL prog f26 m26 0 [])) _ ?h
 case f=>exact λg _=>g
 case h=>conv=>lhs;cbv
def aDg:XCode:=by
 refine' (?f:jbb (mkL prog f26 m26 1 [·])) _ ?h
 case f=>exact λg _=>g aCf
 case h=>intro a;conv=>lhs;cbv
def x26:XFn:=by
 refine' (?f:(g:XCode->XCode->XFn)->(∀ a b,jac f26 m26 [a,b]=g a b)->XFn) _ ?h
 case f=>exact λg _=>g aCf aDg
 case h=>intro a b;conv=>lhs;cbv
def oX:XFn:=by
 refine' (?f:jaa (jac f27 m16 [])) _ ?h
 case f=>exact λg _=>g
 case h=>conv=>lhs;cbv
def aNS:XCode:=(.loop [0,5,20,21,22] (.seq (jR [jP 23 (.bin .lss (.t 22) (.t 21))]) (.seq (.cond (.t 23) .skip (.exit 1)) (.seq (.block 2 (.seq (jR [jP 24 (.idx 1 (.t 20) (.t 22)),jP 25 (jL 24),jA 7 25]) (.reg [(7,false)] false [jA 26 5,jA 27 0,jP 28 (.nilck (.t 27)),jP 29 (.fld 0 (.t 28)),jP 30 (jL 29),jA 31 7,jP 32 (jF 72 [.t 30,.t 31] []),jP 33 (.nilck (.t 32)),jP 34 (.fld 0 (.t 33)),jP 35 (jL 34),jP 36 (.bin .add (.t 26) (.t 35)),jA 5 36]))) (jR [jP 37 (.bin .add (.t 22) (jC 1)),jA 22 37])))))
def zB:XFn:=⟨136,[(4,none)],false,false,(.seq (jR [jP 3 (.box (.t 1)),jP 4 (.mv (.c (.str ⟨#[]⟩)))]) (.seq (jR [jP 5 (.mv (jC 0))]) (.seq (.seq (jR [jP 10 (.fld 0 (.t 3)),jP 11 (jL 10)]) (.block 0 (.seq (jR [jP 13 (.bin .eql (.t 11) (.c (.str ⟨#[116,111,116,97,108]⟩))),jA 12 13]) (.cond (.t 12) (.seq (jR [jA 14 0,jP 15 (.nilck (.t 14)),jP 16 (.fld 0 (.t 15)),jP 17 (jL 16),jP 18 (.nilck (.t 17)),jP 19 (.fld 0 (.t 18)),jP 20 (jL 19),jP 21 (.len false (.t 20)),jP 22 (.mv (jC 0))]) (.block 1 aNS)) (.seq (jR [jP 39 (.bin .eql (.t 11) (.c (.str ⟨#[110,101,116]⟩))),jA 38 39]) (.cond (.t 38) (.reg [] true [jA 40 0,jI 1 41 (.nilck (.t 40)),jI 2 42 (.fld 0 (.t 41)),jI 3 43 (jL 42),jI 4 44 (.fld 1 (.t 3)),jI 5 45 (jL 44),jI 6 46 (.idx 1 (.t 45) (jC 0)),jI 7 47 (jL 46),jI 8 48 (jF 72 [.t 43,.t 47] []),jI 9 49 (.nilck (.t 48)),jI 10 50 (.fld 0 (.t 49)),jI 11 51 (jL 50),jI 12 5 (jM 51)]) (.seq (jR [jP 53 (.bin .eql (.t 11) (.c (.str ⟨#[117,115,101,100]⟩))),jA 52 53]) (.cond (.t 52) (.reg [] true [jA 54 0,jI 1 55 (.nilck (.t 54)),jI 2 56 (.fld 1 (.t 55)),jI 3 57 (jL 56),jI 4 58 (.fld 1 (.t 3)),jI 5 59 (jL 58),jI 6 60 (.idx 1 (.t 59) (jC 0)),jI 7 61 (jL 60),jI 8 62 (jF 73 [.t 57,.t 61] []),jI 9 63 (.nilck (.t 62)),jI 10 64 (.fld 1 (.t 63)),jI 11 65 (jL 64),jI 12 5 (jM 65)]) (.seq (jR [jP 67 (.bin .eql (.t 11) (.c (.str ⟨#[108,111,115,115]⟩))),jA 66 67]) (.cond (.t 66) (.reg [] true [jA 68 0,jI 1 69 (.nilck (.t 68)),jI 2 70 (.fld 2 (.t 69)),jI 3 71 (jL 70),jI 4 72 (.fld 1 (.t 3)),jI 5 73 (jL 72),jI 6 74 (.idx 1 (.t 73) (jC 0)),jI 7 75 (jL 74),jI 8 76 (jF 74 [.t 71,.t 75] []),jI 9 77 (.nilck (.t 76)),jI 10 78 (.fld 0 (.t 77)),jI 11 79 (jL 78),jI 12 5 (jM 79)]) (.seq (jR [jP 81 (.bin .eql (.t 11) (.c (.str ⟨#[112,111,119,101,114]⟩))),jA 80 81]) (.cond (.t 80) (.reg [(0,false)] false [jA 82 0,jP 83 (.fld 1 (.t 3)),jP 84 (jL 83),jP 85 (.idx 1 (.t 84) (jC 0)),jP 86 (jL 85),jP 87 (jF 75 [.t 82,.t 86] []),jA 5 87]) (.seq (jR [jP 89 (.bin .eql (.t 11) (.c (.str ⟨#[116,105,99,107,101,116]⟩))),jA 88 89]) (.cond (.t 88) (.seq (.reg [] true [jP 90 (.fld 2 (.t 3)),jI 1 91 (jL 90),jI 2 92 (.idx 1 (.t 91) (jC 0)),jI 3 93 (jL 92),jI 4 94 (jM 0),jI 5 95 (.nilck (.t 94)),jI 6 96 (.fld 4 (.t 95)),jI 7 97 (jL 96),jI 8 98 (.len false (.t 97)),jI 9 99 (.bin .lss (.t 93) (.t 98)),jI 10 100 (jF 24 [.t 99,jC 5] [])]) (.seq (.reg [] true [jA 101 0,jI 1 102 (.nilck (.t 101)),jI 2 103 (.fld 4 (.t 102)),jI 3 104 (jL 103),jI 4 105 (.fld 2 (.t 3)),jI 5 106 (jL 105),jI 6 107 (.idx 1 (.t 106) (jC 0)),jI 7 108 (jL 107),jI 8 109 (.idx 1 (.t 104) (.t 108)),jI 9 110 (jL 109),jI 10 8 (jM 110)]) (.seq (.reg [] true [jA 111 8,jI 1 112 (.nilck (.t 111)),jI 2 113 (.fld 0 (.t 112)),jI 3 114 (jL 113),jI 4 115 (jM 8),jI 5 116 (.nilck (.t 115)),jI 6 117 (.fld 1 (.t 116)),jI 7 118 (jL 117),jI 8 119 (jM 8),jI 9 120 (.nilck (.t 119)),jI 10 121 (.fld 2 (.t 120)),jI 11 122 (jL 121),jI 12 123 (jF 23 [.t 122] [3,7]),jI 13 124 (.bslice 1 3 [(.str ⟨#[]⟩)] [(0,(1,(.t 114))),(1,(1,(.t 118))),(2,(1,(.t 123)))]),jI 14 9 (jM 124)]) (.seq (.seq (jR [jA 125 8,jP 126 (.nilck (.t 125)),jP 127 (.fld 3 (.t 126)),jP 128 (jL 127)]) (.cond (.t 128) (jR [jA 129 9,jP 130 (.bslice 1 1 [(.str ⟨#[]⟩)] [(0,(1,(.c (.str ⟨#[118,111,105,100]⟩))))]),jP 131 (.app 1 16 (.t 129) (.t 130)),jA 9 131]) .skip)) (.seq (.reg [(9,false)] false [jA 132 9,jP 133 (jF 76 [.t 132,.c (.str ⟨#[32]⟩)] []),jA 4 133]) .ret))))) .skip)))))))))))))) (.seq (jR [jA 134 5,jP 135 (jF 23 [.t 134] []),jA 4 135]) .ret)))),none,none⟩
def m29:RM:=⟨[(1,[(0,false)])],[],[]⟩
def x29:XFn:=by
 refine' (?f:jaa (jac f29 m29 [])) _ ?h
 case f=>exact λg _=>g
 case h=>conv=>lhs;cbv
def m30:RM:=⟨[(3,[(0,false)])],[[5,6,7],[5,6,8,9]],[]⟩
def aDf:XCode:=by
 refine' (?f:jab (mkL prog f30 m30 0 [])) _ ?h
 case f=>exact λg _=>g
 case h=>conv=>lhs;cbv
def aFy:XCode:=by
 refine' (?f:jbb (mkL prog f30 m30 1 [·])) _ ?h
 case f=>exact λg _=>g aDf
 case h=>intro a;conv=>lhs;cbv
def x30:XFn:=by
 refine' (?f:(g:XCode->XCode->XFn)->(∀ a b,jac f30 m30 [a,b]=g a b)->XFn) _ ?h
 case f=>exact λg _=>g aDf aFy
 case h=>intro a b;conv=>lhs;cbv
def x31:XFn:=by
 refine' (?f:jaa (jac f31 m16 [])) _ ?h
 case f=>exact λg _=>g
 case h=>conv=>lhs;cbv
def m32:RM:=⟨[(3,[(0,false)]),(7,[(0,false)]),(13,[(8,false)]),(17,[(0,false)]),(21,[(0,false)]),(22,[(0,false)])],[],[]⟩
def vZ:XFn:=by
 refine' (?f:jaa (jac f32 m32 [])) _ ?h
 case f=>exact λg _=>g
 case h=>conv=>lhs;cbv
def x33:XFn:=by
 refine' (?f:jaa (jac f33 m16 [])) _ ?h
 case f=>exact λg _=>g
 case h=>conv=>lhs;cbv
def m34:RM:=⟨[(3,[(0,false),(1,false),(2,false)]),(5,[(0,false)]),(7,[(0,false)]),(9,[(0,false)]),(11,[(0,false)]),(12,[(0,false)])],[],[]⟩
def x34:XFn:=by
 refine' (?f:jaa (jac f34 m34 [])) _ ?h
 case f=>exact λg _=>g
 case h=>conv=>lhs;cbv
def x35:XFn:=by
 refine' (?f:jaa (jac f35 m29 [])) _ ?h
 case f=>exact λg _=>g
 case h=>conv=>lhs;cbv
def x36:XFn:=by
 refine' (?f:jaa (jac f36 m16 [])) _ ?h
 case f=>exact λg _=>g
 case h=>conv=>lhs;cbv
def m37:RM:=⟨[(6,[(8,false)]),(7,[(5,false)]),(9,[(6,false),(5,false)]),(10,[(5,false)])],[[1,5,6,9,10,11]],[]⟩
def aVo:XCode:=by
 refine' (?f:jab (mkL prog f37 m37 0 [])) _ ?h
 case f=>exact λg _=>g
 case h=>conv=>lhs;cbv
def x37:XFn:=by
 refine' (?f:jba (jac f37 m37 [·])) _ ?h
 case f=>exact λg _=>g aVo
 case h=>intro a;conv=>lhs;cbv
def m39:RM:=⟨[(8,[(6,false)])],[[0,1,5,6,7]],[]⟩
def aVn:XCode:=by
 refine' (?f:jab (mkL prog f39 m39 0 [])) _ ?h
 case f=>exact λg _=>g
 case h=>conv=>lhs;cbv
def x39:XFn:=by
 refine' (?f:jba (jac f39 m39 [·])) _ ?h
 case f=>exact λg _=>g aVn
 case h=>intro a;conv=>lhs;cbv
def x40:XFn:=by
 refine' (?f:jaa (jac f40 m16 [])) _ ?h
 case f=>exact λg _=>g
 case h=>conv=>lhs;cbv
def x41:XFn:=by
 refine' (?f:jaa (jac f41 m29 [])) _ ?h
 case f=>exact λg _=>g
 case h=>conv=>lhs;cbv
def m43:RM:=⟨[(3,[(1,false)])],[],[]⟩
def x43:XFn:=by
 refine' (?f:jaa (jac f43 m43 [])) _ ?h
 case f=>exact λg _=>g
 case h=>conv=>lhs;cbv
def m44:RM:=⟨[],[[2,3,7,8,9]],[]⟩
def aVm:XCode:=by
 refine' (?f:jab (mkL prog f44 m44 0 [])) _ ?h
 case f=>exact λg _=>g
 case h=>conv=>lhs;cbv
def x44:XFn:=by
 refine' (?f:jba (jac f44 m44 [·])) _ ?h
 case f=>exact λg _=>g aVm
 case h=>intro a;conv=>lhs;cbv
def m45:RM:=⟨[],[[0,2,3,5]],[]⟩
def aVl:XCode:=by
 refine' (?f:jab (mkL prog f45 m45 0 [])) _ ?h
 case f=>exact λg _=>g
 case h=>conv=>lhs;cbv
def x45:XFn:=by
 refine' (?f:jba (jac f45 m45 [·])) _ ?h
 case f=>exact λg _=>g aVl
 case h=>intro a;conv=>lhs;cbv
def m46:RM:=⟨[],[[2,3,4,6,8]],[]⟩
def aVk:XCode:=by
 refine' (?f:jab (mkL prog f46 m46 0 [])) _ ?h
 case f=>exact λg _=>g
 case h=>conv=>lhs;cbv
def x46:XFn:=by
 refine' (?f:jba (jac f46 m46 [·])) _ ?h
 case f=>exact λg _=>g aVk
 case h=>intro a;conv=>lhs;cbv
def x47:XFn:=by
 refine' (?f:jaa (jac f47 m16 [])) _ ?h
 case f=>exact λg _=>g
 case h=>conv=>lhs;cbv
def x49:XFn:=by
 refine' (?f:jaa (jac f49 m16 [])) _ ?h
 case f=>exact λg _=>g
 case h=>conv=>lhs;cbv
def x50:XFn:=by
 refine' (?f:jaa (jac f50 m16 [])) _ ?h
 case f=>exact λg _=>g
 case h=>conv=>lhs;cbv
def x51:XFn:=by
 refine' (?f:jaa (jac f51 m16 [])) _ ?h
 case f=>exact λg _=>g
 case h=>conv=>lhs;cbv
def x52:XFn:=by
 refine' (?f:jaa (jac f52 m16 [])) _ ?h
 case f=>exact λg _=>g
 case h=>conv=>lhs;cbv
def x54:XFn:=by
 refine' (?f:jaa (jac f54 m16 [])) _ ?h
 case f=>exact λg _=>g
 case h=>conv=>lhs;cbv
def m55:RM:=⟨[(2,[(1,false)])],[],[]⟩
def x55:XFn:=by
 refine' (?f:jaa (jac f55 m55 [])) _ ?h
 case f=>exact λg _=>g
 case h=>conv=>lhs;cbv
def m56:RM:=⟨[],[[0,3,4,5,6],[0,3,4]],[]⟩
def aNR:XCode:=by
 refine' (?f:jab (mkL prog f56 m56 0 [])) _ ?h
 case f=>exact λg _=>g
 case h=>conv=>lhs;cbv
def aVj:XCode:=by
 refine' (?f:jbb (mkL prog f56 m56 1 [·])) _ ?h
 case f=>exact λg _=>g aNR
 case h=>intro a;conv=>lhs;cbv
def x56:XFn:=by
 refine' (?f:(g:XCode->XCode->XFn)->(∀ a b,jac f56 m56 [a,b]=g a b)->XFn) _ ?h
 case f=>exact λg _=>g aNR aVj
 case h=>intro a b;conv=>lhs;cbv
def m57:RM:=⟨[],[[0,1,5,6,7,8],[0,1,5,6]],[]⟩
def aLc:XCode:=by
 refine' (?f:jab (mkL prog f57 m57 0 [])) _ ?h
 case f=>exact λg _=>g
 case h=>conv=>lhs;cbv
def aVi:XCode:=by
 refine' (?f:jbb (mkL prog f57 m57 1 [·])) _ ?h
 case f=>exact λg _=>g aLc
 case h=>intro a;conv=>lhs;cbv
def x57:XFn:=by
 refine' (?f:(g:XCode->XCode->XFn)->(∀ a b,jac f57 m57 [a,b]=g a b)->XFn) _ ?h
 case f=>exact λg _=>g aLc aVi
 case h=>intro a b;conv=>lhs;cbv
def m58:RM:=⟨[],[[0,3]],[]⟩
def aVh:XCode:=by
 refine' (?f:jab (mkL prog f58 m58 0 [])) _ ?h
 case f=>exact λg _=>g
 case h=>conv=>lhs;cbv
def x58:XFn:=by
 refine' (?f:jba (jac f58 m58 [·])) _ ?h
 case f=>exact λg _=>g aVh
 case h=>intro a;conv=>lhs;cbv
def x61:XFn:=by
 refine' (?f:jaa (jac f61 m16 [])) _ ?h
 case f=>exact λg _=>g
 case h=>conv=>lhs;cbv
def m62:RM:=⟨[],[[0,6,7,8]],[]⟩
def aVg:XCode:=by
 refine' (?f:jab (mkL prog f62 m62 0 [])) _ ?h
 case f=>exact λg _=>g
 case h=>conv=>lhs;cbv
def x62:XFn:=by
 refine' (?f:jba (jac f62 m62 [·])) _ ?h
 case f=>exact λg _=>g aVg
 case h=>intro a;conv=>lhs;cbv
def x64:XFn:=by
 refine' (?f:jaa (jac f64 m16 [])) _ ?h
 case f=>exact λg _=>g
 case h=>conv=>lhs;cbv
def x65:XFn:=by
 refine' (?f:jaa (jac f65 m16 [])) _ ?h
 case f=>exact λg _=>g
 case h=>conv=>lhs;cbv
def x66:XFn:=by
 refine' (?f:jaa (jac f66 m16 [])) _ ?h
 case f=>exact λg _=>g
 case h=>conv=>lhs;cbv
def x67:XFn:=by
 refine' (?f:jaa (jac f67 m16 [])) _ ?h
 case f=>exact λg _=>g
 case h=>conv=>lhs;cbv
def x68:XFn:=by
 refine' (?f:jaa (jac f68 m16 [])) _ ?h
 case f=>exact λg _=>g
 case h=>conv=>lhs;cbv
def x69:XFn:=by
 refine' (?f:jaa (jac f69 m16 [])) _ ?h
 case f=>exact λg _=>g
 case h=>conv=>lhs;cbv
def x70:XFn:=by
 refine' (?f:jaa (jac f70 m16 [])) _ ?h
 case f=>exact λg _=>g
 case h=>conv=>lhs;cbv
def x71:XFn:=by
 refine' (?f:jaa (jac f71 m16 [])) _ ?h
 case f=>exact λg _=>g
 case h=>conv=>lhs;cbv
def x72:XFn:=by
 refine' (?f:jaa (jac f72 m16 [])) _ ?h
 case f=>exact λg _=>g
 case h=>conv=>lhs;cbv
def x73:XFn:=by
 refine' (?f:jaa (jac f73 m16 [])) _ ?h
 case f=>exact λg _=>g
 case h=>conv=>lhs;cbv
def x74:XFn:=by
 refine' (?f:jaa (jac f74 m16 [])) _ ?h
 case f=>exact λg _=>g
 case h=>conv=>lhs;cbv
def m75:RM:=⟨[],[[0,1,5,6,7,26,27,28]],[]⟩
def aVf:XCode:=by
 refine' (?f:jab (mkL prog f75 m75 0 [])) _ ?h
 case f=>exact λg _=>g
 case h=>conv=>lhs;cbv
def x75:XFn:=by
 refine' (?f:jba (jac f75 m75 [·])) _ ?h
 case f=>exact λg _=>g aVf
 case h=>intro a;conv=>lhs;cbv
def x77:XFn:=by
 refine' (?f:jaa (jac f77 m16 [])) _ ?h
 case f=>exact λg _=>g
 case h=>conv=>lhs;cbv
def m78:RM:=⟨[],[[0,3,4,5]],[]⟩
def aIb:XCode:=by
 refine' (?f:jab (mkL prog f78 m78 0 [])) _ ?h
 case f=>exact λg _=>g
 case h=>conv=>lhs;cbv
def x78:XFn:=by
 refine' (?f:jba (jac f78 m78 [·])) _ ?h
 case f=>exact λg _=>g aIb
 case h=>intro a;conv=>lhs;cbv
def aVe:XCode:=by
 refine' (?f:jab (mkL prog f79 m4 0 [])) _ ?h
 case f=>exact λg _=>g
 case h=>conv=>lhs;cbv
def x79:XFn:=by
 refine' (?f:jba (jac f79 m4 [·])) _ ?h
 case f=>exact λg _=>g aVe
 case h=>intro a;conv=>lhs;cbv
def aVd:XCode:=by
 refine' (?f:jab (mkL prog f80 m58 0 [])) _ ?h
 case f=>exact λg _=>g
 case h=>conv=>lhs;cbv
def x80:XFn:=by
 refine' (?f:jba (jac f80 m58 [·])) _ ?h
 case f=>exact λg _=>g aVd
 case h=>intro a;conv=>lhs;cbv
def aHZ:XCode:=by
 refine' (?f:jab (mkL prog f81 m4 0 [])) _ ?h
 case f=>exact λg _=>g
 case h=>conv=>lhs;cbv
def x81:XFn:=by
 refine' (?f:jba (jac f81 m4 [·])) _ ?h
 case f=>exact λg _=>g aHZ
 case h=>intro a;conv=>lhs;cbv
def m82:RM:=⟨[],[[0,1,5,6]],[]⟩
def aHY:XCode:=by
 refine' (?f:jab (mkL prog f82 m82 0 [])) _ ?h
 case f=>exact λg _=>g
 case h=>conv=>lhs;cbv
def x82:XFn:=by
 refine' (?f:jba (jac f82 m82 [·])) _ ?h
 case f=>exact λg _=>g aHY
 case h=>intro a;conv=>lhs;cbv
def x83:XFn:=by
 refine' (?f:jaa (jac f83 m16 [])) _ ?h
 case f=>exact λg _=>g
 case h=>conv=>lhs;cbv
def aNQ:XCode:=by
 refine' (?f:jab (mkL prog f84 m15 0 [])) _ ?h
 case f=>exact λg _=>g
 case h=>conv=>lhs;cbv
def x84:XFn:=by
 refine' (?f:jba (jac f84 m15 [·])) _ ?h
 case f=>exact λg _=>g aNQ
 case h=>intro a;conv=>lhs;cbv
def aLb:XCode:=by
 refine' (?f:jab (mkL prog f85 m15 0 [])) _ ?h
 case f=>exact λg _=>g
 case h=>conv=>lhs;cbv
def x85:XFn:=by
 refine' (?f:jba (jac f85 m15 [·])) _ ?h
 case f=>exact λg _=>g aLb
 case h=>intro a;conv=>lhs;cbv
def m86:RM:=⟨[(5,[(0,false)]),(6,[(0,false)])],[[0,1,5,6,7]],[]⟩
def aLa:XCode:=by
 refine' (?f:jab (mkL prog f86 m86 0 [])) _ ?h
 case f=>exact λg _=>g
 case h=>conv=>lhs;cbv
def x86:XFn:=by
 refine' (?f:jba (jac f86 m86 [·])) _ ?h
 case f=>exact λg _=>g aLa
 case h=>intro a;conv=>lhs;cbv
def aFx:XCode:=(.loop [0,1,2,7,8] (.seq (.seq (jR [jA 23 8,jA 24 0,jP 25 (.nilck (.t 24)),jP 26 (.fld 2 (.t 25)),jP 27 (jL 26),jP 28 (.len false (.t 27)),jP 29 (.bin .lss (.t 23) (.t 28))]) (.cond (.t 29) .skip (.exit 0))) (.seq (.block 1 (.seq (.reg [] true [jA 32 0,jI 1 33 (.nilck (.t 32)),jI 2 34 (.fld 2 (.t 33)),jI 3 35 (jL 34),jI 4 36 (jM 8),jI 5 37 (.idx 6 (.t 35) (.t 36)),jI 6 38 (.fld 0 (.t 37)),jI 7 39 (jL 38),jI 8 40 (jM 1),jI 9 41 (.idx 1 (.t 40) (jC 1)),jI 10 42 (jL 41),jI 11 43 (.bin .eql (.t 39) (.t 42))]) (.cond (.t 43) (.seq (.seq (.reg [] true [jA 44 2,jI 1 45 (.idx 1 (.t 44) (jC 3)),jI 2 46 (jL 45),jI 3 47 (jM 0),jI 4 48 (.nilck (.t 47)),jI 5 49 (.fld 2 (.t 48)),jI 6 50 (jL 49),jI 7 51 (jM 8),jI 8 52 (.idx 6 (.t 50) (.t 51)),jI 9 53 (.fld 1 (.t 52)),jI 10 54 (jL 53),jI 11 55 (.bin .sub (.t 54) (jC 500)),jI 12 56 (jM 0),jI 13 57 (.nilck (.t 56)),jI 14 58 (.fld 2 (.t 57)),jI 15 59 (jL 58),jI 16 60 (jM 8),jI 17 61 (.idx 6 (.t 59) (.t 60)),jI 18 62 (.fld 1 (.t 61)),jI 19 63 (jL 62),jI 20 64 (.bin .add (.t 63) (jC 500)),jI 21 65 (jF 54 [.t 46,.t 55,.t 64] []),jI 22 66 (.not (.t 65))]) (.cond (.t 66) (.seq (jR [jP 6 (.mv (jC 22))]) .ret) .skip)) (.exit 0)) .skip))) (jR [jA 30 8,jP 31 (.bin .add (.t 30) (jC 1)),jA 8 31]))))
def x87:XFn:=⟨91,[(6,none)],false,false,(.seq (jR [jP 6 (.mv (jC 0))]) (.seq (.reg [(0,false)] false [jA 9 0,jA 10 1,jP 11 (.idx 1 (.t 10) (jC 4)),jP 12 (jL 11),jP 13 (jF 85 [.t 9,.t 12] []),jA 7 13]) (.seq (.seq (jR [jA 14 7,jP 15 (.bin .lss (.t 14) (jC 0))]) (.cond (.t 15) (.seq (jR [jP 6 (.mv (jC 5))]) .ret) .skip)) (.seq (.seq (.reg [] true [jA 16 2,jI 1 17 (.idx 1 (.t 16) (jC 3)),jI 2 18 (jL 17),jI 3 19 (jM 2),jI 4 20 (.idx 1 (.t 19) (jC 2)),jI 5 21 (jL 20),jI 6 22 (.bin .gtr (.t 18) (.t 21))]) (.cond (.t 22) (.seq (jR [jP 6 (.mv (jC 10))]) .ret) .skip)) (.seq (.seq (jR [jP 8 (.mv (jC 0))]) (.block 0 aFx)) (.seq (.reg [] true [jA 67 0,jI 1 68 (jM 0),jI 2 69 (.nilck (.t 68)),jI 3 70 (.fld 2 (.t 69)),jI 4 71 (jL 70),jI 5 72 (jM 1),jI 6 73 (.idx 1 (.t 72) (jC 1)),jI 7 74 (jL 73),jI 8 75 (jM 2),jI 9 76 (.idx 1 (.t 75) (jC 3)),jI 10 77 (jL 76),jI 11 78 (jM 2),jI 12 79 (.idx 1 (.t 78) (jC 2)),jI 13 80 (jL 79),jI 14 81 (jM 2),jI 15 82 (.idx 1 (.t 81) (jC 3)),jI 16 83 (jL 82),jI 17 84 (.bin .sub (.t 80) (.t 83)),jI 18 85 (jM 7),jI 19 86 (.build [(.str ⟨#[]⟩),.int .i64 0,.int .i64 0,.int .i64 0,.bool false,.bool false] [(0,(1,(.t 74))),(1,(1,(.t 77))),(2,(1,(.t 84))),(3,(1,(.t 85)))]),jI 20 87 (.bslice 6 1 [(.str ⟨#[]⟩),.int .i64 0,.int .i64 0,.int .i64 0,.bool false,.bool false] [(0,(6,(.t 86)))]),jI 21 88 (.app 6 48 (.t 71) (.t 87)),jI 22 89 (.nilck (.t 67)),jI 23 90 (.fld 2 (.t 89)),jT 24 (.store 1 (.t 90) (.t 88) [])]) (.seq (jR [jP 6 (.mv (jC 0))]) .ret))))))),none,none⟩
def x88:XFn:=by
 refine' (?f:jaa (jac f88 m16 [])) _ ?h
 case f=>exact λg _=>g
 case h=>conv=>lhs;cbv
def aKZ:XCode:=by
 refine' (?f:jab (mkL prog f89 m4 0 [])) _ ?h
 case f=>exact λg _=>g
 case h=>conv=>lhs;cbv
def x89:XFn:=by
 refine' (?f:jba (jac f89 m4 [·])) _ ?h
 case f=>exact λg _=>g aKZ
 case h=>intro a;conv=>lhs;cbv
def m90:RM:=⟨[(1,[(1,false)])],[],[]⟩
def x90:XFn:=by
 refine' (?f:jaa (jac f90 m90 [])) _ ?h
 case f=>exact λg _=>g
 case h=>conv=>lhs;cbv
def x91:XFn:=by
 refine' (?f:jaa (jac f91 m43 [])) _ ?h
 case f=>exact λg _=>g
 case h=>conv=>lhs;cbv
def aNP:XCode:=by
 refine' (?f:jab (mkL prog f93 m4 0 [])) _ ?h
 case f=>exact λg _=>g
 case h=>conv=>lhs;cbv
def x93:XFn:=by
 refine' (?f:jba (jac f93 m4 [·])) _ ?h
 case f=>exact λg _=>g aNP
 case h=>intro a;conv=>lhs;cbv
def x94:XFn:=by
 refine' (?f:jaa (jac f94 m90 [])) _ ?h
 case f=>exact λg _=>g
 case h=>conv=>lhs;cbv
def m95:RM:=⟨[],[[0]],[]⟩
def aVc:XCode:=by
 refine' (?f:jab (mkL prog f95 m95 0 [])) _ ?h
 case f=>exact λg _=>g
 case h=>conv=>lhs;cbv
def x95:XFn:=by
 refine' (?f:jba (jac f95 m95 [·])) _ ?h
 case f=>exact λg _=>g aVc
 case h=>intro a;conv=>lhs;cbv
def m96:RM:=⟨[],[[0,5,6]],[]⟩
def aVb:XCode:=by
 refine' (?f:jab (mkL prog f96 m96 0 [])) _ ?h
 case f=>exact λg _=>g
 case h=>conv=>lhs;cbv
def x96:XFn:=by
 refine' (?f:jba (jac f96 m96 [·])) _ ?h
 case f=>exact λg _=>g aVb
 case h=>intro a;conv=>lhs;cbv
def x98:XFn:=by
 refine' (?f:jaa (jac f98 m16 [])) _ ?h
 case f=>exact λg _=>g
 case h=>conv=>lhs;cbv
def aOg:XCode:=by
 refine' (?f:jab (mkL prog f103 m58 0 [])) _ ?h
 case f=>exact λg _=>g
 case h=>conv=>lhs;cbv
def x103:XFn:=by
 refine' (?f:jba (jac f103 m58 [·])) _ ?h
 case f=>exact λg _=>g aOg
 case h=>intro a;conv=>lhs;cbv
def aEV:XFn:=by
 refine' (?f:jaa (jac f108 m16 [])) _ ?h
 case f=>exact λg _=>g
 case h=>conv=>lhs;cbv
def aIh:XFn:=by
 refine' (?f:jaa (jac f109 m16 [])) _ ?h
 case f=>exact λg _=>g
 case h=>conv=>lhs;cbv
def aSM:XFn:=by
 refine' (?f:jaa (jac f110 m16 [])) _ ?h
 case f=>exact λg _=>g
 case h=>conv=>lhs;cbv
def aIg:XFn:=by
 refine' (?f:jaa (jac f111 m16 [])) _ ?h
 case f=>exact λg _=>g
 case h=>conv=>lhs;cbv
def aMx:XFn:=by
 refine' (?f:jaa (jac f112 m16 [])) _ ?h
 case f=>exact λg _=>g
 case h=>conv=>lhs;cbv
def aIf:XFn:=by
 refine' (?f:jaa (jac f113 m16 [])) _ ?h
 case f=>exact λg _=>g
 case h=>conv=>lhs;cbv
def aIe:XFn:=by
 refine' (?f:jaa (jac f114 m16 [])) _ ?h
 case f=>exact λg _=>g
 case h=>conv=>lhs;cbv
def aMw:XFn:=by
 refine' (?f:jaa (jac f115 m16 [])) _ ?h
 case f=>exact λg _=>g
 case h=>conv=>lhs;cbv
def aId:XFn:=by
 refine' (?f:jaa (jac f116 m16 [])) _ ?h
 case f=>exact λg _=>g
 case h=>conv=>lhs;cbv
def aSK:XFn:=by
 refine' (?f:jaa (jac f117 m16 [])) _ ?h
 case f=>exact λg _=>g
 case h=>conv=>lhs;cbv
def aXm:RM:=⟨[(1,[(1,true)]),(6,[(1,true)]),(9,[(1,true)]),(10,[(1,true)])],[[1,5,6,7,8],[1,5,6]],[]⟩
def aBA:XCode:=by
 refine' (?f:jab (mkL prog f119 aXm 0 [])) _ ?h
 case f=>exact λg _=>g
 case h=>conv=>lhs;cbv
def aGE:XCode:=by
 refine' (?f:jbb (mkL prog f119 aXm 1 [·])) _ ?h
 case f=>exact λg _=>g aBA
 case h=>intro a;conv=>lhs;cbv
def aSJ:XFn:=by
 refine' (?f:(g:XCode->XCode->XFn)->(∀ a b,jac f119 aXm [a,b]=g a b)->XFn) _ ?h
 case f=>exact λg _=>g aBA aGE
 case h=>intro a b;conv=>lhs;cbv
def bAb:RM:=⟨[],[[5,10,11]],[]⟩
def aOf:XCode:=by
 refine' (?f:jab (mkL prog f121 bAb 0 [])) _ ?h
 case f=>exact λg _=>g
 case h=>conv=>lhs;cbv
def x121:XFn:=by
 refine' (?f:jba (jac f121 bAb [·])) _ ?h
 case f=>exact λg _=>g aOf
 case h=>intro a;conv=>lhs;cbv
def bDf:RM:=⟨[(1,[(2,true)]),(4,[(6,true)])],[],[]⟩
def aSI:XFn:=by
 refine' (?f:jaa (jac f139 bDf [])) _ ?h
 case f=>exact λg _=>g
 case h=>conv=>lhs;cbv
def aSH:XFn:=by
 refine' (?f:jaa (jac f140 m16 [])) _ ?h
 case f=>exact λg _=>g
 case h=>conv=>lhs;cbv
def aXl:RM:=⟨[(5,[(1,true)]),(7,[(1,true)]),(12,[(1,true)]),(14,[(4,true)])],[[1,3,4,5],[1,3]],[]⟩
def aJH:XCode:=by
 refine' (?f:jab (mkL prog f142 aXl 0 [])) _ ?h
 case f=>exact λg _=>g
 case h=>conv=>lhs;cbv
def aOe:XCode:=by
 refine' (?f:jbb (mkL prog f142 aXl 1 [·])) _ ?h
 case f=>exact λg _=>g aJH
 case h=>intro a;conv=>lhs;cbv
def aSG:XFn:=by
 refine' (?f:(g:XCode->XCode->XFn)->(∀ a b,jac f142 aXl [a,b]=g a b)->XFn) _ ?h
 case f=>exact λg _=>g aJH aOe
 case h=>intro a b;conv=>lhs;cbv
def aSF:XFn:=by
 refine' (?f:jaa (jac f143 m16 [])) _ ?h
 case f=>exact λg _=>g
 case h=>conv=>lhs;cbv
def bDc:RM:=⟨[(1,[(3,true)])],[],[]⟩
def aSE:XFn:=by
 refine' (?f:jaa (jac f144 bDc [])) _ ?h
 case f=>exact λg _=>g
 case h=>conv=>lhs;cbv
def aYr:XFn:=by
 refine' (?f:jaa (jac f154 m16 [])) _ ?h
 case f=>exact λg _=>g
 case h=>conv=>lhs;cbv
def bDa:RM:=⟨[(1,[(1,true)]),(4,[(1,true)])],[],[]⟩
def aSD:XFn:=by
 refine' (?f:jaa (jac f162 bDa [])) _ ?h
 case f=>exact λg _=>g
 case h=>conv=>lhs;cbv
def bAa:RM:=⟨[],[[1,5,8,9]],[]⟩
def aOd:XCode:=by
 refine' (?f:jab (mkL prog f163 bAa 0 [])) _ ?h
 case f=>exact λg _=>g
 case h=>conv=>lhs;cbv
def aSC:XFn:=by
 refine' (?f:jba (jac f163 bAa [·])) _ ?h
 case f=>exact λg _=>g aOd
 case h=>intro a;conv=>lhs;cbv
def bCZ:RM:=⟨[(2,[(3,true),(1,true)]),(4,[(6,false),(3,true)]),(5,[(1,true),(6,false)])],[],[[1,2,3,5]]⟩
def aOc:XFn:=by
 refine' (?f:jaa (jac f164 bCZ [])) _ ?h
 case f=>exact λg _=>g
 case h=>conv=>lhs;cbv
theorem bAI:aO prog (164,aOc):=⟨⟨λvs w=>call164 vs w,_,_,func164,rfl,rfl,by kernel_rfl,by kernel_rfl⟩,by kernel_rfl,⟨bB rfl,⟨bB rfl,⟨⟨bB rfl,⟨by kernel_rfl,bB rfl,bB rfl⟩⟩,bB rfl⟩⟩⟩,rfl⟩
def aSB:XFn:=by
 refine' (?f:jaa (jac f165 m16 [])) _ ?h
 case f=>exact λg _=>g
 case h=>conv=>lhs;cbv
def aSA:XFn:=by
 refine' (?f:jaa (jac f166 m16 [])) _ ?h
 case f=>exact λg _=>g
 case h=>conv=>lhs;cbv
def aSz:XFn:=by
 refine' (?f:jaa (jac f168 m16 [])) _ ?h
 case f=>exact λg _=>g
 case h=>conv=>lhs;cbv
def bCV:RM:=⟨[(1,[(2,true),(1,false)])],[],[]⟩
def aSy:XFn:=by
 refine' (?f:jaa (jac f169 bCV [])) _ ?h
 case f=>exact λg _=>g
 case h=>conv=>lhs;cbv
def aYq:XFn:=by
 refine' (?f:jaa (jac f175 m16 [])) _ ?h
 case f=>exact λg _=>g
 case h=>conv=>lhs;cbv
def aYp:XFn:=by
 refine' (?f:jaa (jac f176 m16 [])) _ ?h
 case f=>exact λg _=>g
 case h=>conv=>lhs;cbv
def aZZ:RM:=⟨[(5,[(1,true)]),(7,[(1,true)]),(13,[(1,true)]),(15,[(5,true),(3,false)])],[[1,3,25,26,27]],[]⟩
def aOa:XCode:=by
 refine' (?f:jab (mkL prog f184 aZZ 0 [])) _ ?h
 case f=>exact λg _=>g
 case h=>conv=>lhs;cbv
def aSx:XFn:=by
 refine' (?f:jba (jac f184 aZZ [·])) _ ?h
 case f=>exact λg _=>g aOa
 case h=>intro a;conv=>lhs;cbv
def aZY:RM:=⟨[],[[1,5,9,10,11]],[]⟩
def aNZ:XCode:=by
 refine' (?f:jab (mkL prog f185 aZY 0 [])) _ ?h
 case f=>exact λg _=>g
 case h=>conv=>lhs;cbv
def aSw:XFn:=by
 refine' (?f:jba (jac f185 aZY [·])) _ ?h
 case f=>exact λg _=>g aNZ
 case h=>intro a;conv=>lhs;cbv
def aSv:XFn:=by
 refine' (?f:jaa (jac f186 m16 [])) _ ?h
 case f=>exact λg _=>g
 case h=>conv=>lhs;cbv
def aZX:RM:=⟨[(2,[(2,true)])],[[0,1,2,4]],[]⟩
def aNY:XCode:=by
 refine' (?f:jab (mkL prog f187 aZX 0 [])) _ ?h
 case f=>exact λg _=>g
 case h=>conv=>lhs;cbv
def aSu:XFn:=by
 refine' (?f:jba (jac f187 aZX [·])) _ ?h
 case f=>exact λg _=>g aNY
 case h=>intro a;conv=>lhs;cbv
def aZW:RM:=⟨[],[[0,7,8,9]],[]⟩
def aNX:XCode:=by
 refine' (?f:jab (mkL prog f188 aZW 0 [])) _ ?h
 case f=>exact λg _=>g
 case h=>conv=>lhs;cbv
def aSt:XFn:=by
 refine' (?f:jba (jac f188 aZW [·])) _ ?h
 case f=>exact λg _=>g aNX
 case h=>intro a;conv=>lhs;cbv
def aZV:RM:=⟨[(3,[(1,false)])],[[1,2,3,7]],[]⟩
def aJG:XCode:=by
 refine' (?f:jab (mkL prog f189 aZV 0 [])) _ ?h
 case f=>exact λg _=>g
 case h=>conv=>lhs;cbv
def aSs:XFn:=by
 refine' (?f:jba (jac f189 aZV [·])) _ ?h
 case f=>exact λg _=>g aJG
 case h=>intro a;conv=>lhs;cbv
def aSr:XFn:=by
 refine' (?f:jaa (jac f196 m29 [])) _ ?h
 case f=>exact λg _=>g
 case h=>conv=>lhs;cbv
def aSq:XFn:=by
 refine' (?f:jaa (jac f197 m16 [])) _ ?h
 case f=>exact λg _=>g
 case h=>conv=>lhs;cbv
def bCP:RM:=⟨[(1,[(0,false),(1,false)])],[],[]⟩
def aSp:XFn:=by
 refine' (?f:jaa (jac f198 bCP [])) _ ?h
 case f=>exact λg _=>g
 case h=>conv=>lhs;cbv
def aZU:RM:=⟨[],[[1,2,5,6]],[]⟩
def aGD:XCode:=by
 refine' (?f:jab (mkL prog f199 aZU 0 [])) _ ?h
 case f=>exact λg _=>g
 case h=>conv=>lhs;cbv
def aSo:XFn:=by
 refine' (?f:jba (jac f199 aZU [·])) _ ?h
 case f=>exact λg _=>g aGD
 case h=>intro a;conv=>lhs;cbv
def aZT:RM:=⟨[],[[0,1,7,8]],[]⟩
def aNW:XCode:=by
 refine' (?f:jab (mkL prog f200 aZT 0 [])) _ ?h
 case f=>exact λg _=>g
 case h=>conv=>lhs;cbv
def aSn:XFn:=by
 refine' (?f:jba (jac f200 aZT [·])) _ ?h
 case f=>exact λg _=>g aNW
 case h=>intro a;conv=>lhs;cbv
def bCO:RM:=⟨[(2,[(1,false)])],[],[[2,5]]⟩
def aNU:XFn:=by
 refine' (?f:jaa (jac f219 bCO [])) _ ?h
 case f=>exact λg _=>g
 case h=>conv=>lhs;cbv
theorem bAq:aO prog (219,aNU):=⟨⟨λvs w=>call219 vs w,_,_,func219,rfl,rfl,by kernel_rfl,by kernel_rfl⟩,by kernel_rfl,⟨bB rfl,⟨bB rfl,⟨⟨bB rfl,⟨by kernel_rfl,bB rfl,bB rfl⟩⟩,bB rfl⟩⟩⟩,rfl⟩
def aSm:XFn:=by
 refine' (?f:jaa (jac f220 bCV [])) _ ?h
 case f=>exact λg _=>g
 case h=>conv=>lhs;cbv
def aSl:XFn:=by
 refine' (?f:jaa (jac f221 m16 [])) _ ?h
 case f=>exact λg _=>g
 case h=>conv=>lhs;cbv
def aZS:RM:=⟨[(1,[(1,true)])],[[0,1]],[]⟩
def aGC:XCode:=by
 refine' (?f:jab (mkL prog f222 aZS 0 [])) _ ?h
 case f=>exact λg _=>g
 case h=>conv=>lhs;cbv
def aSk:XFn:=by
 refine' (?f:jba (jac f222 aZS [·])) _ ?h
 case f=>exact λg _=>g aGC
 case h=>intro a;conv=>lhs;cbv
def aSj:XFn:=by
 refine' (?f:jaa (jac f227 m29 [])) _ ?h
 case f=>exact λg _=>g
 case h=>conv=>lhs;cbv
def aSi:XFn:=by
 refine' (?f:jaa (jac f228 bCP [])) _ ?h
 case f=>exact λg _=>g
 case h=>conv=>lhs;cbv
def bCJ:RM:=⟨[(1,[(1,true)])],[],[]⟩
def aSh:XFn:=by
 refine' (?f:jaa (jac f229 bCJ [])) _ ?h
 case f=>exact λg _=>g
 case h=>conv=>lhs;cbv
def aNT:XCode:=by
 refine' (?f:jab (mkL prog f230 aZT 0 [])) _ ?h
 case f=>exact λg _=>g
 case h=>conv=>lhs;cbv
def aSg:XFn:=by
 refine' (?f:jba (jac f230 aZT [·])) _ ?h
 case f=>exact λg _=>g aNT
 case h=>intro a;conv=>lhs;cbv
end Go.Proofs.YtfcdcgplogojbaaGreatDoor
end
