/- Parts of a proof, joined. No statement of the seed is proved here. -/
import Derived.Test.YtmapgnepfgnphaaGreatDoorH4
set_option linter.unusedSimpArgs false
set_option linter.unusedVariables false
set_option linter.unusedSectionVars false
set_option maxRecDepth 100000
section
namespace Go.Proofs.YtmapgnepfgnphaaGreatDoor
open Go Go.DL Go.Proofs.Tryz
theorem cT{k:Nat}{x:XFn}{fn:Func}(h1:∀(vs:Array Value)(w:World),(callFunc k vs).run prog w = .ok (.enter k vs) w)(h2:prog.funcs[k]?=some fn)(h3:∃ c,fn.body=some c∧fn.ntmps=x.fn.N∧fn.results.toList.mapM (aCk prog)=some x.fn.res∧aIH prog x.fn.N c=some (x.fn.dfr,x.fn.body):=by exact⟨_,rfl,rfl,by kernel_rfl,by kernel_rfl⟩)(h4:okD x=true:=by kernel_rfl)(h5:gW x x.body:=by exact aV rfl)(h6:x.prm=none:=by rfl):aP prog (k,x) :=
 ⟨⟨h1,by obtain⟨c,h⟩:=h3;exact⟨fn,c,h2,h⟩⟩,h4,h5,h6⟩
abbrev jA(n k:Nat):DOper:=⟨0,some n,.mv (.t k),none⟩
abbrev jP(n:Nat)(o:DOp):DOper:=⟨0,some n,o,none⟩
abbrev jI(i n:Nat)(o:DOp):DOper:=⟨i,some n,o,none⟩
abbrev jT(i:Nat)(o:DOp):DOper:=⟨i,none,o,none⟩
abbrev jC(k:Int):AO:=.c (.int .i64 k)
abbrev jF(k:Nat)(a:List AO)(l:List Nat):DOp:=.callf false (.c (.fn (.func k) [] [])) a l
abbrev jR(l:List DOper):XCode:=.reg [] false l
abbrev jM(k:Nat):DOp:=.mv (.t k)
abbrev jL(k:Nat):DOp:=.load false 1 (.t k)
abbrev jaa(a:XFn):=(g:XFn)→a=g→XFn
abbrev jab(a:XCode):=(g:XCode)→a=g→XCode
noncomputable abbrev jac(f:Func)(m:RM)(l:List XCode):XFn:=mkF prog f m false false l
abbrev jba(F:XCode→XFn):=(g:XCode→XFn)→(∀ a,F a=g a)→XFn
abbrev jbb(F:XCode→XCode):=(g:XCode→XCode)→(∀ a,F a=g a)→XCode
def m4:RM:=⟨[(1,[(0,false)]),(6,[(3,false),(4,false)]),(9,[(3,false),(4,false)])],[[0,3,4,5]],[]⟩
def aNo:XCode:=by
 refine' (?f:jab (mkL prog f4 m4 0 [])) _ ?h
 case f=>exact fun g _=>g
 case h=>conv=>lhs;cbv
def x4:XFn:=by
 refine' (?f:jba (jac f4 m4 [·])) _ ?h
 case f=>exact fun g _=>g aNo
 case h=>intro a;conv=>lhs;cbv
def m12:RM:=⟨[],[[0,3,4]],[]⟩
def aVe:XCode:=by
 refine' (?f:jab (mkL prog f12 m12 0 [])) _ ?h
 case f=>exact fun g _=>g
 case h=>conv=>lhs;cbv
def x12:XFn:=by
 refine' (?f:jba (jac f12 m12 [·])) _ ?h
 case f=>exact fun g _=>g aVe
 case h=>intro a;conv=>lhs;cbv
def m13:RM:=⟨[(4,[(5,false)]),(7,[(8,false),(5,false)]),(10,[(14,false)]),(11,[(15,false)]),(13,[(14,false)]),(14,[(16,false),(14,false)])],[],[]⟩
def x13:XFn:=by
 refine' (?f:jaa (jac f13 m13 [])) _ ?h
 case f=>exact fun g _=>g
 case h=>conv=>lhs;cbv
def m14:RM:=⟨[(1,[(1,false)]),(15,[(0,false),(1,false)])],[[0,1,20,21,22]],[]⟩
def aYi:XCode:=by
 refine' (?f:jab (mkL prog f14 m14 0 [])) _ ?h
 case f=>exact fun g _=>g
 case h=>conv=>lhs;cbv
def x14:XFn:=by
 refine' (?f:jba (jac f14 m14 [·])) _ ?h
 case f=>exact fun g _=>g aYi
 case h=>intro a;conv=>lhs;cbv
def m16:RM:=⟨[(32,[(4,false)])],[[0,1,4,5,7,8,9,35,36],[4,5,105,106,107]],[]⟩
def aVd:XCode:=by
 refine' (?f:jab (mkL prog f16 m16 0 [])) _ ?h
 case f=>exact fun g _=>g
 case h=>conv=>lhs;cbv
def aYh:XCode:=by
 refine' (?f:jbb (mkL prog f16 m16 1 [·])) _ ?h
 case f=>exact fun g _=>g aVd
 case h=>intro a;conv=>lhs;cbv
def x16:XFn:=by
 refine' (?f:(g:XCode→XCode→XFn)→(∀ a b,jac f16 m16 [a,b]=g a b)→XFn) _ ?h
 case f=>exact fun g _=>g aVd aYh
 case h=>intro a b;conv=>lhs;cbv
def m18:RM:=⟨[],[[0,1,5]],[]⟩
def aVc:XCode:=by
 refine' (?f:jab (mkL prog f18 m18 0 [])) _ ?h
 case f=>exact fun g _=>g
 case h=>conv=>lhs;cbv
def x18:XFn:=by
 refine' (?f:jba (jac f18 m18 [·])) _ ?h
 case f=>exact fun g _=>g aVc
 case h=>intro a;conv=>lhs;cbv
def m19:RM:=⟨[],[],[]⟩
def x19:XFn:=by
 refine' (?f:jaa (jac f19 m19 [])) _ ?h
 case f=>exact fun g _=>g
 case h=>conv=>lhs;cbv
def x20:XFn:=by
 refine' (?f:jaa (jac f20 m19 [])) _ ?h
 case f=>exact fun g _=>g
 case h=>conv=>lhs;cbv
def m22:RM:=⟨[(3,[(1,false)]),(7,[(0,false),(5,false),(6,false)]),(11,[(0,false)]),(12,[(10,false),(5,false),(6,false)]),(17,[(1,false)]),(18,[(10,true)])],[],[]⟩
def x22:XFn:=by
 refine' (?f:jaa (jac f22 m22 [])) _ ?h
 case f=>exact fun g _=>g
 case h=>conv=>lhs;cbv
def m23:RM:=⟨[(1,[(0,false)]),(4,[(3,false)]),(5,[(0,false)]),(8,[(4,false),(3,false)]),(9,[(3,false)])],[],[[3]]⟩
def x23:XFn:=by
 refine' (?f:jaa (jac f23 m23 [])) _ ?h
 case f=>exact fun g _=>g
 case h=>conv=>lhs;cbv
theorem bEK:aP prog (23,x23):=⟨⟨fun vs w=>call23 vs w,_,_,func23,rfl,rfl,by kernel_rfl,by kernel_rfl⟩,by kernel_rfl,⟨aV rfl,⟨aV rfl,⟨aV rfl,⟨aV rfl,⟨⟨aV rfl,⟨by kernel_rfl,aV rfl,aV rfl⟩⟩,aV rfl⟩⟩⟩⟩⟩,rfl⟩
def m24:RM:=⟨[(7,[(6,false)])],[[0,3,4,5]],[]⟩
def aFi:XCode:=by
 refine' (?f:jab (mkL prog f24 m24 0 [])) _ ?h
 case f=>exact fun g _=>g
 case h=>conv=>lhs;cbv
def x24:XFn:=by
 refine' (?f:jba (jac f24 m24 [·])) _ ?h
 case f=>exact fun g _=>g aFi
 case h=>intro a;conv=>lhs;cbv
def m25:RM:=⟨[(1,[(0,false)]),(22,[(2,false),(15,false)])],[[3,5,8,9],[2,3,58,59,60]],[]⟩
def aHs:XCode:=by
 refine' (?f:jab (mkL prog f25 m25 0 [])) _ ?h
 case f=>exact fun g _=>g
 case h=>conv=>lhs;cbv
def aKy:XCode:=by
 refine' (?f:jbb (mkL prog f25 m25 1 [·])) _ ?h
 case f=>exact fun g _=>g aHs
 case h=>intro a;conv=>lhs;cbv
def x25:XFn:=by
 refine' (?f:(g:XCode→XCode→XFn)→(∀ a b,jac f25 m25 [a,b]=g a b)→XFn) _ ?h
 case f=>exact fun g _=>g aHs aKy
 case h=>intro a b;conv=>lhs;cbv
def m31:RM:=⟨[(4,[(0,false)])],[[0,1,5,6]],[]⟩
def aKx:XCode:=by
 refine' (?f:jab (mkL prog f31 m31 0 [])) _ ?h
 case f=>exact fun g _=>g
 case h=>conv=>lhs;cbv
def x31:XFn:=by
 refine' (?f:jba (jac f31 m31 [·])) _ ?h
 case f=>exact fun g _=>g aKx
 case h=>intro a;conv=>lhs;cbv
def aYd:XCode:=by
 refine' (?f:jab (mkL prog f34 m12 0 [])) _ ?h
 case f=>exact fun g _=>g
 case h=>conv=>lhs;cbv
def x34:XFn:=by
 refine' (?f:jba (jac f34 m12 [·])) _ ?h
 case f=>exact fun g _=>g aYd
 case h=>intro a;conv=>lhs;cbv
def x35:XFn:=by
 refine' (?f:jaa (jac f35 m19 [])) _ ?h
 case f=>exact fun g _=>g
 case h=>conv=>lhs;cbv
def m36:RM:=⟨[(1,[(0,false)])],[],[]⟩
def x36:XFn:=by
 refine' (?f:jaa (jac f36 m36 [])) _ ?h
 case f=>exact fun g _=>g
 case h=>conv=>lhs;cbv
def m38:RM:=⟨[(6,[(8,false)]),(7,[(5,false)]),(9,[(6,false),(5,false)]),(10,[(5,false)])],[[1,5,6,9,10,11]],[]⟩
def aVb:XCode:=by
 refine' (?f:jab (mkL prog f38 m38 0 [])) _ ?h
 case f=>exact fun g _=>g
 case h=>conv=>lhs;cbv
def x38:XFn:=by
 refine' (?f:jba (jac f38 m38 [·])) _ ?h
 case f=>exact fun g _=>g aVb
 case h=>intro a;conv=>lhs;cbv
def x39:XFn:=by
 refine' (?f:jaa (jac f39 m19 [])) _ ?h
 case f=>exact fun g _=>g
 case h=>conv=>lhs;cbv
def m41:RM:=⟨[(8,[(6,false)])],[[0,1,5,6,7]],[]⟩
def aVa:XCode:=by
 refine' (?f:jab (mkL prog f41 m41 0 [])) _ ?h
 case f=>exact fun g _=>g
 case h=>conv=>lhs;cbv
def x41:XFn:=by
 refine' (?f:jba (jac f41 m41 [·])) _ ?h
 case f=>exact fun g _=>g aVa
 case h=>intro a;conv=>lhs;cbv
def m42:RM:=⟨[(3,[(1,false)])],[],[]⟩
def x42:XFn:=by
 refine' (?f:jaa (jac f42 m42 [])) _ ?h
 case f=>exact fun g _=>g
 case h=>conv=>lhs;cbv
def m43:RM:=⟨[],[[2,3,7,8,9]],[]⟩
def aUZ:XCode:=by
 refine' (?f:jab (mkL prog f43 m43 0 [])) _ ?h
 case f=>exact fun g _=>g
 case h=>conv=>lhs;cbv
def x43:XFn:=by
 refine' (?f:jba (jac f43 m43 [·])) _ ?h
 case f=>exact fun g _=>g aUZ
 case h=>intro a;conv=>lhs;cbv
def m44:RM:=⟨[],[[0,2,3,5]],[]⟩
def aUY:XCode:=by
 refine' (?f:jab (mkL prog f44 m44 0 [])) _ ?h
 case f=>exact fun g _=>g
 case h=>conv=>lhs;cbv
def x44:XFn:=by
 refine' (?f:jba (jac f44 m44 [·])) _ ?h
 case f=>exact fun g _=>g aUY
 case h=>intro a;conv=>lhs;cbv
def m45:RM:=⟨[],[[2,3,4,6,8]],[]⟩
def aUX:XCode:=by
 refine' (?f:jab (mkL prog f45 m45 0 [])) _ ?h
 case f=>exact fun g _=>g
 case h=>conv=>lhs;cbv
def x45:XFn:=by
 refine' (?f:jba (jac f45 m45 [·])) _ ?h
 case f=>exact fun g _=>g aUX
 case h=>intro a;conv=>lhs;cbv
def x46:XFn:=by
 refine' (?f:jaa (jac f46 m19 [])) _ ?h
 case f=>exact fun g _=>g
 case h=>conv=>lhs;cbv
def m49:RM:=⟨[],[[0,3,4,5,6],[0,3,4]],[]⟩
def aNp:XCode:=by
 refine' (?f:jab (mkL prog f49 m49 0 [])) _ ?h
 case f=>exact fun g _=>g
 case h=>conv=>lhs;cbv
def aUW:XCode:=by
 refine' (?f:jbb (mkL prog f49 m49 1 [·])) _ ?h
 case f=>exact fun g _=>g aNp
 case h=>intro a;conv=>lhs;cbv
def x49:XFn:=by
 refine' (?f:(g:XCode→XCode→XFn)→(∀ a b,jac f49 m49 [a,b]=g a b)→XFn) _ ?h
 case f=>exact fun g _=>g aNp aUW
 case h=>intro a b;conv=>lhs;cbv
def x52:XFn:=by
 refine' (?f:jaa (jac f52 m19 [])) _ ?h
 case f=>exact fun g _=>g
 case h=>conv=>lhs;cbv
def x53:XFn:=by
 refine' (?f:jaa (jac f53 m19 [])) _ ?h
 case f=>exact fun g _=>g
 case h=>conv=>lhs;cbv
def x54:XFn:=by
 refine' (?f:jaa (jac f54 m19 [])) _ ?h
 case f=>exact fun g _=>g
 case h=>conv=>lhs;cbv
def x55:XFn:=by
 refine' (?f:jaa (jac f55 m19 [])) _ ?h
 case f=>exact fun g _=>g
 case h=>conv=>lhs;cbv
def x58:XFn:=by
 refine' (?f:jaa (jac f58 m19 [])) _ ?h
 case f=>exact fun g _=>g
 case h=>conv=>lhs;cbv
def x59:XFn:=by
 refine' (?f:jaa (jac f59 m19 [])) _ ?h
 case f=>exact fun g _=>g
 case h=>conv=>lhs;cbv
def m60:RM:=⟨[(2,[(0,false)]),(15,[(11,false)])],[[2,4,6,47],[2,6,64]],[]⟩
def aBJ:XCode:=by
 refine' (?f:jab (mkL prog f60 m60 0 [])) _ ?h
 case f=>exact fun g _=>g
 case h=>conv=>lhs;cbv
def aCG:XCode:=by
 refine' (?f:jbb (mkL prog f60 m60 1 [·])) _ ?h
 case f=>exact fun g _=>g aBJ
 case h=>intro a;conv=>lhs;cbv
def x60:XFn:=by
 refine' (?f:(g:XCode→XCode→XFn)→(∀ a b,jac f60 m60 [a,b]=g a b)→XFn) _ ?h
 case f=>exact fun g _=>g aBJ aCG
 case h=>intro a b;conv=>lhs;cbv
def oL:XFn:=by
 refine' (?f:jaa (jac f61 m19 [])) _ ?h
 case f=>exact fun g _=>g
 case h=>conv=>lhs;cbv
def aNn:XCode:=(.loop [0,5,20,21,22] (.seq (jR [jP 23 (.bin .lss (.t 22) (.t 21))]) (.seq (.cond (.t 23) .skip (.exit 1)) (.seq (.block 2 (.seq (jR [jP 24 (.idx 1 (.t 20) (.t 22)),jP 25 (jL 24),jA 7 25]) (.reg [(7,false)] false [jA 26 5,jA 27 0,jP 28 (.nilck (.t 27)),jP 29 (.fld 0 (.t 28)),jP 30 (jL 29),jA 31 7,jP 32 (jF 95 [.t 30,.t 31] []),jP 33 (.nilck (.t 32)),jP 34 (.fld 0 (.t 33)),jP 35 (jL 34),jP 36 (.bin .add (.t 26) (.t 35)),jA 5 36]))) (jR [jP 37 (.bin .add (.t 22) (jC 1)),jA 22 37])))))
def yG:XFn:=⟨136,[(4,none)],false,false,(.seq (jR [jP 3 (.box (.t 1)),jP 4 (.mv (.c (.str ⟨#[]⟩)))]) (.seq (jR [jP 5 (.mv (jC 0))]) (.seq (.seq (jR [jP 10 (.fld 0 (.t 3)),jP 11 (jL 10)]) (.block 0 (.seq (jR [jP 13 (.bin .eql (.t 11) (.c (.str ⟨#[116,111,116,97,108]⟩))),jA 12 13]) (.cond (.t 12) (.seq (jR [jA 14 0,jP 15 (.nilck (.t 14)),jP 16 (.fld 0 (.t 15)),jP 17 (jL 16),jP 18 (.nilck (.t 17)),jP 19 (.fld 0 (.t 18)),jP 20 (jL 19),jP 21 (.len false (.t 20)),jP 22 (.mv (jC 0))]) (.block 1 aNn)) (.seq (jR [jP 39 (.bin .eql (.t 11) (.c (.str ⟨#[110,101,116]⟩))),jA 38 39]) (.cond (.t 38) (.reg [] true [jA 40 0,jI 1 41 (.nilck (.t 40)),jI 2 42 (.fld 0 (.t 41)),jI 3 43 (jL 42),jI 4 44 (.fld 1 (.t 3)),jI 5 45 (jL 44),jI 6 46 (.idx 1 (.t 45) (jC 0)),jI 7 47 (jL 46),jI 8 48 (jF 95 [.t 43,.t 47] []),jI 9 49 (.nilck (.t 48)),jI 10 50 (.fld 0 (.t 49)),jI 11 51 (jL 50),jI 12 5 (jM 51)]) (.seq (jR [jP 53 (.bin .eql (.t 11) (.c (.str ⟨#[117,115,101,100]⟩))),jA 52 53]) (.cond (.t 52) (.reg [] true [jA 54 0,jI 1 55 (.nilck (.t 54)),jI 2 56 (.fld 1 (.t 55)),jI 3 57 (jL 56),jI 4 58 (.fld 1 (.t 3)),jI 5 59 (jL 58),jI 6 60 (.idx 1 (.t 59) (jC 0)),jI 7 61 (jL 60),jI 8 62 (jF 96 [.t 57,.t 61] []),jI 9 63 (.nilck (.t 62)),jI 10 64 (.fld 1 (.t 63)),jI 11 65 (jL 64),jI 12 5 (jM 65)]) (.seq (jR [jP 67 (.bin .eql (.t 11) (.c (.str ⟨#[108,111,115,115]⟩))),jA 66 67]) (.cond (.t 66) (.reg [] true [jA 68 0,jI 1 69 (.nilck (.t 68)),jI 2 70 (.fld 2 (.t 69)),jI 3 71 (jL 70),jI 4 72 (.fld 1 (.t 3)),jI 5 73 (jL 72),jI 6 74 (.idx 1 (.t 73) (jC 0)),jI 7 75 (jL 74),jI 8 76 (jF 97 [.t 71,.t 75] []),jI 9 77 (.nilck (.t 76)),jI 10 78 (.fld 0 (.t 77)),jI 11 79 (jL 78),jI 12 5 (jM 79)]) (.seq (jR [jP 81 (.bin .eql (.t 11) (.c (.str ⟨#[112,111,119,101,114]⟩))),jA 80 81]) (.cond (.t 80) (.reg [(0,false)] false [jA 82 0,jP 83 (.fld 1 (.t 3)),jP 84 (jL 83),jP 85 (.idx 1 (.t 84) (jC 0)),jP 86 (jL 85),jP 87 (jF 98 [.t 82,.t 86] []),jA 5 87]) (.seq (jR [jP 89 (.bin .eql (.t 11) (.c (.str ⟨#[116,105,99,107,101,116]⟩))),jA 88 89]) (.cond (.t 88) (.seq (.reg [] true [jP 90 (.fld 2 (.t 3)),jI 1 91 (jL 90),jI 2 92 (.idx 1 (.t 91) (jC 0)),jI 3 93 (jL 92),jI 4 94 (jM 0),jI 5 95 (.nilck (.t 94)),jI 6 96 (.fld 4 (.t 95)),jI 7 97 (jL 96),jI 8 98 (.len false (.t 97)),jI 9 99 (.bin .lss (.t 93) (.t 98)),jI 10 100 (jF 58 [.t 99,jC 5] [])]) (.seq (.reg [] true [jA 101 0,jI 1 102 (.nilck (.t 101)),jI 2 103 (.fld 4 (.t 102)),jI 3 104 (jL 103),jI 4 105 (.fld 2 (.t 3)),jI 5 106 (jL 105),jI 6 107 (.idx 1 (.t 106) (jC 0)),jI 7 108 (jL 107),jI 8 109 (.idx 1 (.t 104) (.t 108)),jI 9 110 (jL 109),jI 10 8 (jM 110)]) (.seq (.reg [] true [jA 111 8,jI 1 112 (.nilck (.t 111)),jI 2 113 (.fld 0 (.t 112)),jI 3 114 (jL 113),jI 4 115 (jM 8),jI 5 116 (.nilck (.t 115)),jI 6 117 (.fld 1 (.t 116)),jI 7 118 (jL 117),jI 8 119 (jM 8),jI 9 120 (.nilck (.t 119)),jI 10 121 (.fld 2 (.t 120)),jI 11 122 (jL 121),jI 12 123 (jF 57 [.t 122] [3,7]),jI 13 124 (.bslice 1 3 [(.str ⟨#[]⟩)] [(0,(1,(.t 114))),(1,(1,(.t 118))),(2,(1,(.t 123)))]),jI 14 9 (jM 124)]) (.seq (.seq (jR [jA 125 8,jP 126 (.nilck (.t 125)),jP 127 (.fld 3 (.t 126)),jP 128 (jL 127)]) (.cond (.t 128) (jR [jA 129 9,jP 130 (.bslice 1 1 [(.str ⟨#[]⟩)] [(0,(1,(.c (.str ⟨#[118,111,105,100]⟩))))]),jP 131 (.app 1 16 (.t 129) (.t 130)),jA 9 131]) .skip)) (.seq (.reg [(9,false)] false [jA 132 9,jP 133 (jF 99 [.t 132,.c (.str ⟨#[32]⟩)] []),jA 4 133]) .ret))))) .skip)))))))))))))) (.seq (jR [jA 134 5,jP 135 (jF 57 [.t 134] []),jA 4 135]) .ret)))),none,none⟩
def x63:XFn:=by
 refine' (?f:jaa (jac f63 m36 [])) _ ?h
 case f=>exact fun g _=>g
 case h=>conv=>lhs;cbv
def m64:RM:=⟨[(3,[(0,false)])],[[5,6,7],[5,6,8,9]],[]⟩
def aCF:XCode:=by
 refine' (?f:jab (mkL prog f64 m64 0 [])) _ ?h
 case f=>exact fun g _=>g
 case h=>conv=>lhs;cbv
def aFh:XCode:=by
 refine' (?f:jbb (mkL prog f64 m64 1 [·])) _ ?h
 case f=>exact fun g _=>g aCF
 case h=>intro a;conv=>lhs;cbv
def x64:XFn:=by
 refine' (?f:(g:XCode→XCode→XFn)→(∀ a b,jac f64 m64 [a,b]=g a b)→XFn) _ ?h
 case f=>exact fun g _=>g aCF aFh
 case h=>intro a b;conv=>lhs;cbv
def x65:XFn:=by
 refine' (?f:jaa (jac f65 m19 [])) _ ?h
 case f=>exact fun g _=>g
 case h=>conv=>lhs;cbv
def m66:RM:=⟨[(3,[(0,false)]),(7,[(0,false)]),(13,[(8,false)]),(17,[(0,false)]),(21,[(0,false)]),(22,[(0,false)])],[],[]⟩
def vC:XFn:=by
 refine' (?f:jaa (jac f66 m66 [])) _ ?h
 case f=>exact fun g _=>g
 case h=>conv=>lhs;cbv
def x67:XFn:=by
 refine' (?f:jaa (jac f67 m19 [])) _ ?h
 case f=>exact fun g _=>g
 case h=>conv=>lhs;cbv
def m68:RM:=⟨[(3,[(0,false),(1,false),(2,false)]),(5,[(0,false)]),(7,[(0,false)]),(9,[(0,false)]),(11,[(0,false)]),(12,[(0,false)])],[],[]⟩
def x68:XFn:=by
 refine' (?f:jaa (jac f68 m68 [])) _ ?h
 case f=>exact fun g _=>g
 case h=>conv=>lhs;cbv
def x69:XFn:=by
 refine' (?f:jaa (jac f69 m36 [])) _ ?h
 case f=>exact fun g _=>g
 case h=>conv=>lhs;cbv
def x70:XFn:=by
 refine' (?f:jaa (jac f70 m19 [])) _ ?h
 case f=>exact fun g _=>g
 case h=>conv=>lhs;cbv
def x73:XFn:=by
 refine' (?f:jaa (jac f73 m19 [])) _ ?h
 case f=>exact fun g _=>g
 case h=>conv=>lhs;cbv
def x75:XFn:=by
 refine' (?f:jaa (jac f75 m19 [])) _ ?h
 case f=>exact fun g _=>g
 case h=>conv=>lhs;cbv
def m77:RM:=⟨[(1,[(1,false)])],[],[]⟩
def x77:XFn:=by
 refine' (?f:jaa (jac f77 m77 [])) _ ?h
 case f=>exact fun g _=>g
 case h=>conv=>lhs;cbv
def m78:RM:=⟨[],[[0]],[]⟩
def aUV:XCode:=by
 refine' (?f:jab (mkL prog f78 m78 0 [])) _ ?h
 case f=>exact fun g _=>g
 case h=>conv=>lhs;cbv
def x78:XFn:=by
 refine' (?f:jba (jac f78 m78 [·])) _ ?h
 case f=>exact fun g _=>g aUV
 case h=>intro a;conv=>lhs;cbv
def m79:RM:=⟨[],[[0,5,6]],[]⟩
def aUU:XCode:=by
 refine' (?f:jab (mkL prog f79 m79 0 [])) _ ?h
 case f=>exact fun g _=>g
 case h=>conv=>lhs;cbv
def x79:XFn:=by
 refine' (?f:jba (jac f79 m79 [·])) _ ?h
 case f=>exact fun g _=>g aUU
 case h=>intro a;conv=>lhs;cbv
def x84:XFn:=by
 refine' (?f:jaa (jac f84 m19 [])) _ ?h
 case f=>exact fun g _=>g
 case h=>conv=>lhs;cbv
def m85:RM:=⟨[],[[0,6,7,8]],[]⟩
def aUT:XCode:=by
 refine' (?f:jab (mkL prog f85 m85 0 [])) _ ?h
 case f=>exact fun g _=>g
 case h=>conv=>lhs;cbv
def x85:XFn:=by
 refine' (?f:jba (jac f85 m85 [·])) _ ?h
 case f=>exact fun g _=>g aUT
 case h=>intro a;conv=>lhs;cbv
def x87:XFn:=by
 refine' (?f:jaa (jac f87 m19 [])) _ ?h
 case f=>exact fun g _=>g
 case h=>conv=>lhs;cbv
def x88:XFn:=by
 refine' (?f:jaa (jac f88 m19 [])) _ ?h
 case f=>exact fun g _=>g
 case h=>conv=>lhs;cbv
def x89:XFn:=by
 refine' (?f:jaa (jac f89 m19 [])) _ ?h
 case f=>exact fun g _=>g
 case h=>conv=>lhs;cbv
def x90:XFn:=by
 refine' (?f:jaa (jac f90 m19 [])) _ ?h
 case f=>exact fun g _=>g
 case h=>conv=>lhs;cbv
def x91:XFn:=by
 refine' (?f:jaa (jac f91 m19 [])) _ ?h
 case f=>exact fun g _=>g
 case h=>conv=>lhs;cbv
def x92:XFn:=by
 refine' (?f:jaa (jac f92 m19 [])) _ ?h
 case f=>exact fun g _=>g
 case h=>conv=>lhs;cbv
def x93:XFn:=by
 refine' (?f:jaa (jac f93 m19 [])) _ ?h
 case f=>exact fun g _=>g
 case h=>conv=>lhs;cbv
def x94:XFn:=by
 refine' (?f:jaa (jac f94 m19 [])) _ ?h
 case f=>exact fun g _=>g
 case h=>conv=>lhs;cbv
def x95:XFn:=by
 refine' (?f:jaa (jac f95 m19 [])) _ ?h
 case f=>exact fun g _=>g
 case h=>conv=>lhs;cbv
def x96:XFn:=by
 refine' (?f:jaa (jac f96 m19 [])) _ ?h
 case f=>exact fun g _=>g
 case h=>conv=>lhs;cbv
def x97:XFn:=by
 refine' (?f:jaa (jac f97 m19 [])) _ ?h
 case f=>exact fun g _=>g
 case h=>conv=>lhs;cbv
def m98:RM:=⟨[],[[0,1,5,6,7,26,27,28]],[]⟩
def aUS:XCode:=by
 refine' (?f:jab (mkL prog f98 m98 0 [])) _ ?h
 case f=>exact fun g _=>g
 case h=>conv=>lhs;cbv
def x98:XFn:=by
 refine' (?f:jba (jac f98 m98 [·])) _ ?h
 case f=>exact fun g _=>g aUS
 case h=>intro a;conv=>lhs;cbv
def aLR:XFn:=by
 refine' (?f:jaa (jac f100 m19 [])) _ ?h
 case f=>exact fun g _=>g
 case h=>conv=>lhs;cbv
def aZV:RM:=⟨[],[[0,3,4,5]],[]⟩
def aCJ:XCode:=by
 refine' (?f:jab (mkL prog f101 aZV 0 [])) _ ?h
 case f=>exact fun g _=>g
 case h=>conv=>lhs;cbv
def aSt:XFn:=by
 refine' (?f:jba (jac f101 aZV [·])) _ ?h
 case f=>exact fun g _=>g aCJ
 case h=>intro a;conv=>lhs;cbv
def aNC:XCode:=by
 refine' (?f:jab (mkL prog f102 m12 0 [])) _ ?h
 case f=>exact fun g _=>g
 case h=>conv=>lhs;cbv
def aSs:XFn:=by
 refine' (?f:jba (jac f102 m12 [·])) _ ?h
 case f=>exact fun g _=>g aNC
 case h=>intro a;conv=>lhs;cbv
def aZT:RM:=⟨[],[[0,3]],[]⟩
def aNB:XCode:=by
 refine' (?f:jab (mkL prog f103 aZT 0 [])) _ ?h
 case f=>exact fun g _=>g
 case h=>conv=>lhs;cbv
def aSr:XFn:=by
 refine' (?f:jba (jac f103 aZT [·])) _ ?h
 case f=>exact fun g _=>g aNB
 case h=>intro a;conv=>lhs;cbv
def aCI:XCode:=by
 refine' (?f:jab (mkL prog f104 m12 0 [])) _ ?h
 case f=>exact fun g _=>g
 case h=>conv=>lhs;cbv
def aHA:XFn:=by
 refine' (?f:jba (jac f104 m12 [·])) _ ?h
 case f=>exact fun g _=>g aCI
 case h=>intro a;conv=>lhs;cbv
def aZR:RM:=⟨[],[[0,1,5,6]],[]⟩
def aCH:XCode:=by
 refine' (?f:jab (mkL prog f105 aZR 0 [])) _ ?h
 case f=>exact fun g _=>g
 case h=>conv=>lhs;cbv
def aLQ:XFn:=by
 refine' (?f:jba (jac f105 aZR [·])) _ ?h
 case f=>exact fun g _=>g aCH
 case h=>intro a;conv=>lhs;cbv
def aSq:XFn:=by
 refine' (?f:jaa (jac f106 m19 [])) _ ?h
 case f=>exact fun g _=>g
 case h=>conv=>lhs;cbv
def aJa:XCode:=by
 refine' (?f:jab (mkL prog f107 m18 0 [])) _ ?h
 case f=>exact fun g _=>g
 case h=>conv=>lhs;cbv
def aLP:XFn:=by
 refine' (?f:jba (jac f107 m18 [·])) _ ?h
 case f=>exact fun g _=>g aJa
 case h=>intro a;conv=>lhs;cbv
def aGl:XCode:=by
 refine' (?f:jab (mkL prog f108 m18 0 [])) _ ?h
 case f=>exact fun g _=>g
 case h=>conv=>lhs;cbv
def aHz:XFn:=by
 refine' (?f:jba (jac f108 m18 [·])) _ ?h
 case f=>exact fun g _=>g aGl
 case h=>intro a;conv=>lhs;cbv
def aZO:RM:=⟨[(5,[(0,false)]),(6,[(0,false)])],[[0,1,5,6,7]],[]⟩
def aGk:XCode:=by
 refine' (?f:jab (mkL prog f109 aZO 0 [])) _ ?h
 case f=>exact fun g _=>g
 case h=>conv=>lhs;cbv
def aSp:XFn:=by
 refine' (?f:jba (jac f109 aZO [·])) _ ?h
 case f=>exact fun g _=>g aGk
 case h=>intro a;conv=>lhs;cbv
def aBf:XCode:=(.loop [0,1,2,7,8] (.seq (.seq (jR [jA 23 8,jA 24 0,jP 25 (.nilck (.t 24)),jP 26 (.fld 2 (.t 25)),jP 27 (jL 26),jP 28 (.len false (.t 27)),jP 29 (.bin .lss (.t 23) (.t 28))]) (.cond (.t 29) .skip (.exit 0))) (.seq (.block 1 (.seq (.reg [] true [jA 32 0,jI 1 33 (.nilck (.t 32)),jI 2 34 (.fld 2 (.t 33)),jI 3 35 (jL 34),jI 4 36 (jM 8),jI 5 37 (.idx 6 (.t 35) (.t 36)),jI 6 38 (.fld 0 (.t 37)),jI 7 39 (jL 38),jI 8 40 (jM 1),jI 9 41 (.idx 1 (.t 40) (jC 1)),jI 10 42 (jL 41),jI 11 43 (.bin .eql (.t 39) (.t 42))]) (.cond (.t 43) (.seq (.seq (.reg [] true [jA 44 2,jI 1 45 (.idx 1 (.t 44) (jC 3)),jI 2 46 (jL 45),jI 3 47 (jM 0),jI 4 48 (.nilck (.t 47)),jI 5 49 (.fld 2 (.t 48)),jI 6 50 (jL 49),jI 7 51 (jM 8),jI 8 52 (.idx 6 (.t 50) (.t 51)),jI 9 53 (.fld 1 (.t 52)),jI 10 54 (jL 53),jI 11 55 (.bin .sub (.t 54) (jC 500)),jI 12 56 (jM 0),jI 13 57 (.nilck (.t 56)),jI 14 58 (.fld 2 (.t 57)),jI 15 59 (jL 58),jI 16 60 (jM 8),jI 17 61 (.idx 6 (.t 59) (.t 60)),jI 18 62 (.fld 1 (.t 61)),jI 19 63 (jL 62),jI 20 64 (.bin .add (.t 63) (jC 500)),jI 21 65 (jF 39 [.t 46,.t 55,.t 64] []),jI 22 66 (.not (.t 65))]) (.cond (.t 66) (.seq (jR [jP 6 (.mv (jC 22))]) .ret) .skip)) (.exit 0)) .skip))) (jR [jA 30 8,jP 31 (.bin .add (.t 30) (jC 1)),jA 8 31]))))
def aCe:XFn:=⟨91,[(6,none)],false,false,(.seq (jR [jP 6 (.mv (jC 0))]) (.seq (.reg [(0,false)] false [jA 9 0,jA 10 1,jP 11 (.idx 1 (.t 10) (jC 4)),jP 12 (jL 11),jP 13 (jF 108 [.t 9,.t 12] []),jA 7 13]) (.seq (.seq (jR [jA 14 7,jP 15 (.bin .lss (.t 14) (jC 0))]) (.cond (.t 15) (.seq (jR [jP 6 (.mv (jC 5))]) .ret) .skip)) (.seq (.seq (.reg [] true [jA 16 2,jI 1 17 (.idx 1 (.t 16) (jC 3)),jI 2 18 (jL 17),jI 3 19 (jM 2),jI 4 20 (.idx 1 (.t 19) (jC 2)),jI 5 21 (jL 20),jI 6 22 (.bin .gtr (.t 18) (.t 21))]) (.cond (.t 22) (.seq (jR [jP 6 (.mv (jC 10))]) .ret) .skip)) (.seq (.seq (jR [jP 8 (.mv (jC 0))]) (.block 0 aBf)) (.seq (.reg [] true [jA 67 0,jI 1 68 (jM 0),jI 2 69 (.nilck (.t 68)),jI 3 70 (.fld 2 (.t 69)),jI 4 71 (jL 70),jI 5 72 (jM 1),jI 6 73 (.idx 1 (.t 72) (jC 1)),jI 7 74 (jL 73),jI 8 75 (jM 2),jI 9 76 (.idx 1 (.t 75) (jC 3)),jI 10 77 (jL 76),jI 11 78 (jM 2),jI 12 79 (.idx 1 (.t 78) (jC 2)),jI 13 80 (jL 79),jI 14 81 (jM 2),jI 15 82 (.idx 1 (.t 81) (jC 3)),jI 16 83 (jL 82),jI 17 84 (.bin .sub (.t 80) (.t 83)),jI 18 85 (jM 7),jI 19 86 (.build [(.str ⟨#[]⟩),.int .i64 0,.int .i64 0,.int .i64 0,.bool false,.bool false] [(0,(1,(.t 74))),(1,(1,(.t 77))),(2,(1,(.t 84))),(3,(1,(.t 85)))]),jI 20 87 (.bslice 6 1 [(.str ⟨#[]⟩),.int .i64 0,.int .i64 0,.int .i64 0,.bool false,.bool false] [(0,(6,(.t 86)))]),jI 21 88 (.app 6 48 (.t 71) (.t 87)),jI 22 89 (.nilck (.t 67)),jI 23 90 (.fld 2 (.t 89)),jT 24 (.store 1 (.t 90) (.t 88) [])]) (.seq (jR [jP 6 (.mv (jC 0))]) .ret))))))),none,none⟩
def aLO:XFn:=by
 refine' (?f:jaa (jac f111 m19 [])) _ ?h
 case f=>exact fun g _=>g
 case h=>conv=>lhs;cbv
def aGj:XCode:=by
 refine' (?f:jab (mkL prog f112 m12 0 [])) _ ?h
 case f=>exact fun g _=>g
 case h=>conv=>lhs;cbv
def aSo:XFn:=by
 refine' (?f:jba (jac f112 m12 [·])) _ ?h
 case f=>exact fun g _=>g aGj
 case h=>intro a;conv=>lhs;cbv
def aHy:XFn:=by
 refine' (?f:jaa (jac f113 m77 [])) _ ?h
 case f=>exact fun g _=>g
 case h=>conv=>lhs;cbv
def aEF:XFn:=by
 refine' (?f:jaa (jac f114 m42 [])) _ ?h
 case f=>exact fun g _=>g
 case h=>conv=>lhs;cbv
def aIZ:XCode:=by
 refine' (?f:jab (mkL prog f116 m12 0 [])) _ ?h
 case f=>exact fun g _=>g
 case h=>conv=>lhs;cbv
def aLN:XFn:=by
 refine' (?f:jba (jac f116 m12 [·])) _ ?h
 case f=>exact fun g _=>g aIZ
 case h=>intro a;conv=>lhs;cbv
def aZL:RM:=⟨[],[[5,10,11]],[]⟩
def aNA:XCode:=by
 refine' (?f:jab (mkL prog f119 aZL 0 [])) _ ?h
 case f=>exact fun g _=>g
 case h=>conv=>lhs;cbv
def x119:XFn:=by
 refine' (?f:jba (jac f119 aZL [·])) _ ?h
 case f=>exact fun g _=>g aNA
 case h=>intro a;conv=>lhs;cbv
def aEE:XFn:=by
 refine' (?f:jaa (jac f128 m19 [])) _ ?h
 case f=>exact fun g _=>g
 case h=>conv=>lhs;cbv
def aHx:XFn:=by
 refine' (?f:jaa (jac f129 m19 [])) _ ?h
 case f=>exact fun g _=>g
 case h=>conv=>lhs;cbv
def aSn:XFn:=by
 refine' (?f:jaa (jac f130 m19 [])) _ ?h
 case f=>exact fun g _=>g
 case h=>conv=>lhs;cbv
def aHw:XFn:=by
 refine' (?f:jaa (jac f131 m19 [])) _ ?h
 case f=>exact fun g _=>g
 case h=>conv=>lhs;cbv
def aLM:XFn:=by
 refine' (?f:jaa (jac f132 m19 [])) _ ?h
 case f=>exact fun g _=>g
 case h=>conv=>lhs;cbv
def aHv:XFn:=by
 refine' (?f:jaa (jac f133 m19 [])) _ ?h
 case f=>exact fun g _=>g
 case h=>conv=>lhs;cbv
def aHu:XFn:=by
 refine' (?f:jaa (jac f134 m19 [])) _ ?h
 case f=>exact fun g _=>g
 case h=>conv=>lhs;cbv
def aLL:XFn:=by
 refine' (?f:jaa (jac f135 m19 [])) _ ?h
 case f=>exact fun g _=>g
 case h=>conv=>lhs;cbv
def aHt:XFn:=by
 refine' (?f:jaa (jac f136 m19 [])) _ ?h
 case f=>exact fun g _=>g
 case h=>conv=>lhs;cbv
def aSm:XFn:=by
 refine' (?f:jaa (jac f137 m19 [])) _ ?h
 case f=>exact fun g _=>g
 case h=>conv=>lhs;cbv
def aWY:RM:=⟨[(1,[(1,true)]),(6,[(1,true)]),(9,[(1,true)]),(10,[(1,true)])],[[1,5,6,7,8],[1,5,6]],[]⟩
def aBe:XCode:=by
 refine' (?f:jab (mkL prog f139 aWY 0 [])) _ ?h
 case f=>exact fun g _=>g
 case h=>conv=>lhs;cbv
def aGi:XCode:=by
 refine' (?f:jbb (mkL prog f139 aWY 1 [·])) _ ?h
 case f=>exact fun g _=>g aBe
 case h=>intro a;conv=>lhs;cbv
def aSl:XFn:=by
 refine' (?f:(g:XCode→XCode→XFn)→(∀ a b,jac f139 aWY [a,b]=g a b)→XFn) _ ?h
 case f=>exact fun g _=>g aBe aGi
 case h=>intro a b;conv=>lhs;cbv
def bDv:RM:=⟨[(1,[(2,true)]),(4,[(6,true)])],[],[]⟩
def aSk:XFn:=by
 refine' (?f:jaa (jac f159 bDv [])) _ ?h
 case f=>exact fun g _=>g
 case h=>conv=>lhs;cbv
def aSj:XFn:=by
 refine' (?f:jaa (jac f160 m19 [])) _ ?h
 case f=>exact fun g _=>g
 case h=>conv=>lhs;cbv
def aWX:RM:=⟨[(5,[(1,true)]),(7,[(1,true)]),(12,[(1,true)]),(14,[(4,true)])],[[1,3,4,5],[1,3]],[]⟩
def aIY:XCode:=by
 refine' (?f:jab (mkL prog f162 aWX 0 [])) _ ?h
 case f=>exact fun g _=>g
 case h=>conv=>lhs;cbv
def aNz:XCode:=by
 refine' (?f:jbb (mkL prog f162 aWX 1 [·])) _ ?h
 case f=>exact fun g _=>g aIY
 case h=>intro a;conv=>lhs;cbv
def aSi:XFn:=by
 refine' (?f:(g:XCode→XCode→XFn)→(∀ a b,jac f162 aWX [a,b]=g a b)→XFn) _ ?h
 case f=>exact fun g _=>g aIY aNz
 case h=>intro a b;conv=>lhs;cbv
def aSh:XFn:=by
 refine' (?f:jaa (jac f163 m19 [])) _ ?h
 case f=>exact fun g _=>g
 case h=>conv=>lhs;cbv
def bDs:RM:=⟨[(1,[(3,true)])],[],[]⟩
def aSg:XFn:=by
 refine' (?f:jaa (jac f164 bDs [])) _ ?h
 case f=>exact fun g _=>g
 case h=>conv=>lhs;cbv
def aYg:XFn:=by
 refine' (?f:jaa (jac f175 m19 [])) _ ?h
 case f=>exact fun g _=>g
 case h=>conv=>lhs;cbv
def bDq:RM:=⟨[(1,[(1,true)]),(4,[(1,true)])],[],[]⟩
def aSf:XFn:=by
 refine' (?f:jaa (jac f182 bDq [])) _ ?h
 case f=>exact fun g _=>g
 case h=>conv=>lhs;cbv
def aZK:RM:=⟨[],[[1,5,8,9]],[]⟩
def aNy:XCode:=by
 refine' (?f:jab (mkL prog f183 aZK 0 [])) _ ?h
 case f=>exact fun g _=>g
 case h=>conv=>lhs;cbv
def aSe:XFn:=by
 refine' (?f:jba (jac f183 aZK [·])) _ ?h
 case f=>exact fun g _=>g aNy
 case h=>intro a;conv=>lhs;cbv
def bDp:RM:=⟨[(2,[(3,true),(1,true)]),(4,[(6,false),(3,true)]),(5,[(1,true),(6,false)])],[],[[1,2,3,5]]⟩
def aNx:XFn:=by
 refine' (?f:jaa (jac f184 bDp [])) _ ?h
 case f=>exact fun g _=>g
 case h=>conv=>lhs;cbv
theorem bAC:aP prog (184,aNx):=⟨⟨fun vs w=>call184 vs w,_,_,func184,rfl,rfl,by kernel_rfl,by kernel_rfl⟩,by kernel_rfl,⟨aV rfl,⟨aV rfl,⟨⟨aV rfl,⟨by kernel_rfl,aV rfl,aV rfl⟩⟩,aV rfl⟩⟩⟩,rfl⟩
def aSd:XFn:=by
 refine' (?f:jaa (jac f185 m19 [])) _ ?h
 case f=>exact fun g _=>g
 case h=>conv=>lhs;cbv
def aSc:XFn:=by
 refine' (?f:jaa (jac f186 m19 [])) _ ?h
 case f=>exact fun g _=>g
 case h=>conv=>lhs;cbv
def aSb:XFn:=by
 refine' (?f:jaa (jac f188 m19 [])) _ ?h
 case f=>exact fun g _=>g
 case h=>conv=>lhs;cbv
def bDl:RM:=⟨[(1,[(2,true),(1,false)])],[],[]⟩
def aSa:XFn:=by
 refine' (?f:jaa (jac f189 bDl [])) _ ?h
 case f=>exact fun g _=>g
 case h=>conv=>lhs;cbv
def aYf:XFn:=by
 refine' (?f:jaa (jac f197 m19 [])) _ ?h
 case f=>exact fun g _=>g
 case h=>conv=>lhs;cbv
def aYe:XFn:=by
 refine' (?f:jaa (jac f198 m19 [])) _ ?h
 case f=>exact fun g _=>g
 case h=>conv=>lhs;cbv
def aZJ:RM:=⟨[(5,[(1,true)]),(7,[(1,true)]),(13,[(1,true)]),(15,[(5,true),(3,false)])],[[1,3,25,26,27]],[]⟩
def aNw:XCode:=by
 refine' (?f:jab (mkL prog f203 aZJ 0 [])) _ ?h
 case f=>exact fun g _=>g
 case h=>conv=>lhs;cbv
def aRZ:XFn:=by
 refine' (?f:jba (jac f203 aZJ [·])) _ ?h
 case f=>exact fun g _=>g aNw
 case h=>intro a;conv=>lhs;cbv
def aZI:RM:=⟨[],[[1,5,9,10,11]],[]⟩
def aNv:XCode:=by
 refine' (?f:jab (mkL prog f204 aZI 0 [])) _ ?h
 case f=>exact fun g _=>g
 case h=>conv=>lhs;cbv
def aRY:XFn:=by
 refine' (?f:jba (jac f204 aZI [·])) _ ?h
 case f=>exact fun g _=>g aNv
 case h=>intro a;conv=>lhs;cbv
def aRX:XFn:=by
 refine' (?f:jaa (jac f205 m19 [])) _ ?h
 case f=>exact fun g _=>g
 case h=>conv=>lhs;cbv
def aZH:RM:=⟨[(2,[(2,true)])],[[0,1,2,4]],[]⟩
def aNu:XCode:=by
 refine' (?f:jab (mkL prog f206 aZH 0 [])) _ ?h
 case f=>exact fun g _=>g
 case h=>conv=>lhs;cbv
def aRW:XFn:=by
 refine' (?f:jba (jac f206 aZH [·])) _ ?h
 case f=>exact fun g _=>g aNu
 case h=>intro a;conv=>lhs;cbv
def aZG:RM:=⟨[],[[0,7,8,9]],[]⟩
def aNt:XCode:=by
 refine' (?f:jab (mkL prog f207 aZG 0 [])) _ ?h
 case f=>exact fun g _=>g
 case h=>conv=>lhs;cbv
def aRV:XFn:=by
 refine' (?f:jba (jac f207 aZG [·])) _ ?h
 case f=>exact fun g _=>g aNt
 case h=>intro a;conv=>lhs;cbv
def aZF:RM:=⟨[(3,[(1,false)])],[[1,2,3,7]],[]⟩
def aIX:XCode:=by
 refine' (?f:jab (mkL prog f208 aZF 0 [])) _ ?h
 case f=>exact fun g _=>g
 case h=>conv=>lhs;cbv
def aRU:XFn:=by
 refine' (?f:jba (jac f208 aZF [·])) _ ?h
 case f=>exact fun g _=>g aIX
 case h=>intro a;conv=>lhs;cbv
def aRT:XFn:=by
 refine' (?f:jaa (jac f211 m36 [])) _ ?h
 case f=>exact fun g _=>g
 case h=>conv=>lhs;cbv
def aRS:XFn:=by
 refine' (?f:jaa (jac f212 m19 [])) _ ?h
 case f=>exact fun g _=>g
 case h=>conv=>lhs;cbv
def bDf:RM:=⟨[(1,[(0,false),(1,false)])],[],[]⟩
def aRR:XFn:=by
 refine' (?f:jaa (jac f213 bDf [])) _ ?h
 case f=>exact fun g _=>g
 case h=>conv=>lhs;cbv
def aZE:RM:=⟨[],[[1,2,5,6]],[]⟩
def aGh:XCode:=by
 refine' (?f:jab (mkL prog f214 aZE 0 [])) _ ?h
 case f=>exact fun g _=>g
 case h=>conv=>lhs;cbv
def aRQ:XFn:=by
 refine' (?f:jba (jac f214 aZE [·])) _ ?h
 case f=>exact fun g _=>g aGh
 case h=>intro a;conv=>lhs;cbv
def aZD:RM:=⟨[],[[0,1,7,8]],[]⟩
def aNs:XCode:=by
 refine' (?f:jab (mkL prog f215 aZD 0 [])) _ ?h
 case f=>exact fun g _=>g
 case h=>conv=>lhs;cbv
def aRP:XFn:=by
 refine' (?f:jba (jac f215 aZD [·])) _ ?h
 case f=>exact fun g _=>g aNs
 case h=>intro a;conv=>lhs;cbv
def bDe:RM:=⟨[(2,[(1,false)])],[],[[2,5]]⟩
def aNr:XFn:=by
 refine' (?f:jaa (jac f234 bDe [])) _ ?h
 case f=>exact fun g _=>g
 case h=>conv=>lhs;cbv
theorem bAk:aP prog (234,aNr):=⟨⟨fun vs w=>call234 vs w,_,_,func234,rfl,rfl,by kernel_rfl,by kernel_rfl⟩,by kernel_rfl,⟨aV rfl,⟨aV rfl,⟨⟨aV rfl,⟨by kernel_rfl,aV rfl,aV rfl⟩⟩,aV rfl⟩⟩⟩,rfl⟩
def aRO:XFn:=by
 refine' (?f:jaa (jac f235 bDl [])) _ ?h
 case f=>exact fun g _=>g
 case h=>conv=>lhs;cbv
def aRN:XFn:=by
 refine' (?f:jaa (jac f236 m19 [])) _ ?h
 case f=>exact fun g _=>g
 case h=>conv=>lhs;cbv
def aZC:RM:=⟨[(1,[(1,true)])],[[0,1]],[]⟩
def aGg:XCode:=by
 refine' (?f:jab (mkL prog f237 aZC 0 [])) _ ?h
 case f=>exact fun g _=>g
 case h=>conv=>lhs;cbv
def aRM:XFn:=by
 refine' (?f:jba (jac f237 aZC [·])) _ ?h
 case f=>exact fun g _=>g aGg
 case h=>intro a;conv=>lhs;cbv
def aRL:XFn:=by
 refine' (?f:jaa (jac f242 m36 [])) _ ?h
 case f=>exact fun g _=>g
 case h=>conv=>lhs;cbv
def aRK:XFn:=by
 refine' (?f:jaa (jac f243 bDf [])) _ ?h
 case f=>exact fun g _=>g
 case h=>conv=>lhs;cbv
def bCZ:RM:=⟨[(1,[(1,true)])],[],[]⟩
def aRJ:XFn:=by
 refine' (?f:jaa (jac f244 bCZ [])) _ ?h
 case f=>exact fun g _=>g
 case h=>conv=>lhs;cbv
def aNq:XCode:=by
 refine' (?f:jab (mkL prog f245 aZD 0 [])) _ ?h
 case f=>exact fun g _=>g
 case h=>conv=>lhs;cbv
def aRI:XFn:=by
 refine' (?f:jba (jac f245 aZD [·])) _ ?h
 case f=>exact fun g _=>g aNq
 case h=>intro a;conv=>lhs;cbv
end Go.Proofs.YtmapgnepfgnphaaGreatDoor
end
