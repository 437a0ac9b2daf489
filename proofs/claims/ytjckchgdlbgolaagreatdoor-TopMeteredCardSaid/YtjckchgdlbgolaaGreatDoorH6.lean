/- Parts of a proof, joined: G0. No statement of the seed is proved here. -/
import Derived.KernelRfl
import Derived.Test.YtjckchgdlbgolaaGreatDoorProg
import Derived.Test.YtjckchgdlbgolaaGreatDoorH5
set_option linter.unusedSimpArgs false
set_option linter.unusedVariables false
set_option linter.unusedSectionVars false
set_option maxRecDepth 100000
section
namespace Go.Proofs.YtjckchgdlbgolaaGreatDoor
open Go Go.DL Go.Proofs.Tryz

theorem bQ{k:Nat}{x:XFn}{fn:Func}(h1:∀(vs:Array Value)(w:World),(callFunc k vs).run prog w = .ok (.enter k vs) w)(h2:prog.funcs[k]?=some fn)(h3:∃ c,fn.body=some c∧fn.ntmps=x.fn.N∧fn.results.toList.mapM (aBD prog)=some x.fn.res∧aIz prog x.fn.N c=some (x.fn.dfr,x.fn.body):=by exact⟨_,rfl,rfl,by kernel_rfl,by kernel_rfl⟩)(h4:okD x=true:=by kernel_rfl)(h5:fW x x.body:=by exact aF rfl)(h6:x.prm=none:=by rfl):aK prog (k,x) :=
 ⟨⟨h1,by obtain⟨c,h⟩:=h3;exact⟨fn,c,h2,h⟩⟩,h4,h5,h6⟩
abbrev jA(n k:Nat):DOper:=⟨0,some n,.mv (.t k),none⟩
abbrev jP(n:Nat)(o:DOp):DOper:=⟨0,some n,o,none⟩
abbrev jI(i n:Nat)(o:DOp):DOper:=⟨i,some n,o,none⟩
abbrev jS(o:DOp):DOper:=⟨0,none,o,none⟩
abbrev jT(i:Nat)(o:DOp):DOper:=⟨i,none,o,none⟩
abbrev jY(n:Nat)(o:DOp)(k:Nat):DOper:=⟨0,some n,o,some (k,true)⟩
abbrev jN(n:Nat)(o:DOp)(k:Nat):DOper:=⟨0,some n,o,some (k,false)⟩
abbrev jU(i n:Nat)(o:DOp)(k:Nat):DOper:=⟨i,some n,o,some (k,true)⟩
abbrev jC(k:Int):AO:=.c (.int .i64 k)
abbrev jF(k:Nat)(a:List AO)(l:List Nat):DOp:=.callf false (.c (.fn (.func k) [] [])) a l
abbrev jR(l:List DOper):XCode:=.reg [] false l
abbrev jM(k:Nat):DOp:=.mv (.t k)
abbrev jL(k:Nat):DOp:=.load false 1 (.t k)
def aQU:XCode:=(.loop [4,5,6,16,17,20,22,24,25,26,91,92,93] (.seq (jR [jP 94 (.bin .lss (.t 93) (.t 92))]) (.seq (.cond (.t 94) .skip (.exit 0)) (.seq (.block 1 (.seq (jR [jA 95 93,jP 96 (.idx 1 (.t 91) (.t 93)),jP 97 (jL 96),jA 27 95,jA 28 97]) (.seq (.seq (jR [jA 98 28,jP 99 (.len false (.t 98)),jP 100 (.bin .neq (.t 99) (jC 3)),jA 101 100,jN 102 (jM 28) 101,jN 103 (jM 17) 101,jN 104 (.idx 2 (.t 102) (.t 103)) 101,jN 105 (.fld 1 (.t 104)) 101,jN 106 (jL 105) 101,jN 107 (jM 26) 101,jN 108 (.bin .lss (.t 106) (.t 107)) 101,jP 109 (.pick (.t 101) (.c (.bool true)) (.t 108))]) (.cond (.t 109) (.seq (jR [jP 14 (.mv (.c (.bool false)))]) .ret) .skip)) (.seq (jR [jA 110 28,jA 111 17,jP 112 (.idx 2 (.t 110) (.t 111)),jP 113 (.fld 1 (.t 112)),jP 114 (jL 113),jA 26 114]) (.seq (.seq (jR [jA 115 27,jP 116 (.bin .eql (.t 115) (jC 0))]) (.cond (.t 116) (jR [jA 117 26,jA 25 117]) .skip)) (.seq (.reg [(24,false)] false [jA 118 24,jA 119 4,jP 120 (.conv .i64 (.t 119)),jP 121 (.bin .rem (.t 120) (jC 1000)),jP 122 (.bin .add (jC 99000) (.t 121)),jA 123 26,jP 124 (.bin .add (.t 122) (.t 123)),jP 125 (.bin .rem (.t 124) (jC 100000)),jP 126 (jF 7 [.t 125] []),jP 127 (.bin .add (.c (.str ⟨#[109,101,116,101,114,32,109,32]⟩)) (.t 126)),jP 128 (jF 6 [.t 118,.t 127] []),jP 129 (.bin .neq (.t 128) (.c (.str ⟨#[111,107]⟩)))]) (.cond (.t 129) (.seq (jR [jP 14 (.mv (.c (.bool false)))]) .ret) .skip))))))) (jR [jP 130 (.bin .add (.t 93) (jC 1)),jA 93 130])))))
def x4:XFn:=⟨174,[(14,none)],false,false,(.seq (jR [jP 7 (.box (.t 0)),jP 8 (.box (.t 1)),jP 14 (.mv (.c (.bool false)))]) (.seq (.reg [(8,true)] true [jP 30 (.idxa 2 1 (.t 7) (jC 0)),jI 1 31 (jL 30),jI 2 32 (.conv .i64 (.t 31)),jI 3 33 (.bin .add (jC 1) (.t 32)),jI 4 34 (.idxa 2 1 (.t 7) (jC 0)),jI 5 35 (jL 34),jI 6 36 (.conv .i64 (.t 35)),jI 7 37 (.bin .add (jC 1) (.t 36)),jI 8 38 (.idxa 2 1 (.t 7) (jC 1)),jI 9 39 (jL 38),jI 10 40 (.conv .i64 (.t 39)),jI 11 41 (.bin .rem (.t 40) (jC 20)),jI 12 42 (.bin .add (.t 37) (.t 41)),jI 14 44 (.load true 6 (.t 8)),jI 13 43 (jF 14 [.t 33,.t 42] [14]),jI 15 45 (jF 13 [.t 43,.t 44] []),jI 16 15 (.alloc [.int .i64 0,.nilsl]),jT 17 (.store 2 (.t 15) (.t 45) [])]) (.seq (jR [jA 46 2,jP 47 (.conv .i64 (.t 46)),jP 48 (.bin .rem (.t 47) (jC 25)),jP 49 (.bin .add (jC 1) (.t 48)),jA 50 3,jP 51 (.conv .i64 (.t 50)),jP 52 (.bin .rem (.t 51) (jC 3)),jA 16 49,jA 17 52]) (.seq (.reg [(15,true)] false [jP 54 (.load true 2 (.t 15)),jA 55 16,jP 56 (jF 15 [.t 54,.t 55] []),jA 53 56,jP 57 (.ext (.t 53) 0),jP 58 (.ext (.t 53) 1),jA 18 57,jA 19 58]) (.seq (.reg [(15,true)] false [jP 60 (.load true 2 (.t 15)),jP 61 (jF 16 [.t 60] []),jA 59 61,jP 62 (.ext (.t 59) 0),jP 63 (.ext (.t 59) 1),jP 20 (.alloc [.int .i64 0,.int .i64 0]),jS (.store 2 (.t 20) (.t 62) []),jA 21 63]) (.seq (.reg [(15,true)] false [jP 65 (.load true 2 (.t 15)),jP 66 (jF 17 [.t 65] []),jA 64 66,jP 67 (.ext (.t 64) 0),jP 68 (.ext (.t 64) 1),jA 22 67,jA 23 68]) (.seq (.seq (jR [jA 69 19,jP 70 (.bin .neq (.t 69) (jC 0)),jA 71 70,jN 72 (jM 21) 71,jN 73 (.bin .neq (.t 72) (jC 0)) 71,jP 74 (.pick (.t 71) (.c (.bool true)) (.t 73)),jA 75 74,jN 76 (jM 23) 75,jN 77 (.bin .neq (.t 76) (jC 0)) 75,jP 78 (.pick (.t 75) (.c (.bool true)) (.t 77)),jA 79 78,jN 80 (jM 18) 79,jN 81 (.len false (.t 80)) 79,jN 82 (jM 16) 79,jN 83 (.bin .neq (.t 81) (.t 82)) 79,jP 84 (.pick (.t 79) (.c (.bool true)) (.t 83)),jA 85 84,jN 86 (jM 22) 85,jN 87 (.len false (.t 86)) 85,jN 88 (.bin .neq (.t 87) (jC 3)) 85,jP 89 (.pick (.t 85) (.c (.bool true)) (.t 88))]) (.cond (.t 89) (.seq (jR [jP 14 (.mv (.c (.bool false)))]) .ret) .skip)) (.seq (jR [jP 90 (jF 5 [] []),jA 24 90]) (.seq (jR [jP 25 (.mv (jC 0)),jP 26 (.mv (jC 0))]) (.seq (.seq (jR [jA 91 18,jP 92 (.len false (.t 91)),jP 93 (.mv (jC 0))]) (.block 0 aQU)) (.seq (.reg [(24,false),(5,false),(6,false)] false [jA 131 24,jP 132 (jF 10 [.t 131] []),jA 133 5,jA 134 6,jP 135 (jF 9 [.t 132,.t 133,.t 134] []),jA 29 135]) (.seq (.seq (.reg [(24,false),(29,false)] false [jA 136 29,jP 137 (.eqn 3 false (.t 136) (.c .nilpt)),jA 138 137,jN 139 (jM 24) 138,jN 140 (jF 6 [.t 139,.c (.str ⟨#[117,115,101,100,32,109]⟩)] []) 138,jN 141 (jM 26) 138,jN 142 (jM 25) 138,jN 143 (.bin .sub (.t 141) (.t 142)) 138,jN 144 (jF 7 [.t 143] []) 138,jN 145 (.bin .neq (.t 140) (.t 144)) 138,jP 146 (.pick (.t 138) (.c (.bool true)) (.t 145)),jA 147 146,jN 148 (jM 29) 147,jN 149 (jF 6 [.t 148,.c (.str ⟨#[117,115,101,100,32,109]⟩)] []) 147,jN 150 (jM 26) 147,jN 151 (jM 25) 147,jN 152 (.bin .sub (.t 150) (.t 151)) 147,jN 153 (jF 7 [.t 152] []) 147,jN 154 (.bin .neq (.t 149) (.t 153)) 147,jP 155 (.pick (.t 147) (.c (.bool true)) (.t 154))]) (.cond (.t 155) (.seq (jR [jP 14 (.mv (.c (.bool false)))]) .ret) .skip)) (.seq (.reg [] true [jA 156 26,jI 1 157 (.fld 1 (.t 20)),jI 2 158 (jL 157),jI 3 159 (.bin .mul (.t 156) (.t 158)),jI 4 160 (jM 22),jI 5 161 (jM 17),jI 6 162 (.idx 1 (.t 160) (.t 161)),jI 7 163 (jL 162),jI 8 164 (jM 16),jI 9 165 (.bin .sub (.t 164) (jC 1)),jI 10 166 (.fld 0 (.t 20)),jI 11 167 (jL 166),jI 12 168 (.bin .mul (.t 165) (.t 167)),jI 13 169 (.bin .add (.t 163) (.t 168)),jI 14 170 (.bin .leq (.t 159) (.t 169)),jI 15 171 (jM 170),jU 16 172 (jF 12 [] []) 171,jI 17 173 (.pick (.t 171) (.t 172) (.c (.bool false))),jI 18 14 (jM 173)]) .ret))))))))))))),none,none⟩
theorem is4:aK prog (4,x4):=bQ (fun v w=>call4 v w) func4

def m5:RM:=⟨[],[],[]⟩
def x5:XFn:=by
 refine' (?f:(g:XFn)→(mkF prog f5 m5 false false []=g)→XFn) _ ?h
 case f=>exact fun g _=>g
 case h=>conv=>lhs;cbv
theorem is5:aK prog (5,x5):=bQ (fun v w=>call5 v w) func5

def m7:RM:=⟨[],[],[]⟩
def x7:XFn:=by
 refine' (?f:(g:XFn)→(mkF prog f7 m7 false false []=g)→XFn) _ ?h
 case f=>exact fun g _=>g
 case h=>conv=>lhs;cbv
theorem is7:aK prog (7,x7):=bQ (fun v w=>call7 v w) func7

def m8:RM:=⟨[],[],[]⟩
def x8:XFn:=by
 refine' (?f:(g:XFn)→(mkF prog f8 m8 false false []=g)→XFn) _ ?h
 case f=>exact fun g _=>g
 case h=>conv=>lhs;cbv
theorem is8:aK prog (8,x8):=bQ (fun v w=>call8 v w) func8

def m9:RM:=⟨[(12,[(11,false)])],[[0,1,2,7,8,9]],[]⟩
def aQT:XCode:=by
 refine' (?f:(g:XCode)→(mkL prog f9 m9 0 []=g)→XCode) _ ?h
 case f=>exact fun g _=>g
 case h=>conv=>lhs;cbv
def x9:XFn:=by
 refine' (?f:(g:XCode→XFn)→(∀ a,mkF prog f9 m9 false false [a]=g a)→XFn) _ ?h
 case f=>exact fun g _=>g aQT
 case h=>intro a;conv=>lhs;cbv
theorem is9:aK prog (9,x9):=bQ (fun v w=>call9 v w) func9

def m10:RM:=⟨[(1,[(0,false)]),(4,[(3,false)]),(5,[(0,false)]),(8,[(4,false),(3,false)]),(9,[(3,false)])],[],[[3]]⟩
def sW:XFn:=by
 refine' (?f:(g:XFn)→(mkF prog f10 m10 false false []=g)→XFn) _ ?h
 case f=>exact fun g _=>g
 case h=>conv=>lhs;cbv
theorem bHQ:aK prog (10,sW):=⟨⟨fun vs w=>call10 vs w,_,_,func10,rfl,rfl,by kernel_rfl,by kernel_rfl⟩,by kernel_rfl,⟨aF rfl,⟨aF rfl,⟨aF rfl,⟨aF rfl,⟨⟨aF rfl,⟨by kernel_rfl,aF rfl,aF rfl⟩⟩,aF rfl⟩⟩⟩⟩⟩,rfl⟩

def m12:RM:=⟨[(2,[(1,false)])],[],[]⟩
def x12:XFn:=by
 refine' (?f:(g:XFn)→(mkF prog f12 m12 false false []=g)→XFn) _ ?h
 case f=>exact fun g _=>g
 case h=>conv=>lhs;cbv
theorem bHP:aK prog (12,x12):=bQ (fun v w=>call12 v w) func12

def m13:RM:=⟨[],[],[]⟩
def x13:XFn:=by
 refine' (?f:(g:XFn)→(mkF prog f13 m13 false false []=g)→XFn) _ ?h
 case f=>exact fun g _=>g
 case h=>conv=>lhs;cbv
theorem bHO:aK prog (13,x13):=bQ (fun v w=>call13 v w) func13

def m14:RM:=⟨[],[],[]⟩
def x14:XFn:=by
 refine' (?f:(g:XFn)→(mkF prog f14 m14 false false []=g)→XFn) _ ?h
 case f=>exact fun g _=>g
 case h=>conv=>lhs;cbv
theorem bHN:aK prog (14,x14):=bQ (fun v w=>call14 v w) func14

def m15:RM:=⟨[(1,[(2,true)]),(6,[(2,true)]),(12,[(9,false)]),(16,[(2,true),(13,true)]),(18,[(9,false),(15,true)]),(23,[(11,true)])],[[2,4,5,7,9,10,11,32,33,40,41,42],[2,4,5,7,9,10,32,33]],[[9,11,13]]⟩
def aEJ:XCode:=by
 refine' (?f:(g:XCode)→(mkL prog f15 m15 0 []=g)→XCode) _ ?h
 case f=>exact fun g _=>g
 case h=>conv=>lhs;cbv
def aKl:XCode:=by
 refine' (?f:(g:XCode→XCode)→(∀ a,mkL prog f15 m15 1 [a]=g a)→XCode) _ ?h
 case f=>exact fun g _=>g aEJ
 case h=>intro a;conv=>lhs;cbv
def x15:XFn:=by
 refine' (?f:(g:XCode→XCode→XFn)→(∀ a b,mkF prog f15 m15 false false [a,b]=g a b)→XFn) _ ?h
 case f=>exact fun g _=>g aEJ aKl
 case h=>intro a b;conv=>lhs;cbv
theorem bHM:aK prog (15,x15):=⟨⟨fun vs w=>call15 vs w,_,_,func15,rfl,rfl,by kernel_rfl,by kernel_rfl⟩,by kernel_rfl,⟨aF rfl,⟨aF rfl,⟨aF rfl,⟨aF rfl,⟨aF rfl,⟨aF rfl,⟨⟨aF rfl,⟨aF rfl,⟨aF rfl,⟨⟨aF rfl,⟨aF rfl,⟨⟨aF rfl,⟨aF rfl,⟨aF rfl,⟨⟨aF rfl,⟨aF rfl,⟨by kernel_rfl,aF rfl,aF rfl⟩⟩⟩,aF rfl⟩⟩⟩⟩,aF rfl⟩⟩⟩,aF rfl⟩⟩⟩⟩,aF rfl⟩⟩⟩⟩⟩⟩⟩,rfl⟩

def m16:RM:=⟨[(1,[(1,true)]),(4,[(1,true)])],[],[]⟩
def x16:XFn:=by
 refine' (?f:(g:XFn)→(mkF prog f16 m16 false false []=g)→XFn) _ ?h
 case f=>exact fun g _=>g
 case h=>conv=>lhs;cbv
theorem bHL:aK prog (16,x16):=bQ (fun v w=>call16 v w) func16

def m17:RM:=⟨[(1,[(1,true)]),(4,[(1,true)])],[],[]⟩
def x17:XFn:=by
 refine' (?f:(g:XFn)→(mkF prog f17 m17 false false []=g)→XFn) _ ?h
 case f=>exact fun g _=>g
 case h=>conv=>lhs;cbv
theorem bHK:aK prog (17,x17):=bQ (fun v w=>call17 v w) func17

def m18:RM:=⟨[],[],[]⟩
def x18:XFn:=by
 refine' (?f:(g:XFn)→(mkF prog f18 m18 false false []=g)→XFn) _ ?h
 case f=>exact fun g _=>g
 case h=>conv=>lhs;cbv
theorem bHJ:aK prog (18,x18):=bQ (fun v w=>call18 v w) func18

def m19:RM:=⟨[],[],[]⟩
def x19:XFn:=by
 refine' (?f:(g:XFn)→(mkF prog f19 m19 false false []=g)→XFn) _ ?h
 case f=>exact fun g _=>g
 case h=>conv=>lhs;cbv
theorem bHI:aK prog (19,x19):=bQ (fun v w=>call19 v w) func19

def m20:RM:=⟨[],[],[]⟩
def x20:XFn:=by
 refine' (?f:(g:XFn)→(mkF prog f20 m20 false false []=g)→XFn) _ ?h
 case f=>exact fun g _=>g
 case h=>conv=>lhs;cbv
theorem bHH:aK prog (20,x20):=bQ (fun v w=>call20 v w) func20

def m21:RM:=⟨[],[],[]⟩
def x21:XFn:=by
 refine' (?f:(g:XFn)→(mkF prog f21 m21 false false []=g)→XFn) _ ?h
 case f=>exact fun g _=>g
 case h=>conv=>lhs;cbv
theorem bHG:aK prog (21,x21):=bQ (fun v w=>call21 v w) func21

def m24:RM:=⟨[],[],[]⟩
def x24:XFn:=by
 refine' (?f:(g:XFn)→(mkF prog f24 m24 false false []=g)→XFn) _ ?h
 case f=>exact fun g _=>g
 case h=>conv=>lhs;cbv
theorem bHF:aK prog (24,x24):=bQ (fun v w=>call24 v w) func24

def m25:RM:=⟨[],[],[]⟩
def x25:XFn:=by
 refine' (?f:(g:XFn)→(mkF prog f25 m25 false false []=g)→XFn) _ ?h
 case f=>exact fun g _=>g
 case h=>conv=>lhs;cbv
theorem bHE:aK prog (25,x25):=bQ (fun v w=>call25 v w) func25

def m26:RM:=⟨[(2,[(0,false)]),(15,[(11,false)])],[[2,4,6,47],[2,6,64]],[]⟩
def aBc:XCode:=by
 refine' (?f:(g:XCode)→(mkL prog f26 m26 0 []=g)→XCode) _ ?h
 case f=>exact fun g _=>g
 case h=>conv=>lhs;cbv
def aBY:XCode:=by
 refine' (?f:(g:XCode→XCode)→(∀ a,mkL prog f26 m26 1 [a]=g a)→XCode) _ ?h
 case f=>exact fun g _=>g aBc
 case h=>intro a;conv=>lhs;cbv
def x26:XFn:=by
 refine' (?f:(g:XCode→XCode→XFn)→(∀ a b,mkF prog f26 m26 false false [a,b]=g a b)→XFn) _ ?h
 case f=>exact fun g _=>g aBc aBY
 case h=>intro a b;conv=>lhs;cbv
theorem bHD:aK prog (26,x26):=bQ (fun v w=>call26 v w) func26

def m27:RM:=⟨[],[],[]⟩
def nG:XFn:=by
 refine' (?f:(g:XFn)→(mkF prog f27 m27 false false []=g)→XFn) _ ?h
 case f=>exact fun g _=>g
 case h=>conv=>lhs;cbv
theorem bHC:aK prog (27,nG):=bQ (fun v w=>call27 v w) func27

def aMT:XCode:=(.loop [0,5,20,21,22] (.seq (jR [jP 23 (.bin .lss (.t 22) (.t 21))]) (.seq (.cond (.t 23) .skip (.exit 1)) (.seq (.block 2 (.seq (jR [jP 24 (.idx 1 (.t 20) (.t 22)),jP 25 (jL 24),jA 7 25]) (.reg [(7,false)] false [jA 26 5,jA 27 0,jP 28 (.nilck (.t 27)),jP 29 (.fld 0 (.t 28)),jP 30 (jL 29),jA 31 7,jP 32 (jF 63 [.t 30,.t 31] []),jP 33 (.nilck (.t 32)),jP 34 (.fld 0 (.t 33)),jP 35 (jL 34),jP 36 (.bin .add (.t 26) (.t 35)),jA 5 36]))) (jR [jP 37 (.bin .add (.t 22) (jC 1)),jA 22 37])))))
def wG:XFn:=⟨136,[(4,none)],false,false,(.seq (jR [jP 3 (.box (.t 1)),jP 4 (.mv (.c (.str ⟨#[]⟩)))]) (.seq (jR [jP 5 (.mv (jC 0))]) (.seq (.seq (jR [jP 10 (.fld 0 (.t 3)),jP 11 (jL 10)]) (.block 0 (.seq (jR [jP 13 (.bin .eql (.t 11) (.c (.str ⟨#[116,111,116,97,108]⟩))),jA 12 13]) (.cond (.t 12) (.seq (jR [jA 14 0,jP 15 (.nilck (.t 14)),jP 16 (.fld 0 (.t 15)),jP 17 (jL 16),jP 18 (.nilck (.t 17)),jP 19 (.fld 0 (.t 18)),jP 20 (jL 19),jP 21 (.len false (.t 20)),jP 22 (.mv (jC 0))]) (.block 1 aMT)) (.seq (jR [jP 39 (.bin .eql (.t 11) (.c (.str ⟨#[110,101,116]⟩))),jA 38 39]) (.cond (.t 38) (.reg [] true [jA 40 0,jI 1 41 (.nilck (.t 40)),jI 2 42 (.fld 0 (.t 41)),jI 3 43 (jL 42),jI 4 44 (.fld 1 (.t 3)),jI 5 45 (jL 44),jI 6 46 (.idx 1 (.t 45) (jC 0)),jI 7 47 (jL 46),jI 8 48 (jF 63 [.t 43,.t 47] []),jI 9 49 (.nilck (.t 48)),jI 10 50 (.fld 0 (.t 49)),jI 11 51 (jL 50),jI 12 5 (jM 51)]) (.seq (jR [jP 53 (.bin .eql (.t 11) (.c (.str ⟨#[117,115,101,100]⟩))),jA 52 53]) (.cond (.t 52) (.reg [] true [jA 54 0,jI 1 55 (.nilck (.t 54)),jI 2 56 (.fld 1 (.t 55)),jI 3 57 (jL 56),jI 4 58 (.fld 1 (.t 3)),jI 5 59 (jL 58),jI 6 60 (.idx 1 (.t 59) (jC 0)),jI 7 61 (jL 60),jI 8 62 (jF 64 [.t 57,.t 61] []),jI 9 63 (.nilck (.t 62)),jI 10 64 (.fld 1 (.t 63)),jI 11 65 (jL 64),jI 12 5 (jM 65)]) (.seq (jR [jP 67 (.bin .eql (.t 11) (.c (.str ⟨#[108,111,115,115]⟩))),jA 66 67]) (.cond (.t 66) (.reg [] true [jA 68 0,jI 1 69 (.nilck (.t 68)),jI 2 70 (.fld 2 (.t 69)),jI 3 71 (jL 70),jI 4 72 (.fld 1 (.t 3)),jI 5 73 (jL 72),jI 6 74 (.idx 1 (.t 73) (jC 0)),jI 7 75 (jL 74),jI 8 76 (jF 65 [.t 71,.t 75] []),jI 9 77 (.nilck (.t 76)),jI 10 78 (.fld 0 (.t 77)),jI 11 79 (jL 78),jI 12 5 (jM 79)]) (.seq (jR [jP 81 (.bin .eql (.t 11) (.c (.str ⟨#[112,111,119,101,114]⟩))),jA 80 81]) (.cond (.t 80) (.reg [(0,false)] false [jA 82 0,jP 83 (.fld 1 (.t 3)),jP 84 (jL 83),jP 85 (.idx 1 (.t 84) (jC 0)),jP 86 (jL 85),jP 87 (jF 66 [.t 82,.t 86] []),jA 5 87]) (.seq (jR [jP 89 (.bin .eql (.t 11) (.c (.str ⟨#[116,105,99,107,101,116]⟩))),jA 88 89]) (.cond (.t 88) (.seq (.reg [] true [jP 90 (.fld 2 (.t 3)),jI 1 91 (jL 90),jI 2 92 (.idx 1 (.t 91) (jC 0)),jI 3 93 (jL 92),jI 4 94 (jM 0),jI 5 95 (.nilck (.t 94)),jI 6 96 (.fld 4 (.t 95)),jI 7 97 (jL 96),jI 8 98 (.len false (.t 97)),jI 9 99 (.bin .lss (.t 93) (.t 98)),jI 10 100 (jF 24 [.t 99,jC 5] [])]) (.seq (.reg [] true [jA 101 0,jI 1 102 (.nilck (.t 101)),jI 2 103 (.fld 4 (.t 102)),jI 3 104 (jL 103),jI 4 105 (.fld 2 (.t 3)),jI 5 106 (jL 105),jI 6 107 (.idx 1 (.t 106) (jC 0)),jI 7 108 (jL 107),jI 8 109 (.idx 1 (.t 104) (.t 108)),jI 9 110 (jL 109),jI 10 8 (jM 110)]) (.seq (.reg [] true [jA 111 8,jI 1 112 (.nilck (.t 111)),jI 2 113 (.fld 0 (.t 112)),jI 3 114 (jL 113),jI 4 115 (jM 8),jI 5 116 (.nilck (.t 115)),jI 6 117 (.fld 1 (.t 116)),jI 7 118 (jL 117),jI 8 119 (jM 8),jI 9 120 (.nilck (.t 119)),jI 10 121 (.fld 2 (.t 120)),jI 11 122 (jL 121),jI 12 123 (jF 23 [.t 122] [3,7]),jI 13 124 (.bslice 1 3 [(.str ⟨#[]⟩)] [(0,(1,(.t 114))),(1,(1,(.t 118))),(2,(1,(.t 123)))]),jI 14 9 (jM 124)]) (.seq (.seq (jR [jA 125 8,jP 126 (.nilck (.t 125)),jP 127 (.fld 3 (.t 126)),jP 128 (jL 127)]) (.cond (.t 128) (jR [jA 129 9,jP 130 (.bslice 1 1 [(.str ⟨#[]⟩)] [(0,(1,(.c (.str ⟨#[118,111,105,100]⟩))))]),jP 131 (.app 1 16 (.t 129) (.t 130)),jA 9 131]) .skip)) (.seq (.reg [(9,false)] false [jA 132 9,jP 133 (jF 67 [.t 132,.c (.str ⟨#[32]⟩)] []),jA 4 133]) .ret))))) .skip)))))))))))))) (.seq (jR [jA 134 5,jP 135 (jF 23 [.t 134] []),jA 4 135]) .ret)))),none,none⟩
theorem bHB:aK prog (28,wG):=bQ (fun v w=>call28 v w) func28

def m29:RM:=⟨[(1,[(2,true)]),(4,[(6,true)])],[],[]⟩
def x29:XFn:=by
 refine' (?f:(g:XFn)→(mkF prog f29 m29 false false []=g)→XFn) _ ?h
 case f=>exact fun g _=>g
 case h=>conv=>lhs;cbv
theorem bHA:aK prog (29,x29):=bQ (fun v w=>call29 v w) func29

def m30:RM:=⟨[],[],[]⟩
def x30:XFn:=by
 refine' (?f:(g:XFn)→(mkF prog f30 m30 false false []=g)→XFn) _ ?h
 case f=>exact fun g _=>g
 case h=>conv=>lhs;cbv
theorem bHz:aK prog (30,x30):=bQ (fun v w=>call30 v w) func30

def m31:RM:=⟨[(1,[(0,false)]),(22,[(2,false),(15,false)])],[[3,5,8,9],[2,3,58,59,60]],[]⟩
def aHj:XCode:=by
 refine' (?f:(g:XCode)→(mkL prog f31 m31 0 []=g)→XCode) _ ?h
 case f=>exact fun g _=>g
 case h=>conv=>lhs;cbv
def aKk:XCode:=by
 refine' (?f:(g:XCode→XCode)→(∀ a,mkL prog f31 m31 1 [a]=g a)→XCode) _ ?h
 case f=>exact fun g _=>g aHj
 case h=>intro a;conv=>lhs;cbv
def x31:XFn:=by
 refine' (?f:(g:XCode→XCode→XFn)→(∀ a b,mkF prog f31 m31 false false [a,b]=g a b)→XFn) _ ?h
 case f=>exact fun g _=>g aHj aKk
 case h=>intro a b;conv=>lhs;cbv
theorem bHy:aK prog (31,x31):=bQ (fun v w=>call31 v w) func31

def m32:RM:=⟨[(1,[(0,false)])],[],[]⟩
def x32:XFn:=by
 refine' (?f:(g:XFn)→(mkF prog f32 m32 false false []=g)→XFn) _ ?h
 case f=>exact fun g _=>g
 case h=>conv=>lhs;cbv
theorem bHx:aK prog (32,x32):=bQ (fun v w=>call32 v w) func32

def m33:RM:=⟨[],[],[]⟩
def x33:XFn:=by
 refine' (?f:(g:XFn)→(mkF prog f33 m33 false false []=g)→XFn) _ ?h
 case f=>exact fun g _=>g
 case h=>conv=>lhs;cbv
theorem bHw:aK prog (33,x33):=bQ (fun v w=>call33 v w) func33

def m34:RM:=⟨[(6,[(8,false)]),(7,[(5,false)]),(9,[(6,false),(5,false)]),(10,[(5,false)])],[[1,5,6,9,10,11]],[]⟩
def aTH:XCode:=by
 refine' (?f:(g:XCode)→(mkL prog f34 m34 0 []=g)→XCode) _ ?h
 case f=>exact fun g _=>g
 case h=>conv=>lhs;cbv
def x34:XFn:=by
 refine' (?f:(g:XCode→XFn)→(∀ a,mkF prog f34 m34 false false [a]=g a)→XFn) _ ?h
 case f=>exact fun g _=>g aTH
 case h=>intro a;conv=>lhs;cbv
theorem bHv:aK prog (34,x34):=bQ (fun v w=>call34 v w) func34

def m36:RM:=⟨[(1,[(1,true)]),(4,[(1,true)])],[],[]⟩
def x36:XFn:=by
 refine' (?f:(g:XFn)→(mkF prog f36 m36 false false []=g)→XFn) _ ?h
 case f=>exact fun g _=>g
 case h=>conv=>lhs;cbv
theorem bHu:aK prog (36,x36):=bQ (fun v w=>call36 v w) func36

def m38:RM:=⟨[],[],[]⟩
def x38:XFn:=by
 refine' (?f:(g:XFn)→(mkF prog f38 m38 false false []=g)→XFn) _ ?h
 case f=>exact fun g _=>g
 case h=>conv=>lhs;cbv
theorem bHt:aK prog (38,x38):=bQ (fun v w=>call38 v w) func38

def m39:RM:=⟨[(2,[(1,false)])],[],[[2,5]]⟩
def x39:XFn:=by
 refine' (?f:(g:XFn)→(mkF prog f39 m39 false false []=g)→XFn) _ ?h
 case f=>exact fun g _=>g
 case h=>conv=>lhs;cbv
theorem bHs:aK prog (39,x39):=⟨⟨fun vs w=>call39 vs w,_,_,func39,rfl,rfl,by kernel_rfl,by kernel_rfl⟩,by kernel_rfl,⟨aF rfl,⟨aF rfl,⟨⟨aF rfl,⟨by kernel_rfl,aF rfl,aF rfl⟩⟩,aF rfl⟩⟩⟩,rfl⟩

def m40:RM:=⟨[],[],[]⟩
def x40:XFn:=by
 refine' (?f:(g:XFn)→(mkF prog f40 m40 false false []=g)→XFn) _ ?h
 case f=>exact fun g _=>g
 case h=>conv=>lhs;cbv
theorem bHr:aK prog (40,x40):=bQ (fun v w=>call40 v w) func40

def m41:RM:=⟨[],[],[]⟩
def x41:XFn:=by
 refine' (?f:(g:XFn)→(mkF prog f41 m41 false false []=g)→XFn) _ ?h
 case f=>exact fun g _=>g
 case h=>conv=>lhs;cbv
theorem bHq:aK prog (41,x41):=bQ (fun v w=>call41 v w) func41

def m42:RM:=⟨[(1,[(1,true)]),(8,[(4,true)]),(10,[(4,true)]),(13,[(1,true)])],[[1,18,19,20]],[]⟩
def aTG:XCode:=by
 refine' (?f:(g:XCode)→(mkL prog f42 m42 0 []=g)→XCode) _ ?h
 case f=>exact fun g _=>g
 case h=>conv=>lhs;cbv
def x42:XFn:=by
 refine' (?f:(g:XCode→XFn)→(∀ a,mkF prog f42 m42 false false [a]=g a)→XFn) _ ?h
 case f=>exact fun g _=>g aTG
 case h=>intro a;conv=>lhs;cbv
theorem bHp:aK prog (42,x42):=bQ (fun v w=>call42 v w) func42

def m43:RM:=⟨[],[],[]⟩
def x43:XFn:=by
 refine' (?f:(g:XFn)→(mkF prog f43 m43 false false []=g)→XFn) _ ?h
 case f=>exact fun g _=>g
 case h=>conv=>lhs;cbv
theorem bHo:aK prog (43,x43):=bQ (fun v w=>call43 v w) func43

def m44:RM:=⟨[],[[4,5,6,7,11,12]],[]⟩
def aXK:XCode:=by
 refine' (?f:(g:XCode)→(mkL prog f44 m44 0 []=g)→XCode) _ ?h
 case f=>exact fun g _=>g
 case h=>conv=>lhs;cbv
def x44:XFn:=by
 refine' (?f:(g:XCode→XFn)→(∀ a,mkF prog f44 m44 false false [a]=g a)→XFn) _ ?h
 case f=>exact fun g _=>g aXK
 case h=>intro a;conv=>lhs;cbv
theorem bHn:aK prog (44,x44):=bQ (fun v w=>call44 v w) func44

def m45:RM:=⟨[],[],[]⟩
def x45:XFn:=by
 refine' (?f:(g:XFn)→(mkF prog f45 m45 false false []=g)→XFn) _ ?h
 case f=>exact fun g _=>g
 case h=>conv=>lhs;cbv
theorem bHm:aK prog (45,x45):=bQ (fun v w=>call45 v w) func45

def m46:RM:=⟨[],[],[]⟩
def x46:XFn:=by
 refine' (?f:(g:XFn)→(mkF prog f46 m46 false false []=g)→XFn) _ ?h
 case f=>exact fun g _=>g
 case h=>conv=>lhs;cbv
theorem bHl:aK prog (46,x46):=bQ (fun v w=>call46 v w) func46

def m47:RM:=⟨[],[],[]⟩
def x47:XFn:=by
 refine' (?f:(g:XFn)→(mkF prog f47 m47 false true []=g)→XFn) _ ?h
 case f=>exact fun g _=>g
 case h=>conv=>lhs;cbv
theorem bHk:aK prog (47,x47):=bQ (fun v w=>call47 v w) func47

def m48:RM:=⟨[(2,[(1,true),(2,true)]),(5,[(1,true),(6,false)])],[[1,2,4]],[]⟩
def aHi:XCode:=by
 refine' (?f:(g:XCode)→(mkL prog f48 m48 0 []=g)→XCode) _ ?h
 case f=>exact fun g _=>g
 case h=>conv=>lhs;cbv
def x48:XFn:=by
 refine' (?f:(g:XCode→XFn)→(∀ a,mkF prog f48 m48 false false [a]=g a)→XFn) _ ?h
 case f=>exact fun g _=>g aHi
 case h=>intro a;conv=>lhs;cbv
theorem bHj:aK prog (48,x48):=bQ (fun v w=>call48 v w) func48

def m51:RM:=⟨[],[],[]⟩
def x51:XFn:=by
 refine' (?f:(g:XFn)→(mkF prog f51 m51 false false []=g)→XFn) _ ?h
 case f=>exact fun g _=>g
 case h=>conv=>lhs;cbv
theorem bHi:aK prog (51,x51):=bQ (fun v w=>call51 v w) func51

def m52:RM:=⟨[],[[0,6,7,8]],[]⟩
def aTF:XCode:=by
 refine' (?f:(g:XCode)→(mkL prog f52 m52 0 []=g)→XCode) _ ?h
 case f=>exact fun g _=>g
 case h=>conv=>lhs;cbv
def x52:XFn:=by
 refine' (?f:(g:XCode→XFn)→(∀ a,mkF prog f52 m52 false false [a]=g a)→XFn) _ ?h
 case f=>exact fun g _=>g aTF
 case h=>intro a;conv=>lhs;cbv
theorem bHh:aK prog (52,x52):=bQ (fun v w=>call52 v w) func52

def m54:RM:=⟨[],[],[]⟩
def x54:XFn:=by
 refine' (?f:(g:XFn)→(mkF prog f54 m54 false false []=g)→XFn) _ ?h
 case f=>exact fun g _=>g
 case h=>conv=>lhs;cbv
theorem bHg:aK prog (54,x54):=bQ (fun v w=>call54 v w) func54

def m55:RM:=⟨[],[],[]⟩
def x55:XFn:=by
 refine' (?f:(g:XFn)→(mkF prog f55 m55 false false []=g)→XFn) _ ?h
 case f=>exact fun g _=>g
 case h=>conv=>lhs;cbv
theorem bHf:aK prog (55,x55):=bQ (fun v w=>call55 v w) func55

def m56:RM:=⟨[],[],[]⟩
def x56:XFn:=by
 refine' (?f:(g:XFn)→(mkF prog f56 m56 false false []=g)→XFn) _ ?h
 case f=>exact fun g _=>g
 case h=>conv=>lhs;cbv
theorem bHe:aK prog (56,x56):=bQ (fun v w=>call56 v w) func56

def m57:RM:=⟨[],[],[]⟩
def x57:XFn:=by
 refine' (?f:(g:XFn)→(mkF prog f57 m57 false false []=g)→XFn) _ ?h
 case f=>exact fun g _=>g
 case h=>conv=>lhs;cbv
theorem bHd:aK prog (57,x57):=bQ (fun v w=>call57 v w) func57

def m58:RM:=⟨[],[],[]⟩
def x58:XFn:=by
 refine' (?f:(g:XFn)→(mkF prog f58 m58 false false []=g)→XFn) _ ?h
 case f=>exact fun g _=>g
 case h=>conv=>lhs;cbv
theorem bHc:aK prog (58,x58):=bQ (fun v w=>call58 v w) func58

def m59:RM:=⟨[],[],[]⟩
def x59:XFn:=by
 refine' (?f:(g:XFn)→(mkF prog f59 m59 false false []=g)→XFn) _ ?h
 case f=>exact fun g _=>g
 case h=>conv=>lhs;cbv
theorem bHb:aK prog (59,x59):=bQ (fun v w=>call59 v w) func59

def m60:RM:=⟨[],[],[]⟩
def x60:XFn:=by
 refine' (?f:(g:XFn)→(mkF prog f60 m60 false false []=g)→XFn) _ ?h
 case f=>exact fun g _=>g
 case h=>conv=>lhs;cbv
theorem bHa:aK prog (60,x60):=bQ (fun v w=>call60 v w) func60

def m61:RM:=⟨[],[],[]⟩
def x61:XFn:=by
 refine' (?f:(g:XFn)→(mkF prog f61 m61 false false []=g)→XFn) _ ?h
 case f=>exact fun g _=>g
 case h=>conv=>lhs;cbv
theorem bGZ:aK prog (61,x61):=bQ (fun v w=>call61 v w) func61

def m62:RM:=⟨[],[],[]⟩
def x62:XFn:=by
 refine' (?f:(g:XFn)→(mkF prog f62 m62 false false []=g)→XFn) _ ?h
 case f=>exact fun g _=>g
 case h=>conv=>lhs;cbv
theorem bGY:aK prog (62,x62):=bQ (fun v w=>call62 v w) func62

def m63:RM:=⟨[],[],[]⟩
def x63:XFn:=by
 refine' (?f:(g:XFn)→(mkF prog f63 m63 false false []=g)→XFn) _ ?h
 case f=>exact fun g _=>g
 case h=>conv=>lhs;cbv
theorem bGX:aK prog (63,x63):=bQ (fun v w=>call63 v w) func63

def m64:RM:=⟨[],[],[]⟩
def x64:XFn:=by
 refine' (?f:(g:XFn)→(mkF prog f64 m64 false false []=g)→XFn) _ ?h
 case f=>exact fun g _=>g
 case h=>conv=>lhs;cbv
theorem bGW:aK prog (64,x64):=bQ (fun v w=>call64 v w) func64

def m65:RM:=⟨[],[],[]⟩
def x65:XFn:=by
 refine' (?f:(g:XFn)→(mkF prog f65 m65 false false []=g)→XFn) _ ?h
 case f=>exact fun g _=>g
 case h=>conv=>lhs;cbv
theorem bGV:aK prog (65,x65):=bQ (fun v w=>call65 v w) func65

def m66:RM:=⟨[],[[0,1,5,6,7,26,27,28]],[]⟩
def aTE:XCode:=by
 refine' (?f:(g:XCode)→(mkL prog f66 m66 0 []=g)→XCode) _ ?h
 case f=>exact fun g _=>g
 case h=>conv=>lhs;cbv
def x66:XFn:=by
 refine' (?f:(g:XCode→XFn)→(∀ a,mkF prog f66 m66 false false [a]=g a)→XFn) _ ?h
 case f=>exact fun g _=>g aTE
 case h=>intro a;conv=>lhs;cbv
theorem bGU:aK prog (66,x66):=bQ (fun v w=>call66 v w) func66

def m68:RM:=⟨[],[[1,5,8,9]],[]⟩
def aTD:XCode:=by
 refine' (?f:(g:XCode)→(mkL prog f68 m68 0 []=g)→XCode) _ ?h
 case f=>exact fun g _=>g
 case h=>conv=>lhs;cbv
def x68:XFn:=by
 refine' (?f:(g:XCode→XFn)→(∀ a,mkF prog f68 m68 false false [a]=g a)→XFn) _ ?h
 case f=>exact fun g _=>g aTD
 case h=>intro a;conv=>lhs;cbv
theorem bGT:aK prog (68,x68):=bQ (fun v w=>call68 v w) func68

def m69:RM:=⟨[(2,[(3,true),(1,true)]),(4,[(6,false),(3,true)]),(5,[(1,true),(6,false)])],[],[[1,2,3,5]]⟩
def x69:XFn:=by
 refine' (?f:(g:XFn)→(mkF prog f69 m69 false false []=g)→XFn) _ ?h
 case f=>exact fun g _=>g
 case h=>conv=>lhs;cbv
theorem bGS:aK prog (69,x69):=⟨⟨fun vs w=>call69 vs w,_,_,func69,rfl,rfl,by kernel_rfl,by kernel_rfl⟩,by kernel_rfl,⟨aF rfl,⟨aF rfl,⟨⟨aF rfl,⟨by kernel_rfl,aF rfl,aF rfl⟩⟩,aF rfl⟩⟩⟩,rfl⟩

def m70:RM:=⟨[],[],[]⟩
def x70:XFn:=by
 refine' (?f:(g:XFn)→(mkF prog f70 m70 false false []=g)→XFn) _ ?h
 case f=>exact fun g _=>g
 case h=>conv=>lhs;cbv
theorem bGR:aK prog (70,x70):=bQ (fun v w=>call70 v w) func70

def m71:RM:=⟨[],[],[]⟩
def x71:XFn:=by
 refine' (?f:(g:XFn)→(mkF prog f71 m71 false false []=g)→XFn) _ ?h
 case f=>exact fun g _=>g
 case h=>conv=>lhs;cbv
theorem bGQ:aK prog (71,x71):=bQ (fun v w=>call71 v w) func71

def m73:RM:=⟨[],[],[]⟩
def x73:XFn:=by
 refine' (?f:(g:XFn)→(mkF prog f73 m73 false false []=g)→XFn) _ ?h
 case f=>exact fun g _=>g
 case h=>conv=>lhs;cbv
theorem bGP:aK prog (73,x73):=bQ (fun v w=>call73 v w) func73

def m74:RM:=⟨[(32,[(4,false)])],[[0,1,4,5,7,8,9,35,36],[4,5,105,106,107]],[]⟩
def aTC:XCode:=by
 refine' (?f:(g:XCode)→(mkL prog f74 m74 0 []=g)→XCode) _ ?h
 case f=>exact fun g _=>g
 case h=>conv=>lhs;cbv
def aXJ:XCode:=by
 refine' (?f:(g:XCode→XCode)→(∀ a,mkL prog f74 m74 1 [a]=g a)→XCode) _ ?h
 case f=>exact fun g _=>g aTC
 case h=>intro a;conv=>lhs;cbv
def x74:XFn:=by
 refine' (?f:(g:XCode→XCode→XFn)→(∀ a b,mkF prog f74 m74 false false [a,b]=g a b)→XFn) _ ?h
 case f=>exact fun g _=>g aTC aXJ
 case h=>intro a b;conv=>lhs;cbv
theorem bGO:aK prog (74,x74):=bQ (fun v w=>call74 v w) func74

def m76:RM:=⟨[],[[0,3,4]],[]⟩
def aMS:XCode:=by
 refine' (?f:(g:XCode)→(mkL prog f76 m76 0 []=g)→XCode) _ ?h
 case f=>exact fun g _=>g
 case h=>conv=>lhs;cbv
def x76:XFn:=by
 refine' (?f:(g:XCode→XFn)→(∀ a,mkF prog f76 m76 false false [a]=g a)→XFn) _ ?h
 case f=>exact fun g _=>g aMS
 case h=>intro a;conv=>lhs;cbv
theorem bGN:aK prog (76,x76):=bQ (fun v w=>call76 v w) func76

def m77:RM:=⟨[],[[0,2,3,5]],[]⟩
def aTB:XCode:=by
 refine' (?f:(g:XCode)→(mkL prog f77 m77 0 []=g)→XCode) _ ?h
 case f=>exact fun g _=>g
 case h=>conv=>lhs;cbv
def x77:XFn:=by
 refine' (?f:(g:XCode→XFn)→(∀ a,mkF prog f77 m77 false false [a]=g a)→XFn) _ ?h
 case f=>exact fun g _=>g aTB
 case h=>intro a;conv=>lhs;cbv
theorem bGM:aK prog (77,x77):=bQ (fun v w=>call77 v w) func77

def m78:RM:=⟨[(1,[(1,false)])],[],[]⟩
def x78:XFn:=by
 refine' (?f:(g:XFn)→(mkF prog f78 m78 false false []=g)→XFn) _ ?h
 case f=>exact fun g _=>g
 case h=>conv=>lhs;cbv
theorem bGL:aK prog (78,x78):=bQ (fun v w=>call78 v w) func78

def m79:RM:=⟨[],[[2,3,7,8,9]],[]⟩
def aTA:XCode:=by
 refine' (?f:(g:XCode)→(mkL prog f79 m79 0 []=g)→XCode) _ ?h
 case f=>exact fun g _=>g
 case h=>conv=>lhs;cbv
def x79:XFn:=by
 refine' (?f:(g:XCode→XFn)→(∀ a,mkF prog f79 m79 false false [a]=g a)→XFn) _ ?h
 case f=>exact fun g _=>g aTA
 case h=>intro a;conv=>lhs;cbv
theorem bGK:aK prog (79,x79):=bQ (fun v w=>call79 v w) func79

def m80:RM:=⟨[(5,[(1,true)]),(7,[(1,true)]),(13,[(1,true)]),(15,[(5,true),(3,false)])],[[1,3,25,26,27]],[]⟩
def aTz:XCode:=by
 refine' (?f:(g:XCode)→(mkL prog f80 m80 0 []=g)→XCode) _ ?h
 case f=>exact fun g _=>g
 case h=>conv=>lhs;cbv
def x80:XFn:=by
 refine' (?f:(g:XCode→XFn)→(∀ a,mkF prog f80 m80 false false [a]=g a)→XFn) _ ?h
 case f=>exact fun g _=>g aTz
 case h=>intro a;conv=>lhs;cbv
theorem bGJ:aK prog (80,x80):=bQ (fun v w=>call80 v w) func80

def m81:RM:=⟨[],[[1,5,9,10,11]],[]⟩
def aTy:XCode:=by
 refine' (?f:(g:XCode)→(mkL prog f81 m81 0 []=g)→XCode) _ ?h
 case f=>exact fun g _=>g
 case h=>conv=>lhs;cbv
def x81:XFn:=by
 refine' (?f:(g:XCode→XFn)→(∀ a,mkF prog f81 m81 false false [a]=g a)→XFn) _ ?h
 case f=>exact fun g _=>g aTy
 case h=>intro a;conv=>lhs;cbv
theorem bGI:aK prog (81,x81):=bQ (fun v w=>call81 v w) func81

def m82:RM:=⟨[],[],[]⟩
def x82:XFn:=by
 refine' (?f:(g:XFn)→(mkF prog f82 m82 false false []=g)→XFn) _ ?h
 case f=>exact fun g _=>g
 case h=>conv=>lhs;cbv
theorem bGH:aK prog (82,x82):=bQ (fun v w=>call82 v w) func82

def m83:RM:=⟨[],[],[]⟩
def x83:XFn:=by
 refine' (?f:(g:XFn)→(mkF prog f83 m83 false false []=g)→XFn) _ ?h
 case f=>exact fun g _=>g
 case h=>conv=>lhs;cbv
theorem bGG:aK prog (83,x83):=bQ (fun v w=>call83 v w) func83

def m84:RM:=⟨[(1,[(1,true)])],[[0,1]],[]⟩
def aKj:XCode:=by
 refine' (?f:(g:XCode)→(mkL prog f84 m84 0 []=g)→XCode) _ ?h
 case f=>exact fun g _=>g
 case h=>conv=>lhs;cbv
def x84:XFn:=by
 refine' (?f:(g:XCode→XFn)→(∀ a,mkF prog f84 m84 false false [a]=g a)→XFn) _ ?h
 case f=>exact fun g _=>g aKj
 case h=>intro a;conv=>lhs;cbv
theorem bGF:aK prog (84,x84):=bQ (fun v w=>call84 v w) func84

def m85:RM:=⟨[],[],[]⟩
def x85:XFn:=by
 refine' (?f:(g:XFn)→(mkF prog f85 m85 false false []=g)→XFn) _ ?h
 case f=>exact fun g _=>g
 case h=>conv=>lhs;cbv
theorem bGE:aK prog (85,x85):=bQ (fun v w=>call85 v w) func85

def x86:XFn:=⟨44,[(0,none)],false,false,(.seq (jR [jP 0 (.mv (.c (.bool false)))]) (.seq (jR [jP 9 (jF 119 [jC 2,jC 0,jC 2] []),jA 8 9,jP 10 (.ext (.t 8) 0),jP 11 (.ext (.t 8) 1),jP 1 (.alloc [.nilsl,.nilsl]),jS (.store 2 (.t 1) (.t 10) []),jA 2 11]) (.seq (.seq (jR [jA 12 2,jP 13 (.bin .neq (.t 12) (jC 0)),jA 14 13,jN 15 (.fld 1 (.t 1)) 14,jN 16 (jL 15) 14,jN 17 (.len false (.t 16)) 14,jN 18 (.bin .eql (.t 17) (jC 0)) 14,jP 19 (.pick (.t 14) (.c (.bool true)) (.t 18))]) (.cond (.t 19) (.seq (jR [jP 0 (.mv (.c (.bool false)))]) .ret) .skip)) (.seq (.reg [(1,true)] false [jP 21 (.load true 2 (.t 1)),jP 22 (jF 120 [.t 21] []),jA 20 22,jP 23 (.ext (.t 20) 0),jP 24 (.ext (.t 20) 1),jP 25 (.ext (.t 20) 2),jP 3 (.alloc [.int .i64 0,.nilsl]),jS (.store 2 (.t 3) (.t 23) []),jA 4 24,jA 5 25]) (.seq (.reg [(3,true)] false [jP 27 (.load true 2 (.t 3)),jP 28 (jF 16 [.t 27] []),jA 26 28,jP 29 (.ext (.t 26) 0),jP 30 (.ext (.t 26) 1),jP 6 (.alloc [.int .i64 0,.int .i64 0]),jS (.store 2 (.t 6) (.t 29) []),jA 7 30]) (.seq (jR [jA 31 5,jA 32 31,jY 33 (jM 7) 32,jY 34 (.bin .eql (.t 33) (jC 0)) 32,jP 35 (.pick (.t 32) (.t 34) (.c (.bool false))),jA 36 35,jY 37 (.load true 2 (.t 6)) 36,jY 38 (.build [.int .i64 0,.int .i64 0] [(0,(1,(jC 1))),(1,(1,(jC 3)))]) 36,jY 39 (.eqag false [0,0] (.t 37) (.t 38)) 36,jP 40 (.pick (.t 36) (.t 39) (.c (.bool false))),jA 41 40,jY 42 (jF 121 [] []) 41,jP 43 (.pick (.t 41) (.t 42) (.c (.bool false))),jA 0 43]) .ret)))))),none,none⟩
theorem bGD:aK prog (86,x86):=bQ (fun v w=>call86 v w) func86

def m87:RM:=⟨[(1,[(1,true)])],[],[]⟩
def x87:XFn:=by
 refine' (?f:(g:XFn)→(mkF prog f87 m87 false false []=g)→XFn) _ ?h
 case f=>exact fun g _=>g
 case h=>conv=>lhs;cbv
theorem bGC:aK prog (87,x87):=bQ (fun v w=>call87 v w) func87

def m88:RM:=⟨[(1,[(2,true)]),(7,[(8,true)])],[],[[1,3,4]]⟩
def x88:XFn:=by
 refine' (?f:(g:XFn)→(mkF prog f88 m88 false false []=g)→XFn) _ ?h
 case f=>exact fun g _=>g
 case h=>conv=>lhs;cbv
theorem bGB:aK prog (88,x88):=⟨⟨fun vs w=>call88 vs w,_,_,func88,rfl,rfl,by kernel_rfl,by kernel_rfl⟩,by kernel_rfl,⟨aF rfl,⟨⟨aF rfl,⟨by kernel_rfl,aF rfl,aF rfl⟩⟩,aF rfl⟩⟩,rfl⟩

def m89:RM:=⟨[(3,[(5,true)])],[[0,2,7,8,9]],[]⟩
def aKi:XCode:=by
 refine' (?f:(g:XCode)→(mkL prog f89 m89 0 []=g)→XCode) _ ?h
 case f=>exact fun g _=>g
 case h=>conv=>lhs;cbv
def x89:XFn:=by
 refine' (?f:(g:XCode→XFn)→(∀ a,mkF prog f89 m89 false false [a]=g a)→XFn) _ ?h
 case f=>exact fun g _=>g aKi
 case h=>intro a;conv=>lhs;cbv
theorem bGA:aK prog (89,x89):=bQ (fun v w=>call89 v w) func89

def m90:RM:=⟨[],[[2,3,4,5,6,7,8,17,18,19],[2,5,6,8,71,72],[2,5,6,8,12],[2,3,4,5,6,7]],[]⟩
def fE:XCode:=by
 refine' (?f:(g:XCode)→(mkL prog f90 m90 0 []=g)→XCode) _ ?h
 case f=>exact fun g _=>g
 case h=>conv=>lhs;cbv
def rV:XCode:=by
 refine' (?f:(g:XCode→XCode)→(∀ a,mkL prog f90 m90 1 [a]=g a)→XCode) _ ?h
 case f=>exact fun g _=>g fE
 case h=>intro a;conv=>lhs;cbv
def sV:XCode:=by
 refine' (?f:(g:XCode→XCode→XCode)→(∀ a b,mkL prog f90 m90 2 [a,b]=g a b)→XCode) _ ?h
 case f=>exact fun g _=>g fE rV
 case h=>intro a b;conv=>lhs;cbv
def lV:XCode:=by
 refine' (?f:(g:XCode→XCode→XCode→XCode)→(∀ a b c,mkL prog f90 m90 3 [a,b,c]=g a b c)→XCode) _ ?h
 case f=>exact fun g _=>g fE rV sV
 case h=>intro a b c;conv=>lhs;cbv
def x90:XFn:=by
 refine' (?f:(g:XCode→XCode→XCode→XCode→XFn)→(∀ a b c d,mkF prog f90 m90 false true [a,b,c,d]=g a b c d)→XFn) _ ?h
 case f=>exact fun g _=>g fE rV sV lV
 case h=>intro a b c d;conv=>lhs;cbv
theorem bGz:aK prog (90,x90):=bQ (fun v w=>call90 v w) func90

def m91:RM:=⟨[(8,[(5,true)])],[[2,4,5,8,9,10]],[]⟩
def aKh:XCode:=by
 refine' (?f:(g:XCode)→(mkL prog f91 m91 0 []=g)→XCode) _ ?h
 case f=>exact fun g _=>g
 case h=>conv=>lhs;cbv
def x91:XFn:=by
 refine' (?f:(g:XCode→XFn)→(∀ a,mkF prog f91 m91 false false [a]=g a)→XFn) _ ?h
 case f=>exact fun g _=>g aKh
 case h=>intro a;conv=>lhs;cbv
theorem bGy:aK prog (91,x91):=bQ (fun v w=>call91 v w) func91

def m96:RM:=⟨[],[],[]⟩
def x96:XFn:=by
 refine' (?f:(g:XFn)→(mkF prog f96 m96 false false []=g)→XFn) _ ?h
 case f=>exact fun g _=>g
 case h=>conv=>lhs;cbv
theorem bGx:aK prog (96,x96):=bQ (fun v w=>call96 v w) func96

def m97:RM:=⟨[],[],[]⟩
def x97:XFn:=by
 refine' (?f:(g:XFn)→(mkF prog f97 m97 false false []=g)→XFn) _ ?h
 case f=>exact fun g _=>g
 case h=>conv=>lhs;cbv
theorem bGw:aK prog (97,x97):=bQ (fun v w=>call97 v w) func97

def m98:RM:=⟨[],[],[]⟩
def x98:XFn:=by
 refine' (?f:(g:XFn)→(mkF prog f98 m98 false false []=g)→XFn) _ ?h
 case f=>exact fun g _=>g
 case h=>conv=>lhs;cbv
theorem bGv:aK prog (98,x98):=bQ (fun v w=>call98 v w) func98

def m99:RM:=⟨[],[],[]⟩
def x99:XFn:=by
 refine' (?f:(g:XFn)→(mkF prog f99 m99 false false []=g)→XFn) _ ?h
 case f=>exact fun g _=>g
 case h=>conv=>lhs;cbv
theorem bGu:aK prog (99,x99):=bQ (fun v w=>call99 v w) func99

def bGp:RM:=⟨[],[],[]⟩
def aLA:XFn:=by
 refine' (?f:(g:XFn)→(mkF prog f100 bGp false false []=g)→XFn) _ ?h
 case f=>exact fun g _=>g
 case h=>conv=>lhs;cbv
theorem bCD:aK prog (100,aLA):=bQ (fun v w=>call100 v w) func100

def bGo:RM:=⟨[],[],[]⟩
def aHm:XFn:=by
 refine' (?f:(g:XFn)→(mkF prog f101 bGo false false []=g)→XFn) _ ?h
 case f=>exact fun g _=>g
 case h=>conv=>lhs;cbv
theorem bCC:aK prog (101,aHm):=bQ (fun v w=>call101 v w) func101

def bGn:RM:=⟨[],[],[]⟩
def aHl:XFn:=by
 refine' (?f:(g:XFn)→(mkF prog f102 bGn false false []=g)→XFn) _ ?h
 case f=>exact fun g _=>g
 case h=>conv=>lhs;cbv
theorem bCB:aK prog (102,aHl):=bQ (fun v w=>call102 v w) func102

def bGm:RM:=⟨[],[],[]⟩
def aLz:XFn:=by
 refine' (?f:(g:XFn)→(mkF prog f103 bGm false false []=g)→XFn) _ ?h
 case f=>exact fun g _=>g
 case h=>conv=>lhs;cbv
theorem bCA:aK prog (103,aLz):=bQ (fun v w=>call103 v w) func103

def bGl:RM:=⟨[],[],[]⟩
def aHk:XFn:=by
 refine' (?f:(g:XFn)→(mkF prog f104 bGl false false []=g)→XFn) _ ?h
 case f=>exact fun g _=>g
 case h=>conv=>lhs;cbv
theorem bCz:aK prog (104,aHk):=bQ (fun v w=>call104 v w) func104

def bAO:RM:=⟨[(2,[(2,true)])],[[0,1,2,4]],[]⟩
def aNl:XCode:=by
 refine' (?f:(g:XCode)→(mkL prog f106 bAO 0 []=g)→XCode) _ ?h
 case f=>exact fun g _=>g
 case h=>conv=>lhs;cbv
def aRe:XFn:=by
 refine' (?f:(g:XCode→XFn)→(∀ a,mkF prog f106 bAO false false [a]=g a)→XFn) _ ?h
 case f=>exact fun g _=>g aNl
 case h=>intro a;conv=>lhs;cbv
theorem bCy:aK prog (106,aRe):=bQ (fun v w=>call106 v w) func106

def bAN:RM:=⟨[],[[0,7,8,9]],[]⟩
def aNk:XCode:=by
 refine' (?f:(g:XCode)→(mkL prog f107 bAN 0 []=g)→XCode) _ ?h
 case f=>exact fun g _=>g
 case h=>conv=>lhs;cbv
def aRd:XFn:=by
 refine' (?f:(g:XCode→XFn)→(∀ a,mkF prog f107 bAN false false [a]=g a)→XFn) _ ?h
 case f=>exact fun g _=>g aNk
 case h=>intro a;conv=>lhs;cbv
theorem bCx:aK prog (107,aRd):=bQ (fun v w=>call107 v w) func107

def bGk:RM:=⟨[(3,[(1,false)])],[],[]⟩
def x109:XFn:=by
 refine' (?f:(g:XFn)→(mkF prog f109 bGk false false []=g)→XFn) _ ?h
 case f=>exact fun g _=>g
 case h=>conv=>lhs;cbv
theorem bCw:aK prog (109,x109):=bQ (fun v w=>call109 v w) func109

def bAM:RM:=⟨[],[[2,3,4,6,8]],[]⟩
def aNj:XCode:=by
 refine' (?f:(g:XCode)→(mkL prog f110 bAM 0 []=g)→XCode) _ ?h
 case f=>exact fun g _=>g
 case h=>conv=>lhs;cbv
def x110:XFn:=by
 refine' (?f:(g:XCode→XFn)→(∀ a,mkF prog f110 bAM false false [a]=g a)→XFn) _ ?h
 case f=>exact fun g _=>g aNj
 case h=>intro a;conv=>lhs;cbv
theorem bCv:aK prog (110,x110):=bQ (fun v w=>call110 v w) func110

def bGj:RM:=⟨[],[],[]⟩
def x111:XFn:=by
 refine' (?f:(g:XFn)→(mkF prog f111 bGj false false []=g)→XFn) _ ?h
 case f=>exact fun g _=>g
 case h=>conv=>lhs;cbv
theorem bCu:aK prog (111,x111):=bQ (fun v w=>call111 v w) func111

def bAL:RM:=⟨[],[[5,10,11]],[]⟩
def aNi:XCode:=by
 refine' (?f:(g:XCode)→(mkL prog f114 bAL 0 []=g)→XCode) _ ?h
 case f=>exact fun g _=>g
 case h=>conv=>lhs;cbv
def x114:XFn:=by
 refine' (?f:(g:XCode→XFn)→(∀ a,mkF prog f114 bAL false false [a]=g a)→XFn) _ ?h
 case f=>exact fun g _=>g aNi
 case h=>intro a;conv=>lhs;cbv
theorem bCt:aK prog (114,x114):=bQ (fun v w=>call114 v w) func114

def bGi:RM:=⟨[(1,[(0,false)])],[],[]⟩
def aRc:XFn:=by
 refine' (?f:(g:XFn)→(mkF prog f115 bGi false false []=g)→XFn) _ ?h
 case f=>exact fun g _=>g
 case h=>conv=>lhs;cbv
theorem bCs:aK prog (115,aRc):=bQ (fun v w=>call115 v w) func115

def bGh:RM:=⟨[(1,[(0,false),(1,false)])],[],[]⟩
def aRb:XFn:=by
 refine' (?f:(g:XFn)→(mkF prog f116 bGh false false []=g)→XFn) _ ?h
 case f=>exact fun g _=>g
 case h=>conv=>lhs;cbv
theorem bCr:aK prog (116,aRb):=bQ (fun v w=>call116 v w) func116

def bGg:RM:=⟨[],[],[]⟩
def aYW:XFn:=by
 refine' (?f:(g:XFn)→(mkF prog f117 bGg false false []=g)→XFn) _ ?h
 case f=>exact fun g _=>g
 case h=>conv=>lhs;cbv
theorem bCq:aK prog (117,aYW):=bQ (fun v w=>call117 v w) func117

def bGf:RM:=⟨[],[],[]⟩
def aYV:XFn:=by
 refine' (?f:(g:XFn)→(mkF prog f118 bGf false false []=g)→XFn) _ ?h
 case f=>exact fun g _=>g
 case h=>conv=>lhs;cbv
theorem bCp:aK prog (118,aYV):=bQ (fun v w=>call118 v w) func118

def bGe:RM:=⟨[(1,[(0,false),(1,false),(2,false)])],[],[]⟩
def aYU:XFn:=by
 refine' (?f:(g:XFn)→(mkF prog f119 bGe false false []=g)→XFn) _ ?h
 case f=>exact fun g _=>g
 case h=>conv=>lhs;cbv
theorem bCo:aK prog (119,aYU):=bQ (fun v w=>call119 v w) func119

def aSr:RM:=⟨[],[[1,2,5,6,20,21],[2,5,6,8,50,51,52,57,58,59],[2,5,6,50,51,52]],[]⟩
def aIO:XCode:=by
 refine' (?f:(g:XCode)→(mkL prog f120 aSr 0 []=g)→XCode) _ ?h
 case f=>exact fun g _=>g
 case h=>conv=>lhs;cbv
def aNh:XCode:=by
 refine' (?f:(g:XCode→XCode)→(∀ a,mkL prog f120 aSr 1 [a]=g a)→XCode) _ ?h
 case f=>exact fun g _=>g aIO
 case h=>intro a;conv=>lhs;cbv
def aUQ:XCode:=by
 refine' (?f:(g:XCode→XCode→XCode)→(∀ a b,mkL prog f120 aSr 2 [a,b]=g a b)→XCode) _ ?h
 case f=>exact fun g _=>g aIO aNh
 case h=>intro a b;conv=>lhs;cbv
def aYT:XFn:=by
 refine' (?f:(g:XCode→XCode→XCode→XFn)→(∀ a b c,mkF prog f120 aSr false false [a,b,c]=g a b c)→XFn) _ ?h
 case f=>exact fun g _=>g aIO aNh aUQ
 case h=>intro a b c;conv=>lhs;cbv
theorem bCn:aK prog (120,aYT):=bQ (fun v w=>call120 v w) func120

def x121:XFn:=⟨20,[(0,none)],false,false,(.seq (jR [jP 0 (.mv (.c (.bool false)))]) (.seq (jR [jP 4 (jF 14 [jC 10,jC 20] []),jP 5 (.build [.int .u8 0,.int .u8 0,.int .u8 0,.int .u8 0,.int .u8 0,.int .u8 0] [(0,(1,(.c (.int .u8 0)))),(1,(1,(.c (.int .u8 70)))),(2,(1,(.c (.int .u8 1)))),(3,(1,(.c (.int .u8 0)))),(4,(1,(.c (.int .u8 0)))),(5,(1,(.c (.int .u8 0))))]),jP 6 (jF 13 [.t 4,.t 5] []),jP 7 (jF 16 [.t 6] []),jA 3 7,jP 8 (.ext (.t 3) 0),jP 9 (.ext (.t 3) 1),jP 1 (.alloc [.int .i64 0,.int .i64 0]),jS (.store 2 (.t 1) (.t 8) []),jA 2 9]) (.seq (jR [jA 10 2,jP 11 (.bin .eql (.t 10) (jC 0)),jA 12 11,jY 13 (.load true 2 (.t 1)) 12,jY 14 (.build [.int .i64 0,.int .i64 0] [(0,(1,(jC 35))),(1,(1,(jC 1)))]) 12,jY 15 (.eqag false [0,0] (.t 13) (.t 14)) 12,jP 16 (.pick (.t 12) (.t 15) (.c (.bool false))),jA 17 16,jY 18 (jF 145 [] []) 17,jP 19 (.pick (.t 17) (.t 18) (.c (.bool false))),jA 0 19]) .ret))),none,none⟩
theorem bCm:aK prog (121,x121):=bQ (fun v w=>call121 v w) func121

def bAK:RM:=⟨[],[[0,2,3]],[]⟩
def aUP:XCode:=by
 refine' (?f:(g:XCode)→(mkL prog f122 bAK 0 []=g)→XCode) _ ?h
 case f=>exact fun g _=>g
 case h=>conv=>lhs;cbv
def aYS:XFn:=by
 refine' (?f:(g:XCode→XFn)→(∀ a,mkF prog f122 bAK true false [a]=g a)→XFn) _ ?h
 case f=>exact fun g _=>g aUP
 case h=>intro a;conv=>lhs;cbv
theorem bCl:aK prog (122,aYS):=bQ (fun v w=>call122 v w) func122

def bAJ:RM:=⟨[],[[1,2,3,4]],[]⟩
def nH:XCode:=by
 refine' (?f:(g:XCode)→(mkL prog f123 bAJ 0 []=g)→XCode) _ ?h
 case f=>exact fun g _=>g
 case h=>conv=>lhs;cbv
def oC:XFn:=by
 refine' (?f:(g:XCode→XFn)→(∀ a,mkF prog f123 bAJ false false [a]=g a)→XFn) _ ?h
 case f=>exact fun g _=>g nH
 case h=>intro a;conv=>lhs;cbv
theorem bCk:aK prog (123,oC):=bQ (fun v w=>call123 v w) func123

def bGd:RM:=⟨[(1,[(0,false)])],[],[]⟩
def x138:XFn:=by
 refine' (?f:(g:XFn)→(mkF prog f138 bGd false false []=g)→XFn) _ ?h
 case f=>exact fun g _=>g
 case h=>conv=>lhs;cbv
theorem bCj:aK prog (138,x138):=bQ (fun v w=>call138 v w) func138

def bAI:RM:=⟨[],[[0,1,7,8]],[]⟩
def aNg:XCode:=by
 refine' (?f:(g:XCode)→(mkL prog f142 bAI 0 []=g)→XCode) _ ?h
 case f=>exact fun g _=>g
 case h=>conv=>lhs;cbv
def aRa:XFn:=by
 refine' (?f:(g:XCode→XFn)→(∀ a,mkF prog f142 bAI false false [a]=g a)→XFn) _ ?h
 case f=>exact fun g _=>g aNg
 case h=>intro a;conv=>lhs;cbv
theorem bCi:aK prog (142,aRa):=bQ (fun v w=>call142 v w) func142

def bGc:RM:=⟨[(3,[(1,false)]),(5,[(2,false),(3,false)])],[],[]⟩
def aYR:XFn:=by
 refine' (?f:(g:XFn)→(mkF prog f143 bGc false false []=g)→XFn) _ ?h
 case f=>exact fun g _=>g
 case h=>conv=>lhs;cbv
theorem bCh:aK prog (143,aYR):=bQ (fun v w=>call143 v w) func143

def bGb:RM:=⟨[],[],[]⟩
def aYQ:XFn:=by
 refine' (?f:(g:XFn)→(mkF prog f144 bGb false false []=g)→XFn) _ ?h
 case f=>exact fun g _=>g
 case h=>conv=>lhs;cbv
theorem bCg:aK prog (144,aYQ):=bQ (fun v w=>call144 v w) func144

def bGa:RM:=⟨[(2,[(1,true)]),(4,[(5,true)])],[],[]⟩
def x145:XFn:=by
 refine' (?f:(g:XFn)→(mkF prog f145 bGa false false []=g)→XFn) _ ?h
 case f=>exact fun g _=>g
 case h=>conv=>lhs;cbv
theorem bCf:aK prog (145,x145):=bQ (fun v w=>call145 v w) func145

def bFZ:RM:=⟨[],[],[]⟩
def aYP:XFn:=by
 refine' (?f:(g:XFn)→(mkF prog f159 bFZ false false []=g)→XFn) _ ?h
 case f=>exact fun g _=>g
 case h=>conv=>lhs;cbv
theorem bCe:aK prog (159,aYP):=bQ (fun v w=>call159 v w) func159

def bFY:RM:=⟨[],[],[]⟩
def aYO:XFn:=by
 refine' (?f:(g:XFn)→(mkF prog f167 bFY false false []=g)→XFn) _ ?h
 case f=>exact fun g _=>g
 case h=>conv=>lhs;cbv
theorem bCd:aK prog (167,aYO):=bQ (fun v w=>call167 v w) func167

def bFX:RM:=⟨[(1,[(3,true),(0,false),(1,false)])],[],[]⟩
def aYN:XFn:=by
 refine' (?f:(g:XFn)→(mkF prog f168 bFX false false []=g)→XFn) _ ?h
 case f=>exact fun g _=>g
 case h=>conv=>lhs;cbv
theorem bCc:aK prog (168,aYN):=bQ (fun v w=>call168 v w) func168

def bFW:RM:=⟨[],[],[]⟩
def aYM:XFn:=by
 refine' (?f:(g:XFn)→(mkF prog f169 bFW false false []=g)→XFn) _ ?h
 case f=>exact fun g _=>g
 case h=>conv=>lhs;cbv
theorem bCb:aK prog (169,aYM):=bQ (fun v w=>call169 v w) func169

def aWo:RM:=⟨[(3,[(1,true)]),(5,[(6,false)]),(6,[(6,false)]),(9,[(1,true),(4,true),(5,true)]),(24,[(10,true)])],[[1,2,4,5,7],[1,2,5,10,11,51,52,53]],[[1,4,5]]⟩
def aNf:XCode:=by
 refine' (?f:(g:XCode)→(mkL prog f170 aWo 0 []=g)→XCode) _ ?h
 case f=>exact fun g _=>g
 case h=>conv=>lhs;cbv
def aUO:XCode:=by
 refine' (?f:(g:XCode→XCode)→(∀ a,mkL prog f170 aWo 1 [a]=g a)→XCode) _ ?h
 case f=>exact fun g _=>g aNf
 case h=>intro a;conv=>lhs;cbv
def aYL:XFn:=by
 refine' (?f:(g:XCode→XCode→XFn)→(∀ a b,mkF prog f170 aWo false false [a,b]=g a b)→XFn) _ ?h
 case f=>exact fun g _=>g aNf aUO
 case h=>intro a b;conv=>lhs;cbv
theorem bCa:aK prog (170,aYL):=⟨⟨fun vs w=>call170 vs w,_,_,func170,rfl,rfl,by kernel_rfl,by kernel_rfl⟩,by kernel_rfl,⟨aF rfl,⟨aF rfl,⟨aF rfl,⟨⟨aF rfl,⟨by kernel_rfl,aF rfl,aF rfl⟩⟩,aF rfl⟩⟩⟩⟩,rfl⟩

def bAH:RM:=⟨[(1,[(1,true)]),(4,[(5,false)]),(7,[(5,false)]),(8,[(8,true),(6,true)]),(11,[(6,true)])],[[1,2,5,6,7]],[]⟩
def aUN:XCode:=by
 refine' (?f:(g:XCode)→(mkL prog f171 bAH 0 []=g)→XCode) _ ?h
 case f=>exact fun g _=>g
 case h=>conv=>lhs;cbv
def aYK:XFn:=by
 refine' (?f:(g:XCode→XFn)→(∀ a,mkF prog f171 bAH false false [a]=g a)→XFn) _ ?h
 case f=>exact fun g _=>g aUN
 case h=>intro a;conv=>lhs;cbv
theorem bBZ:aK prog (171,aYK):=bQ (fun v w=>call171 v w) func171

def bFV:RM:=⟨[(1,[(1,true)]),(4,[(5,true)])],[],[]⟩
def aYJ:XFn:=by
 refine' (?f:(g:XFn)→(mkF prog f172 bFV false false []=g)→XFn) _ ?h
 case f=>exact fun g _=>g
 case h=>conv=>lhs;cbv
theorem bBY:aK prog (172,aYJ):=bQ (fun v w=>call172 v w) func172

def bFU:RM:=⟨[],[],[]⟩
def aYI:XFn:=by
 refine' (?f:(g:XFn)→(mkF prog f186 bFU false false []=g)→XFn) _ ?h
 case f=>exact fun g _=>g
 case h=>conv=>lhs;cbv
theorem bBX:aK prog (186,aYI):=bQ (fun v w=>call186 v w) func186

def aWn:RM:=⟨[],[[2,3,8,9,11,12,18,19,20,29,30],[2,3,8,9,18,19,20]],[]⟩
def aNe:XCode:=by
 refine' (?f:(g:XCode)→(mkL prog f187 aWn 0 []=g)→XCode) _ ?h
 case f=>exact fun g _=>g
 case h=>conv=>lhs;cbv
def aUM:XCode:=by
 refine' (?f:(g:XCode→XCode)→(∀ a,mkL prog f187 aWn 1 [a]=g a)→XCode) _ ?h
 case f=>exact fun g _=>g aNe
 case h=>intro a;conv=>lhs;cbv
def aYH:XFn:=by
 refine' (?f:(g:XCode→XCode→XFn)→(∀ a b,mkF prog f187 aWn false false [a,b]=g a b)→XFn) _ ?h
 case f=>exact fun g _=>g aNe aUM
 case h=>intro a b;conv=>lhs;cbv
theorem bBW:aK prog (187,aYH):=bQ (fun v w=>call187 v w) func187

def bFT:RM:=⟨[(1,[(1,false)])],[],[]⟩
def aYG:XFn:=by
 refine' (?f:(g:XFn)→(mkF prog f188 bFT false false []=g)→XFn) _ ?h
 case f=>exact fun g _=>g
 case h=>conv=>lhs;cbv
theorem bBV:aK prog (188,aYG):=bQ (fun v w=>call188 v w) func188

def bFS:RM:=⟨[],[],[]⟩
def aYF:XFn:=by
 refine' (?f:(g:XFn)→(mkF prog f189 bFS false false []=g)→XFn) _ ?h
 case f=>exact fun g _=>g
 case h=>conv=>lhs;cbv
theorem bBU:aK prog (189,aYF):=bQ (fun v w=>call189 v w) func189

def aWm:RM:=⟨[(3,[(1,true)]),(7,[(6,false),(7,false)]),(15,[(9,false)]),(17,[(10,false),(9,false)])],[[1,2,3,4,9,10,29,30,31,36,37],[1,2,3,4,29,30,31]],[[3,4,5]]⟩
def aNd:XCode:=by
 refine' (?f:(g:XCode)→(mkL prog f190 aWm 0 []=g)→XCode) _ ?h
 case f=>exact fun g _=>g
 case h=>conv=>lhs;cbv
def aUL:XCode:=by
 refine' (?f:(g:XCode→XCode)→(∀ a,mkL prog f190 aWm 1 [a]=g a)→XCode) _ ?h
 case f=>exact fun g _=>g aNd
 case h=>intro a;conv=>lhs;cbv
def aYE:XFn:=by
 refine' (?f:(g:XCode→XCode→XFn)→(∀ a b,mkF prog f190 aWm false false [a,b]=g a b)→XFn) _ ?h
 case f=>exact fun g _=>g aNd aUL
 case h=>intro a b;conv=>lhs;cbv
theorem bBT:aK prog (190,aYE):=⟨⟨fun vs w=>call190 vs w,_,_,func190,rfl,rfl,by kernel_rfl,by kernel_rfl⟩,by kernel_rfl,⟨aF rfl,⟨aF rfl,⟨aF rfl,⟨⟨aF rfl,⟨by kernel_rfl,aF rfl,aF rfl⟩⟩,aF rfl⟩⟩⟩⟩,rfl⟩

def bFR:RM:=⟨[(1,[(1,true)]),(4,[(1,true)]),(5,[(5,false)])],[],[]⟩
def aYD:XFn:=by
 refine' (?f:(g:XFn)→(mkF prog f191 bFR false false []=g)→XFn) _ ?h
 case f=>exact fun g _=>g
 case h=>conv=>lhs;cbv
theorem bBS:aK prog (191,aYD):=bQ (fun v w=>call191 v w) func191

def bAG:RM:=⟨[(5,[(0,false)]),(6,[(0,false),(1,false),(7,true),(5,true)])],[[0,1,4,5,12,13]],[]⟩
def aUK:XCode:=by
 refine' (?f:(g:XCode)→(mkL prog f192 bAG 0 []=g)→XCode) _ ?h
 case f=>exact fun g _=>g
 case h=>conv=>lhs;cbv
def aYC:XFn:=by
 refine' (?f:(g:XCode→XFn)→(∀ a,mkF prog f192 bAG false false [a]=g a)→XFn) _ ?h
 case f=>exact fun g _=>g aUK
 case h=>intro a;conv=>lhs;cbv
theorem bBR:aK prog (192,aYC):=bQ (fun v w=>call192 v w) func192

def bFQ:RM:=⟨[],[],[]⟩
def aYB:XFn:=by
 refine' (?f:(g:XFn)→(mkF prog f193 bFQ false false []=g)→XFn) _ ?h
 case f=>exact fun g _=>g
 case h=>conv=>lhs;cbv
theorem bBQ:aK prog (193,aYB):=bQ (fun v w=>call193 v w) func193

def bFP:RM:=⟨[],[],[]⟩
def aYA:XFn:=by
 refine' (?f:(g:XFn)→(mkF prog f194 bFP false false []=g)→XFn) _ ?h
 case f=>exact fun g _=>g
 case h=>conv=>lhs;cbv
theorem bBP:aK prog (194,aYA):=bQ (fun v w=>call194 v w) func194

def aWl:RM:=⟨[(1,[(1,true)])],[[5,8,21,22,23,27,28,29],[5,21,22,23]],[]⟩
def aNc:XCode:=by
 refine' (?f:(g:XCode)→(mkL prog f195 aWl 0 []=g)→XCode) _ ?h
 case f=>exact fun g _=>g
 case h=>conv=>lhs;cbv
def aUJ:XCode:=by
 refine' (?f:(g:XCode→XCode)→(∀ a,mkL prog f195 aWl 1 [a]=g a)→XCode) _ ?h
 case f=>exact fun g _=>g aNc
 case h=>intro a;conv=>lhs;cbv
def aYz:XFn:=by
 refine' (?f:(g:XCode→XCode→XFn)→(∀ a b,mkF prog f195 aWl false false [a,b]=g a b)→XFn) _ ?h
 case f=>exact fun g _=>g aNc aUJ
 case h=>intro a b;conv=>lhs;cbv
theorem bBO:aK prog (195,aYz):=bQ (fun v w=>call195 v w) func195

def bFO:RM:=⟨[(1,[(3,true)]),(7,[(2,true),(3,true)]),(9,[(2,true),(3,true),(8,false)])],[],[[2,3,7]]⟩
def aYy:XFn:=by
 refine' (?f:(g:XFn)→(mkF prog f196 bFO false false []=g)→XFn) _ ?h
 case f=>exact fun g _=>g
 case h=>conv=>lhs;cbv
theorem bBN:aK prog (196,aYy):=⟨⟨fun vs w=>call196 vs w,_,_,func196,rfl,rfl,by kernel_rfl,by kernel_rfl⟩,by kernel_rfl,⟨aF rfl,⟨aF rfl,⟨aF rfl,⟨aF rfl,⟨⟨aF rfl,⟨by kernel_rfl,aF rfl,aF rfl⟩⟩,aF rfl⟩⟩⟩⟩⟩,rfl⟩

def bFN:RM:=⟨[(0,[(0,true),(1,true)]),(2,[(0,true),(1,true)])],[],[[0,1,2,3,4]]⟩
def aYx:XFn:=by
 refine' (?f:(g:XFn)→(mkF prog f197 bFN false false []=g)→XFn) _ ?h
 case f=>exact fun g _=>g
 case h=>conv=>lhs;cbv
theorem bBM:aK prog (197,aYx):=⟨⟨fun vs w=>call197 vs w,_,_,func197,rfl,rfl,by kernel_rfl,by kernel_rfl⟩,by kernel_rfl,⟨aF rfl,⟨by kernel_rfl,aF rfl,aF rfl⟩⟩,rfl⟩

def bFM:RM:=⟨[],[],[]⟩
def aYw:XFn:=by
 refine' (?f:(g:XFn)→(mkF prog f198 bFM false false []=g)→XFn) _ ?h
 case f=>exact fun g _=>g
 case h=>conv=>lhs;cbv
theorem bBL:aK prog (198,aYw):=bQ (fun v w=>call198 v w) func198

def bFL:RM:=⟨[(2,[(0,false)])],[],[]⟩
def aYv:XFn:=by
 refine' (?f:(g:XFn)→(mkF prog f199 bFL false false []=g)→XFn) _ ?h
 case f=>exact fun g _=>g
 case h=>conv=>lhs;cbv
theorem bBK:aK prog (199,aYv):=bQ (fun v w=>call199 v w) func199

def aWk:RM:=⟨[(4,[(5,true)]),(8,[(5,true)]),(11,[(5,true)])],[[0,1,3,4,5,33,34],[0,1,3,4]],[]⟩
def aNb:XCode:=by
 refine' (?f:(g:XCode)→(mkL prog f205 aWk 0 []=g)→XCode) _ ?h
 case f=>exact fun g _=>g
 case h=>conv=>lhs;cbv
def aUI:XCode:=by
 refine' (?f:(g:XCode→XCode)→(∀ a,mkL prog f205 aWk 1 [a]=g a)→XCode) _ ?h
 case f=>exact fun g _=>g aNb
 case h=>intro a;conv=>lhs;cbv
def aYu:XFn:=by
 refine' (?f:(g:XCode→XCode→XFn)→(∀ a b,mkF prog f205 aWk false false [a,b]=g a b)→XFn) _ ?h
 case f=>exact fun g _=>g aNb aUI
 case h=>intro a b;conv=>lhs;cbv
theorem bBJ:aK prog (205,aYu):=bQ (fun v w=>call205 v w) func205

def bFK:RM:=⟨[],[],[]⟩
def aYt:XFn:=by
 refine' (?f:(g:XFn)→(mkF prog f206 bFK true false []=g)→XFn) _ ?h
 case f=>exact fun g _=>g
 case h=>conv=>lhs;cbv
theorem bBI:aK prog (206,aYt):=bQ (fun v w=>call206 v w) func206

def bFJ:RM:=⟨[],[],[]⟩
def aYs:XFn:=by
 refine' (?f:(g:XFn)→(mkF prog f207 bFJ true true []=g)→XFn) _ ?h
 case f=>exact fun g _=>g
 case h=>conv=>lhs;cbv
theorem bBH:aK prog (207,aYs):=bQ (fun v w=>call207 v w) func207

def bAF:RM:=⟨[(1,[(1,true)]),(8,[(4,true)]),(10,[(4,true)])],[[1,32,33,34]],[]⟩
def aUH:XCode:=by
 refine' (?f:(g:XCode)→(mkL prog f208 bAF 0 []=g)→XCode) _ ?h
 case f=>exact fun g _=>g
 case h=>conv=>lhs;cbv
def aYr:XFn:=by
 refine' (?f:(g:XCode→XFn)→(∀ a,mkF prog f208 bAF false false [a]=g a)→XFn) _ ?h
 case f=>exact fun g _=>g aUH
 case h=>intro a;conv=>lhs;cbv
theorem bBG:aK prog (208,aYr):=bQ (fun v w=>call208 v w) func208

def aWj:RM:=⟨[],[[1,3,12,13],[3,34,35,36]],[]⟩
def aNa:XCode:=by
 refine' (?f:(g:XCode)→(mkL prog f209 aWj 0 []=g)→XCode) _ ?h
 case f=>exact fun g _=>g
 case h=>conv=>lhs;cbv
def aUG:XCode:=by
 refine' (?f:(g:XCode→XCode)→(∀ a,mkL prog f209 aWj 1 [a]=g a)→XCode) _ ?h
 case f=>exact fun g _=>g aNa
 case h=>intro a;conv=>lhs;cbv
def aYq:XFn:=by
 refine' (?f:(g:XCode→XCode→XFn)→(∀ a b,mkF prog f209 aWj false false [a,b]=g a b)→XFn) _ ?h
 case f=>exact fun g _=>g aNa aUG
 case h=>intro a b;conv=>lhs;cbv
theorem bBF:aK prog (209,aYq):=bQ (fun v w=>call209 v w) func209

def aSq:RM:=⟨[(4,[(0,false)]),(11,[(0,false)])],[[0,4,5,6,10,11,23,24],[0,4,10,11,23,24],[0,10,11]],[]⟩
def aIN:XCode:=by
 refine' (?f:(g:XCode)→(mkL prog f210 aSq 0 []=g)→XCode) _ ?h
 case f=>exact fun g _=>g
 case h=>conv=>lhs;cbv
def aMZ:XCode:=by
 refine' (?f:(g:XCode→XCode)→(∀ a,mkL prog f210 aSq 1 [a]=g a)→XCode) _ ?h
 case f=>exact fun g _=>g aIN
 case h=>intro a;conv=>lhs;cbv
def aUF:XCode:=by
 refine' (?f:(g:XCode→XCode→XCode)→(∀ a b,mkL prog f210 aSq 2 [a,b]=g a b)→XCode) _ ?h
 case f=>exact fun g _=>g aIN aMZ
 case h=>intro a b;conv=>lhs;cbv
def aYp:XFn:=by
 refine' (?f:(g:XCode→XCode→XCode→XFn)→(∀ a b c,mkF prog f210 aSq false false [a,b,c]=g a b c)→XFn) _ ?h
 case f=>exact fun g _=>g aIN aMZ aUF
 case h=>intro a b c;conv=>lhs;cbv
theorem bBE:aK prog (210,aYp):=bQ (fun v w=>call210 v w) func210

def bFI:RM:=⟨[],[],[]⟩
def aYo:XFn:=by
 refine' (?f:(g:XFn)→(mkF prog f211 bFI false false []=g)→XFn) _ ?h
 case f=>exact fun g _=>g
 case h=>conv=>lhs;cbv
theorem bBD:aK prog (211,aYo):=bQ (fun v w=>call211 v w) func211

def aWi:RM:=⟨[],[[3,4,5,6,7,8,20,21],[3,4,5,6,20,21]],[]⟩
def aMY:XCode:=by
 refine' (?f:(g:XCode)→(mkL prog f212 aWi 0 []=g)→XCode) _ ?h
 case f=>exact fun g _=>g
 case h=>conv=>lhs;cbv
def aUE:XCode:=by
 refine' (?f:(g:XCode→XCode)→(∀ a,mkL prog f212 aWi 1 [a]=g a)→XCode) _ ?h
 case f=>exact fun g _=>g aMY
 case h=>intro a;conv=>lhs;cbv
def aYn:XFn:=by
 refine' (?f:(g:XCode→XCode→XFn)→(∀ a b,mkF prog f212 aWi false false [a,b]=g a b)→XFn) _ ?h
 case f=>exact fun g _=>g aMY aUE
 case h=>intro a b;conv=>lhs;cbv
theorem bBC:aK prog (212,aYn):=bQ (fun v w=>call212 v w) func212

def bAE:RM:=⟨[(4,[(8,true),(4,true)])],[[0,4,6,9,10,11]],[]⟩
def aUD:XCode:=by
 refine' (?f:(g:XCode)→(mkL prog f213 bAE 0 []=g)→XCode) _ ?h
 case f=>exact fun g _=>g
 case h=>conv=>lhs;cbv
def aYm:XFn:=by
 refine' (?f:(g:XCode→XFn)→(∀ a,mkF prog f213 bAE false false [a]=g a)→XFn) _ ?h
 case f=>exact fun g _=>g aUD
 case h=>intro a;conv=>lhs;cbv
theorem bBB:aK prog (213,aYm):=bQ (fun v w=>call213 v w) func213

def bFH:RM:=⟨[],[],[]⟩
def aYl:XFn:=by
 refine' (?f:(g:XFn)→(mkF prog f214 bFH false false []=g)→XFn) _ ?h
 case f=>exact fun g _=>g
 case h=>conv=>lhs;cbv
theorem bBA:aK prog (214,aYl):=bQ (fun v w=>call214 v w) func214

def bAD:RM:=⟨[(3,[(0,false)]),(9,[(0,false),(5,true),(7,true)])],[[0,1,5,6,7,9,10]],[]⟩
def aUC:XCode:=by
 refine' (?f:(g:XCode)→(mkL prog f215 bAD 0 []=g)→XCode) _ ?h
 case f=>exact fun g _=>g
 case h=>conv=>lhs;cbv
def aYk:XFn:=by
 refine' (?f:(g:XCode→XFn)→(∀ a,mkF prog f215 bAD false false [a]=g a)→XFn) _ ?h
 case f=>exact fun g _=>g aUC
 case h=>intro a;conv=>lhs;cbv
theorem bBz:aK prog (215,aYk):=bQ (fun v w=>call215 v w) func215

def bFG:RM:=⟨[],[],[]⟩
def aYj:XFn:=by
 refine' (?f:(g:XFn)→(mkF prog f216 bFG false false []=g)→XFn) _ ?h
 case f=>exact fun g _=>g
 case h=>conv=>lhs;cbv
theorem bBy:aK prog (216,aYj):=bQ (fun v w=>call216 v w) func216

def aWh:RM:=⟨[(6,[(4,false)]),(15,[(7,true)]),(17,[(7,true)]),(20,[(1,true)]),(23,[(1,true)])],[[1,14,15,16],[1,31,32,33]],[]⟩
def aMX:XCode:=by
 refine' (?f:(g:XCode)→(mkL prog f217 aWh 0 []=g)→XCode) _ ?h
 case f=>exact fun g _=>g
 case h=>conv=>lhs;cbv
def aUB:XCode:=by
 refine' (?f:(g:XCode→XCode)→(∀ a,mkL prog f217 aWh 1 [a]=g a)→XCode) _ ?h
 case f=>exact fun g _=>g aMX
 case h=>intro a;conv=>lhs;cbv
def aYi:XFn:=by
 refine' (?f:(g:XCode→XCode→XFn)→(∀ a b,mkF prog f217 aWh false false [a,b]=g a b)→XFn) _ ?h
 case f=>exact fun g _=>g aMX aUB
 case h=>intro a b;conv=>lhs;cbv
theorem bBx:aK prog (217,aYi):=bQ (fun v w=>call217 v w) func217

def bFF:RM:=⟨[(1,[(0,false)])],[],[]⟩
def aYh:XFn:=by
 refine' (?f:(g:XFn)→(mkF prog f218 bFF false false []=g)→XFn) _ ?h
 case f=>exact fun g _=>g
 case h=>conv=>lhs;cbv
theorem bBw:aK prog (218,aYh):=bQ (fun v w=>call218 v w) func218

def bAC:RM:=⟨[(3,[(2,true)])],[[0,1,2,10,11]],[]⟩
def aUA:XCode:=by
 refine' (?f:(g:XCode)→(mkL prog f219 bAC 0 []=g)→XCode) _ ?h
 case f=>exact fun g _=>g
 case h=>conv=>lhs;cbv
def aYg:XFn:=by
 refine' (?f:(g:XCode→XFn)→(∀ a,mkF prog f219 bAC false false [a]=g a)→XFn) _ ?h
 case f=>exact fun g _=>g aUA
 case h=>intro a;conv=>lhs;cbv
theorem bBv:aK prog (219,aYg):=bQ (fun v w=>call219 v w) func219

def bFE:RM:=⟨[],[],[]⟩
def aYf:XFn:=by
 refine' (?f:(g:XFn)→(mkF prog f220 bFE false false []=g)→XFn) _ ?h
 case f=>exact fun g _=>g
 case h=>conv=>lhs;cbv
theorem bBu:aK prog (220,aYf):=bQ (fun v w=>call220 v w) func220

def bFD:RM:=⟨[(1,[(0,false),(1,false)])],[],[]⟩
def aYe:XFn:=by
 refine' (?f:(g:XFn)→(mkF prog f221 bFD false false []=g)→XFn) _ ?h
 case f=>exact fun g _=>g
 case h=>conv=>lhs;cbv
theorem bBt:aK prog (221,aYe):=bQ (fun v w=>call221 v w) func221

def bFC:RM:=⟨[],[],[]⟩
def aYd:XFn:=by
 refine' (?f:(g:XFn)→(mkF prog f224 bFC false false []=g)→XFn) _ ?h
 case f=>exact fun g _=>g
 case h=>conv=>lhs;cbv
theorem bBs:aK prog (224,aYd):=bQ (fun v w=>call224 v w) func224

def aYc:XFn:=⟨72,[(8,none)],false,false,(.seq (jR [jP 8 (.mv (.c (.bool false)))]) (.seq (.block 0 (.seq (jR [jA 10 1,jA 11 2,jP 12 (.bin .eql (.t 10) (.t 11)),jA 13 12,jY 14 (jM 2) 13,jY 15 (jM 3) 13,jY 16 (.bin .eql (.t 14) (.t 15)) 13,jP 17 (.pick (.t 13) (.t 16) (.c (.bool false))),jA 9 17]) (.cond (.t 9) (.seq (.reg [] true [jA 18 0,jI 1 19 (jM 1),jI 2 20 (.nilck (.t 18)),jI 3 21 (.fld 1 (.t 20)),jI 4 22 (.idxa 30 1 (.t 21) (.t 19)),jI 5 23 (jL 22),jI 6 24 (jM 0),jI 7 25 (jM 1),jI 8 26 (.nilck (.t 24)),jI 9 27 (.fld 31 (.t 26)),jI 10 28 (.idxa 30 1 (.t 27) (.t 25)),jI 11 29 (jL 28),jI 12 30 (.bin .gtr (.t 23) (.t 29)),jI 13 8 (jM 30)]) .ret) (.seq (jR [jA 32 1,jA 33 2,jP 34 (.bin .lss (.t 32) (.t 33)),jA 35 34,jY 36 (jM 2) 35,jY 37 (jM 3) 35,jY 38 (.bin .lss (.t 36) (.t 37)) 35,jP 39 (.pick (.t 35) (.t 38) (.c (.bool false))),jA 31 39]) (.cond (.t 31) (.seq (.reg [] true [jA 40 0,jI 1 41 (jM 1),jI 2 42 (.nilck (.t 40)),jI 3 43 (.fld 1 (.t 42)),jI 4 44 (.idxa 30 1 (.t 43) (.t 41)),jI 5 45 (jL 44),jI 6 46 (jM 3),jI 7 47 (jM 2),jI 8 48 (.bin .sub (.t 46) (.t 47)),jI 9 49 (.bin .mul (.t 45) (.t 48)),jI 10 50 (jM 0),jI 11 51 (jM 3),jI 12 52 (.nilck (.t 50)),jI 13 53 (.fld 1 (.t 52)),jI 14 54 (.idxa 30 1 (.t 53) (.t 51)),jI 15 55 (jL 54),jI 16 56 (jM 2),jI 17 57 (jM 1),jI 18 58 (.bin .sub (.t 56) (.t 57)),jI 19 59 (.bin .mul (.t 55) (.t 58)),jI 20 60 (.bin .add (.t 49) (.t 59)),jI 21 61 (jM 0),jI 22 62 (jM 2),jI 23 63 (.nilck (.t 61)),jI 24 64 (.fld 31 (.t 63)),jI 25 65 (.idxa 30 1 (.t 64) (.t 62)),jI 26 66 (jL 65),jI 27 67 (jM 3),jI 28 68 (jM 1),jI 29 69 (.bin .sub (.t 67) (.t 68)),jI 30 70 (.bin .mul (.t 66) (.t 69)),jI 31 71 (.bin .gtr (.t 60) (.t 70)),jI 32 8 (jM 71)]) .ret) .skip))))) (.seq (jR [jP 8 (.mv (.c (.bool false)))]) .ret))),none,none⟩
theorem bBr:aK prog (225,aYc):=bQ (fun v w=>call225 v w) func225

def bFB:RM:=⟨[(0,[(2,true),(0,false),(3,true)]),(1,[(7,true),(4,true)])],[],[]⟩
def aYb:XFn:=by
 refine' (?f:(g:XFn)→(mkF prog f226 bFB false false []=g)→XFn) _ ?h
 case f=>exact fun g _=>g
 case h=>conv=>lhs;cbv
theorem bBq:aK prog (226,aYb):=bQ (fun v w=>call226 v w) func226

def bFA:RM:=⟨[],[],[]⟩
def aYa:XFn:=by
 refine' (?f:(g:XFn)→(mkF prog f227 bFA false false []=g)→XFn) _ ?h
 case f=>exact fun g _=>g
 case h=>conv=>lhs;cbv
theorem bBp:aK prog (227,aYa):=bQ (fun v w=>call227 v w) func227

def bFz:RM:=⟨[(1,[(4,true),(3,true)])],[],[]⟩
def aXZ:XFn:=by
 refine' (?f:(g:XFn)→(mkF prog f228 bFz false false []=g)→XFn) _ ?h
 case f=>exact fun g _=>g
 case h=>conv=>lhs;cbv
theorem bBo:aK prog (228,aXZ):=bQ (fun v w=>call228 v w) func228

def bFy:RM:=⟨[(2,[(0,false)]),(4,[(6,true),(5,true)])],[],[[5]]⟩
def aXY:XFn:=by
 refine' (?f:(g:XFn)→(mkF prog f229 bFy false false []=g)→XFn) _ ?h
 case f=>exact fun g _=>g
 case h=>conv=>lhs;cbv
theorem bBn:aK prog (229,aXY):=⟨⟨fun vs w=>call229 vs w,_,_,func229,rfl,rfl,by kernel_rfl,by kernel_rfl⟩,by kernel_rfl,⟨aF rfl,⟨aF rfl,⟨⟨aF rfl,⟨by kernel_rfl,aF rfl,aF rfl⟩⟩,aF rfl⟩⟩⟩,rfl⟩

def bAB:RM:=⟨[(7,[(5,true)])],[[3,10,11,12]],[]⟩
def aUz:XCode:=by
 refine' (?f:(g:XCode)→(mkL prog f230 bAB 0 []=g)→XCode) _ ?h
 case f=>exact fun g _=>g
 case h=>conv=>lhs;cbv
def aXX:XFn:=by
 refine' (?f:(g:XCode→XFn)→(∀ a,mkF prog f230 bAB false false [a]=g a)→XFn) _ ?h
 case f=>exact fun g _=>g aUz
 case h=>intro a;conv=>lhs;cbv
theorem bBm:aK prog (230,aXX):=bQ (fun v w=>call230 v w) func230

def bFx:RM:=⟨[],[],[]⟩
def aXW:XFn:=by
 refine' (?f:(g:XFn)→(mkF prog f231 bFx false false []=g)→XFn) _ ?h
 case f=>exact fun g _=>g
 case h=>conv=>lhs;cbv
theorem bBl:aK prog (231,aXW):=bQ (fun v w=>call231 v w) func231

def bFw:RM:=⟨[],[],[]⟩
def aXV:XFn:=by
 refine' (?f:(g:XFn)→(mkF prog f232 bFw false false []=g)→XFn) _ ?h
 case f=>exact fun g _=>g
 case h=>conv=>lhs;cbv
theorem bBk:aK prog (232,aXV):=bQ (fun v w=>call232 v w) func232

def aWg:RM:=⟨[],[[1,3,9,10,11,18,19,20],[1,3,9,10,11]],[]⟩
def aMW:XCode:=by
 refine' (?f:(g:XCode)→(mkL prog f233 aWg 0 []=g)→XCode) _ ?h
 case f=>exact fun g _=>g
 case h=>conv=>lhs;cbv
def aUy:XCode:=by
 refine' (?f:(g:XCode→XCode)→(∀ a,mkL prog f233 aWg 1 [a]=g a)→XCode) _ ?h
 case f=>exact fun g _=>g aMW
 case h=>intro a;conv=>lhs;cbv
def aXU:XFn:=by
 refine' (?f:(g:XCode→XCode→XFn)→(∀ a b,mkF prog f233 aWg false false [a,b]=g a b)→XFn) _ ?h
 case f=>exact fun g _=>g aMW aUy
 case h=>intro a b;conv=>lhs;cbv
theorem bBj:aK prog (233,aXU):=bQ (fun v w=>call233 v w) func233

def bFv:RM:=⟨[],[],[]⟩
def aXT:XFn:=by
 refine' (?f:(g:XFn)→(mkF prog f234 bFv false false []=g)→XFn) _ ?h
 case f=>exact fun g _=>g
 case h=>conv=>lhs;cbv
theorem bBi:aK prog (234,aXT):=bQ (fun v w=>call234 v w) func234

def bAA:RM:=⟨[],[[1,5,8,9,10]],[]⟩
def aUx:XCode:=by
 refine' (?f:(g:XCode)→(mkL prog f235 bAA 0 []=g)→XCode) _ ?h
 case f=>exact fun g _=>g
 case h=>conv=>lhs;cbv
def aXS:XFn:=by
 refine' (?f:(g:XCode→XFn)→(∀ a,mkF prog f235 bAA false false [a]=g a)→XFn) _ ?h
 case f=>exact fun g _=>g aUx
 case h=>intro a;conv=>lhs;cbv
theorem bBh:aK prog (235,aXS):=bQ (fun v w=>call235 v w) func235

def bFu:RM:=⟨[(2,[(1,false)])],[],[[2,5]]⟩
def aXR:XFn:=by
 refine' (?f:(g:XFn)→(mkF prog f236 bFu false false []=g)→XFn) _ ?h
 case f=>exact fun g _=>g
 case h=>conv=>lhs;cbv
theorem bBg:aK prog (236,aXR):=⟨⟨fun vs w=>call236 vs w,_,_,func236,rfl,rfl,by kernel_rfl,by kernel_rfl⟩,by kernel_rfl,⟨aF rfl,⟨aF rfl,⟨⟨aF rfl,⟨by kernel_rfl,aF rfl,aF rfl⟩⟩,aF rfl⟩⟩⟩,rfl⟩

def bFt:RM:=⟨[],[],[]⟩
def aXQ:XFn:=by
 refine' (?f:(g:XFn)→(mkF prog f237 bFt false false []=g)→XFn) _ ?h
 case f=>exact fun g _=>g
 case h=>conv=>lhs;cbv
theorem bBf:aK prog (237,aXQ):=bQ (fun v w=>call237 v w) func237

def bFs:RM:=⟨[],[],[]⟩
def aXP:XFn:=by
 refine' (?f:(g:XFn)→(mkF prog f238 bFs false false []=g)→XFn) _ ?h
 case f=>exact fun g _=>g
 case h=>conv=>lhs;cbv
theorem bBe:aK prog (238,aXP):=bQ (fun v w=>call238 v w) func238

def bFr:RM:=⟨[],[],[]⟩
def aXO:XFn:=by
 refine' (?f:(g:XFn)→(mkF prog f239 bFr false false []=g)→XFn) _ ?h
 case f=>exact fun g _=>g
 case h=>conv=>lhs;cbv
theorem bBd:aK prog (239,aXO):=bQ (fun v w=>call239 v w) func239

def bFq:RM:=⟨[],[],[]⟩
def aXN:XFn:=by
 refine' (?f:(g:XFn)→(mkF prog f240 bFq false false []=g)→XFn) _ ?h
 case f=>exact fun g _=>g
 case h=>conv=>lhs;cbv
theorem bBc:aK prog (240,aXN):=bQ (fun v w=>call240 v w) func240

def aWf:RM:=⟨[(5,[(2,true),(1,true)])],[[0,1,2,4,5,6,7],[0,1,2,6,7]],[]⟩
def aMV:XCode:=by
 refine' (?f:(g:XCode)→(mkL prog f241 aWf 0 []=g)→XCode) _ ?h
 case f=>exact fun g _=>g
 case h=>conv=>lhs;cbv
def aUw:XCode:=by
 refine' (?f:(g:XCode→XCode)→(∀ a,mkL prog f241 aWf 1 [a]=g a)→XCode) _ ?h
 case f=>exact fun g _=>g aMV
 case h=>intro a;conv=>lhs;cbv
def aXM:XFn:=by
 refine' (?f:(g:XCode→XCode→XFn)→(∀ a b,mkF prog f241 aWf false false [a,b]=g a b)→XFn) _ ?h
 case f=>exact fun g _=>g aMV aUw
 case h=>intro a b;conv=>lhs;cbv
theorem bBb:aK prog (241,aXM):=bQ (fun v w=>call241 v w) func241

def bAz:RM:=⟨[(1,[(1,true)])],[[0,1]],[]⟩
def aUv:XCode:=by
 refine' (?f:(g:XCode)→(mkL prog f242 bAz 0 []=g)→XCode) _ ?h
 case f=>exact fun g _=>g
 case h=>conv=>lhs;cbv
def aXL:XFn:=by
 refine' (?f:(g:XCode→XFn)→(∀ a,mkF prog f242 bAz false false [a]=g a)→XFn) _ ?h
 case f=>exact fun g _=>g aUv
 case h=>intro a;conv=>lhs;cbv
theorem bBa:aK prog (242,aXL):=bQ (fun v w=>call242 v w) func242

def bFp:RM:=⟨[(1,[(2,true),(1,false)])],[],[]⟩
def aQZ:XFn:=by
 refine' (?f:(g:XFn)→(mkF prog f258 bFp false false []=g)→XFn) _ ?h
 case f=>exact fun g _=>g
 case h=>conv=>lhs;cbv
theorem bAZ:aK prog (258,aQZ):=bQ (fun v w=>call258 v w) func258

def bFo:RM:=⟨[(1,[(0,false)])],[],[]⟩
def aQY:XFn:=by
 refine' (?f:(g:XFn)→(mkF prog f264 bFo false false []=g)→XFn) _ ?h
 case f=>exact fun g _=>g
 case h=>conv=>lhs;cbv
theorem bAY:aK prog (264,aQY):=bQ (fun v w=>call264 v w) func264

def bFn:RM:=⟨[(1,[(0,false),(1,false)])],[],[]⟩
def aQX:XFn:=by
 refine' (?f:(g:XFn)→(mkF prog f265 bFn false false []=g)→XFn) _ ?h
 case f=>exact fun g _=>g
 case h=>conv=>lhs;cbv
theorem bAX:aK prog (265,aQX):=bQ (fun v w=>call265 v w) func265

def bFm:RM:=⟨[(1,[(1,true)])],[],[]⟩
def aQW:XFn:=by
 refine' (?f:(g:XFn)→(mkF prog f266 bFm false false []=g)→XFn) _ ?h
 case f=>exact fun g _=>g
 case h=>conv=>lhs;cbv
theorem bAW:aK prog (266,aQW):=bQ (fun v w=>call266 v w) func266

def bAy:RM:=⟨[],[[0,1,7,8]],[]⟩
def aMU:XCode:=by
 refine' (?f:(g:XCode)→(mkL prog f267 bAy 0 []=g)→XCode) _ ?h
 case f=>exact fun g _=>g
 case h=>conv=>lhs;cbv
def aQV:XFn:=by
 refine' (?f:(g:XCode→XFn)→(∀ a,mkF prog f267 bAy false false [a]=g a)→XFn) _ ?h
 case f=>exact fun g _=>g aMU
 case h=>intro a;conv=>lhs;cbv
theorem bAV:aK prog (267,aQV):=bQ (fun v w=>call267 v w) func267

end Go.Proofs.YtjckchgdlbgolaaGreatDoor
end
