/- Parts of a proof, joined: G0. No statement of the seed is proved here. -/
import Derived.KernelRfl
import Derived.Test.YtmapgnepfgnphaaGreatDoorProg
import Derived.Test.YtmapgnepfgnphaaGreatDoorH5
set_option linter.unusedSimpArgs false
set_option linter.unusedVariables false
set_option linter.unusedSectionVars false
set_option maxRecDepth 100000
section
namespace Go.Proofs.YtmapgnepfgnphaaGreatDoor
open Go Go.DL Go.Proofs.Tryz

theorem eE{k:Nat}{x:XFn}{fn:Func}(h1:∀(vs:Array Value)(w:World),(callFunc k vs).run prog w = .ok (.enter k vs) w)(h2:prog.funcs[k]?=some fn)(h3:∃ c,fn.body=some c∧fn.ntmps=x.fn.N∧fn.results.toList.mapM (aAC prog)=some x.fn.res∧aHa prog x.fn.N c=some (x.fn.dfr,x.fn.body):=by exact⟨_,rfl,rfl,by kernel_rfl,by kernel_rfl⟩)(h4:okD x=true:=by kernel_rfl)(h5:gQ x x.body:=by exact aP rfl)(h6:x.prm=none:=by rfl):aR prog (k,x) :=
 ⟨⟨h1,by obtain⟨c,h⟩:=h3;exact⟨fn,c,h2,h⟩⟩,h4,h5,h6⟩
abbrev jA(n k:Nat):DOper:=⟨0,some n,.mv (.t k),none⟩
abbrev jP(n:Nat)(o:DOp):DOper:=⟨0,some n,o,none⟩
abbrev jI(i n:Nat)(o:DOp):DOper:=⟨i,some n,o,none⟩
abbrev jC(k:Int):AO:=.c (.int .i64 k)
abbrev jF(k:Nat)(a:List AO)(l:List Nat):DOp:=.callf false (.c (.fn (.func k) [] [])) a l
abbrev jR(l:List DOper):XCode:=.reg [] false l
abbrev jM(k:Nat):DOp:=.mv (.t k)
abbrev jL(k:Nat):DOp:=.load false 1 (.t k)
def m9:RM:=⟨[(2,[(0,false)]),(5,[(9,false)]),(6,[(9,false),(11,false)]),(7,[(9,false)]),(10,[(9,false)]),(26,[(20,false),(23,false)]),(28,[(1,false)]),(29,[(9,false),(26,false),(20,false),(23,false)]),(30,[(27,false),(28,false),(29,false),(9,false),(23,false)])],[[1,2,3,9,32,33,34],[1,2,3,9,14,15,16,17]],[]⟩
def aLw:XCode:=by
 refine' (?f:(g:XCode)→(mkL prog f9 m9 0 []=g)→XCode) _ ?h
 case f=>exact fun g _=>g
 case h=>conv=>lhs;cbv
def aPh:XCode:=by
 refine' (?f:(g:XCode→XCode)→(∀ a,mkL prog f9 m9 1 [a]=g a)→XCode) _ ?h
 case f=>exact fun g _=>g aLw
 case h=>intro a;conv=>lhs;cbv
def x9:XFn:=by
 refine' (?f:(g:XCode→XCode→XFn)→(∀ a b,mkF prog f9 m9 false false [a,b]=g a b)→XFn) _ ?h
 case f=>exact fun g _=>g aLw aPh
 case h=>intro a b;conv=>lhs;cbv
theorem is9:aR prog (9,x9):=eE (fun v w=>call9 v w) func9

def m13:RM:=⟨[(4,[(5,false)]),(7,[(8,false),(5,false)]),(10,[(14,false)]),(11,[(15,false)]),(13,[(14,false)]),(14,[(16,false),(14,false)])],[],[]⟩
def x13:XFn:=by
 refine' (?f:(g:XFn)→(mkF prog f13 m13 false false []=g)→XFn) _ ?h
 case f=>exact fun g _=>g
 case h=>conv=>lhs;cbv
theorem bBg:aR prog (13,x13):=eE (fun v w=>call13 v w) func13

def m14:RM:=⟨[(1,[(1,false)]),(15,[(0,false),(1,false)])],[[0,1,20,21,22]],[]⟩
def aVm:XCode:=by
 refine' (?f:(g:XCode)→(mkL prog f14 m14 0 []=g)→XCode) _ ?h
 case f=>exact fun g _=>g
 case h=>conv=>lhs;cbv
def x14:XFn:=by
 refine' (?f:(g:XCode→XFn)→(∀ a,mkF prog f14 m14 false false [a]=g a)→XFn) _ ?h
 case f=>exact fun g _=>g aVm
 case h=>intro a;conv=>lhs;cbv
theorem bBf:aR prog (14,x14):=eE (fun v w=>call14 v w) func14

def m16:RM:=⟨[(32,[(4,false)])],[[0,1,4,5,7,8,9,35,36],[4,5,105,106,107]],[]⟩
def aRY:XCode:=by
 refine' (?f:(g:XCode)→(mkL prog f16 m16 0 []=g)→XCode) _ ?h
 case f=>exact fun g _=>g
 case h=>conv=>lhs;cbv
def aVg:XCode:=by
 refine' (?f:(g:XCode→XCode)→(∀ a,mkL prog f16 m16 1 [a]=g a)→XCode) _ ?h
 case f=>exact fun g _=>g aRY
 case h=>intro a;conv=>lhs;cbv
def x16:XFn:=by
 refine' (?f:(g:XCode→XCode→XFn)→(∀ a b,mkF prog f16 m16 false false [a,b]=g a b)→XFn) _ ?h
 case f=>exact fun g _=>g aRY aVg
 case h=>intro a b;conv=>lhs;cbv
theorem bBe:aR prog (16,x16):=eE (fun v w=>call16 v w) func16

def m18:RM:=⟨[],[[0,1,5]],[]⟩
def aRX:XCode:=by
 refine' (?f:(g:XCode)→(mkL prog f18 m18 0 []=g)→XCode) _ ?h
 case f=>exact fun g _=>g
 case h=>conv=>lhs;cbv
def x18:XFn:=by
 refine' (?f:(g:XCode→XFn)→(∀ a,mkF prog f18 m18 false false [a]=g a)→XFn) _ ?h
 case f=>exact fun g _=>g aRX
 case h=>intro a;conv=>lhs;cbv
theorem bBd:aR prog (18,x18):=eE (fun v w=>call18 v w) func18

def m19:RM:=⟨[],[],[]⟩
def x19:XFn:=by
 refine' (?f:(g:XFn)→(mkF prog f19 m19 false false []=g)→XFn) _ ?h
 case f=>exact fun g _=>g
 case h=>conv=>lhs;cbv
theorem bBc:aR prog (19,x19):=eE (fun v w=>call19 v w) func19

def m23:RM:=⟨[(1,[(0,false)]),(4,[(3,false)]),(5,[(0,false)]),(8,[(4,false),(3,false)]),(9,[(3,false)])],[],[[3]]⟩
def x23:XFn:=by
 refine' (?f:(g:XFn)→(mkF prog f23 m23 false false []=g)→XFn) _ ?h
 case f=>exact fun g _=>g
 case h=>conv=>lhs;cbv
theorem bBb:aR prog (23,x23):=⟨⟨fun vs w=>call23 vs w,_,_,func23,rfl,rfl,by kernel_rfl,by kernel_rfl⟩,by kernel_rfl,⟨aP rfl,⟨aP rfl,⟨aP rfl,⟨aP rfl,⟨⟨aP rfl,⟨by kernel_rfl,aP rfl,aP rfl⟩⟩,aP rfl⟩⟩⟩⟩⟩,rfl⟩

def m25:RM:=⟨[(1,[(0,false)]),(22,[(2,false),(15,false)])],[[3,5,8,9],[2,3,58,59,60]],[]⟩
def aFQ:XCode:=by
 refine' (?f:(g:XCode)→(mkL prog f25 m25 0 []=g)→XCode) _ ?h
 case f=>exact fun g _=>g
 case h=>conv=>lhs;cbv
def aIP:XCode:=by
 refine' (?f:(g:XCode→XCode)→(∀ a,mkL prog f25 m25 1 [a]=g a)→XCode) _ ?h
 case f=>exact fun g _=>g aFQ
 case h=>intro a;conv=>lhs;cbv
def x25:XFn:=by
 refine' (?f:(g:XCode→XCode→XFn)→(∀ a b,mkF prog f25 m25 false false [a,b]=g a b)→XFn) _ ?h
 case f=>exact fun g _=>g aFQ aIP
 case h=>intro a b;conv=>lhs;cbv
theorem bBa:aR prog (25,x25):=eE (fun v w=>call25 v w) func25

def m29:RM:=⟨[],[[0,3,4]],[]⟩
def aIO:XCode:=by
 refine' (?f:(g:XCode)→(mkL prog f29 m29 0 []=g)→XCode) _ ?h
 case f=>exact fun g _=>g
 case h=>conv=>lhs;cbv
def x29:XFn:=by
 refine' (?f:(g:XCode→XFn)→(∀ a,mkF prog f29 m29 false false [a]=g a)→XFn) _ ?h
 case f=>exact fun g _=>g aIO
 case h=>intro a;conv=>lhs;cbv
theorem bAZ:aR prog (29,x29):=eE (fun v w=>call29 v w) func29

def m30:RM:=⟨[],[[1,6,7,8],[1,4]],[]⟩
def aRW:XCode:=by
 refine' (?f:(g:XCode)→(mkL prog f30 m30 0 []=g)→XCode) _ ?h
 case f=>exact fun g _=>g
 case h=>conv=>lhs;cbv
def aUX:XCode:=by
 refine' (?f:(g:XCode→XCode)→(∀ a,mkL prog f30 m30 1 [a]=g a)→XCode) _ ?h
 case f=>exact fun g _=>g aRW
 case h=>intro a;conv=>lhs;cbv
def x30:XFn:=by
 refine' (?f:(g:XCode→XCode→XFn)→(∀ a b,mkF prog f30 m30 false false [a,b]=g a b)→XFn) _ ?h
 case f=>exact fun g _=>g aRW aUX
 case h=>intro a b;conv=>lhs;cbv
theorem aTW:aR prog (30,x30):=eE (fun v w=>call30 v w) func30

def m31:RM:=⟨[(4,[(0,false)])],[[0,1,5,6]],[]⟩
def aAZ:XCode:=by
 refine' (?f:(g:XCode)→(mkL prog f31 m31 0 []=g)→XCode) _ ?h
 case f=>exact fun g _=>g
 case h=>conv=>lhs;cbv
def x31:XFn:=by
 refine' (?f:(g:XCode→XFn)→(∀ a,mkF prog f31 m31 false false [a]=g a)→XFn) _ ?h
 case f=>exact fun g _=>g aAZ
 case h=>intro a;conv=>lhs;cbv
theorem bAY:aR prog (31,x31):=eE (fun v w=>call31 v w) func31

def x32:XFn:=⟨120,[(2,none)],false,false,(.seq (jR [jP 1 (.box (.t 0)),jP 2 (.mv (.c (.str ⟨#[]⟩)))]) (.seq (jR [jP 5 (.idxa 4 1 (.t 1) (jC 1)),jP 6 (jL 5),jP 7 (.bin .rem (.t 6) (.c (.int .u8 4))),jP 8 (.bin .add (.c (.int .u8 97)) (.t 7)),jP 9 (.bslice 1 1 [.int .u8 0] [(0,(1,(.t 8)))]),jP 10 (.strof (.t 9)),jA 3 10]) (.seq (.seq (jR [jP 11 (.idxa 4 1 (.t 1) (jC 0)),jP 12 (jL 11),jP 13 (.bin .rem (.t 12) (.c (.int .u8 12)))]) (.block 0 (.seq (.seq (jR [jP 15 (.bin .eql (.t 13) (.c (.int .u8 0))),jA 14 15]) (.cond (.t 14) .skip (jR [jP 16 (.bin .eql (.t 13) (.c (.int .u8 1))),jA 14 16]))) (.cond (.t 14) (.seq (jR [jA 17 3,jP 18 (.bin .add (.c (.str ⟨#[102,97,114,109,101,114,32]⟩)) (.t 17)),jA 2 18]) .ret) (.seq (.seq (jR [jP 20 (.bin .eql (.t 13) (.c (.int .u8 2))),jA 19 20]) (.cond (.t 19) .skip (.seq (jR [jP 21 (.bin .eql (.t 13) (.c (.int .u8 3))),jA 19 21]) (.cond (.t 19) .skip (.seq (jR [jP 22 (.bin .eql (.t 13) (.c (.int .u8 4))),jA 19 22]) (.cond (.t 19) .skip (jR [jP 23 (.bin .eql (.t 13) (.c (.int .u8 5))),jA 19 23]))))))) (.cond (.t 19) (.seq (jR [jP 24 (.idxa 4 1 (.t 1) (jC 3)),jP 25 (jL 24),jP 26 (.conv .i64 (.t 25)),jP 27 (.bin .mul (jC 5) (.t 26)),jP 28 (.bin .add (jC 4000) (.t 27)),jA 4 28]) (.seq (.reg [] true [jP 29 (.idxa 4 1 (.t 1) (jC 2)),jI 1 30 (jL 29),jI 2 31 (.conv .i64 (.t 30)),jI 3 32 (.bin .rem (.t 31) (jC 3)),jI 7 36 (jM 4),jI 8 37 (.idxa 4 1 (.t 1) (jC 2)),jI 9 38 (jL 37),jI 10 39 (.conv .i64 (.t 38)),jI 11 40 (.bin .mul (jC 40) (.t 39)),jI 12 41 (.bin .add (.t 36) (.t 40)),jI 16 45 (jM 4),jI 20 49 (jM 3),jI 4 33 (jF 33 [.t 32] [9]),jI 5 34 (.bin .add (.c (.str ⟨#[119,97,103,111,110,32,119]⟩)) (.t 33)),jI 6 35 (.bin .add (.t 34) (.c (.str ⟨#[32]⟩))),jI 13 42 (jF 33 [.t 41] []),jI 14 43 (.bin .add (.t 35) (.t 42)),jI 15 44 (.bin .add (.t 43) (.c (.str ⟨#[32]⟩))),jI 17 46 (jF 33 [.t 45] []),jI 18 47 (.bin .add (.t 44) (.t 46)),jI 19 48 (.bin .add (.t 47) (.c (.str ⟨#[32]⟩))),jI 21 50 (.bin .add (.t 48) (.t 49)),jI 22 2 (jM 50)]) .ret)) (.seq (jR [jP 52 (.bin .eql (.t 13) (.c (.int .u8 6))),jA 51 52]) (.cond (.t 51) (.seq (jR [jP 53 (.idxa 4 1 (.t 1) (jC 2)),jP 54 (jL 53),jP 55 (.conv .i64 (.t 54)),jP 56 (.bin .rem (.t 55) (jC 8)),jP 57 (jF 33 [.t 56] []),jP 58 (.bin .add (.c (.str ⟨#[118,111,105,100,32]⟩)) (.t 57)),jA 2 58]) .ret) (.seq (jR [jP 60 (.bin .eql (.t 13) (.c (.int .u8 7))),jA 59 60]) (.cond (.t 59) (.seq (.seq (jR [jP 61 (.idxa 4 1 (.t 1) (jC 2)),jP 62 (jL 61),jP 63 (.bin .lss (.t 62) (.c (.int .u8 64)))]) (.cond (.t 63) (.seq (jR [jP 2 (.mv (.c (.str ⟨#[99,108,111,115,101]⟩)))]) .ret) .skip)) (.seq (jR [jP 64 (.idxa 4 1 (.t 1) (jC 2)),jP 65 (jL 64),jP 66 (.conv .i64 (.t 65)),jP 67 (.bin .rem (.t 66) (jC 8)),jP 68 (jF 33 [.t 67] []),jP 69 (.bin .add (.c (.str ⟨#[118,111,105,100,32]⟩)) (.t 68)),jA 2 69]) .ret)) (.seq (.seq (jR [jP 71 (.bin .eql (.t 13) (.c (.int .u8 8))),jA 70 71]) (.cond (.t 70) .skip (jR [jP 72 (.bin .eql (.t 13) (.c (.int .u8 9))),jA 70 72]))) (.cond (.t 70) (.seq (jR [jA 73 3,jP 74 (.bin .add (.c (.str ⟨#[109,101,116,101,114,32]⟩)) (.t 73)),jP 75 (.bin .add (.t 74) (.c (.str ⟨#[32]⟩))),jP 76 (.idxa 4 1 (.t 1) (jC 2)),jP 77 (jL 76),jP 78 (.conv .i64 (.t 77)),jP 79 (.bin .mul (jC 390) (.t 78)),jP 80 (jF 33 [.t 79] []),jP 81 (.bin .add (.t 75) (.t 80)),jA 2 81]) .ret) (.seq (jR [jP 83 (.bin .eql (.t 13) (.c (.int .u8 10))),jA 82 83]) (.cond (.t 82) (.seq (.reg [] true [jA 84 3,jI 1 85 (.bin .add (.c (.str ⟨#[112,97,110,32]⟩)) (.t 84)),jI 2 86 (.bin .add (.t 85) (.c (.str ⟨#[32]⟩))),jI 3 87 (.idxa 4 1 (.t 1) (jC 2)),jI 4 88 (jL 87),jI 5 89 (.conv .i64 (.t 88)),jI 6 90 (.bin .add (jC 10) (.t 89)),jI 10 94 (.idxa 4 1 (.t 1) (jC 3)),jI 11 95 (jL 94),jI 12 96 (.conv .i64 (.t 95)),jI 7 91 (jF 33 [.t 90] [11]),jI 8 92 (.bin .add (.t 86) (.t 91)),jI 9 93 (.bin .add (.t 92) (.c (.str ⟨#[32]⟩))),jI 13 97 (jF 33 [.t 96] []),jI 14 98 (.bin .add (.t 93) (.t 97)),jI 15 2 (jM 98)]) .ret) .skip)))))))))))))) (.seq (.reg [] true [jA 99 3,jI 1 100 (.bin .add (.c (.str ⟨#[110,101,116,32]⟩)) (.t 99)),jI 2 101 (.idxa 4 1 (.t 1) (jC 2)),jI 3 102 (jL 101),jI 4 103 (.conv .i64 (.t 102)),jI 5 104 (.bin .rem (.t 103) (jC 8)),jI 8 107 (jM 3),jI 9 108 (.bin .add (.c (.str ⟨#[117,115,101,100,32]⟩)) (.t 107)),jI 10 109 (jM 3),jI 11 110 (.bin .add (.c (.str ⟨#[108,111,115,115,32]⟩)) (.t 109)),jI 12 111 (jM 3),jI 13 112 (.bin .add (.c (.str ⟨#[112,111,119,101,114,32]⟩)) (.t 111)),jI 15 114 (.idxa 4 1 (.t 1) (jC 2)),jI 16 115 (jL 114),jI 17 116 (.conv .i64 (.t 115)),jI 18 117 (.bin .rem (.t 116) (jC 7)),jI 6 105 (jF 33 [.t 104] [16]),jI 7 106 (.bin .add (.c (.str ⟨#[116,105,99,107,101,116,32]⟩)) (.t 105)),jI 14 113 (.bslice 1 7 [(.str ⟨#[]⟩)] [(0,(1,(.t 100))),(1,(1,(.c (.str ⟨#[116,111,116,97,108]⟩)))),(2,(1,(.t 106))),(3,(1,(.t 108))),(4,(1,(.t 110))),(5,(1,(.t 112))),(6,(1,(.c (.str ⟨#[98,108,111,111,109]⟩))))]),jI 19 118 (.idx 1 (.t 113) (.t 117)),jI 20 119 (jL 118),jI 21 2 (jM 119)]) .ret)))),none,none⟩
theorem bAX:aR prog (32,x32):=eE (fun v w=>call32 v w) func32

def m33:RM:=⟨[],[],[]⟩
def x33:XFn:=by
 refine' (?f:(g:XFn)→(mkF prog f33 m33 false false []=g)→XFn) _ ?h
 case f=>exact fun g _=>g
 case h=>conv=>lhs;cbv
theorem bAW:aR prog (33,x33):=eE (fun v w=>call33 v w) func33

def m34:RM:=⟨[],[[0,3,4]],[]⟩
def aUV:XCode:=by
 refine' (?f:(g:XCode)→(mkL prog f34 m34 0 []=g)→XCode) _ ?h
 case f=>exact fun g _=>g
 case h=>conv=>lhs;cbv
def x34:XFn:=by
 refine' (?f:(g:XCode→XFn)→(∀ a,mkF prog f34 m34 false false [a]=g a)→XFn) _ ?h
 case f=>exact fun g _=>g aUV
 case h=>intro a;conv=>lhs;cbv
theorem bAV:aR prog (34,x34):=eE (fun v w=>call34 v w) func34

def m35:RM:=⟨[],[],[]⟩
def x35:XFn:=by
 refine' (?f:(g:XFn)→(mkF prog f35 m35 false false []=g)→XFn) _ ?h
 case f=>exact fun g _=>g
 case h=>conv=>lhs;cbv
theorem bAU:aR prog (35,x35):=eE (fun v w=>call35 v w) func35

def m36:RM:=⟨[(1,[(0,false)])],[],[]⟩
def x36:XFn:=by
 refine' (?f:(g:XFn)→(mkF prog f36 m36 false false []=g)→XFn) _ ?h
 case f=>exact fun g _=>g
 case h=>conv=>lhs;cbv
theorem bAT:aR prog (36,x36):=eE (fun v w=>call36 v w) func36

def m38:RM:=⟨[(6,[(8,false)]),(7,[(5,false)]),(9,[(6,false),(5,false)]),(10,[(5,false)])],[[1,5,6,9,10,11]],[]⟩
def aRV:XCode:=by
 refine' (?f:(g:XCode)→(mkL prog f38 m38 0 []=g)→XCode) _ ?h
 case f=>exact fun g _=>g
 case h=>conv=>lhs;cbv
def x38:XFn:=by
 refine' (?f:(g:XCode→XFn)→(∀ a,mkF prog f38 m38 false false [a]=g a)→XFn) _ ?h
 case f=>exact fun g _=>g aRV
 case h=>intro a;conv=>lhs;cbv
theorem bAS:aR prog (38,x38):=eE (fun v w=>call38 v w) func38

def m42:RM:=⟨[(3,[(1,false)])],[],[]⟩
def x42:XFn:=by
 refine' (?f:(g:XFn)→(mkF prog f42 m42 false false []=g)→XFn) _ ?h
 case f=>exact fun g _=>g
 case h=>conv=>lhs;cbv
theorem bAR:aR prog (42,x42):=eE (fun v w=>call42 v w) func42

def m43:RM:=⟨[],[[2,3,7,8,9]],[]⟩
def aRU:XCode:=by
 refine' (?f:(g:XCode)→(mkL prog f43 m43 0 []=g)→XCode) _ ?h
 case f=>exact fun g _=>g
 case h=>conv=>lhs;cbv
def x43:XFn:=by
 refine' (?f:(g:XCode→XFn)→(∀ a,mkF prog f43 m43 false false [a]=g a)→XFn) _ ?h
 case f=>exact fun g _=>g aRU
 case h=>intro a;conv=>lhs;cbv
theorem bAQ:aR prog (43,x43):=eE (fun v w=>call43 v w) func43

def m44:RM:=⟨[],[[0,2,3,5]],[]⟩
def aRT:XCode:=by
 refine' (?f:(g:XCode)→(mkL prog f44 m44 0 []=g)→XCode) _ ?h
 case f=>exact fun g _=>g
 case h=>conv=>lhs;cbv
def x44:XFn:=by
 refine' (?f:(g:XCode→XFn)→(∀ a,mkF prog f44 m44 false false [a]=g a)→XFn) _ ?h
 case f=>exact fun g _=>g aRT
 case h=>intro a;conv=>lhs;cbv
theorem bAP:aR prog (44,x44):=eE (fun v w=>call44 v w) func44

def m45:RM:=⟨[],[[2,3,4,6,8]],[]⟩
def aRS:XCode:=by
 refine' (?f:(g:XCode)→(mkL prog f45 m45 0 []=g)→XCode) _ ?h
 case f=>exact fun g _=>g
 case h=>conv=>lhs;cbv
def x45:XFn:=by
 refine' (?f:(g:XCode→XFn)→(∀ a,mkF prog f45 m45 false false [a]=g a)→XFn) _ ?h
 case f=>exact fun g _=>g aRS
 case h=>intro a;conv=>lhs;cbv
theorem bAO:aR prog (45,x45):=eE (fun v w=>call45 v w) func45

def m46:RM:=⟨[],[],[]⟩
def x46:XFn:=by
 refine' (?f:(g:XFn)→(mkF prog f46 m46 false false []=g)→XFn) _ ?h
 case f=>exact fun g _=>g
 case h=>conv=>lhs;cbv
theorem bAN:aR prog (46,x46):=eE (fun v w=>call46 v w) func46

def m52:RM:=⟨[],[],[]⟩
def x52:XFn:=by
 refine' (?f:(g:XFn)→(mkF prog f52 m52 false false []=g)→XFn) _ ?h
 case f=>exact fun g _=>g
 case h=>conv=>lhs;cbv
theorem bAM:aR prog (52,x52):=eE (fun v w=>call52 v w) func52

def m53:RM:=⟨[],[],[]⟩
def x53:XFn:=by
 refine' (?f:(g:XFn)→(mkF prog f53 m53 false false []=g)→XFn) _ ?h
 case f=>exact fun g _=>g
 case h=>conv=>lhs;cbv
theorem bAL:aR prog (53,x53):=eE (fun v w=>call53 v w) func53

def m54:RM:=⟨[],[],[]⟩
def x54:XFn:=by
 refine' (?f:(g:XFn)→(mkF prog f54 m54 false false []=g)→XFn) _ ?h
 case f=>exact fun g _=>g
 case h=>conv=>lhs;cbv
theorem bAK:aR prog (54,x54):=eE (fun v w=>call54 v w) func54

def m55:RM:=⟨[],[],[]⟩
def x55:XFn:=by
 refine' (?f:(g:XFn)→(mkF prog f55 m55 false false []=g)→XFn) _ ?h
 case f=>exact fun g _=>g
 case h=>conv=>lhs;cbv
theorem bAJ:aR prog (55,x55):=eE (fun v w=>call55 v w) func55

def m58:RM:=⟨[],[],[]⟩
def x58:XFn:=by
 refine' (?f:(g:XFn)→(mkF prog f58 m58 false false []=g)→XFn) _ ?h
 case f=>exact fun g _=>g
 case h=>conv=>lhs;cbv
theorem bAI:aR prog (58,x58):=eE (fun v w=>call58 v w) func58

def m59:RM:=⟨[],[],[]⟩
def x59:XFn:=by
 refine' (?f:(g:XFn)→(mkF prog f59 m59 false false []=g)→XFn) _ ?h
 case f=>exact fun g _=>g
 case h=>conv=>lhs;cbv
theorem bAH:aR prog (59,x59):=eE (fun v w=>call59 v w) func59

def m60:RM:=⟨[(2,[(0,false)]),(15,[(11,false)])],[[2,4,6,47],[2,6,64]],[]⟩
def aAd:XCode:=by
 refine' (?f:(g:XCode)→(mkL prog f60 m60 0 []=g)→XCode) _ ?h
 case f=>exact fun g _=>g
 case h=>conv=>lhs;cbv
def aAY:XCode:=by
 refine' (?f:(g:XCode→XCode)→(∀ a,mkL prog f60 m60 1 [a]=g a)→XCode) _ ?h
 case f=>exact fun g _=>g aAd
 case h=>intro a;conv=>lhs;cbv
def x60:XFn:=by
 refine' (?f:(g:XCode→XCode→XFn)→(∀ a b,mkF prog f60 m60 false false [a,b]=g a b)→XFn) _ ?h
 case f=>exact fun g _=>g aAd aAY
 case h=>intro a b;conv=>lhs;cbv
theorem bAG:aR prog (60,x60):=eE (fun v w=>call60 v w) func60

def m61:RM:=⟨[],[],[]⟩
def mO:XFn:=by
 refine' (?f:(g:XFn)→(mkF prog f61 m61 false false []=g)→XFn) _ ?h
 case f=>exact fun g _=>g
 case h=>conv=>lhs;cbv
theorem bAF:aR prog (61,mO):=eE (fun v w=>call61 v w) func61

def aLx:XCode:=(.loop [0,5,20,21,22] (.seq (jR [jP 23 (.bin .lss (.t 22) (.t 21))]) (.seq (.cond (.t 23) .skip (.exit 1)) (.seq (.block 2 (.seq (jR [jP 24 (.idx 1 (.t 20) (.t 22)),jP 25 (jL 24),jA 7 25]) (.reg [(7,false)] false [jA 26 5,jA 27 0,jP 28 (.nilck (.t 27)),jP 29 (.fld 0 (.t 28)),jP 30 (jL 29),jA 31 7,jP 32 (jF 95 [.t 30,.t 31] []),jP 33 (.nilck (.t 32)),jP 34 (.fld 0 (.t 33)),jP 35 (jL 34),jP 36 (.bin .add (.t 26) (.t 35)),jA 5 36]))) (jR [jP 37 (.bin .add (.t 22) (jC 1)),jA 22 37])))))
def uP:XFn:=⟨136,[(4,none)],false,false,(.seq (jR [jP 3 (.box (.t 1)),jP 4 (.mv (.c (.str ⟨#[]⟩)))]) (.seq (jR [jP 5 (.mv (jC 0))]) (.seq (.seq (jR [jP 10 (.fld 0 (.t 3)),jP 11 (jL 10)]) (.block 0 (.seq (jR [jP 13 (.bin .eql (.t 11) (.c (.str ⟨#[116,111,116,97,108]⟩))),jA 12 13]) (.cond (.t 12) (.seq (jR [jA 14 0,jP 15 (.nilck (.t 14)),jP 16 (.fld 0 (.t 15)),jP 17 (jL 16),jP 18 (.nilck (.t 17)),jP 19 (.fld 0 (.t 18)),jP 20 (jL 19),jP 21 (.len false (.t 20)),jP 22 (.mv (jC 0))]) (.block 1 aLx)) (.seq (jR [jP 39 (.bin .eql (.t 11) (.c (.str ⟨#[110,101,116]⟩))),jA 38 39]) (.cond (.t 38) (.reg [] true [jA 40 0,jI 1 41 (.nilck (.t 40)),jI 2 42 (.fld 0 (.t 41)),jI 3 43 (jL 42),jI 4 44 (.fld 1 (.t 3)),jI 5 45 (jL 44),jI 6 46 (.idx 1 (.t 45) (jC 0)),jI 7 47 (jL 46),jI 8 48 (jF 95 [.t 43,.t 47] []),jI 9 49 (.nilck (.t 48)),jI 10 50 (.fld 0 (.t 49)),jI 11 51 (jL 50),jI 12 5 (jM 51)]) (.seq (jR [jP 53 (.bin .eql (.t 11) (.c (.str ⟨#[117,115,101,100]⟩))),jA 52 53]) (.cond (.t 52) (.reg [] true [jA 54 0,jI 1 55 (.nilck (.t 54)),jI 2 56 (.fld 1 (.t 55)),jI 3 57 (jL 56),jI 4 58 (.fld 1 (.t 3)),jI 5 59 (jL 58),jI 6 60 (.idx 1 (.t 59) (jC 0)),jI 7 61 (jL 60),jI 8 62 (jF 96 [.t 57,.t 61] []),jI 9 63 (.nilck (.t 62)),jI 10 64 (.fld 1 (.t 63)),jI 11 65 (jL 64),jI 12 5 (jM 65)]) (.seq (jR [jP 67 (.bin .eql (.t 11) (.c (.str ⟨#[108,111,115,115]⟩))),jA 66 67]) (.cond (.t 66) (.reg [] true [jA 68 0,jI 1 69 (.nilck (.t 68)),jI 2 70 (.fld 2 (.t 69)),jI 3 71 (jL 70),jI 4 72 (.fld 1 (.t 3)),jI 5 73 (jL 72),jI 6 74 (.idx 1 (.t 73) (jC 0)),jI 7 75 (jL 74),jI 8 76 (jF 97 [.t 71,.t 75] []),jI 9 77 (.nilck (.t 76)),jI 10 78 (.fld 0 (.t 77)),jI 11 79 (jL 78),jI 12 5 (jM 79)]) (.seq (jR [jP 81 (.bin .eql (.t 11) (.c (.str ⟨#[112,111,119,101,114]⟩))),jA 80 81]) (.cond (.t 80) (.reg [(0,false)] false [jA 82 0,jP 83 (.fld 1 (.t 3)),jP 84 (jL 83),jP 85 (.idx 1 (.t 84) (jC 0)),jP 86 (jL 85),jP 87 (jF 98 [.t 82,.t 86] []),jA 5 87]) (.seq (jR [jP 89 (.bin .eql (.t 11) (.c (.str ⟨#[116,105,99,107,101,116]⟩))),jA 88 89]) (.cond (.t 88) (.seq (.reg [] true [jP 90 (.fld 2 (.t 3)),jI 1 91 (jL 90),jI 2 92 (.idx 1 (.t 91) (jC 0)),jI 3 93 (jL 92),jI 4 94 (jM 0),jI 5 95 (.nilck (.t 94)),jI 6 96 (.fld 4 (.t 95)),jI 7 97 (jL 96),jI 8 98 (.len false (.t 97)),jI 9 99 (.bin .lss (.t 93) (.t 98)),jI 10 100 (jF 58 [.t 99,jC 5] [])]) (.seq (.reg [] true [jA 101 0,jI 1 102 (.nilck (.t 101)),jI 2 103 (.fld 4 (.t 102)),jI 3 104 (jL 103),jI 4 105 (.fld 2 (.t 3)),jI 5 106 (jL 105),jI 6 107 (.idx 1 (.t 106) (jC 0)),jI 7 108 (jL 107),jI 8 109 (.idx 1 (.t 104) (.t 108)),jI 9 110 (jL 109),jI 10 8 (jM 110)]) (.seq (.reg [] true [jA 111 8,jI 1 112 (.nilck (.t 111)),jI 2 113 (.fld 0 (.t 112)),jI 3 114 (jL 113),jI 4 115 (jM 8),jI 5 116 (.nilck (.t 115)),jI 6 117 (.fld 1 (.t 116)),jI 7 118 (jL 117),jI 8 119 (jM 8),jI 9 120 (.nilck (.t 119)),jI 10 121 (.fld 2 (.t 120)),jI 11 122 (jL 121),jI 12 123 (jF 57 [.t 122] [3,7]),jI 13 124 (.bslice 1 3 [(.str ⟨#[]⟩)] [(0,(1,(.t 114))),(1,(1,(.t 118))),(2,(1,(.t 123)))]),jI 14 9 (jM 124)]) (.seq (.seq (jR [jA 125 8,jP 126 (.nilck (.t 125)),jP 127 (.fld 3 (.t 126)),jP 128 (jL 127)]) (.cond (.t 128) (jR [jA 129 9,jP 130 (.bslice 1 1 [(.str ⟨#[]⟩)] [(0,(1,(.c (.str ⟨#[118,111,105,100]⟩))))]),jP 131 (.app 1 16 (.t 129) (.t 130)),jA 9 131]) .skip)) (.seq (.reg [(9,false)] false [jA 132 9,jP 133 (jF 99 [.t 132,.c (.str ⟨#[32]⟩)] []),jA 4 133]) .ret))))) .skip)))))))))))))) (.seq (jR [jA 134 5,jP 135 (jF 57 [.t 134] []),jA 4 135]) .ret)))),none,none⟩
theorem bAE:aR prog (62,uP):=eE (fun v w=>call62 v w) func62

def m69:RM:=⟨[(1,[(0,false)])],[],[]⟩
def x69:XFn:=by
 refine' (?f:(g:XFn)→(mkF prog f69 m69 false false []=g)→XFn) _ ?h
 case f=>exact fun g _=>g
 case h=>conv=>lhs;cbv
theorem bAD:aR prog (69,x69):=eE (fun v w=>call69 v w) func69

def m70:RM:=⟨[],[],[]⟩
def x70:XFn:=by
 refine' (?f:(g:XFn)→(mkF prog f70 m70 false false []=g)→XFn) _ ?h
 case f=>exact fun g _=>g
 case h=>conv=>lhs;cbv
theorem bAC:aR prog (70,x70):=eE (fun v w=>call70 v w) func70

def m73:RM:=⟨[],[],[]⟩
def x73:XFn:=by
 refine' (?f:(g:XFn)→(mkF prog f73 m73 false false []=g)→XFn) _ ?h
 case f=>exact fun g _=>g
 case h=>conv=>lhs;cbv
theorem bAB:aR prog (73,x73):=eE (fun v w=>call73 v w) func73

def m75:RM:=⟨[],[],[]⟩
def x75:XFn:=by
 refine' (?f:(g:XFn)→(mkF prog f75 m75 false false []=g)→XFn) _ ?h
 case f=>exact fun g _=>g
 case h=>conv=>lhs;cbv
theorem bAA:aR prog (75,x75):=eE (fun v w=>call75 v w) func75

def m77:RM:=⟨[(1,[(1,false)])],[],[]⟩
def x77:XFn:=by
 refine' (?f:(g:XFn)→(mkF prog f77 m77 false false []=g)→XFn) _ ?h
 case f=>exact fun g _=>g
 case h=>conv=>lhs;cbv
theorem bAz:aR prog (77,x77):=eE (fun v w=>call77 v w) func77

def m84:RM:=⟨[],[],[]⟩
def x84:XFn:=by
 refine' (?f:(g:XFn)→(mkF prog f84 m84 false false []=g)→XFn) _ ?h
 case f=>exact fun g _=>g
 case h=>conv=>lhs;cbv
theorem bAy:aR prog (84,x84):=eE (fun v w=>call84 v w) func84

def m85:RM:=⟨[],[[0,6,7,8]],[]⟩
def aRR:XCode:=by
 refine' (?f:(g:XCode)→(mkL prog f85 m85 0 []=g)→XCode) _ ?h
 case f=>exact fun g _=>g
 case h=>conv=>lhs;cbv
def x85:XFn:=by
 refine' (?f:(g:XCode→XFn)→(∀ a,mkF prog f85 m85 false false [a]=g a)→XFn) _ ?h
 case f=>exact fun g _=>g aRR
 case h=>intro a;conv=>lhs;cbv
theorem bAx:aR prog (85,x85):=eE (fun v w=>call85 v w) func85

def m86:RM:=⟨[(1,[(0,false)]),(3,[(0,false),(5,false)])],[],[]⟩
def x86:XFn:=by
 refine' (?f:(g:XFn)→(mkF prog f86 m86 false false []=g)→XFn) _ ?h
 case f=>exact fun g _=>g
 case h=>conv=>lhs;cbv
theorem bAw:aR prog (86,x86):=eE (fun v w=>call86 v w) func86

def m87:RM:=⟨[],[],[]⟩
def x87:XFn:=by
 refine' (?f:(g:XFn)→(mkF prog f87 m87 false false []=g)→XFn) _ ?h
 case f=>exact fun g _=>g
 case h=>conv=>lhs;cbv
theorem bAv:aR prog (87,x87):=eE (fun v w=>call87 v w) func87

def m88:RM:=⟨[],[],[]⟩
def x88:XFn:=by
 refine' (?f:(g:XFn)→(mkF prog f88 m88 false false []=g)→XFn) _ ?h
 case f=>exact fun g _=>g
 case h=>conv=>lhs;cbv
theorem bAu:aR prog (88,x88):=eE (fun v w=>call88 v w) func88

def m89:RM:=⟨[],[],[]⟩
def x89:XFn:=by
 refine' (?f:(g:XFn)→(mkF prog f89 m89 false false []=g)→XFn) _ ?h
 case f=>exact fun g _=>g
 case h=>conv=>lhs;cbv
theorem bAt:aR prog (89,x89):=eE (fun v w=>call89 v w) func89

def m90:RM:=⟨[],[],[]⟩
def x90:XFn:=by
 refine' (?f:(g:XFn)→(mkF prog f90 m90 false false []=g)→XFn) _ ?h
 case f=>exact fun g _=>g
 case h=>conv=>lhs;cbv
theorem bAs:aR prog (90,x90):=eE (fun v w=>call90 v w) func90

def m91:RM:=⟨[],[],[]⟩
def x91:XFn:=by
 refine' (?f:(g:XFn)→(mkF prog f91 m91 false false []=g)→XFn) _ ?h
 case f=>exact fun g _=>g
 case h=>conv=>lhs;cbv
theorem bAr:aR prog (91,x91):=eE (fun v w=>call91 v w) func91

def m92:RM:=⟨[],[],[]⟩
def x92:XFn:=by
 refine' (?f:(g:XFn)→(mkF prog f92 m92 false false []=g)→XFn) _ ?h
 case f=>exact fun g _=>g
 case h=>conv=>lhs;cbv
theorem bAq:aR prog (92,x92):=eE (fun v w=>call92 v w) func92

def m93:RM:=⟨[],[],[]⟩
def x93:XFn:=by
 refine' (?f:(g:XFn)→(mkF prog f93 m93 false false []=g)→XFn) _ ?h
 case f=>exact fun g _=>g
 case h=>conv=>lhs;cbv
theorem bAp:aR prog (93,x93):=eE (fun v w=>call93 v w) func93

def m94:RM:=⟨[],[],[]⟩
def x94:XFn:=by
 refine' (?f:(g:XFn)→(mkF prog f94 m94 false false []=g)→XFn) _ ?h
 case f=>exact fun g _=>g
 case h=>conv=>lhs;cbv
theorem bAo:aR prog (94,x94):=eE (fun v w=>call94 v w) func94

def m95:RM:=⟨[],[],[]⟩
def x95:XFn:=by
 refine' (?f:(g:XFn)→(mkF prog f95 m95 false false []=g)→XFn) _ ?h
 case f=>exact fun g _=>g
 case h=>conv=>lhs;cbv
theorem bAn:aR prog (95,x95):=eE (fun v w=>call95 v w) func95

def m96:RM:=⟨[],[],[]⟩
def x96:XFn:=by
 refine' (?f:(g:XFn)→(mkF prog f96 m96 false false []=g)→XFn) _ ?h
 case f=>exact fun g _=>g
 case h=>conv=>lhs;cbv
theorem bAm:aR prog (96,x96):=eE (fun v w=>call96 v w) func96

def m97:RM:=⟨[],[],[]⟩
def x97:XFn:=by
 refine' (?f:(g:XFn)→(mkF prog f97 m97 false false []=g)→XFn) _ ?h
 case f=>exact fun g _=>g
 case h=>conv=>lhs;cbv
theorem bAl:aR prog (97,x97):=eE (fun v w=>call97 v w) func97

def m98:RM:=⟨[],[[0,1,5,6,7,26,27,28]],[]⟩
def aRQ:XCode:=by
 refine' (?f:(g:XCode)→(mkL prog f98 m98 0 []=g)→XCode) _ ?h
 case f=>exact fun g _=>g
 case h=>conv=>lhs;cbv
def x98:XFn:=by
 refine' (?f:(g:XCode→XFn)→(∀ a,mkF prog f98 m98 false false [a]=g a)→XFn) _ ?h
 case f=>exact fun g _=>g aRQ
 case h=>intro a;conv=>lhs;cbv
theorem bAk:aR prog (98,x98):=eE (fun v w=>call98 v w) func98

def aWL:RM:=⟨[],[[0,3,4]],[]⟩
def aHq:XCode:=by
 refine' (?f:(g:XCode)→(mkL prog f116 aWL 0 []=g)→XCode) _ ?h
 case f=>exact fun g _=>g
 case h=>conv=>lhs;cbv
def aKm:XFn:=by
 refine' (?f:(g:XCode→XFn)→(∀ a,mkF prog f116 aWL false false [a]=g a)→XFn) _ ?h
 case f=>exact fun g _=>g aHq
 case h=>intro a;conv=>lhs;cbv
theorem aXO:aR prog (116,aKm):=eE (fun v w=>call116 v w) func116

def aWK:RM:=⟨[],[[5,10,11]],[]⟩
def aLH:XCode:=by
 refine' (?f:(g:XCode)→(mkL prog f119 aWK 0 []=g)→XCode) _ ?h
 case f=>exact fun g _=>g
 case h=>conv=>lhs;cbv
def x119:XFn:=by
 refine' (?f:(g:XCode→XFn)→(∀ a,mkF prog f119 aWK false false [a]=g a)→XFn) _ ?h
 case f=>exact fun g _=>g aLH
 case h=>intro a;conv=>lhs;cbv
theorem aXN:aR prog (119,x119):=eE (fun v w=>call119 v w) func119

def aWJ:RM:=⟨[],[[5,6,47,48,49]],[]⟩
def aSL:XCode:=by
 refine' (?f:(g:XCode)→(mkL prog f126 aWJ 0 []=g)→XCode) _ ?h
 case f=>exact fun g _=>g
 case h=>conv=>lhs;cbv
def aVo:XFn:=by
 refine' (?f:(g:XCode→XFn)→(∀ a,mkF prog f126 aWJ false false [a]=g a)→XFn) _ ?h
 case f=>exact fun g _=>g aSL
 case h=>intro a;conv=>lhs;cbv
theorem aXM:aR prog (126,aVo):=eE (fun v w=>call126 v w) func126

def bAj:RM:=⟨[(3,[(0,false),(1,false)]),(5,[(0,false),(1,false)]),(7,[(0,false),(1,false),(2,false)]),(9,[(0,false),(1,false),(3,false)])],[],[]⟩
def aVn:XFn:=by
 refine' (?f:(g:XFn)→(mkF prog f127 bAj false false []=g)→XFn) _ ?h
 case f=>exact fun g _=>g
 case h=>conv=>lhs;cbv
theorem aXL:aR prog (127,aVn):=eE (fun v w=>call127 v w) func127

def bAi:RM:=⟨[],[],[]⟩
def aCW:XFn:=by
 refine' (?f:(g:XFn)→(mkF prog f128 bAi false false []=g)→XFn) _ ?h
 case f=>exact fun g _=>g
 case h=>conv=>lhs;cbv
theorem aXK:aR prog (128,aCW):=eE (fun v w=>call128 v w) func128

def bAh:RM:=⟨[],[],[]⟩
def aFV:XFn:=by
 refine' (?f:(g:XFn)→(mkF prog f129 bAh false false []=g)→XFn) _ ?h
 case f=>exact fun g _=>g
 case h=>conv=>lhs;cbv
theorem aXJ:aR prog (129,aFV):=eE (fun v w=>call129 v w) func129

def bAg:RM:=⟨[],[],[]⟩
def aPF:XFn:=by
 refine' (?f:(g:XFn)→(mkF prog f130 bAg false false []=g)→XFn) _ ?h
 case f=>exact fun g _=>g
 case h=>conv=>lhs;cbv
theorem aXI:aR prog (130,aPF):=eE (fun v w=>call130 v w) func130

def bAf:RM:=⟨[],[],[]⟩
def aFU:XFn:=by
 refine' (?f:(g:XFn)→(mkF prog f131 bAf false false []=g)→XFn) _ ?h
 case f=>exact fun g _=>g
 case h=>conv=>lhs;cbv
theorem aXH:aR prog (131,aFU):=eE (fun v w=>call131 v w) func131

def bAe:RM:=⟨[],[],[]⟩
def aKl:XFn:=by
 refine' (?f:(g:XFn)→(mkF prog f132 bAe false false []=g)→XFn) _ ?h
 case f=>exact fun g _=>g
 case h=>conv=>lhs;cbv
theorem aXG:aR prog (132,aKl):=eE (fun v w=>call132 v w) func132

def bAd:RM:=⟨[],[],[]⟩
def aFT:XFn:=by
 refine' (?f:(g:XFn)→(mkF prog f133 bAd false false []=g)→XFn) _ ?h
 case f=>exact fun g _=>g
 case h=>conv=>lhs;cbv
theorem aXF:aR prog (133,aFT):=eE (fun v w=>call133 v w) func133

def bAc:RM:=⟨[],[],[]⟩
def aFS:XFn:=by
 refine' (?f:(g:XFn)→(mkF prog f134 bAc false false []=g)→XFn) _ ?h
 case f=>exact fun g _=>g
 case h=>conv=>lhs;cbv
theorem aXE:aR prog (134,aFS):=eE (fun v w=>call134 v w) func134

def bAb:RM:=⟨[],[],[]⟩
def aKk:XFn:=by
 refine' (?f:(g:XFn)→(mkF prog f135 bAb false false []=g)→XFn) _ ?h
 case f=>exact fun g _=>g
 case h=>conv=>lhs;cbv
theorem aXD:aR prog (135,aKk):=eE (fun v w=>call135 v w) func135

def bAa:RM:=⟨[],[],[]⟩
def aFR:XFn:=by
 refine' (?f:(g:XFn)→(mkF prog f136 bAa false false []=g)→XFn) _ ?h
 case f=>exact fun g _=>g
 case h=>conv=>lhs;cbv
theorem aXC:aR prog (136,aFR):=eE (fun v w=>call136 v w) func136

def aZZ:RM:=⟨[],[],[]⟩
def aPE:XFn:=by
 refine' (?f:(g:XFn)→(mkF prog f137 aZZ false false []=g)→XFn) _ ?h
 case f=>exact fun g _=>g
 case h=>conv=>lhs;cbv
theorem aXB:aR prog (137,aPE):=eE (fun v w=>call137 v w) func137

def aZY:RM:=⟨[(11,[(1,false)])],[],[]⟩
def aVl:XFn:=by
 refine' (?f:(g:XFn)→(mkF prog f154 aZY false false []=g)→XFn) _ ?h
 case f=>exact fun g _=>g
 case h=>conv=>lhs;cbv
theorem aXA:aR prog (154,aVl):=eE (fun v w=>call154 v w) func154

def aZX:RM:=⟨[(1,[(1,false)])],[],[]⟩
def aVk:XFn:=by
 refine' (?f:(g:XFn)→(mkF prog f155 aZX false false []=g)→XFn) _ ?h
 case f=>exact fun g _=>g
 case h=>conv=>lhs;cbv
theorem aXz:aR prog (155,aVk):=eE (fun v w=>call155 v w) func155

def aZW:RM:=⟨[(1,[(1,false)])],[],[]⟩
def aVj:XFn:=by
 refine' (?f:(g:XFn)→(mkF prog f156 aZW false false []=g)→XFn) _ ?h
 case f=>exact fun g _=>g
 case h=>conv=>lhs;cbv
theorem aXy:aR prog (156,aVj):=eE (fun v w=>call156 v w) func156

def aZV:RM:=⟨[(1,[(1,false),(2,false)])],[],[]⟩
def aVi:XFn:=by
 refine' (?f:(g:XFn)→(mkF prog f157 aZV false false []=g)→XFn) _ ?h
 case f=>exact fun g _=>g
 case h=>conv=>lhs;cbv
theorem aXx:aR prog (157,aVi):=eE (fun v w=>call157 v w) func157

def aZU:RM:=⟨[(1,[(1,false),(2,false)])],[],[]⟩
def aVh:XFn:=by
 refine' (?f:(g:XFn)→(mkF prog f158 aZU false false []=g)→XFn) _ ?h
 case f=>exact fun g _=>g
 case h=>conv=>lhs;cbv
theorem aXw:aR prog (158,aVh):=eE (fun v w=>call158 v w) func158

def aZT:RM:=⟨[(1,[(2,true)]),(4,[(6,true)])],[],[]⟩
def aPD:XFn:=by
 refine' (?f:(g:XFn)→(mkF prog f159 aZT false false []=g)→XFn) _ ?h
 case f=>exact fun g _=>g
 case h=>conv=>lhs;cbv
theorem aXv:aR prog (159,aPD):=eE (fun v w=>call159 v w) func159

def aZS:RM:=⟨[],[],[]⟩
def aPC:XFn:=by
 refine' (?f:(g:XFn)→(mkF prog f160 aZS false false []=g)→XFn) _ ?h
 case f=>exact fun g _=>g
 case h=>conv=>lhs;cbv
theorem aXu:aR prog (160,aPC):=eE (fun v w=>call160 v w) func160

def aZR:RM:=⟨[],[],[]⟩
def aVf:XFn:=by
 refine' (?f:(g:XFn)→(mkF prog f175 aZR false false []=g)→XFn) _ ?h
 case f=>exact fun g _=>g
 case h=>conv=>lhs;cbv
theorem aXt:aR prog (175,aVf):=eE (fun v w=>call175 v w) func175

def aWI:RM:=⟨[],[[1,8,9,10,11,12,13,99,100,101]],[]⟩
def aSK:XCode:=by
 refine' (?f:(g:XCode)→(mkL prog f179 aWI 0 []=g)→XCode) _ ?h
 case f=>exact fun g _=>g
 case h=>conv=>lhs;cbv
def aVe:XFn:=by
 refine' (?f:(g:XCode→XFn)→(∀ a,mkF prog f179 aWI false false [a]=g a)→XFn) _ ?h
 case f=>exact fun g _=>g aSK
 case h=>intro a;conv=>lhs;cbv
theorem aXs:aR prog (179,aVe):=eE (fun v w=>call179 v w) func179

def aZQ:RM:=⟨[],[],[]⟩
def aVd:XFn:=by
 refine' (?f:(g:XFn)→(mkF prog f180 aZQ false false []=g)→XFn) _ ?h
 case f=>exact fun g _=>g
 case h=>conv=>lhs;cbv
theorem aXr:aR prog (180,aVd):=eE (fun v w=>call180 v w) func180

def aZP:RM:=⟨[],[],[]⟩
def aVc:XFn:=by
 refine' (?f:(g:XFn)→(mkF prog f181 aZP false false []=g)→XFn) _ ?h
 case f=>exact fun g _=>g
 case h=>conv=>lhs;cbv
theorem aXq:aR prog (181,aVc):=eE (fun v w=>call181 v w) func181

def aZO:RM:=⟨[(1,[(1,true)]),(4,[(1,true)])],[],[]⟩
def aPB:XFn:=by
 refine' (?f:(g:XFn)→(mkF prog f182 aZO false false []=g)→XFn) _ ?h
 case f=>exact fun g _=>g
 case h=>conv=>lhs;cbv
theorem aXp:aR prog (182,aPB):=eE (fun v w=>call182 v w) func182

def aWH:RM:=⟨[],[[1,5,8,9]],[]⟩
def aLG:XCode:=by
 refine' (?f:(g:XCode)→(mkL prog f183 aWH 0 []=g)→XCode) _ ?h
 case f=>exact fun g _=>g
 case h=>conv=>lhs;cbv
def aPA:XFn:=by
 refine' (?f:(g:XCode→XFn)→(∀ a,mkF prog f183 aWH false false [a]=g a)→XFn) _ ?h
 case f=>exact fun g _=>g aLG
 case h=>intro a;conv=>lhs;cbv
theorem aXo:aR prog (183,aPA):=eE (fun v w=>call183 v w) func183

def aZN:RM:=⟨[(2,[(3,true),(1,true)]),(4,[(6,false),(3,true)]),(5,[(1,true),(6,false)])],[],[[1,2,3,5]]⟩
def aLF:XFn:=by
 refine' (?f:(g:XFn)→(mkF prog f184 aZN false false []=g)→XFn) _ ?h
 case f=>exact fun g _=>g
 case h=>conv=>lhs;cbv
theorem aXn:aR prog (184,aLF):=⟨⟨fun vs w=>call184 vs w,_,_,func184,rfl,rfl,by kernel_rfl,by kernel_rfl⟩,by kernel_rfl,⟨aP rfl,⟨aP rfl,⟨⟨aP rfl,⟨by kernel_rfl,aP rfl,aP rfl⟩⟩,aP rfl⟩⟩⟩,rfl⟩

def aZM:RM:=⟨[],[],[]⟩
def aPz:XFn:=by
 refine' (?f:(g:XFn)→(mkF prog f185 aZM false false []=g)→XFn) _ ?h
 case f=>exact fun g _=>g
 case h=>conv=>lhs;cbv
theorem aXm:aR prog (185,aPz):=eE (fun v w=>call185 v w) func185

def aZL:RM:=⟨[],[],[]⟩
def aPy:XFn:=by
 refine' (?f:(g:XFn)→(mkF prog f186 aZL false false []=g)→XFn) _ ?h
 case f=>exact fun g _=>g
 case h=>conv=>lhs;cbv
theorem aXl:aR prog (186,aPy):=eE (fun v w=>call186 v w) func186

def aZK:RM:=⟨[],[],[]⟩
def aVb:XFn:=by
 refine' (?f:(g:XFn)→(mkF prog f197 aZK false false []=g)→XFn) _ ?h
 case f=>exact fun g _=>g
 case h=>conv=>lhs;cbv
theorem aXk:aR prog (197,aVb):=eE (fun v w=>call197 v w) func197

def aZJ:RM:=⟨[],[],[]⟩
def aVa:XFn:=by
 refine' (?f:(g:XFn)→(mkF prog f198 aZJ false false []=g)→XFn) _ ?h
 case f=>exact fun g _=>g
 case h=>conv=>lhs;cbv
theorem aXj:aR prog (198,aVa):=eE (fun v w=>call198 v w) func198

def aZI:RM:=⟨[],[],[]⟩
def aUZ:XFn:=by
 refine' (?f:(g:XFn)→(mkF prog f201 aZI false false []=g)→XFn) _ ?h
 case f=>exact fun g _=>g
 case h=>conv=>lhs;cbv
theorem aXi:aR prog (201,aUZ):=eE (fun v w=>call201 v w) func201

def aWG:RM:=⟨[],[[0,3,4,5]],[]⟩
def aSJ:XCode:=by
 refine' (?f:(g:XCode)→(mkL prog f202 aWG 0 []=g)→XCode) _ ?h
 case f=>exact fun g _=>g
 case h=>conv=>lhs;cbv
def aUY:XFn:=by
 refine' (?f:(g:XCode→XFn)→(∀ a,mkF prog f202 aWG false false [a]=g a)→XFn) _ ?h
 case f=>exact fun g _=>g aSJ
 case h=>intro a;conv=>lhs;cbv
theorem aXh:aR prog (202,aUY):=eE (fun v w=>call202 v w) func202

def aWF:RM:=⟨[(5,[(1,true)]),(7,[(1,true)]),(13,[(1,true)]),(15,[(5,true),(3,false)])],[[1,3,25,26,27]],[]⟩
def aLE:XCode:=by
 refine' (?f:(g:XCode)→(mkL prog f203 aWF 0 []=g)→XCode) _ ?h
 case f=>exact fun g _=>g
 case h=>conv=>lhs;cbv
def aPx:XFn:=by
 refine' (?f:(g:XCode→XFn)→(∀ a,mkF prog f203 aWF false false [a]=g a)→XFn) _ ?h
 case f=>exact fun g _=>g aLE
 case h=>intro a;conv=>lhs;cbv
theorem aXg:aR prog (203,aPx):=eE (fun v w=>call203 v w) func203

def aWE:RM:=⟨[],[[1,5,9,10,11]],[]⟩
def aLD:XCode:=by
 refine' (?f:(g:XCode)→(mkL prog f204 aWE 0 []=g)→XCode) _ ?h
 case f=>exact fun g _=>g
 case h=>conv=>lhs;cbv
def aPw:XFn:=by
 refine' (?f:(g:XCode→XFn)→(∀ a,mkF prog f204 aWE false false [a]=g a)→XFn) _ ?h
 case f=>exact fun g _=>g aLD
 case h=>intro a;conv=>lhs;cbv
theorem aXf:aR prog (204,aPw):=eE (fun v w=>call204 v w) func204

def aZH:RM:=⟨[],[],[]⟩
def aPv:XFn:=by
 refine' (?f:(g:XFn)→(mkF prog f205 aZH false false []=g)→XFn) _ ?h
 case f=>exact fun g _=>g
 case h=>conv=>lhs;cbv
theorem aXe:aR prog (205,aPv):=eE (fun v w=>call205 v w) func205

def aWD:RM:=⟨[(2,[(2,true)])],[[0,1,2,4]],[]⟩
def aLC:XCode:=by
 refine' (?f:(g:XCode)→(mkL prog f206 aWD 0 []=g)→XCode) _ ?h
 case f=>exact fun g _=>g
 case h=>conv=>lhs;cbv
def aPu:XFn:=by
 refine' (?f:(g:XCode→XFn)→(∀ a,mkF prog f206 aWD false false [a]=g a)→XFn) _ ?h
 case f=>exact fun g _=>g aLC
 case h=>intro a;conv=>lhs;cbv
theorem aXd:aR prog (206,aPu):=eE (fun v w=>call206 v w) func206

def aWC:RM:=⟨[],[[0,7,8,9]],[]⟩
def aLB:XCode:=by
 refine' (?f:(g:XCode)→(mkL prog f207 aWC 0 []=g)→XCode) _ ?h
 case f=>exact fun g _=>g
 case h=>conv=>lhs;cbv
def aPt:XFn:=by
 refine' (?f:(g:XCode→XFn)→(∀ a,mkF prog f207 aWC false false [a]=g a)→XFn) _ ?h
 case f=>exact fun g _=>g aLB
 case h=>intro a;conv=>lhs;cbv
theorem aXc:aR prog (207,aPt):=eE (fun v w=>call207 v w) func207

def aZG:RM:=⟨[(1,[(0,false)])],[],[]⟩
def aPs:XFn:=by
 refine' (?f:(g:XFn)→(mkF prog f211 aZG false false []=g)→XFn) _ ?h
 case f=>exact fun g _=>g
 case h=>conv=>lhs;cbv
theorem aXb:aR prog (211,aPs):=eE (fun v w=>call211 v w) func211

def aZF:RM:=⟨[],[],[]⟩
def aPr:XFn:=by
 refine' (?f:(g:XFn)→(mkF prog f212 aZF false false []=g)→XFn) _ ?h
 case f=>exact fun g _=>g
 case h=>conv=>lhs;cbv
theorem aXa:aR prog (212,aPr):=eE (fun v w=>call212 v w) func212

def aZE:RM:=⟨[(1,[(0,false),(1,false)])],[],[]⟩
def aPq:XFn:=by
 refine' (?f:(g:XFn)→(mkF prog f213 aZE false false []=g)→XFn) _ ?h
 case f=>exact fun g _=>g
 case h=>conv=>lhs;cbv
theorem aWZ:aR prog (213,aPq):=eE (fun v w=>call213 v w) func213

def aWB:RM:=⟨[],[[0,1,7,8]],[]⟩
def aLA:XCode:=by
 refine' (?f:(g:XCode)→(mkL prog f215 aWB 0 []=g)→XCode) _ ?h
 case f=>exact fun g _=>g
 case h=>conv=>lhs;cbv
def aPp:XFn:=by
 refine' (?f:(g:XCode→XFn)→(∀ a,mkF prog f215 aWB false false [a]=g a)→XFn) _ ?h
 case f=>exact fun g _=>g aLA
 case h=>intro a;conv=>lhs;cbv
theorem aWY:aR prog (215,aPp):=eE (fun v w=>call215 v w) func215

def aZD:RM:=⟨[(2,[(1,false)])],[],[[2,5]]⟩
def aLz:XFn:=by
 refine' (?f:(g:XFn)→(mkF prog f234 aZD false false []=g)→XFn) _ ?h
 case f=>exact fun g _=>g
 case h=>conv=>lhs;cbv
theorem aWX:aR prog (234,aLz):=⟨⟨fun vs w=>call234 vs w,_,_,func234,rfl,rfl,by kernel_rfl,by kernel_rfl⟩,by kernel_rfl,⟨aP rfl,⟨aP rfl,⟨⟨aP rfl,⟨by kernel_rfl,aP rfl,aP rfl⟩⟩,aP rfl⟩⟩⟩,rfl⟩

def aZC:RM:=⟨[(1,[(2,true),(1,false)])],[],[]⟩
def aPo:XFn:=by
 refine' (?f:(g:XFn)→(mkF prog f235 aZC false false []=g)→XFn) _ ?h
 case f=>exact fun g _=>g
 case h=>conv=>lhs;cbv
theorem aWW:aR prog (235,aPo):=eE (fun v w=>call235 v w) func235

def aZB:RM:=⟨[],[],[]⟩
def aPn:XFn:=by
 refine' (?f:(g:XFn)→(mkF prog f236 aZB false false []=g)→XFn) _ ?h
 case f=>exact fun g _=>g
 case h=>conv=>lhs;cbv
theorem aWV:aR prog (236,aPn):=eE (fun v w=>call236 v w) func236

def aWA:RM:=⟨[(1,[(1,true)])],[[0,1]],[]⟩
def aEx:XCode:=by
 refine' (?f:(g:XCode)→(mkL prog f237 aWA 0 []=g)→XCode) _ ?h
 case f=>exact fun g _=>g
 case h=>conv=>lhs;cbv
def aPm:XFn:=by
 refine' (?f:(g:XCode→XFn)→(∀ a,mkF prog f237 aWA false false [a]=g a)→XFn) _ ?h
 case f=>exact fun g _=>g aEx
 case h=>intro a;conv=>lhs;cbv
theorem aWU:aR prog (237,aPm):=eE (fun v w=>call237 v w) func237

def aZA:RM:=⟨[(1,[(0,false)])],[],[]⟩
def aPl:XFn:=by
 refine' (?f:(g:XFn)→(mkF prog f242 aZA false false []=g)→XFn) _ ?h
 case f=>exact fun g _=>g
 case h=>conv=>lhs;cbv
theorem aWT:aR prog (242,aPl):=eE (fun v w=>call242 v w) func242

def aZz:RM:=⟨[(1,[(0,false),(1,false)])],[],[]⟩
def aPk:XFn:=by
 refine' (?f:(g:XFn)→(mkF prog f243 aZz false false []=g)→XFn) _ ?h
 case f=>exact fun g _=>g
 case h=>conv=>lhs;cbv
theorem aWS:aR prog (243,aPk):=eE (fun v w=>call243 v w) func243

def aZy:RM:=⟨[(1,[(1,true)])],[],[]⟩
def aPj:XFn:=by
 refine' (?f:(g:XFn)→(mkF prog f244 aZy false false []=g)→XFn) _ ?h
 case f=>exact fun g _=>g
 case h=>conv=>lhs;cbv
theorem aWR:aR prog (244,aPj):=eE (fun v w=>call244 v w) func244

def aWz:RM:=⟨[],[[0,1,7,8]],[]⟩
def aLy:XCode:=by
 refine' (?f:(g:XCode)→(mkL prog f245 aWz 0 []=g)→XCode) _ ?h
 case f=>exact fun g _=>g
 case h=>conv=>lhs;cbv
def aPi:XFn:=by
 refine' (?f:(g:XCode→XFn)→(∀ a,mkF prog f245 aWz false false [a]=g a)→XFn) _ ?h
 case f=>exact fun g _=>g aLy
 case h=>intro a;conv=>lhs;cbv
theorem aWQ:aR prog (245,aPi):=eE (fun v w=>call245 v w) func245

end Go.Proofs.YtmapgnepfgnphaaGreatDoor
end
