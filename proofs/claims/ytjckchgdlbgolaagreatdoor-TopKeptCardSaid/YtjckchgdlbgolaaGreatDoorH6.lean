/- Parts of a proof, joined: G0. No statement of the seed is proved here. -/
import Derived.KernelRfl
import Derived.Test.YtjckchgdlbgolaaGreatDoorProg
import Derived.Test.YtjckchgdlbgolaaGreatDoorH5
set_option linter.unusedSimpArgs false
set_option linter.unusedVariables false
set_option linter.unusedSectionVars false
set_option maxRecDepth 100000
section
namespace Go.Proofs.YtjckchgdlbgolaaGreatDoor
open Go Go.DL Go.Proofs.Tryz

theorem bP{k:Nat}{x:XFn}{fn:Func}(h1:∀(vs:Array Value)(w:World),(callFunc k vs).run prog w = .ok (.enter k vs) w)(h2:prog.funcs[k]?=some fn)(h3:∃ c,fn.body=some c∧fn.ntmps=x.fn.N∧fn.results.toList.mapM (aBf prog)=some x.fn.res∧aHP prog x.fn.N c=some (x.fn.dfr,x.fn.body):=by exact⟨_,rfl,rfl,by kernel_rfl,by kernel_rfl⟩)(h4:okD x=true:=by kernel_rfl)(h5:fV x x.body:=by exact aE rfl)(h6:x.prm=none:=by rfl):aK prog (k,x) :=
 ⟨⟨h1,by obtain⟨c,h⟩:=h3;exact⟨fn,c,h2,h⟩⟩,h4,h5,h6⟩
abbrev jA(n k:Nat):DOper:=⟨0,some n,.mv (.t k),none⟩
abbrev jP(n:Nat)(o:DOp):DOper:=⟨0,some n,o,none⟩
abbrev jI(i n:Nat)(o:DOp):DOper:=⟨i,some n,o,none⟩
abbrev jS(o:DOp):DOper:=⟨0,none,o,none⟩
abbrev jY(n:Nat)(o:DOp)(k:Nat):DOper:=⟨0,some n,o,some (k,true)⟩
abbrev jN(n:Nat)(o:DOp)(k:Nat):DOper:=⟨0,some n,o,some (k,false)⟩
abbrev jU(i n:Nat)(o:DOp)(k:Nat):DOper:=⟨i,some n,o,some (k,true)⟩
abbrev jV(i n:Nat)(o:DOp)(k:Nat):DOper:=⟨i,some n,o,some (k,false)⟩
abbrev jC(k:Int):AO:=.c (.int .i64 k)
abbrev jF(k:Nat)(a:List AO)(l:List Nat):DOp:=.callf false (.c (.fn (.func k) [] [])) a l
abbrev jR(l:List DOper):XCode:=.reg [] false l
abbrev jM(k:Nat):DOp:=.mv (.t k)
abbrev jL(k:Nat):DOp:=.load false 1 (.t k)
def aQt:XCode:=(.loop [1,2,3,9,10,11,12,38,39] (.seq (jR [jP 40 (.bin .lss (.t 39) (.t 38))]) (.seq (.cond (.t 40) .skip (.exit 0)) (.seq (.block 1 (.seq (jR [jA 41 39,jA 13 41]) (.seq (.reg [(10,false)] false [jA 42 10,jA 43 13,jP 44 (jF 7 [.t 43] []),jP 45 (.bin .add (.c (.str ⟨#[102,97,114,109,101,114,32,102]⟩)) (.t 44)),jP 46 (jF 6 [.t 42,.t 45] []),jP 47 (.bin .neq (.t 46) (.c (.str ⟨#[111,107]⟩)))]) (.cond (.t 47) (.seq (jR [jP 8 (.mv (.c (.bool false)))]) .ret) .skip)))) (jR [jP 48 (.bin .add (.t 39) (jC 1)),jA 39 48])))))
def aMu:XCode:=(.loop [1,2,3,9,10,11,12,14] (.seq (.seq (jR [jA 49 14,jA 50 1,jP 51 (.len false (.t 50)),jP 52 (.bin .lss (.t 49) (.t 51)),jA 53 52,jY 54 (jM 14) 53,jY 55 (.bin .lss (.t 54) (jC 20)) 53,jP 56 (.pick (.t 53) (.t 55) (.c (.bool false)))]) (.cond (.t 56) .skip (.exit 2))) (.seq (.block 3 (.seq (.reg [] true [jA 59 1,jI 1 60 (jM 14),jI 2 61 (.idx 2 (.t 59) (.t 60)),jI 3 62 (.idxa 2 1 (.t 61) (jC 0)),jI 4 63 (jL 62),jI 5 64 (.conv .i64 (.t 63)),jI 6 65 (jM 9),jI 7 66 (.bin .rem (.t 64) (.t 65)),jI 8 67 (jM 1),jI 9 68 (jM 14),jI 10 69 (.idx 2 (.t 67) (.t 68)),jI 11 70 (.idxa 2 1 (.t 69) (jC 1)),jI 12 71 (jL 70),jI 13 72 (.conv .i64 (.t 71)),jI 14 73 (.bin .mul (jC 250) (.t 72)),jI 15 15 (jM 66),jI 16 16 (jM 73)]) (.seq (.seq (.reg [(10,false)] false [jA 74 10,jA 75 16,jP 76 (.bin .add (jC 900) (.t 75)),jP 77 (jF 7 [.t 76] []),jP 78 (.bin .add (.c (.str ⟨#[119,97,103,111,110,32,119,32]⟩)) (.t 77)),jP 79 (.bin .add (.t 78) (.c (.str ⟨#[32,57,48,48,32,102]⟩))),jA 80 15,jP 81 (jF 7 [.t 80] []),jP 82 (.bin .add (.t 79) (.t 81)),jP 83 (jF 6 [.t 74,.t 82] []),jP 84 (.bin .neq (.t 83) (.c (.str ⟨#[111,107]⟩)))]) (.cond (.t 84) (.seq (jR [jP 8 (.mv (.c (.bool false)))]) .ret) .skip)) (jR [jA 85 12,jA 86 15,jP 87 (.idx 1 (.t 85) (.t 86)),jP 88 (jL 87),jA 89 16,jP 90 (.bin .add (.t 88) (.t 89)),jP 91 (.idx 1 (.t 85) (.t 86)),jS (.store 1 (.t 91) (.t 90) [])])))) (jR [jA 57 14,jP 58 (.bin .add (.t 57) (jC 1)),jA 14 58]))))
def aQs:XCode:=(.loop [2,3,9,10,11,12,17,93,94] (.seq (jR [jP 95 (.bin .lss (.t 94) (.t 93))]) (.seq (.cond (.t 95) .skip (.exit 4)) (.seq (.block 5 (.seq (jR [jA 96 94,jA 18 96]) (.seq (jR [jA 97 11,jA 98 18,jA 99 12,jA 100 18,jP 101 (.idx 1 (.t 99) (.t 100)),jP 102 (jL 101),jP 103 (.bin .quo (.t 102) (jC 1000)),jP 104 (.idx 1 (.t 97) (.t 98)),jS (.store 1 (.t 104) (.t 103) [])]) (jR [jA 105 17,jA 106 11,jA 107 18,jP 108 (.idx 1 (.t 106) (.t 107)),jP 109 (jL 108),jP 110 (.bin .add (.t 105) (.t 109)),jA 17 110])))) (jR [jP 111 (.bin .add (.t 94) (jC 1)),jA 94 111])))))
def aQr:XCode:=(.loop [10,11,12,20,22,182,183] (.seq (jR [jP 184 (.bin .lss (.t 183) (.t 182))]) (.seq (.cond (.t 184) .skip (.exit 6)) (.seq (.block 7 (.seq (jR [jA 185 183,jA 26 185]) (.seq (jR [jA 186 26,jP 187 (jF 7 [.t 186] []),jP 188 (.bin .add (.c (.str ⟨#[102]⟩)) (.t 187)),jA 27 188]) (.seq (.reg [(10,false),(22,false)] true [jA 189 10,jI 1 190 (jM 27),jI 2 191 (.bin .add (.c (.str ⟨#[112,111,119,101,114,32]⟩)) (.t 190)),jI 4 193 (jM 20),jI 5 194 (jM 26),jI 6 195 (.idx 1 (.t 193) (.t 194)),jI 7 196 (jL 195),jI 3 192 (jF 6 [.t 189,.t 191] [7]),jI 8 197 (jF 7 [.t 196] []),jI 9 198 (.bin .neq (.t 192) (.t 197)),jI 10 199 (jM 198),jV 11 200 (jM 22) 199,jV 12 201 (jM 27) 199,jV 13 202 (.bin .add (.c (.str ⟨#[112,111,119,101,114,32]⟩)) (.t 201)) 199,jV 15 204 (jM 20) 199,jV 16 205 (jM 26) 199,jV 17 206 (.idx 1 (.t 204) (.t 205)) 199,jV 18 207 (jL 206) 199,jV 14 203 (jF 6 [.t 200,.t 202] [18]) 199,jV 19 208 (jF 7 [.t 207] []) 199,jV 20 209 (.bin .neq (.t 203) (.t 208)) 199,jI 21 210 (.pick (.t 199) (.c (.bool true)) (.t 209)),jI 22 211 (jM 210),jV 23 212 (jM 22) 211,jV 24 213 (jM 27) 211,jV 25 214 (.bin .add (.c (.str ⟨#[110,101,116,32]⟩)) (.t 213)) 211,jV 27 216 (jM 12) 211,jV 28 217 (jM 26) 211,jV 29 218 (.idx 1 (.t 216) (.t 217)) 211,jV 30 219 (jL 218) 211,jV 26 215 (jF 6 [.t 212,.t 214] [30]) 211,jV 31 220 (jF 7 [.t 219] []) 211,jV 32 221 (.bin .neq (.t 215) (.t 220)) 211,jI 33 222 (.pick (.t 211) (.c (.bool true)) (.t 221)),jI 34 223 (jM 222),jV 35 224 (jM 11) 223,jV 36 225 (jM 26) 223,jV 37 226 (.idx 1 (.t 224) (.t 225)) 223,jV 38 227 (jL 226) 223,jV 39 228 (.bin .eql (.t 227) (jC 0)) 223,jV 40 229 (jM 228) 223,jU 41 230 (jM 20) 229,jU 42 231 (jM 26) 229,jU 43 232 (.idx 1 (.t 230) (.t 231)) 229,jU 44 233 (jL 232) 229,jU 45 234 (.bin .neq (.t 233) (jC 0)) 229,jV 46 235 (.pick (.t 229) (.t 234) (.c (.bool false))) 223,jI 47 236 (.pick (.t 223) (.c (.bool true)) (.t 235))]) (.cond (.t 236) (.seq (jR [jP 8 (.mv (.c (.bool false)))]) .ret) .skip))))) (jR [jP 237 (.bin .add (.t 183) (jC 1)),jA 183 237])))))
def x3:XFn:=⟨239,[(8,none)],false,false,(.seq (jR [jP 8 (.mv (.c (.bool false)))]) (.seq (jR [jA 28 0,jP 29 (.conv .i64 (.t 28)),jP 30 (.bin .rem (.t 29) (jC 5)),jP 31 (.bin .add (jC 2) (.t 30)),jA 9 31]) (.seq (jR [jP 32 (jF 5 [] []),jA 10 32]) (.seq (jR [jA 33 9,jP 34 (.mksl 1 8 [.int .i64 0] (.t 33) (.t 33)),jA 11 34]) (.seq (jR [jA 35 9,jP 36 (.mksl 1 8 [.int .i64 0] (.t 35) (.t 35)),jA 12 36]) (.seq (.seq (jR [jA 37 11,jP 38 (.len false (.t 37)),jP 39 (.mv (jC 0))]) (.block 0 aQt)) (.seq (.seq (jR [jP 14 (.mv (jC 0))]) (.block 2 aMu)) (.seq (jR [jP 17 (.mv (jC 0))]) (.seq (.seq (jR [jA 92 11,jP 93 (.len false (.t 92)),jP 94 (.mv (jC 0))]) (.block 4 aQs)) (.seq (.reg [(11,false)] false [jA 112 17,jP 113 (.bin .quo (.t 112) (jC 2)),jP 114 (.bin .add (.t 113) (jC 1)),jA 115 11,jP 116 (.build [.int .i64 0,.nilsl] [(0,(1,(.t 114))),(1,(1,(.t 115)))]),jP 117 (.bslice 2 1 [.int .i64 0,.nilsl] [(0,(2,(.t 116)))]),jP 118 (.build [.nilsl] [(0,(1,(.t 117)))]),jP 19 (.alloc [.nilsl]),jS (.store 1 (.t 19) (.t 118) [])]) (.seq (.reg [(19,true)] false [jP 120 (.load true 1 (.t 19)),jP 121 (jF 8 [.t 120] []),jA 119 121,jP 122 (.ext (.t 119) 0),jP 123 (.ext (.t 119) 1),jA 20 122,jA 21 123]) (.seq (.reg [(10,false),(2,false),(3,false)] false [jA 124 10,jP 125 (jF 10 [.t 124] []),jA 126 2,jA 127 3,jP 128 (jF 9 [.t 125,.t 126,.t 127] []),jA 22 128]) (.seq (.reg [(19,true)] false [jP 130 (.load true 1 (.t 19)),jP 131 (.bslice 1 2 [.int .i64 0] [(0,(1,(jC 0))),(1,(1,(jC 1)))]),jP 132 (jF 11 [.t 130,.t 131] []),jA 129 132,jP 133 (.ext (.t 129) 0),jP 134 (.ext (.t 129) 1),jP 23 (.alloc [.nilsl]),jS (.store 1 (.t 23) (.t 133) []),jA 24 134]) (.seq (.seq (jR [jA 135 21,jP 136 (.bin .neq (.t 135) (jC 0)),jA 137 136,jN 138 (jM 24) 137,jN 139 (.bin .neq (.t 138) (jC 0)) 137,jP 140 (.pick (.t 137) (.c (.bool true)) (.t 139)),jA 141 140,jN 142 (jM 22) 141,jN 143 (.eqn 3 false (.t 142) (.c .nilpt)) 141,jP 144 (.pick (.t 141) (.c (.bool true)) (.t 143)),jA 145 144,jN 146 (jM 20) 145,jN 147 (.len false (.t 146)) 145,jN 148 (jM 9) 145,jN 149 (.bin .neq (.t 147) (.t 148)) 145,jP 150 (.pick (.t 145) (.c (.bool true)) (.t 149))]) (.cond (.t 150) (.seq (jR [jP 8 (.mv (.c (.bool false)))]) .ret) .skip)) (.seq (.reg [(23,true)] false [jP 152 (.load true 1 (.t 23)),jP 153 (jF 8 [.t 152] []),jA 151 153,jP 154 (.ext (.t 151) 0),jP 155 (.ext (.t 151) 1),jA 25 154,jA 21 155]) (.seq (.seq (.reg [] true [jA 156 21,jI 1 157 (.bin .neq (.t 156) (jC 0)),jI 2 158 (jM 157),jV 3 159 (jM 25) 158,jV 4 160 (.len false (.t 159)) 158,jV 5 161 (jM 9) 158,jV 6 162 (.bin .sub (.t 161) (jC 1)) 158,jV 7 163 (.bin .neq (.t 160) (.t 162)) 158,jI 8 164 (.pick (.t 158) (.c (.bool true)) (.t 163)),jI 9 165 (jM 164),jV 10 166 (jM 25) 165,jV 11 167 (jM 9) 165,jV 12 168 (.bin .sub (.t 167) (jC 2)) 165,jV 13 169 (.idx 1 (.t 166) (.t 168)) 165,jV 14 170 (jL 169) 165,jV 15 171 (.bin .mul (jC 2) (.t 170)) 165,jV 16 172 (jM 20) 165,jV 17 173 (.idx 1 (.t 172) (jC 0)) 165,jV 18 174 (jL 173) 165,jV 19 175 (jM 20) 165,jV 20 176 (.idx 1 (.t 175) (jC 1)) 165,jV 21 177 (jL 176) 165,jV 22 178 (.bin .add (.t 174) (.t 177)) 165,jV 23 179 (.bin .neq (.t 171) (.t 178)) 165,jI 24 180 (.pick (.t 165) (.c (.bool true)) (.t 179))]) (.cond (.t 180) (.seq (jR [jP 8 (.mv (.c (.bool false)))]) .ret) .skip)) (.seq (.seq (jR [jA 181 11,jP 182 (.len false (.t 181)),jP 183 (.mv (jC 0))]) (.block 6 aQr)) (.seq (jR [jP 238 (jF 12 [] []),jA 8 238]) .ret)))))))))))))))))),none,none⟩
theorem is3:aK prog (3,x3):=bP (fun v w=>call3 v w) func3

def m5:RM:=⟨[],[],[]⟩
def x5:XFn:=by
 refine' (?f:(g:XFn)→(mkF prog f5 m5 false false []=g)→XFn) _ ?h
 case f=>exact fun g _=>g
 case h=>conv=>lhs;cbv
theorem is5:aK prog (5,x5):=bP (fun v w=>call5 v w) func5

def m7:RM:=⟨[],[],[]⟩
def x7:XFn:=by
 refine' (?f:(g:XFn)→(mkF prog f7 m7 false false []=g)→XFn) _ ?h
 case f=>exact fun g _=>g
 case h=>conv=>lhs;cbv
theorem is7:aK prog (7,x7):=bP (fun v w=>call7 v w) func7

def m8:RM:=⟨[],[],[]⟩
def x8:XFn:=by
 refine' (?f:(g:XFn)→(mkF prog f8 m8 false false []=g)→XFn) _ ?h
 case f=>exact fun g _=>g
 case h=>conv=>lhs;cbv
theorem is8:aK prog (8,x8):=bP (fun v w=>call8 v w) func8

def m9:RM:=⟨[(12,[(11,false)])],[[0,1,2,7,8,9]],[]⟩
def aQq:XCode:=by
 refine' (?f:(g:XCode)→(mkL prog f9 m9 0 []=g)→XCode) _ ?h
 case f=>exact fun g _=>g
 case h=>conv=>lhs;cbv
def x9:XFn:=by
 refine' (?f:(g:XCode→XFn)→(∀ a,mkF prog f9 m9 false false [a]=g a)→XFn) _ ?h
 case f=>exact fun g _=>g aQq
 case h=>intro a;conv=>lhs;cbv
theorem is9:aK prog (9,x9):=bP (fun v w=>call9 v w) func9

def m10:RM:=⟨[(1,[(0,false)]),(4,[(3,false)]),(5,[(0,false)]),(8,[(4,false),(3,false)]),(9,[(3,false)])],[],[[3]]⟩
def rX:XFn:=by
 refine' (?f:(g:XFn)→(mkF prog f10 m10 false false []=g)→XFn) _ ?h
 case f=>exact fun g _=>g
 case h=>conv=>lhs;cbv
theorem bGK:aK prog (10,rX):=⟨⟨fun vs w=>call10 vs w,_,_,func10,rfl,rfl,by kernel_rfl,by kernel_rfl⟩,by kernel_rfl,⟨aE rfl,⟨aE rfl,⟨aE rfl,⟨aE rfl,⟨⟨aE rfl,⟨by kernel_rfl,aE rfl,aE rfl⟩⟩,aE rfl⟩⟩⟩⟩⟩,rfl⟩

def m11:RM:=⟨[(1,[(2,true)]),(4,[(6,true),(1,false)]),(17,[(11,true)]),(21,[(12,true)])],[[4,5,6,8,9,40,41,42]],[[11,12]]⟩
def aMI:XCode:=by
 refine' (?f:(g:XCode)→(mkL prog f11 m11 0 []=g)→XCode) _ ?h
 case f=>exact fun g _=>g
 case h=>conv=>lhs;cbv
def x11:XFn:=by
 refine' (?f:(g:XCode→XFn)→(∀ a,mkF prog f11 m11 false false [a]=g a)→XFn) _ ?h
 case f=>exact fun g _=>g aMI
 case h=>intro a;conv=>lhs;cbv
theorem bGJ:aK prog (11,x11):=⟨⟨fun vs w=>call11 vs w,_,_,func11,rfl,rfl,by kernel_rfl,by kernel_rfl⟩,by kernel_rfl,⟨aE rfl,⟨aE rfl,⟨aE rfl,⟨aE rfl,⟨aE rfl,⟨aE rfl,⟨⟨aE rfl,⟨aE rfl,⟨aE rfl,⟨⟨aE rfl,⟨aE rfl,⟨⟨aE rfl,⟨by kernel_rfl,aE rfl,aE rfl⟩⟩,aE rfl⟩⟩⟩,aE rfl⟩⟩⟩⟩,aE rfl⟩⟩⟩⟩⟩⟩⟩,rfl⟩

def m12:RM:=⟨[(2,[(1,false)])],[],[]⟩
def x12:XFn:=by
 refine' (?f:(g:XFn)→(mkF prog f12 m12 false false []=g)→XFn) _ ?h
 case f=>exact fun g _=>g
 case h=>conv=>lhs;cbv
theorem bGI:aK prog (12,x12):=bP (fun v w=>call12 v w) func12

def m13:RM:=⟨[],[],[]⟩
def x13:XFn:=by
 refine' (?f:(g:XFn)→(mkF prog f13 m13 false false []=g)→XFn) _ ?h
 case f=>exact fun g _=>g
 case h=>conv=>lhs;cbv
theorem bGH:aK prog (13,x13):=bP (fun v w=>call13 v w) func13

def m14:RM:=⟨[],[],[]⟩
def x14:XFn:=by
 refine' (?f:(g:XFn)→(mkF prog f14 m14 false false []=g)→XFn) _ ?h
 case f=>exact fun g _=>g
 case h=>conv=>lhs;cbv
theorem bGG:aK prog (14,x14):=bP (fun v w=>call14 v w) func14

def m16:RM:=⟨[(1,[(1,true)]),(4,[(1,true)])],[],[]⟩
def x16:XFn:=by
 refine' (?f:(g:XFn)→(mkF prog f16 m16 false false []=g)→XFn) _ ?h
 case f=>exact fun g _=>g
 case h=>conv=>lhs;cbv
theorem bGF:aK prog (16,x16):=bP (fun v w=>call16 v w) func16

def m18:RM:=⟨[],[],[]⟩
def x18:XFn:=by
 refine' (?f:(g:XFn)→(mkF prog f18 m18 false false []=g)→XFn) _ ?h
 case f=>exact fun g _=>g
 case h=>conv=>lhs;cbv
theorem bGE:aK prog (18,x18):=bP (fun v w=>call18 v w) func18

def m19:RM:=⟨[],[],[]⟩
def x19:XFn:=by
 refine' (?f:(g:XFn)→(mkF prog f19 m19 false false []=g)→XFn) _ ?h
 case f=>exact fun g _=>g
 case h=>conv=>lhs;cbv
theorem bGD:aK prog (19,x19):=bP (fun v w=>call19 v w) func19

def m20:RM:=⟨[],[],[]⟩
def x20:XFn:=by
 refine' (?f:(g:XFn)→(mkF prog f20 m20 false false []=g)→XFn) _ ?h
 case f=>exact fun g _=>g
 case h=>conv=>lhs;cbv
theorem bGC:aK prog (20,x20):=bP (fun v w=>call20 v w) func20

def m21:RM:=⟨[],[],[]⟩
def x21:XFn:=by
 refine' (?f:(g:XFn)→(mkF prog f21 m21 false false []=g)→XFn) _ ?h
 case f=>exact fun g _=>g
 case h=>conv=>lhs;cbv
theorem bGB:aK prog (21,x21):=bP (fun v w=>call21 v w) func21

def m24:RM:=⟨[],[],[]⟩
def x24:XFn:=by
 refine' (?f:(g:XFn)→(mkF prog f24 m24 false false []=g)→XFn) _ ?h
 case f=>exact fun g _=>g
 case h=>conv=>lhs;cbv
theorem bGA:aK prog (24,x24):=bP (fun v w=>call24 v w) func24

def m25:RM:=⟨[],[],[]⟩
def x25:XFn:=by
 refine' (?f:(g:XFn)→(mkF prog f25 m25 false false []=g)→XFn) _ ?h
 case f=>exact fun g _=>g
 case h=>conv=>lhs;cbv
theorem bGz:aK prog (25,x25):=bP (fun v w=>call25 v w) func25

def m26:RM:=⟨[(2,[(0,false)]),(15,[(11,false)])],[[2,4,6,47],[2,6,64]],[]⟩
def aAE:XCode:=by
 refine' (?f:(g:XCode)→(mkL prog f26 m26 0 []=g)→XCode) _ ?h
 case f=>exact fun g _=>g
 case h=>conv=>lhs;cbv
def aBB:XCode:=by
 refine' (?f:(g:XCode→XCode)→(∀ a,mkL prog f26 m26 1 [a]=g a)→XCode) _ ?h
 case f=>exact fun g _=>g aAE
 case h=>intro a;conv=>lhs;cbv
def x26:XFn:=by
 refine' (?f:(g:XCode→XCode→XFn)→(∀ a b,mkF prog f26 m26 false false [a,b]=g a b)→XFn) _ ?h
 case f=>exact fun g _=>g aAE aBB
 case h=>intro a b;conv=>lhs;cbv
theorem bGy:aK prog (26,x26):=bP (fun v w=>call26 v w) func26

def m27:RM:=⟨[],[],[]⟩
def nC:XFn:=by
 refine' (?f:(g:XFn)→(mkF prog f27 m27 false false []=g)→XFn) _ ?h
 case f=>exact fun g _=>g
 case h=>conv=>lhs;cbv
theorem bGx:aK prog (27,nC):=bP (fun v w=>call27 v w) func27

def aMv:XCode:=(.loop [0,5,20,21,22] (.seq (jR [jP 23 (.bin .lss (.t 22) (.t 21))]) (.seq (.cond (.t 23) .skip (.exit 1)) (.seq (.block 2 (.seq (jR [jP 24 (.idx 1 (.t 20) (.t 22)),jP 25 (jL 24),jA 7 25]) (.reg [(7,false)] false [jA 26 5,jA 27 0,jP 28 (.nilck (.t 27)),jP 29 (.fld 0 (.t 28)),jP 30 (jL 29),jA 31 7,jP 32 (jF 63 [.t 30,.t 31] []),jP 33 (.nilck (.t 32)),jP 34 (.fld 0 (.t 33)),jP 35 (jL 34),jP 36 (.bin .add (.t 26) (.t 35)),jA 5 36]))) (jR [jP 37 (.bin .add (.t 22) (jC 1)),jA 22 37])))))
def vJ:XFn:=⟨136,[(4,none)],false,false,(.seq (jR [jP 3 (.box (.t 1)),jP 4 (.mv (.c (.str ⟨#[]⟩)))]) (.seq (jR [jP 5 (.mv (jC 0))]) (.seq (.seq (jR [jP 10 (.fld 0 (.t 3)),jP 11 (jL 10)]) (.block 0 (.seq (jR [jP 13 (.bin .eql (.t 11) (.c (.str ⟨#[116,111,116,97,108]⟩))),jA 12 13]) (.cond (.t 12) (.seq (jR [jA 14 0,jP 15 (.nilck (.t 14)),jP 16 (.fld 0 (.t 15)),jP 17 (jL 16),jP 18 (.nilck (.t 17)),jP 19 (.fld 0 (.t 18)),jP 20 (jL 19),jP 21 (.len false (.t 20)),jP 22 (.mv (jC 0))]) (.block 1 aMv)) (.seq (jR [jP 39 (.bin .eql (.t 11) (.c (.str ⟨#[110,101,116]⟩))),jA 38 39]) (.cond (.t 38) (.reg [] true [jA 40 0,jI 1 41 (.nilck (.t 40)),jI 2 42 (.fld 0 (.t 41)),jI 3 43 (jL 42),jI 4 44 (.fld 1 (.t 3)),jI 5 45 (jL 44),jI 6 46 (.idx 1 (.t 45) (jC 0)),jI 7 47 (jL 46),jI 8 48 (jF 63 [.t 43,.t 47] []),jI 9 49 (.nilck (.t 48)),jI 10 50 (.fld 0 (.t 49)),jI 11 51 (jL 50),jI 12 5 (jM 51)]) (.seq (jR [jP 53 (.bin .eql (.t 11) (.c (.str ⟨#[117,115,101,100]⟩))),jA 52 53]) (.cond (.t 52) (.reg [] true [jA 54 0,jI 1 55 (.nilck (.t 54)),jI 2 56 (.fld 1 (.t 55)),jI 3 57 (jL 56),jI 4 58 (.fld 1 (.t 3)),jI 5 59 (jL 58),jI 6 60 (.idx 1 (.t 59) (jC 0)),jI 7 61 (jL 60),jI 8 62 (jF 64 [.t 57,.t 61] []),jI 9 63 (.nilck (.t 62)),jI 10 64 (.fld 1 (.t 63)),jI 11 65 (jL 64),jI 12 5 (jM 65)]) (.seq (jR [jP 67 (.bin .eql (.t 11) (.c (.str ⟨#[108,111,115,115]⟩))),jA 66 67]) (.cond (.t 66) (.reg [] true [jA 68 0,jI 1 69 (.nilck (.t 68)),jI 2 70 (.fld 2 (.t 69)),jI 3 71 (jL 70),jI 4 72 (.fld 1 (.t 3)),jI 5 73 (jL 72),jI 6 74 (.idx 1 (.t 73) (jC 0)),jI 7 75 (jL 74),jI 8 76 (jF 65 [.t 71,.t 75] []),jI 9 77 (.nilck (.t 76)),jI 10 78 (.fld 0 (.t 77)),jI 11 79 (jL 78),jI 12 5 (jM 79)]) (.seq (jR [jP 81 (.bin .eql (.t 11) (.c (.str ⟨#[112,111,119,101,114]⟩))),jA 80 81]) (.cond (.t 80) (.reg [(0,false)] false [jA 82 0,jP 83 (.fld 1 (.t 3)),jP 84 (jL 83),jP 85 (.idx 1 (.t 84) (jC 0)),jP 86 (jL 85),jP 87 (jF 66 [.t 82,.t 86] []),jA 5 87]) (.seq (jR [jP 89 (.bin .eql (.t 11) (.c (.str ⟨#[116,105,99,107,101,116]⟩))),jA 88 89]) (.cond (.t 88) (.seq (.reg [] true [jP 90 (.fld 2 (.t 3)),jI 1 91 (jL 90),jI 2 92 (.idx 1 (.t 91) (jC 0)),jI 3 93 (jL 92),jI 4 94 (jM 0),jI 5 95 (.nilck (.t 94)),jI 6 96 (.fld 4 (.t 95)),jI 7 97 (jL 96),jI 8 98 (.len false (.t 97)),jI 9 99 (.bin .lss (.t 93) (.t 98)),jI 10 100 (jF 24 [.t 99,jC 5] [])]) (.seq (.reg [] true [jA 101 0,jI 1 102 (.nilck (.t 101)),jI 2 103 (.fld 4 (.t 102)),jI 3 104 (jL 103),jI 4 105 (.fld 2 (.t 3)),jI 5 106 (jL 105),jI 6 107 (.idx 1 (.t 106) (jC 0)),jI 7 108 (jL 107),jI 8 109 (.idx 1 (.t 104) (.t 108)),jI 9 110 (jL 109),jI 10 8 (jM 110)]) (.seq (.reg [] true [jA 111 8,jI 1 112 (.nilck (.t 111)),jI 2 113 (.fld 0 (.t 112)),jI 3 114 (jL 113),jI 4 115 (jM 8),jI 5 116 (.nilck (.t 115)),jI 6 117 (.fld 1 (.t 116)),jI 7 118 (jL 117),jI 8 119 (jM 8),jI 9 120 (.nilck (.t 119)),jI 10 121 (.fld 2 (.t 120)),jI 11 122 (jL 121),jI 12 123 (jF 23 [.t 122] [3,7]),jI 13 124 (.bslice 1 3 [(.str ⟨#[]⟩)] [(0,(1,(.t 114))),(1,(1,(.t 118))),(2,(1,(.t 123)))]),jI 14 9 (jM 124)]) (.seq (.seq (jR [jA 125 8,jP 126 (.nilck (.t 125)),jP 127 (.fld 3 (.t 126)),jP 128 (jL 127)]) (.cond (.t 128) (jR [jA 129 9,jP 130 (.bslice 1 1 [(.str ⟨#[]⟩)] [(0,(1,(.c (.str ⟨#[118,111,105,100]⟩))))]),jP 131 (.app 1 16 (.t 129) (.t 130)),jA 9 131]) .skip)) (.seq (.reg [(9,false)] false [jA 132 9,jP 133 (jF 67 [.t 132,.c (.str ⟨#[32]⟩)] []),jA 4 133]) .ret))))) .skip)))))))))))))) (.seq (jR [jA 134 5,jP 135 (jF 23 [.t 134] []),jA 4 135]) .ret)))),none,none⟩
theorem bGw:aK prog (28,vJ):=bP (fun v w=>call28 v w) func28

def m29:RM:=⟨[(1,[(2,true)]),(4,[(6,true)])],[],[]⟩
def x29:XFn:=by
 refine' (?f:(g:XFn)→(mkF prog f29 m29 false false []=g)→XFn) _ ?h
 case f=>exact fun g _=>g
 case h=>conv=>lhs;cbv
theorem bGv:aK prog (29,x29):=bP (fun v w=>call29 v w) func29

def m30:RM:=⟨[],[],[]⟩
def x30:XFn:=by
 refine' (?f:(g:XFn)→(mkF prog f30 m30 false false []=g)→XFn) _ ?h
 case f=>exact fun g _=>g
 case h=>conv=>lhs;cbv
theorem bGu:aK prog (30,x30):=bP (fun v w=>call30 v w) func30

def m31:RM:=⟨[(1,[(0,false)]),(22,[(2,false),(15,false)])],[[3,5,8,9],[2,3,58,59,60]],[]⟩
def aGB:XCode:=by
 refine' (?f:(g:XCode)→(mkL prog f31 m31 0 []=g)→XCode) _ ?h
 case f=>exact fun g _=>g
 case h=>conv=>lhs;cbv
def aJI:XCode:=by
 refine' (?f:(g:XCode→XCode)→(∀ a,mkL prog f31 m31 1 [a]=g a)→XCode) _ ?h
 case f=>exact fun g _=>g aGB
 case h=>intro a;conv=>lhs;cbv
def x31:XFn:=by
 refine' (?f:(g:XCode→XCode→XFn)→(∀ a b,mkF prog f31 m31 false false [a,b]=g a b)→XFn) _ ?h
 case f=>exact fun g _=>g aGB aJI
 case h=>intro a b;conv=>lhs;cbv
theorem bGt:aK prog (31,x31):=bP (fun v w=>call31 v w) func31

def m32:RM:=⟨[(1,[(0,false)])],[],[]⟩
def x32:XFn:=by
 refine' (?f:(g:XFn)→(mkF prog f32 m32 false false []=g)→XFn) _ ?h
 case f=>exact fun g _=>g
 case h=>conv=>lhs;cbv
theorem bGs:aK prog (32,x32):=bP (fun v w=>call32 v w) func32

def m33:RM:=⟨[],[],[]⟩
def x33:XFn:=by
 refine' (?f:(g:XFn)→(mkF prog f33 m33 false false []=g)→XFn) _ ?h
 case f=>exact fun g _=>g
 case h=>conv=>lhs;cbv
theorem bGr:aK prog (33,x33):=bP (fun v w=>call33 v w) func33

def m34:RM:=⟨[(6,[(8,false)]),(7,[(5,false)]),(9,[(6,false),(5,false)]),(10,[(5,false)])],[[1,5,6,9,10,11]],[]⟩
def aSP:XCode:=by
 refine' (?f:(g:XCode)→(mkL prog f34 m34 0 []=g)→XCode) _ ?h
 case f=>exact fun g _=>g
 case h=>conv=>lhs;cbv
def x34:XFn:=by
 refine' (?f:(g:XCode→XFn)→(∀ a,mkF prog f34 m34 false false [a]=g a)→XFn) _ ?h
 case f=>exact fun g _=>g aSP
 case h=>intro a;conv=>lhs;cbv
theorem bGq:aK prog (34,x34):=bP (fun v w=>call34 v w) func34

def m36:RM:=⟨[(1,[(1,true)]),(4,[(1,true)])],[],[]⟩
def x36:XFn:=by
 refine' (?f:(g:XFn)→(mkF prog f36 m36 false false []=g)→XFn) _ ?h
 case f=>exact fun g _=>g
 case h=>conv=>lhs;cbv
theorem bGp:aK prog (36,x36):=bP (fun v w=>call36 v w) func36

def m37:RM:=⟨[],[[2,6,7,10,11,12]],[]⟩
def aSO:XCode:=by
 refine' (?f:(g:XCode)→(mkL prog f37 m37 0 []=g)→XCode) _ ?h
 case f=>exact fun g _=>g
 case h=>conv=>lhs;cbv
def x37:XFn:=by
 refine' (?f:(g:XCode→XFn)→(∀ a,mkF prog f37 m37 false false [a]=g a)→XFn) _ ?h
 case f=>exact fun g _=>g aSO
 case h=>intro a;conv=>lhs;cbv
theorem bGo:aK prog (37,x37):=bP (fun v w=>call37 v w) func37

def m38:RM:=⟨[],[],[]⟩
def x38:XFn:=by
 refine' (?f:(g:XFn)→(mkF prog f38 m38 false false []=g)→XFn) _ ?h
 case f=>exact fun g _=>g
 case h=>conv=>lhs;cbv
theorem bGn:aK prog (38,x38):=bP (fun v w=>call38 v w) func38

def m39:RM:=⟨[(2,[(1,false)])],[],[[2,5]]⟩
def x39:XFn:=by
 refine' (?f:(g:XFn)→(mkF prog f39 m39 false false []=g)→XFn) _ ?h
 case f=>exact fun g _=>g
 case h=>conv=>lhs;cbv
theorem bGm:aK prog (39,x39):=⟨⟨fun vs w=>call39 vs w,_,_,func39,rfl,rfl,by kernel_rfl,by kernel_rfl⟩,by kernel_rfl,⟨aE rfl,⟨aE rfl,⟨⟨aE rfl,⟨by kernel_rfl,aE rfl,aE rfl⟩⟩,aE rfl⟩⟩⟩,rfl⟩

def m40:RM:=⟨[],[],[]⟩
def x40:XFn:=by
 refine' (?f:(g:XFn)→(mkF prog f40 m40 false false []=g)→XFn) _ ?h
 case f=>exact fun g _=>g
 case h=>conv=>lhs;cbv
theorem bGl:aK prog (40,x40):=bP (fun v w=>call40 v w) func40

def m41:RM:=⟨[],[],[]⟩
def x41:XFn:=by
 refine' (?f:(g:XFn)→(mkF prog f41 m41 false false []=g)→XFn) _ ?h
 case f=>exact fun g _=>g
 case h=>conv=>lhs;cbv
theorem bGk:aK prog (41,x41):=bP (fun v w=>call41 v w) func41

def m42:RM:=⟨[(1,[(1,true)]),(8,[(4,true)]),(10,[(4,true)]),(13,[(1,true)])],[[1,18,19,20]],[]⟩
def aWV:XCode:=by
 refine' (?f:(g:XCode)→(mkL prog f42 m42 0 []=g)→XCode) _ ?h
 case f=>exact fun g _=>g
 case h=>conv=>lhs;cbv
def x42:XFn:=by
 refine' (?f:(g:XCode→XFn)→(∀ a,mkF prog f42 m42 false false [a]=g a)→XFn) _ ?h
 case f=>exact fun g _=>g aWV
 case h=>intro a;conv=>lhs;cbv
theorem bGj:aK prog (42,x42):=bP (fun v w=>call42 v w) func42

def m43:RM:=⟨[],[],[]⟩
def x43:XFn:=by
 refine' (?f:(g:XFn)→(mkF prog f43 m43 false false []=g)→XFn) _ ?h
 case f=>exact fun g _=>g
 case h=>conv=>lhs;cbv
theorem bGi:aK prog (43,x43):=bP (fun v w=>call43 v w) func43

def m44:RM:=⟨[],[[4,5,6,7,11,12]],[]⟩
def aWU:XCode:=by
 refine' (?f:(g:XCode)→(mkL prog f44 m44 0 []=g)→XCode) _ ?h
 case f=>exact fun g _=>g
 case h=>conv=>lhs;cbv
def x44:XFn:=by
 refine' (?f:(g:XCode→XFn)→(∀ a,mkF prog f44 m44 false false [a]=g a)→XFn) _ ?h
 case f=>exact fun g _=>g aWU
 case h=>intro a;conv=>lhs;cbv
theorem bGh:aK prog (44,x44):=bP (fun v w=>call44 v w) func44

def m46:RM:=⟨[],[],[]⟩
def x46:XFn:=by
 refine' (?f:(g:XFn)→(mkF prog f46 m46 false false []=g)→XFn) _ ?h
 case f=>exact fun g _=>g
 case h=>conv=>lhs;cbv
theorem bGg:aK prog (46,x46):=bP (fun v w=>call46 v w) func46

def m48:RM:=⟨[(2,[(1,true),(2,true)]),(5,[(1,true),(6,false)])],[[1,2,4]],[]⟩
def aWT:XCode:=by
 refine' (?f:(g:XCode)→(mkL prog f48 m48 0 []=g)→XCode) _ ?h
 case f=>exact fun g _=>g
 case h=>conv=>lhs;cbv
def x48:XFn:=by
 refine' (?f:(g:XCode→XFn)→(∀ a,mkF prog f48 m48 false false [a]=g a)→XFn) _ ?h
 case f=>exact fun g _=>g aWT
 case h=>intro a;conv=>lhs;cbv
theorem bGf:aK prog (48,x48):=bP (fun v w=>call48 v w) func48

def m51:RM:=⟨[],[],[]⟩
def x51:XFn:=by
 refine' (?f:(g:XFn)→(mkF prog f51 m51 false false []=g)→XFn) _ ?h
 case f=>exact fun g _=>g
 case h=>conv=>lhs;cbv
theorem bGe:aK prog (51,x51):=bP (fun v w=>call51 v w) func51

def m52:RM:=⟨[],[[0,6,7,8]],[]⟩
def aSN:XCode:=by
 refine' (?f:(g:XCode)→(mkL prog f52 m52 0 []=g)→XCode) _ ?h
 case f=>exact fun g _=>g
 case h=>conv=>lhs;cbv
def x52:XFn:=by
 refine' (?f:(g:XCode→XFn)→(∀ a,mkF prog f52 m52 false false [a]=g a)→XFn) _ ?h
 case f=>exact fun g _=>g aSN
 case h=>intro a;conv=>lhs;cbv
theorem bGd:aK prog (52,x52):=bP (fun v w=>call52 v w) func52

def m54:RM:=⟨[],[],[]⟩
def x54:XFn:=by
 refine' (?f:(g:XFn)→(mkF prog f54 m54 false false []=g)→XFn) _ ?h
 case f=>exact fun g _=>g
 case h=>conv=>lhs;cbv
theorem bGc:aK prog (54,x54):=bP (fun v w=>call54 v w) func54

def m55:RM:=⟨[],[],[]⟩
def x55:XFn:=by
 refine' (?f:(g:XFn)→(mkF prog f55 m55 false false []=g)→XFn) _ ?h
 case f=>exact fun g _=>g
 case h=>conv=>lhs;cbv
theorem bGb:aK prog (55,x55):=bP (fun v w=>call55 v w) func55

def m56:RM:=⟨[],[],[]⟩
def x56:XFn:=by
 refine' (?f:(g:XFn)→(mkF prog f56 m56 false false []=g)→XFn) _ ?h
 case f=>exact fun g _=>g
 case h=>conv=>lhs;cbv
theorem bGa:aK prog (56,x56):=bP (fun v w=>call56 v w) func56

def m57:RM:=⟨[],[],[]⟩
def x57:XFn:=by
 refine' (?f:(g:XFn)→(mkF prog f57 m57 false false []=g)→XFn) _ ?h
 case f=>exact fun g _=>g
 case h=>conv=>lhs;cbv
theorem bFZ:aK prog (57,x57):=bP (fun v w=>call57 v w) func57

def m58:RM:=⟨[],[],[]⟩
def x58:XFn:=by
 refine' (?f:(g:XFn)→(mkF prog f58 m58 false false []=g)→XFn) _ ?h
 case f=>exact fun g _=>g
 case h=>conv=>lhs;cbv
theorem bFY:aK prog (58,x58):=bP (fun v w=>call58 v w) func58

def m59:RM:=⟨[],[],[]⟩
def x59:XFn:=by
 refine' (?f:(g:XFn)→(mkF prog f59 m59 false false []=g)→XFn) _ ?h
 case f=>exact fun g _=>g
 case h=>conv=>lhs;cbv
theorem bFX:aK prog (59,x59):=bP (fun v w=>call59 v w) func59

def m60:RM:=⟨[],[],[]⟩
def x60:XFn:=by
 refine' (?f:(g:XFn)→(mkF prog f60 m60 false false []=g)→XFn) _ ?h
 case f=>exact fun g _=>g
 case h=>conv=>lhs;cbv
theorem bFW:aK prog (60,x60):=bP (fun v w=>call60 v w) func60

def m61:RM:=⟨[],[],[]⟩
def x61:XFn:=by
 refine' (?f:(g:XFn)→(mkF prog f61 m61 false false []=g)→XFn) _ ?h
 case f=>exact fun g _=>g
 case h=>conv=>lhs;cbv
theorem bFV:aK prog (61,x61):=bP (fun v w=>call61 v w) func61

def m62:RM:=⟨[],[],[]⟩
def x62:XFn:=by
 refine' (?f:(g:XFn)→(mkF prog f62 m62 false false []=g)→XFn) _ ?h
 case f=>exact fun g _=>g
 case h=>conv=>lhs;cbv
theorem bFU:aK prog (62,x62):=bP (fun v w=>call62 v w) func62

def m63:RM:=⟨[],[],[]⟩
def x63:XFn:=by
 refine' (?f:(g:XFn)→(mkF prog f63 m63 false false []=g)→XFn) _ ?h
 case f=>exact fun g _=>g
 case h=>conv=>lhs;cbv
theorem bFT:aK prog (63,x63):=bP (fun v w=>call63 v w) func63

def m64:RM:=⟨[],[],[]⟩
def x64:XFn:=by
 refine' (?f:(g:XFn)→(mkF prog f64 m64 false false []=g)→XFn) _ ?h
 case f=>exact fun g _=>g
 case h=>conv=>lhs;cbv
theorem bFS:aK prog (64,x64):=bP (fun v w=>call64 v w) func64

def m65:RM:=⟨[],[],[]⟩
def x65:XFn:=by
 refine' (?f:(g:XFn)→(mkF prog f65 m65 false false []=g)→XFn) _ ?h
 case f=>exact fun g _=>g
 case h=>conv=>lhs;cbv
theorem bFR:aK prog (65,x65):=bP (fun v w=>call65 v w) func65

def m66:RM:=⟨[],[[0,1,5,6,7,26,27,28]],[]⟩
def aSM:XCode:=by
 refine' (?f:(g:XCode)→(mkL prog f66 m66 0 []=g)→XCode) _ ?h
 case f=>exact fun g _=>g
 case h=>conv=>lhs;cbv
def x66:XFn:=by
 refine' (?f:(g:XCode→XFn)→(∀ a,mkF prog f66 m66 false false [a]=g a)→XFn) _ ?h
 case f=>exact fun g _=>g aSM
 case h=>intro a;conv=>lhs;cbv
theorem bFQ:aK prog (66,x66):=bP (fun v w=>call66 v w) func66

def m68:RM:=⟨[],[[1,5,8,9]],[]⟩
def aMt:XCode:=by
 refine' (?f:(g:XCode)→(mkL prog f68 m68 0 []=g)→XCode) _ ?h
 case f=>exact fun g _=>g
 case h=>conv=>lhs;cbv
def x68:XFn:=by
 refine' (?f:(g:XCode→XFn)→(∀ a,mkF prog f68 m68 false false [a]=g a)→XFn) _ ?h
 case f=>exact fun g _=>g aMt
 case h=>intro a;conv=>lhs;cbv
theorem bFP:aK prog (68,x68):=bP (fun v w=>call68 v w) func68

def m69:RM:=⟨[(2,[(3,true),(1,true)]),(4,[(6,false),(3,true)]),(5,[(1,true),(6,false)])],[],[[1,2,3,5]]⟩
def x69:XFn:=by
 refine' (?f:(g:XFn)→(mkF prog f69 m69 false false []=g)→XFn) _ ?h
 case f=>exact fun g _=>g
 case h=>conv=>lhs;cbv
theorem bFO:aK prog (69,x69):=⟨⟨fun vs w=>call69 vs w,_,_,func69,rfl,rfl,by kernel_rfl,by kernel_rfl⟩,by kernel_rfl,⟨aE rfl,⟨aE rfl,⟨⟨aE rfl,⟨by kernel_rfl,aE rfl,aE rfl⟩⟩,aE rfl⟩⟩⟩,rfl⟩

def m70:RM:=⟨[],[],[]⟩
def x70:XFn:=by
 refine' (?f:(g:XFn)→(mkF prog f70 m70 false false []=g)→XFn) _ ?h
 case f=>exact fun g _=>g
 case h=>conv=>lhs;cbv
theorem bFN:aK prog (70,x70):=bP (fun v w=>call70 v w) func70

def m71:RM:=⟨[],[],[]⟩
def x71:XFn:=by
 refine' (?f:(g:XFn)→(mkF prog f71 m71 false false []=g)→XFn) _ ?h
 case f=>exact fun g _=>g
 case h=>conv=>lhs;cbv
theorem bFM:aK prog (71,x71):=bP (fun v w=>call71 v w) func71

def m73:RM:=⟨[],[],[]⟩
def x73:XFn:=by
 refine' (?f:(g:XFn)→(mkF prog f73 m73 false false []=g)→XFn) _ ?h
 case f=>exact fun g _=>g
 case h=>conv=>lhs;cbv
theorem bFL:aK prog (73,x73):=bP (fun v w=>call73 v w) func73

def m74:RM:=⟨[(32,[(4,false)])],[[0,1,4,5,7,8,9,35,36],[4,5,105,106,107]],[]⟩
def aSL:XCode:=by
 refine' (?f:(g:XCode)→(mkL prog f74 m74 0 []=g)→XCode) _ ?h
 case f=>exact fun g _=>g
 case h=>conv=>lhs;cbv
def aWS:XCode:=by
 refine' (?f:(g:XCode→XCode)→(∀ a,mkL prog f74 m74 1 [a]=g a)→XCode) _ ?h
 case f=>exact fun g _=>g aSL
 case h=>intro a;conv=>lhs;cbv
def x74:XFn:=by
 refine' (?f:(g:XCode→XCode→XFn)→(∀ a b,mkF prog f74 m74 false false [a,b]=g a b)→XFn) _ ?h
 case f=>exact fun g _=>g aSL aWS
 case h=>intro a b;conv=>lhs;cbv
theorem bFK:aK prog (74,x74):=bP (fun v w=>call74 v w) func74

def m76:RM:=⟨[],[[0,3,4]],[]⟩
def aMs:XCode:=by
 refine' (?f:(g:XCode)→(mkL prog f76 m76 0 []=g)→XCode) _ ?h
 case f=>exact fun g _=>g
 case h=>conv=>lhs;cbv
def x76:XFn:=by
 refine' (?f:(g:XCode→XFn)→(∀ a,mkF prog f76 m76 false false [a]=g a)→XFn) _ ?h
 case f=>exact fun g _=>g aMs
 case h=>intro a;conv=>lhs;cbv
theorem bFJ:aK prog (76,x76):=bP (fun v w=>call76 v w) func76

def m77:RM:=⟨[],[[0,2,3,5]],[]⟩
def aSK:XCode:=by
 refine' (?f:(g:XCode)→(mkL prog f77 m77 0 []=g)→XCode) _ ?h
 case f=>exact fun g _=>g
 case h=>conv=>lhs;cbv
def x77:XFn:=by
 refine' (?f:(g:XCode→XFn)→(∀ a,mkF prog f77 m77 false false [a]=g a)→XFn) _ ?h
 case f=>exact fun g _=>g aSK
 case h=>intro a;conv=>lhs;cbv
theorem bFI:aK prog (77,x77):=bP (fun v w=>call77 v w) func77

def m78:RM:=⟨[(1,[(1,false)])],[],[]⟩
def x78:XFn:=by
 refine' (?f:(g:XFn)→(mkF prog f78 m78 false false []=g)→XFn) _ ?h
 case f=>exact fun g _=>g
 case h=>conv=>lhs;cbv
theorem bFH:aK prog (78,x78):=bP (fun v w=>call78 v w) func78

def m79:RM:=⟨[],[[2,3,7,8,9]],[]⟩
def aSJ:XCode:=by
 refine' (?f:(g:XCode)→(mkL prog f79 m79 0 []=g)→XCode) _ ?h
 case f=>exact fun g _=>g
 case h=>conv=>lhs;cbv
def x79:XFn:=by
 refine' (?f:(g:XCode→XFn)→(∀ a,mkF prog f79 m79 false false [a]=g a)→XFn) _ ?h
 case f=>exact fun g _=>g aSJ
 case h=>intro a;conv=>lhs;cbv
theorem bFG:aK prog (79,x79):=bP (fun v w=>call79 v w) func79

def m80:RM:=⟨[(5,[(1,true)]),(7,[(1,true)]),(13,[(1,true)]),(15,[(5,true),(3,false)])],[[1,3,25,26,27]],[]⟩
def aMr:XCode:=by
 refine' (?f:(g:XCode)→(mkL prog f80 m80 0 []=g)→XCode) _ ?h
 case f=>exact fun g _=>g
 case h=>conv=>lhs;cbv
def x80:XFn:=by
 refine' (?f:(g:XCode→XFn)→(∀ a,mkF prog f80 m80 false false [a]=g a)→XFn) _ ?h
 case f=>exact fun g _=>g aMr
 case h=>intro a;conv=>lhs;cbv
theorem bFF:aK prog (80,x80):=bP (fun v w=>call80 v w) func80

def m81:RM:=⟨[],[[1,5,9,10,11]],[]⟩
def aMq:XCode:=by
 refine' (?f:(g:XCode)→(mkL prog f81 m81 0 []=g)→XCode) _ ?h
 case f=>exact fun g _=>g
 case h=>conv=>lhs;cbv
def x81:XFn:=by
 refine' (?f:(g:XCode→XFn)→(∀ a,mkF prog f81 m81 false false [a]=g a)→XFn) _ ?h
 case f=>exact fun g _=>g aMq
 case h=>intro a;conv=>lhs;cbv
theorem bFE:aK prog (81,x81):=bP (fun v w=>call81 v w) func81

def m82:RM:=⟨[],[],[]⟩
def x82:XFn:=by
 refine' (?f:(g:XFn)→(mkF prog f82 m82 false false []=g)→XFn) _ ?h
 case f=>exact fun g _=>g
 case h=>conv=>lhs;cbv
theorem bFD:aK prog (82,x82):=bP (fun v w=>call82 v w) func82

def m83:RM:=⟨[],[],[]⟩
def x83:XFn:=by
 refine' (?f:(g:XFn)→(mkF prog f83 m83 false false []=g)→XFn) _ ?h
 case f=>exact fun g _=>g
 case h=>conv=>lhs;cbv
theorem bFC:aK prog (83,x83):=bP (fun v w=>call83 v w) func83

def m84:RM:=⟨[(1,[(1,true)])],[[0,1]],[]⟩
def vP:XCode:=by
 refine' (?f:(g:XCode)→(mkL prog f84 m84 0 []=g)→XCode) _ ?h
 case f=>exact fun g _=>g
 case h=>conv=>lhs;cbv
def x84:XFn:=by
 refine' (?f:(g:XCode→XFn)→(∀ a,mkF prog f84 m84 false false [a]=g a)→XFn) _ ?h
 case f=>exact fun g _=>g vP
 case h=>intro a;conv=>lhs;cbv
theorem bFB:aK prog (84,x84):=bP (fun v w=>call84 v w) func84

def m85:RM:=⟨[],[],[]⟩
def x85:XFn:=by
 refine' (?f:(g:XFn)→(mkF prog f85 m85 false false []=g)→XFn) _ ?h
 case f=>exact fun g _=>g
 case h=>conv=>lhs;cbv
theorem bFA:aK prog (85,x85):=bP (fun v w=>call85 v w) func85

def x86:XFn:=⟨44,[(0,none)],false,false,(.seq (jR [jP 0 (.mv (.c (.bool false)))]) (.seq (jR [jP 9 (jF 119 [jC 2,jC 0,jC 2] []),jA 8 9,jP 10 (.ext (.t 8) 0),jP 11 (.ext (.t 8) 1),jP 1 (.alloc [.nilsl,.nilsl]),jS (.store 2 (.t 1) (.t 10) []),jA 2 11]) (.seq (.seq (jR [jA 12 2,jP 13 (.bin .neq (.t 12) (jC 0)),jA 14 13,jN 15 (.fld 1 (.t 1)) 14,jN 16 (jL 15) 14,jN 17 (.len false (.t 16)) 14,jN 18 (.bin .eql (.t 17) (jC 0)) 14,jP 19 (.pick (.t 14) (.c (.bool true)) (.t 18))]) (.cond (.t 19) (.seq (jR [jP 0 (.mv (.c (.bool false)))]) .ret) .skip)) (.seq (.reg [(1,true)] false [jP 21 (.load true 2 (.t 1)),jP 22 (jF 120 [.t 21] []),jA 20 22,jP 23 (.ext (.t 20) 0),jP 24 (.ext (.t 20) 1),jP 25 (.ext (.t 20) 2),jP 3 (.alloc [.int .i64 0,.nilsl]),jS (.store 2 (.t 3) (.t 23) []),jA 4 24,jA 5 25]) (.seq (.reg [(3,true)] false [jP 27 (.load true 2 (.t 3)),jP 28 (jF 16 [.t 27] []),jA 26 28,jP 29 (.ext (.t 26) 0),jP 30 (.ext (.t 26) 1),jP 6 (.alloc [.int .i64 0,.int .i64 0]),jS (.store 2 (.t 6) (.t 29) []),jA 7 30]) (.seq (jR [jA 31 5,jA 32 31,jY 33 (jM 7) 32,jY 34 (.bin .eql (.t 33) (jC 0)) 32,jP 35 (.pick (.t 32) (.t 34) (.c (.bool false))),jA 36 35,jY 37 (.load true 2 (.t 6)) 36,jY 38 (.build [.int .i64 0,.int .i64 0] [(0,(1,(jC 1))),(1,(1,(jC 3)))]) 36,jY 39 (.eqag false [0,0] (.t 37) (.t 38)) 36,jP 40 (.pick (.t 36) (.t 39) (.c (.bool false))),jA 41 40,jY 42 (jF 121 [] []) 41,jP 43 (.pick (.t 41) (.t 42) (.c (.bool false))),jA 0 43]) .ret)))))),none,none⟩
theorem bFz:aK prog (86,x86):=bP (fun v w=>call86 v w) func86

def m87:RM:=⟨[(1,[(1,true)])],[],[]⟩
def x87:XFn:=by
 refine' (?f:(g:XFn)→(mkF prog f87 m87 false false []=g)→XFn) _ ?h
 case f=>exact fun g _=>g
 case h=>conv=>lhs;cbv
theorem bFy:aK prog (87,x87):=bP (fun v w=>call87 v w) func87

def m88:RM:=⟨[(1,[(2,true)]),(7,[(8,true)])],[],[[1,3,4]]⟩
def x88:XFn:=by
 refine' (?f:(g:XFn)→(mkF prog f88 m88 false false []=g)→XFn) _ ?h
 case f=>exact fun g _=>g
 case h=>conv=>lhs;cbv
theorem bFx:aK prog (88,x88):=⟨⟨fun vs w=>call88 vs w,_,_,func88,rfl,rfl,by kernel_rfl,by kernel_rfl⟩,by kernel_rfl,⟨aE rfl,⟨⟨aE rfl,⟨by kernel_rfl,aE rfl,aE rfl⟩⟩,aE rfl⟩⟩,rfl⟩

def m89:RM:=⟨[(3,[(5,true)])],[[0,2,7,8,9]],[]⟩
def aWR:XCode:=by
 refine' (?f:(g:XCode)→(mkL prog f89 m89 0 []=g)→XCode) _ ?h
 case f=>exact fun g _=>g
 case h=>conv=>lhs;cbv
def x89:XFn:=by
 refine' (?f:(g:XCode→XFn)→(∀ a,mkF prog f89 m89 false false [a]=g a)→XFn) _ ?h
 case f=>exact fun g _=>g aWR
 case h=>intro a;conv=>lhs;cbv
theorem bFw:aK prog (89,x89):=bP (fun v w=>call89 v w) func89

def m90:RM:=⟨[],[[2,3,4,5,6,7,8,17,18,19],[2,5,6,8,71,72],[2,5,6,8,12],[2,3,4,5,6,7]],[]⟩
def aJH:XCode:=by
 refine' (?f:(g:XCode)→(mkL prog f90 m90 0 []=g)→XCode) _ ?h
 case f=>exact fun g _=>g
 case h=>conv=>lhs;cbv
def aMp:XCode:=by
 refine' (?f:(g:XCode→XCode)→(∀ a,mkL prog f90 m90 1 [a]=g a)→XCode) _ ?h
 case f=>exact fun g _=>g aJH
 case h=>intro a;conv=>lhs;cbv
def aSI:XCode:=by
 refine' (?f:(g:XCode→XCode→XCode)→(∀ a b,mkL prog f90 m90 2 [a,b]=g a b)→XCode) _ ?h
 case f=>exact fun g _=>g aJH aMp
 case h=>intro a b;conv=>lhs;cbv
def aWQ:XCode:=by
 refine' (?f:(g:XCode→XCode→XCode→XCode)→(∀ a b c,mkL prog f90 m90 3 [a,b,c]=g a b c)→XCode) _ ?h
 case f=>exact fun g _=>g aJH aMp aSI
 case h=>intro a b c;conv=>lhs;cbv
def x90:XFn:=by
 refine' (?f:(g:XCode→XCode→XCode→XCode→XFn)→(∀ a b c d,mkF prog f90 m90 false true [a,b,c,d]=g a b c d)→XFn) _ ?h
 case f=>exact fun g _=>g aJH aMp aSI aWQ
 case h=>intro a b c d;conv=>lhs;cbv
theorem bFv:aK prog (90,x90):=bP (fun v w=>call90 v w) func90

def m91:RM:=⟨[(8,[(5,true)])],[[2,4,5,8,9,10]],[]⟩
def aWP:XCode:=by
 refine' (?f:(g:XCode)→(mkL prog f91 m91 0 []=g)→XCode) _ ?h
 case f=>exact fun g _=>g
 case h=>conv=>lhs;cbv
def x91:XFn:=by
 refine' (?f:(g:XCode→XFn)→(∀ a,mkF prog f91 m91 false false [a]=g a)→XFn) _ ?h
 case f=>exact fun g _=>g aWP
 case h=>intro a;conv=>lhs;cbv
theorem bFu:aK prog (91,x91):=bP (fun v w=>call91 v w) func91

def m96:RM:=⟨[],[],[]⟩
def x96:XFn:=by
 refine' (?f:(g:XFn)→(mkF prog f96 m96 false false []=g)→XFn) _ ?h
 case f=>exact fun g _=>g
 case h=>conv=>lhs;cbv
theorem bFt:aK prog (96,x96):=bP (fun v w=>call96 v w) func96

def m97:RM:=⟨[],[],[]⟩
def x97:XFn:=by
 refine' (?f:(g:XFn)→(mkF prog f97 m97 false false []=g)→XFn) _ ?h
 case f=>exact fun g _=>g
 case h=>conv=>lhs;cbv
theorem bFs:aK prog (97,x97):=bP (fun v w=>call97 v w) func97

def m98:RM:=⟨[],[],[]⟩
def x98:XFn:=by
 refine' (?f:(g:XFn)→(mkF prog f98 m98 false false []=g)→XFn) _ ?h
 case f=>exact fun g _=>g
 case h=>conv=>lhs;cbv
theorem bFr:aK prog (98,x98):=bP (fun v w=>call98 v w) func98

def m99:RM:=⟨[],[],[]⟩
def x99:XFn:=by
 refine' (?f:(g:XFn)→(mkF prog f99 m99 false false []=g)→XFn) _ ?h
 case f=>exact fun g _=>g
 case h=>conv=>lhs;cbv
theorem bFq:aK prog (99,x99):=bP (fun v w=>call99 v w) func99

def bFm:RM:=⟨[],[],[]⟩
def aKY:XFn:=by
 refine' (?f:(g:XFn)→(mkF prog f100 bFm false false []=g)→XFn) _ ?h
 case f=>exact fun g _=>g
 case h=>conv=>lhs;cbv
theorem bCu:aK prog (100,aKY):=bP (fun v w=>call100 v w) func100

def bFl:RM:=⟨[],[],[]⟩
def aGE:XFn:=by
 refine' (?f:(g:XFn)→(mkF prog f101 bFl false false []=g)→XFn) _ ?h
 case f=>exact fun g _=>g
 case h=>conv=>lhs;cbv
theorem bCt:aK prog (101,aGE):=bP (fun v w=>call101 v w) func101

def bFk:RM:=⟨[],[],[]⟩
def aGD:XFn:=by
 refine' (?f:(g:XFn)→(mkF prog f102 bFk false false []=g)→XFn) _ ?h
 case f=>exact fun g _=>g
 case h=>conv=>lhs;cbv
theorem bCs:aK prog (102,aGD):=bP (fun v w=>call102 v w) func102

def bFj:RM:=⟨[],[],[]⟩
def aKX:XFn:=by
 refine' (?f:(g:XFn)→(mkF prog f103 bFj false false []=g)→XFn) _ ?h
 case f=>exact fun g _=>g
 case h=>conv=>lhs;cbv
theorem bCr:aK prog (103,aKX):=bP (fun v w=>call103 v w) func103

def bFi:RM:=⟨[],[],[]⟩
def aGC:XFn:=by
 refine' (?f:(g:XFn)→(mkF prog f104 bFi false false []=g)→XFn) _ ?h
 case f=>exact fun g _=>g
 case h=>conv=>lhs;cbv
theorem bCq:aK prog (104,aGC):=bP (fun v w=>call104 v w) func104

def bAG:RM:=⟨[(2,[(2,true)])],[[0,1,2,4]],[]⟩
def aIi:XCode:=by
 refine' (?f:(g:XCode)→(mkL prog f106 bAG 0 []=g)→XCode) _ ?h
 case f=>exact fun g _=>g
 case h=>conv=>lhs;cbv
def x106:XFn:=by
 refine' (?f:(g:XCode→XFn)→(∀ a,mkF prog f106 bAG false false [a]=g a)→XFn) _ ?h
 case f=>exact fun g _=>g aIi
 case h=>intro a;conv=>lhs;cbv
theorem bCp:aK prog (106,x106):=bP (fun v w=>call106 v w) func106

def bAF:RM:=⟨[],[[0,7,8,9]],[]⟩
def aIh:XCode:=by
 refine' (?f:(g:XCode)→(mkL prog f107 bAF 0 []=g)→XCode) _ ?h
 case f=>exact fun g _=>g
 case h=>conv=>lhs;cbv
def x107:XFn:=by
 refine' (?f:(g:XCode→XFn)→(∀ a,mkF prog f107 bAF false false [a]=g a)→XFn) _ ?h
 case f=>exact fun g _=>g aIh
 case h=>intro a;conv=>lhs;cbv
theorem bCo:aK prog (107,x107):=bP (fun v w=>call107 v w) func107

def bFh:RM:=⟨[(3,[(1,false)])],[],[]⟩
def x109:XFn:=by
 refine' (?f:(g:XFn)→(mkF prog f109 bFh false false []=g)→XFn) _ ?h
 case f=>exact fun g _=>g
 case h=>conv=>lhs;cbv
theorem bCn:aK prog (109,x109):=bP (fun v w=>call109 v w) func109

def bAE:RM:=⟨[],[[2,3,4,6,8]],[]⟩
def aMK:XCode:=by
 refine' (?f:(g:XCode)→(mkL prog f110 bAE 0 []=g)→XCode) _ ?h
 case f=>exact fun g _=>g
 case h=>conv=>lhs;cbv
def x110:XFn:=by
 refine' (?f:(g:XCode→XFn)→(∀ a,mkF prog f110 bAE false false [a]=g a)→XFn) _ ?h
 case f=>exact fun g _=>g aMK
 case h=>intro a;conv=>lhs;cbv
theorem bCm:aK prog (110,x110):=bP (fun v w=>call110 v w) func110

def bFg:RM:=⟨[],[],[]⟩
def x111:XFn:=by
 refine' (?f:(g:XFn)→(mkF prog f111 bFg false false []=g)→XFn) _ ?h
 case f=>exact fun g _=>g
 case h=>conv=>lhs;cbv
theorem bCl:aK prog (111,x111):=bP (fun v w=>call111 v w) func111

def bAD:RM:=⟨[],[[5,10,11]],[]⟩
def aMJ:XCode:=by
 refine' (?f:(g:XCode)→(mkL prog f114 bAD 0 []=g)→XCode) _ ?h
 case f=>exact fun g _=>g
 case h=>conv=>lhs;cbv
def x114:XFn:=by
 refine' (?f:(g:XCode→XFn)→(∀ a,mkF prog f114 bAD false false [a]=g a)→XFn) _ ?h
 case f=>exact fun g _=>g aMJ
 case h=>intro a;conv=>lhs;cbv
theorem bCk:aK prog (114,x114):=bP (fun v w=>call114 v w) func114

def bFf:RM:=⟨[(1,[(0,false)])],[],[]⟩
def x115:XFn:=by
 refine' (?f:(g:XFn)→(mkF prog f115 bFf false false []=g)→XFn) _ ?h
 case f=>exact fun g _=>g
 case h=>conv=>lhs;cbv
theorem bCj:aK prog (115,x115):=bP (fun v w=>call115 v w) func115

def bFe:RM:=⟨[(1,[(0,false),(1,false)])],[],[]⟩
def x116:XFn:=by
 refine' (?f:(g:XFn)→(mkF prog f116 bFe false false []=g)→XFn) _ ?h
 case f=>exact fun g _=>g
 case h=>conv=>lhs;cbv
theorem bCi:aK prog (116,x116):=bP (fun v w=>call116 v w) func116

def bFd:RM:=⟨[],[],[]⟩
def aYi:XFn:=by
 refine' (?f:(g:XFn)→(mkF prog f117 bFd false false []=g)→XFn) _ ?h
 case f=>exact fun g _=>g
 case h=>conv=>lhs;cbv
theorem bCh:aK prog (117,aYi):=bP (fun v w=>call117 v w) func117

def bFc:RM:=⟨[],[],[]⟩
def aYh:XFn:=by
 refine' (?f:(g:XFn)→(mkF prog f118 bFc false false []=g)→XFn) _ ?h
 case f=>exact fun g _=>g
 case h=>conv=>lhs;cbv
theorem bCg:aK prog (118,aYh):=bP (fun v w=>call118 v w) func118

def bFb:RM:=⟨[(1,[(0,false),(1,false),(2,false)])],[],[]⟩
def aYg:XFn:=by
 refine' (?f:(g:XFn)→(mkF prog f119 bFb false false []=g)→XFn) _ ?h
 case f=>exact fun g _=>g
 case h=>conv=>lhs;cbv
theorem bCf:aK prog (119,aYg):=bP (fun v w=>call119 v w) func119

def aRK:RM:=⟨[],[[1,2,5,6,20,21],[2,5,6,8,50,51,52,57,58,59],[2,5,6,50,51,52]],[]⟩
def aIg:XCode:=by
 refine' (?f:(g:XCode)→(mkL prog f120 aRK 0 []=g)→XCode) _ ?h
 case f=>exact fun g _=>g
 case h=>conv=>lhs;cbv
def aMH:XCode:=by
 refine' (?f:(g:XCode→XCode)→(∀ a,mkL prog f120 aRK 1 [a]=g a)→XCode) _ ?h
 case f=>exact fun g _=>g aIg
 case h=>intro a;conv=>lhs;cbv
def aUh:XCode:=by
 refine' (?f:(g:XCode→XCode→XCode)→(∀ a b,mkL prog f120 aRK 2 [a,b]=g a b)→XCode) _ ?h
 case f=>exact fun g _=>g aIg aMH
 case h=>intro a b;conv=>lhs;cbv
def aYf:XFn:=by
 refine' (?f:(g:XCode→XCode→XCode→XFn)→(∀ a b c,mkF prog f120 aRK false false [a,b,c]=g a b c)→XFn) _ ?h
 case f=>exact fun g _=>g aIg aMH aUh
 case h=>intro a b c;conv=>lhs;cbv
theorem bCe:aK prog (120,aYf):=bP (fun v w=>call120 v w) func120

def x121:XFn:=⟨20,[(0,none)],false,false,(.seq (jR [jP 0 (.mv (.c (.bool false)))]) (.seq (jR [jP 4 (jF 14 [jC 10,jC 20] []),jP 5 (.build [.int .u8 0,.int .u8 0,.int .u8 0,.int .u8 0,.int .u8 0,.int .u8 0] [(0,(1,(.c (.int .u8 0)))),(1,(1,(.c (.int .u8 70)))),(2,(1,(.c (.int .u8 1)))),(3,(1,(.c (.int .u8 0)))),(4,(1,(.c (.int .u8 0)))),(5,(1,(.c (.int .u8 0))))]),jP 6 (jF 13 [.t 4,.t 5] []),jP 7 (jF 16 [.t 6] []),jA 3 7,jP 8 (.ext (.t 3) 0),jP 9 (.ext (.t 3) 1),jP 1 (.alloc [.int .i64 0,.int .i64 0]),jS (.store 2 (.t 1) (.t 8) []),jA 2 9]) (.seq (jR [jA 10 2,jP 11 (.bin .eql (.t 10) (jC 0)),jA 12 11,jY 13 (.load true 2 (.t 1)) 12,jY 14 (.build [.int .i64 0,.int .i64 0] [(0,(1,(jC 35))),(1,(1,(jC 1)))]) 12,jY 15 (.eqag false [0,0] (.t 13) (.t 14)) 12,jP 16 (.pick (.t 12) (.t 15) (.c (.bool false))),jA 17 16,jY 18 (jF 145 [] []) 17,jP 19 (.pick (.t 17) (.t 18) (.c (.bool false))),jA 0 19]) .ret))),none,none⟩
theorem bCd:aK prog (121,x121):=bP (fun v w=>call121 v w) func121

def bAC:RM:=⟨[],[[0,2,3]],[]⟩
def aUg:XCode:=by
 refine' (?f:(g:XCode)→(mkL prog f122 bAC 0 []=g)→XCode) _ ?h
 case f=>exact fun g _=>g
 case h=>conv=>lhs;cbv
def aYe:XFn:=by
 refine' (?f:(g:XCode→XFn)→(∀ a,mkF prog f122 bAC true false [a]=g a)→XFn) _ ?h
 case f=>exact fun g _=>g aUg
 case h=>intro a;conv=>lhs;cbv
theorem bCc:aK prog (122,aYe):=bP (fun v w=>call122 v w) func122

def bAB:RM:=⟨[],[[1,2,3,4]],[]⟩
def aUf:XCode:=by
 refine' (?f:(g:XCode)→(mkL prog f123 bAB 0 []=g)→XCode) _ ?h
 case f=>exact fun g _=>g
 case h=>conv=>lhs;cbv
def aYd:XFn:=by
 refine' (?f:(g:XCode→XFn)→(∀ a,mkF prog f123 bAB false false [a]=g a)→XFn) _ ?h
 case f=>exact fun g _=>g aUf
 case h=>intro a;conv=>lhs;cbv
theorem bCb:aK prog (123,aYd):=bP (fun v w=>call123 v w) func123

def bFa:RM:=⟨[(1,[(0,false)])],[],[]⟩
def x138:XFn:=by
 refine' (?f:(g:XFn)→(mkF prog f138 bFa false false []=g)→XFn) _ ?h
 case f=>exact fun g _=>g
 case h=>conv=>lhs;cbv
theorem bCa:aK prog (138,x138):=bP (fun v w=>call138 v w) func138

def bAA:RM:=⟨[],[[0,1,7,8]],[]⟩
def aIf:XCode:=by
 refine' (?f:(g:XCode)→(mkL prog f142 bAA 0 []=g)→XCode) _ ?h
 case f=>exact fun g _=>g
 case h=>conv=>lhs;cbv
def x142:XFn:=by
 refine' (?f:(g:XCode→XFn)→(∀ a,mkF prog f142 bAA false false [a]=g a)→XFn) _ ?h
 case f=>exact fun g _=>g aIf
 case h=>intro a;conv=>lhs;cbv
theorem bBZ:aK prog (142,x142):=bP (fun v w=>call142 v w) func142

def bEZ:RM:=⟨[(3,[(1,false)]),(5,[(2,false),(3,false)])],[],[]⟩
def aYc:XFn:=by
 refine' (?f:(g:XFn)→(mkF prog f143 bEZ false false []=g)→XFn) _ ?h
 case f=>exact fun g _=>g
 case h=>conv=>lhs;cbv
theorem bBY:aK prog (143,aYc):=bP (fun v w=>call143 v w) func143

def bEY:RM:=⟨[],[],[]⟩
def aYb:XFn:=by
 refine' (?f:(g:XFn)→(mkF prog f144 bEY false false []=g)→XFn) _ ?h
 case f=>exact fun g _=>g
 case h=>conv=>lhs;cbv
theorem bBX:aK prog (144,aYb):=bP (fun v w=>call144 v w) func144

def bEX:RM:=⟨[(2,[(1,true)]),(4,[(5,true)])],[],[]⟩
def x145:XFn:=by
 refine' (?f:(g:XFn)→(mkF prog f145 bEX false false []=g)→XFn) _ ?h
 case f=>exact fun g _=>g
 case h=>conv=>lhs;cbv
theorem bBW:aK prog (145,x145):=bP (fun v w=>call145 v w) func145

def bEW:RM:=⟨[],[],[]⟩
def aYa:XFn:=by
 refine' (?f:(g:XFn)→(mkF prog f159 bEW false false []=g)→XFn) _ ?h
 case f=>exact fun g _=>g
 case h=>conv=>lhs;cbv
theorem bBV:aK prog (159,aYa):=bP (fun v w=>call159 v w) func159

def bEV:RM:=⟨[],[],[]⟩
def aXZ:XFn:=by
 refine' (?f:(g:XFn)→(mkF prog f167 bEV false false []=g)→XFn) _ ?h
 case f=>exact fun g _=>g
 case h=>conv=>lhs;cbv
theorem bBU:aK prog (167,aXZ):=bP (fun v w=>call167 v w) func167

def bEU:RM:=⟨[(1,[(3,true),(0,false),(1,false)])],[],[]⟩
def aXY:XFn:=by
 refine' (?f:(g:XFn)→(mkF prog f168 bEU false false []=g)→XFn) _ ?h
 case f=>exact fun g _=>g
 case h=>conv=>lhs;cbv
theorem bBT:aK prog (168,aXY):=bP (fun v w=>call168 v w) func168

def bET:RM:=⟨[],[],[]⟩
def aXX:XFn:=by
 refine' (?f:(g:XFn)→(mkF prog f169 bET false false []=g)→XFn) _ ?h
 case f=>exact fun g _=>g
 case h=>conv=>lhs;cbv
theorem bBS:aK prog (169,aXX):=bP (fun v w=>call169 v w) func169

def aVF:RM:=⟨[(3,[(1,true)]),(5,[(6,false)]),(6,[(6,false)]),(9,[(1,true),(4,true),(5,true)]),(24,[(10,true)])],[[1,2,4,5,7],[1,2,5,10,11,51,52,53]],[[1,4,5]]⟩
def aMG:XCode:=by
 refine' (?f:(g:XCode)→(mkL prog f170 aVF 0 []=g)→XCode) _ ?h
 case f=>exact fun g _=>g
 case h=>conv=>lhs;cbv
def aUe:XCode:=by
 refine' (?f:(g:XCode→XCode)→(∀ a,mkL prog f170 aVF 1 [a]=g a)→XCode) _ ?h
 case f=>exact fun g _=>g aMG
 case h=>intro a;conv=>lhs;cbv
def aXW:XFn:=by
 refine' (?f:(g:XCode→XCode→XFn)→(∀ a b,mkF prog f170 aVF false false [a,b]=g a b)→XFn) _ ?h
 case f=>exact fun g _=>g aMG aUe
 case h=>intro a b;conv=>lhs;cbv
theorem bBR:aK prog (170,aXW):=⟨⟨fun vs w=>call170 vs w,_,_,func170,rfl,rfl,by kernel_rfl,by kernel_rfl⟩,by kernel_rfl,⟨aE rfl,⟨aE rfl,⟨aE rfl,⟨⟨aE rfl,⟨by kernel_rfl,aE rfl,aE rfl⟩⟩,aE rfl⟩⟩⟩⟩,rfl⟩

def bAz:RM:=⟨[(1,[(1,true)]),(4,[(5,false)]),(7,[(5,false)]),(8,[(8,true),(6,true)]),(11,[(6,true)])],[[1,2,5,6,7]],[]⟩
def aUd:XCode:=by
 refine' (?f:(g:XCode)→(mkL prog f171 bAz 0 []=g)→XCode) _ ?h
 case f=>exact fun g _=>g
 case h=>conv=>lhs;cbv
def aXV:XFn:=by
 refine' (?f:(g:XCode→XFn)→(∀ a,mkF prog f171 bAz false false [a]=g a)→XFn) _ ?h
 case f=>exact fun g _=>g aUd
 case h=>intro a;conv=>lhs;cbv
theorem bBQ:aK prog (171,aXV):=bP (fun v w=>call171 v w) func171

def bES:RM:=⟨[(1,[(1,true)]),(4,[(5,true)])],[],[]⟩
def aXU:XFn:=by
 refine' (?f:(g:XFn)→(mkF prog f172 bES false false []=g)→XFn) _ ?h
 case f=>exact fun g _=>g
 case h=>conv=>lhs;cbv
theorem bBP:aK prog (172,aXU):=bP (fun v w=>call172 v w) func172

def bER:RM:=⟨[],[],[]⟩
def aXT:XFn:=by
 refine' (?f:(g:XFn)→(mkF prog f186 bER false false []=g)→XFn) _ ?h
 case f=>exact fun g _=>g
 case h=>conv=>lhs;cbv
theorem bBO:aK prog (186,aXT):=bP (fun v w=>call186 v w) func186

def aVE:RM:=⟨[],[[2,3,8,9,11,12,18,19,20,29,30],[2,3,8,9,18,19,20]],[]⟩
def aMF:XCode:=by
 refine' (?f:(g:XCode)→(mkL prog f187 aVE 0 []=g)→XCode) _ ?h
 case f=>exact fun g _=>g
 case h=>conv=>lhs;cbv
def aUc:XCode:=by
 refine' (?f:(g:XCode→XCode)→(∀ a,mkL prog f187 aVE 1 [a]=g a)→XCode) _ ?h
 case f=>exact fun g _=>g aMF
 case h=>intro a;conv=>lhs;cbv
def aXS:XFn:=by
 refine' (?f:(g:XCode→XCode→XFn)→(∀ a b,mkF prog f187 aVE false false [a,b]=g a b)→XFn) _ ?h
 case f=>exact fun g _=>g aMF aUc
 case h=>intro a b;conv=>lhs;cbv
theorem bBN:aK prog (187,aXS):=bP (fun v w=>call187 v w) func187

def bEQ:RM:=⟨[(1,[(1,false)])],[],[]⟩
def aXR:XFn:=by
 refine' (?f:(g:XFn)→(mkF prog f188 bEQ false false []=g)→XFn) _ ?h
 case f=>exact fun g _=>g
 case h=>conv=>lhs;cbv
theorem bBM:aK prog (188,aXR):=bP (fun v w=>call188 v w) func188

def bEP:RM:=⟨[],[],[]⟩
def aXQ:XFn:=by
 refine' (?f:(g:XFn)→(mkF prog f189 bEP false false []=g)→XFn) _ ?h
 case f=>exact fun g _=>g
 case h=>conv=>lhs;cbv
theorem bBL:aK prog (189,aXQ):=bP (fun v w=>call189 v w) func189

def aVD:RM:=⟨[(3,[(1,true)]),(7,[(6,false),(7,false)]),(15,[(9,false)]),(17,[(10,false),(9,false)])],[[1,2,3,4,9,10,29,30,31,36,37],[1,2,3,4,29,30,31]],[[3,4,5]]⟩
def aME:XCode:=by
 refine' (?f:(g:XCode)→(mkL prog f190 aVD 0 []=g)→XCode) _ ?h
 case f=>exact fun g _=>g
 case h=>conv=>lhs;cbv
def aUb:XCode:=by
 refine' (?f:(g:XCode→XCode)→(∀ a,mkL prog f190 aVD 1 [a]=g a)→XCode) _ ?h
 case f=>exact fun g _=>g aME
 case h=>intro a;conv=>lhs;cbv
def aXP:XFn:=by
 refine' (?f:(g:XCode→XCode→XFn)→(∀ a b,mkF prog f190 aVD false false [a,b]=g a b)→XFn) _ ?h
 case f=>exact fun g _=>g aME aUb
 case h=>intro a b;conv=>lhs;cbv
theorem bBK:aK prog (190,aXP):=⟨⟨fun vs w=>call190 vs w,_,_,func190,rfl,rfl,by kernel_rfl,by kernel_rfl⟩,by kernel_rfl,⟨aE rfl,⟨aE rfl,⟨aE rfl,⟨⟨aE rfl,⟨by kernel_rfl,aE rfl,aE rfl⟩⟩,aE rfl⟩⟩⟩⟩,rfl⟩

def bEO:RM:=⟨[(1,[(1,true)]),(4,[(1,true)]),(5,[(5,false)])],[],[]⟩
def aXO:XFn:=by
 refine' (?f:(g:XFn)→(mkF prog f191 bEO false false []=g)→XFn) _ ?h
 case f=>exact fun g _=>g
 case h=>conv=>lhs;cbv
theorem bBJ:aK prog (191,aXO):=bP (fun v w=>call191 v w) func191

def bAy:RM:=⟨[(5,[(0,false)]),(6,[(0,false),(1,false),(7,true),(5,true)])],[[0,1,4,5,12,13]],[]⟩
def aUa:XCode:=by
 refine' (?f:(g:XCode)→(mkL prog f192 bAy 0 []=g)→XCode) _ ?h
 case f=>exact fun g _=>g
 case h=>conv=>lhs;cbv
def aXN:XFn:=by
 refine' (?f:(g:XCode→XFn)→(∀ a,mkF prog f192 bAy false false [a]=g a)→XFn) _ ?h
 case f=>exact fun g _=>g aUa
 case h=>intro a;conv=>lhs;cbv
theorem bBI:aK prog (192,aXN):=bP (fun v w=>call192 v w) func192

def bEN:RM:=⟨[],[],[]⟩
def aXM:XFn:=by
 refine' (?f:(g:XFn)→(mkF prog f193 bEN false false []=g)→XFn) _ ?h
 case f=>exact fun g _=>g
 case h=>conv=>lhs;cbv
theorem bBH:aK prog (193,aXM):=bP (fun v w=>call193 v w) func193

def bEM:RM:=⟨[],[],[]⟩
def aXL:XFn:=by
 refine' (?f:(g:XFn)→(mkF prog f194 bEM false false []=g)→XFn) _ ?h
 case f=>exact fun g _=>g
 case h=>conv=>lhs;cbv
theorem bBG:aK prog (194,aXL):=bP (fun v w=>call194 v w) func194

def aVC:RM:=⟨[(1,[(1,true)])],[[5,8,21,22,23,27,28,29],[5,21,22,23]],[]⟩
def aMD:XCode:=by
 refine' (?f:(g:XCode)→(mkL prog f195 aVC 0 []=g)→XCode) _ ?h
 case f=>exact fun g _=>g
 case h=>conv=>lhs;cbv
def aTZ:XCode:=by
 refine' (?f:(g:XCode→XCode)→(∀ a,mkL prog f195 aVC 1 [a]=g a)→XCode) _ ?h
 case f=>exact fun g _=>g aMD
 case h=>intro a;conv=>lhs;cbv
def aXK:XFn:=by
 refine' (?f:(g:XCode→XCode→XFn)→(∀ a b,mkF prog f195 aVC false false [a,b]=g a b)→XFn) _ ?h
 case f=>exact fun g _=>g aMD aTZ
 case h=>intro a b;conv=>lhs;cbv
theorem bBF:aK prog (195,aXK):=bP (fun v w=>call195 v w) func195

def bEL:RM:=⟨[(1,[(3,true)]),(7,[(2,true),(3,true)]),(9,[(2,true),(3,true),(8,false)])],[],[[2,3,7]]⟩
def aXJ:XFn:=by
 refine' (?f:(g:XFn)→(mkF prog f196 bEL false false []=g)→XFn) _ ?h
 case f=>exact fun g _=>g
 case h=>conv=>lhs;cbv
theorem bBE:aK prog (196,aXJ):=⟨⟨fun vs w=>call196 vs w,_,_,func196,rfl,rfl,by kernel_rfl,by kernel_rfl⟩,by kernel_rfl,⟨aE rfl,⟨aE rfl,⟨aE rfl,⟨aE rfl,⟨⟨aE rfl,⟨by kernel_rfl,aE rfl,aE rfl⟩⟩,aE rfl⟩⟩⟩⟩⟩,rfl⟩

def bEK:RM:=⟨[(0,[(0,true),(1,true)]),(2,[(0,true),(1,true)])],[],[[0,1,2,3,4]]⟩
def aXI:XFn:=by
 refine' (?f:(g:XFn)→(mkF prog f197 bEK false false []=g)→XFn) _ ?h
 case f=>exact fun g _=>g
 case h=>conv=>lhs;cbv
theorem bBD:aK prog (197,aXI):=⟨⟨fun vs w=>call197 vs w,_,_,func197,rfl,rfl,by kernel_rfl,by kernel_rfl⟩,by kernel_rfl,⟨aE rfl,⟨by kernel_rfl,aE rfl,aE rfl⟩⟩,rfl⟩

def bEJ:RM:=⟨[],[],[]⟩
def aXH:XFn:=by
 refine' (?f:(g:XFn)→(mkF prog f198 bEJ false false []=g)→XFn) _ ?h
 case f=>exact fun g _=>g
 case h=>conv=>lhs;cbv
theorem bBC:aK prog (198,aXH):=bP (fun v w=>call198 v w) func198

def bEI:RM:=⟨[(2,[(0,false)])],[],[]⟩
def aXG:XFn:=by
 refine' (?f:(g:XFn)→(mkF prog f199 bEI false false []=g)→XFn) _ ?h
 case f=>exact fun g _=>g
 case h=>conv=>lhs;cbv
theorem bBB:aK prog (199,aXG):=bP (fun v w=>call199 v w) func199

def aVB:RM:=⟨[(4,[(5,true)]),(8,[(5,true)]),(11,[(5,true)])],[[0,1,3,4,5,33,34],[0,1,3,4]],[]⟩
def aMC:XCode:=by
 refine' (?f:(g:XCode)→(mkL prog f205 aVB 0 []=g)→XCode) _ ?h
 case f=>exact fun g _=>g
 case h=>conv=>lhs;cbv
def aTY:XCode:=by
 refine' (?f:(g:XCode→XCode)→(∀ a,mkL prog f205 aVB 1 [a]=g a)→XCode) _ ?h
 case f=>exact fun g _=>g aMC
 case h=>intro a;conv=>lhs;cbv
def aXF:XFn:=by
 refine' (?f:(g:XCode→XCode→XFn)→(∀ a b,mkF prog f205 aVB false false [a,b]=g a b)→XFn) _ ?h
 case f=>exact fun g _=>g aMC aTY
 case h=>intro a b;conv=>lhs;cbv
theorem bBA:aK prog (205,aXF):=bP (fun v w=>call205 v w) func205

def bEH:RM:=⟨[],[],[]⟩
def aXE:XFn:=by
 refine' (?f:(g:XFn)→(mkF prog f206 bEH true false []=g)→XFn) _ ?h
 case f=>exact fun g _=>g
 case h=>conv=>lhs;cbv
theorem bBz:aK prog (206,aXE):=bP (fun v w=>call206 v w) func206

def bEG:RM:=⟨[],[],[]⟩
def aXD:XFn:=by
 refine' (?f:(g:XFn)→(mkF prog f207 bEG true true []=g)→XFn) _ ?h
 case f=>exact fun g _=>g
 case h=>conv=>lhs;cbv
theorem bBy:aK prog (207,aXD):=bP (fun v w=>call207 v w) func207

def bAx:RM:=⟨[(1,[(1,true)]),(8,[(4,true)]),(10,[(4,true)])],[[1,32,33,34]],[]⟩
def aTX:XCode:=by
 refine' (?f:(g:XCode)→(mkL prog f208 bAx 0 []=g)→XCode) _ ?h
 case f=>exact fun g _=>g
 case h=>conv=>lhs;cbv
def aXC:XFn:=by
 refine' (?f:(g:XCode→XFn)→(∀ a,mkF prog f208 bAx false false [a]=g a)→XFn) _ ?h
 case f=>exact fun g _=>g aTX
 case h=>intro a;conv=>lhs;cbv
theorem bBx:aK prog (208,aXC):=bP (fun v w=>call208 v w) func208

def aVA:RM:=⟨[],[[1,3,12,13],[3,34,35,36]],[]⟩
def aMB:XCode:=by
 refine' (?f:(g:XCode)→(mkL prog f209 aVA 0 []=g)→XCode) _ ?h
 case f=>exact fun g _=>g
 case h=>conv=>lhs;cbv
def aTW:XCode:=by
 refine' (?f:(g:XCode→XCode)→(∀ a,mkL prog f209 aVA 1 [a]=g a)→XCode) _ ?h
 case f=>exact fun g _=>g aMB
 case h=>intro a;conv=>lhs;cbv
def aXB:XFn:=by
 refine' (?f:(g:XCode→XCode→XFn)→(∀ a b,mkF prog f209 aVA false false [a,b]=g a b)→XFn) _ ?h
 case f=>exact fun g _=>g aMB aTW
 case h=>intro a b;conv=>lhs;cbv
theorem bBw:aK prog (209,aXB):=bP (fun v w=>call209 v w) func209

def aRJ:RM:=⟨[(4,[(0,false)]),(11,[(0,false)])],[[0,4,5,6,10,11,23,24],[0,4,10,11,23,24],[0,10,11]],[]⟩
def aIe:XCode:=by
 refine' (?f:(g:XCode)→(mkL prog f210 aRJ 0 []=g)→XCode) _ ?h
 case f=>exact fun g _=>g
 case h=>conv=>lhs;cbv
def aMA:XCode:=by
 refine' (?f:(g:XCode→XCode)→(∀ a,mkL prog f210 aRJ 1 [a]=g a)→XCode) _ ?h
 case f=>exact fun g _=>g aIe
 case h=>intro a;conv=>lhs;cbv
def aTV:XCode:=by
 refine' (?f:(g:XCode→XCode→XCode)→(∀ a b,mkL prog f210 aRJ 2 [a,b]=g a b)→XCode) _ ?h
 case f=>exact fun g _=>g aIe aMA
 case h=>intro a b;conv=>lhs;cbv
def aXA:XFn:=by
 refine' (?f:(g:XCode→XCode→XCode→XFn)→(∀ a b c,mkF prog f210 aRJ false false [a,b,c]=g a b c)→XFn) _ ?h
 case f=>exact fun g _=>g aIe aMA aTV
 case h=>intro a b c;conv=>lhs;cbv
theorem bBv:aK prog (210,aXA):=bP (fun v w=>call210 v w) func210

def bEF:RM:=⟨[],[],[]⟩
def aXz:XFn:=by
 refine' (?f:(g:XFn)→(mkF prog f211 bEF false false []=g)→XFn) _ ?h
 case f=>exact fun g _=>g
 case h=>conv=>lhs;cbv
theorem bBu:aK prog (211,aXz):=bP (fun v w=>call211 v w) func211

def aVz:RM:=⟨[],[[3,4,5,6,7,8,20,21],[3,4,5,6,20,21]],[]⟩
def aMz:XCode:=by
 refine' (?f:(g:XCode)→(mkL prog f212 aVz 0 []=g)→XCode) _ ?h
 case f=>exact fun g _=>g
 case h=>conv=>lhs;cbv
def aTU:XCode:=by
 refine' (?f:(g:XCode→XCode)→(∀ a,mkL prog f212 aVz 1 [a]=g a)→XCode) _ ?h
 case f=>exact fun g _=>g aMz
 case h=>intro a;conv=>lhs;cbv
def aXy:XFn:=by
 refine' (?f:(g:XCode→XCode→XFn)→(∀ a b,mkF prog f212 aVz false false [a,b]=g a b)→XFn) _ ?h
 case f=>exact fun g _=>g aMz aTU
 case h=>intro a b;conv=>lhs;cbv
theorem bBt:aK prog (212,aXy):=bP (fun v w=>call212 v w) func212

def bAw:RM:=⟨[(4,[(8,true),(4,true)])],[[0,4,6,9,10,11]],[]⟩
def aTT:XCode:=by
 refine' (?f:(g:XCode)→(mkL prog f213 bAw 0 []=g)→XCode) _ ?h
 case f=>exact fun g _=>g
 case h=>conv=>lhs;cbv
def aXx:XFn:=by
 refine' (?f:(g:XCode→XFn)→(∀ a,mkF prog f213 bAw false false [a]=g a)→XFn) _ ?h
 case f=>exact fun g _=>g aTT
 case h=>intro a;conv=>lhs;cbv
theorem bBs:aK prog (213,aXx):=bP (fun v w=>call213 v w) func213

def bEE:RM:=⟨[],[],[]⟩
def aXw:XFn:=by
 refine' (?f:(g:XFn)→(mkF prog f214 bEE false false []=g)→XFn) _ ?h
 case f=>exact fun g _=>g
 case h=>conv=>lhs;cbv
theorem bBr:aK prog (214,aXw):=bP (fun v w=>call214 v w) func214

def bAv:RM:=⟨[(3,[(0,false)]),(9,[(0,false),(5,true),(7,true)])],[[0,1,5,6,7,9,10]],[]⟩
def aTS:XCode:=by
 refine' (?f:(g:XCode)→(mkL prog f215 bAv 0 []=g)→XCode) _ ?h
 case f=>exact fun g _=>g
 case h=>conv=>lhs;cbv
def aXv:XFn:=by
 refine' (?f:(g:XCode→XFn)→(∀ a,mkF prog f215 bAv false false [a]=g a)→XFn) _ ?h
 case f=>exact fun g _=>g aTS
 case h=>intro a;conv=>lhs;cbv
theorem bBq:aK prog (215,aXv):=bP (fun v w=>call215 v w) func215

def bED:RM:=⟨[],[],[]⟩
def aXu:XFn:=by
 refine' (?f:(g:XFn)→(mkF prog f216 bED false false []=g)→XFn) _ ?h
 case f=>exact fun g _=>g
 case h=>conv=>lhs;cbv
theorem bBp:aK prog (216,aXu):=bP (fun v w=>call216 v w) func216

def aVy:RM:=⟨[(6,[(4,false)]),(15,[(7,true)]),(17,[(7,true)]),(20,[(1,true)]),(23,[(1,true)])],[[1,14,15,16],[1,31,32,33]],[]⟩
def aMy:XCode:=by
 refine' (?f:(g:XCode)→(mkL prog f217 aVy 0 []=g)→XCode) _ ?h
 case f=>exact fun g _=>g
 case h=>conv=>lhs;cbv
def aTR:XCode:=by
 refine' (?f:(g:XCode→XCode)→(∀ a,mkL prog f217 aVy 1 [a]=g a)→XCode) _ ?h
 case f=>exact fun g _=>g aMy
 case h=>intro a;conv=>lhs;cbv
def aXt:XFn:=by
 refine' (?f:(g:XCode→XCode→XFn)→(∀ a b,mkF prog f217 aVy false false [a,b]=g a b)→XFn) _ ?h
 case f=>exact fun g _=>g aMy aTR
 case h=>intro a b;conv=>lhs;cbv
theorem bBo:aK prog (217,aXt):=bP (fun v w=>call217 v w) func217

def bEC:RM:=⟨[(1,[(0,false)])],[],[]⟩
def aXs:XFn:=by
 refine' (?f:(g:XFn)→(mkF prog f218 bEC false false []=g)→XFn) _ ?h
 case f=>exact fun g _=>g
 case h=>conv=>lhs;cbv
theorem bBn:aK prog (218,aXs):=bP (fun v w=>call218 v w) func218

def bAu:RM:=⟨[(3,[(2,true)])],[[0,1,2,10,11]],[]⟩
def aTQ:XCode:=by
 refine' (?f:(g:XCode)→(mkL prog f219 bAu 0 []=g)→XCode) _ ?h
 case f=>exact fun g _=>g
 case h=>conv=>lhs;cbv
def aXr:XFn:=by
 refine' (?f:(g:XCode→XFn)→(∀ a,mkF prog f219 bAu false false [a]=g a)→XFn) _ ?h
 case f=>exact fun g _=>g aTQ
 case h=>intro a;conv=>lhs;cbv
theorem bBm:aK prog (219,aXr):=bP (fun v w=>call219 v w) func219

def bEB:RM:=⟨[],[],[]⟩
def aXq:XFn:=by
 refine' (?f:(g:XFn)→(mkF prog f220 bEB false false []=g)→XFn) _ ?h
 case f=>exact fun g _=>g
 case h=>conv=>lhs;cbv
theorem bBl:aK prog (220,aXq):=bP (fun v w=>call220 v w) func220

def bEA:RM:=⟨[(1,[(0,false),(1,false)])],[],[]⟩
def aXp:XFn:=by
 refine' (?f:(g:XFn)→(mkF prog f221 bEA false false []=g)→XFn) _ ?h
 case f=>exact fun g _=>g
 case h=>conv=>lhs;cbv
theorem bBk:aK prog (221,aXp):=bP (fun v w=>call221 v w) func221

def bEz:RM:=⟨[],[],[]⟩
def aXo:XFn:=by
 refine' (?f:(g:XFn)→(mkF prog f224 bEz false false []=g)→XFn) _ ?h
 case f=>exact fun g _=>g
 case h=>conv=>lhs;cbv
theorem bBj:aK prog (224,aXo):=bP (fun v w=>call224 v w) func224

def aXn:XFn:=⟨72,[(8,none)],false,false,(.seq (jR [jP 8 (.mv (.c (.bool false)))]) (.seq (.block 0 (.seq (jR [jA 10 1,jA 11 2,jP 12 (.bin .eql (.t 10) (.t 11)),jA 13 12,jY 14 (jM 2) 13,jY 15 (jM 3) 13,jY 16 (.bin .eql (.t 14) (.t 15)) 13,jP 17 (.pick (.t 13) (.t 16) (.c (.bool false))),jA 9 17]) (.cond (.t 9) (.seq (.reg [] true [jA 18 0,jI 1 19 (jM 1),jI 2 20 (.nilck (.t 18)),jI 3 21 (.fld 1 (.t 20)),jI 4 22 (.idxa 30 1 (.t 21) (.t 19)),jI 5 23 (jL 22),jI 6 24 (jM 0),jI 7 25 (jM 1),jI 8 26 (.nilck (.t 24)),jI 9 27 (.fld 31 (.t 26)),jI 10 28 (.idxa 30 1 (.t 27) (.t 25)),jI 11 29 (jL 28),jI 12 30 (.bin .gtr (.t 23) (.t 29)),jI 13 8 (jM 30)]) .ret) (.seq (jR [jA 32 1,jA 33 2,jP 34 (.bin .lss (.t 32) (.t 33)),jA 35 34,jY 36 (jM 2) 35,jY 37 (jM 3) 35,jY 38 (.bin .lss (.t 36) (.t 37)) 35,jP 39 (.pick (.t 35) (.t 38) (.c (.bool false))),jA 31 39]) (.cond (.t 31) (.seq (.reg [] true [jA 40 0,jI 1 41 (jM 1),jI 2 42 (.nilck (.t 40)),jI 3 43 (.fld 1 (.t 42)),jI 4 44 (.idxa 30 1 (.t 43) (.t 41)),jI 5 45 (jL 44),jI 6 46 (jM 3),jI 7 47 (jM 2),jI 8 48 (.bin .sub (.t 46) (.t 47)),jI 9 49 (.bin .mul (.t 45) (.t 48)),jI 10 50 (jM 0),jI 11 51 (jM 3),jI 12 52 (.nilck (.t 50)),jI 13 53 (.fld 1 (.t 52)),jI 14 54 (.idxa 30 1 (.t 53) (.t 51)),jI 15 55 (jL 54),jI 16 56 (jM 2),jI 17 57 (jM 1),jI 18 58 (.bin .sub (.t 56) (.t 57)),jI 19 59 (.bin .mul (.t 55) (.t 58)),jI 20 60 (.bin .add (.t 49) (.t 59)),jI 21 61 (jM 0),jI 22 62 (jM 2),jI 23 63 (.nilck (.t 61)),jI 24 64 (.fld 31 (.t 63)),jI 25 65 (.idxa 30 1 (.t 64) (.t 62)),jI 26 66 (jL 65),jI 27 67 (jM 3),jI 28 68 (jM 1),jI 29 69 (.bin .sub (.t 67) (.t 68)),jI 30 70 (.bin .mul (.t 66) (.t 69)),jI 31 71 (.bin .gtr (.t 60) (.t 70)),jI 32 8 (jM 71)]) .ret) .skip))))) (.seq (jR [jP 8 (.mv (.c (.bool false)))]) .ret))),none,none⟩
theorem bBi:aK prog (225,aXn):=bP (fun v w=>call225 v w) func225

def bEy:RM:=⟨[(0,[(2,true),(0,false),(3,true)]),(1,[(7,true),(4,true)])],[],[]⟩
def aXm:XFn:=by
 refine' (?f:(g:XFn)→(mkF prog f226 bEy false false []=g)→XFn) _ ?h
 case f=>exact fun g _=>g
 case h=>conv=>lhs;cbv
theorem bBh:aK prog (226,aXm):=bP (fun v w=>call226 v w) func226

def bEx:RM:=⟨[],[],[]⟩
def aXl:XFn:=by
 refine' (?f:(g:XFn)→(mkF prog f227 bEx false false []=g)→XFn) _ ?h
 case f=>exact fun g _=>g
 case h=>conv=>lhs;cbv
theorem bBg:aK prog (227,aXl):=bP (fun v w=>call227 v w) func227

def bEw:RM:=⟨[(1,[(4,true),(3,true)])],[],[]⟩
def aXk:XFn:=by
 refine' (?f:(g:XFn)→(mkF prog f228 bEw false false []=g)→XFn) _ ?h
 case f=>exact fun g _=>g
 case h=>conv=>lhs;cbv
theorem bBf:aK prog (228,aXk):=bP (fun v w=>call228 v w) func228

def bEv:RM:=⟨[(2,[(0,false)]),(4,[(6,true),(5,true)])],[],[[5]]⟩
def aXj:XFn:=by
 refine' (?f:(g:XFn)→(mkF prog f229 bEv false false []=g)→XFn) _ ?h
 case f=>exact fun g _=>g
 case h=>conv=>lhs;cbv
theorem bBe:aK prog (229,aXj):=⟨⟨fun vs w=>call229 vs w,_,_,func229,rfl,rfl,by kernel_rfl,by kernel_rfl⟩,by kernel_rfl,⟨aE rfl,⟨aE rfl,⟨⟨aE rfl,⟨by kernel_rfl,aE rfl,aE rfl⟩⟩,aE rfl⟩⟩⟩,rfl⟩

def bAt:RM:=⟨[(7,[(5,true)])],[[3,10,11,12]],[]⟩
def aTP:XCode:=by
 refine' (?f:(g:XCode)→(mkL prog f230 bAt 0 []=g)→XCode) _ ?h
 case f=>exact fun g _=>g
 case h=>conv=>lhs;cbv
def aXi:XFn:=by
 refine' (?f:(g:XCode→XFn)→(∀ a,mkF prog f230 bAt false false [a]=g a)→XFn) _ ?h
 case f=>exact fun g _=>g aTP
 case h=>intro a;conv=>lhs;cbv
theorem bBd:aK prog (230,aXi):=bP (fun v w=>call230 v w) func230

def bEu:RM:=⟨[],[],[]⟩
def aXh:XFn:=by
 refine' (?f:(g:XFn)→(mkF prog f231 bEu false false []=g)→XFn) _ ?h
 case f=>exact fun g _=>g
 case h=>conv=>lhs;cbv
theorem bBc:aK prog (231,aXh):=bP (fun v w=>call231 v w) func231

def bEt:RM:=⟨[],[],[]⟩
def aXg:XFn:=by
 refine' (?f:(g:XFn)→(mkF prog f232 bEt false false []=g)→XFn) _ ?h
 case f=>exact fun g _=>g
 case h=>conv=>lhs;cbv
theorem bBb:aK prog (232,aXg):=bP (fun v w=>call232 v w) func232

def aVx:RM:=⟨[],[[1,3,9,10,11,18,19,20],[1,3,9,10,11]],[]⟩
def aMx:XCode:=by
 refine' (?f:(g:XCode)→(mkL prog f233 aVx 0 []=g)→XCode) _ ?h
 case f=>exact fun g _=>g
 case h=>conv=>lhs;cbv
def aTO:XCode:=by
 refine' (?f:(g:XCode→XCode)→(∀ a,mkL prog f233 aVx 1 [a]=g a)→XCode) _ ?h
 case f=>exact fun g _=>g aMx
 case h=>intro a;conv=>lhs;cbv
def aXf:XFn:=by
 refine' (?f:(g:XCode→XCode→XFn)→(∀ a b,mkF prog f233 aVx false false [a,b]=g a b)→XFn) _ ?h
 case f=>exact fun g _=>g aMx aTO
 case h=>intro a b;conv=>lhs;cbv
theorem bBa:aK prog (233,aXf):=bP (fun v w=>call233 v w) func233

def bEs:RM:=⟨[],[],[]⟩
def aXe:XFn:=by
 refine' (?f:(g:XFn)→(mkF prog f234 bEs false false []=g)→XFn) _ ?h
 case f=>exact fun g _=>g
 case h=>conv=>lhs;cbv
theorem bAZ:aK prog (234,aXe):=bP (fun v w=>call234 v w) func234

def bAs:RM:=⟨[],[[1,5,8,9,10]],[]⟩
def aTN:XCode:=by
 refine' (?f:(g:XCode)→(mkL prog f235 bAs 0 []=g)→XCode) _ ?h
 case f=>exact fun g _=>g
 case h=>conv=>lhs;cbv
def aXd:XFn:=by
 refine' (?f:(g:XCode→XFn)→(∀ a,mkF prog f235 bAs false false [a]=g a)→XFn) _ ?h
 case f=>exact fun g _=>g aTN
 case h=>intro a;conv=>lhs;cbv
theorem bAY:aK prog (235,aXd):=bP (fun v w=>call235 v w) func235

def bEr:RM:=⟨[(2,[(1,false)])],[],[[2,5]]⟩
def aXc:XFn:=by
 refine' (?f:(g:XFn)→(mkF prog f236 bEr false false []=g)→XFn) _ ?h
 case f=>exact fun g _=>g
 case h=>conv=>lhs;cbv
theorem bAX:aK prog (236,aXc):=⟨⟨fun vs w=>call236 vs w,_,_,func236,rfl,rfl,by kernel_rfl,by kernel_rfl⟩,by kernel_rfl,⟨aE rfl,⟨aE rfl,⟨⟨aE rfl,⟨by kernel_rfl,aE rfl,aE rfl⟩⟩,aE rfl⟩⟩⟩,rfl⟩

def bEq:RM:=⟨[],[],[]⟩
def aXb:XFn:=by
 refine' (?f:(g:XFn)→(mkF prog f237 bEq false false []=g)→XFn) _ ?h
 case f=>exact fun g _=>g
 case h=>conv=>lhs;cbv
theorem bAW:aK prog (237,aXb):=bP (fun v w=>call237 v w) func237

def bEp:RM:=⟨[],[],[]⟩
def aXa:XFn:=by
 refine' (?f:(g:XFn)→(mkF prog f238 bEp false false []=g)→XFn) _ ?h
 case f=>exact fun g _=>g
 case h=>conv=>lhs;cbv
theorem bAV:aK prog (238,aXa):=bP (fun v w=>call238 v w) func238

def bEo:RM:=⟨[],[],[]⟩
def aWZ:XFn:=by
 refine' (?f:(g:XFn)→(mkF prog f239 bEo false false []=g)→XFn) _ ?h
 case f=>exact fun g _=>g
 case h=>conv=>lhs;cbv
theorem bAU:aK prog (239,aWZ):=bP (fun v w=>call239 v w) func239

def bEn:RM:=⟨[],[],[]⟩
def aWY:XFn:=by
 refine' (?f:(g:XFn)→(mkF prog f240 bEn false false []=g)→XFn) _ ?h
 case f=>exact fun g _=>g
 case h=>conv=>lhs;cbv
theorem bAT:aK prog (240,aWY):=bP (fun v w=>call240 v w) func240

def aVw:RM:=⟨[(5,[(2,true),(1,true)])],[[0,1,2,4,5,6,7],[0,1,2,6,7]],[]⟩
def aMw:XCode:=by
 refine' (?f:(g:XCode)→(mkL prog f241 aVw 0 []=g)→XCode) _ ?h
 case f=>exact fun g _=>g
 case h=>conv=>lhs;cbv
def aTM:XCode:=by
 refine' (?f:(g:XCode→XCode)→(∀ a,mkL prog f241 aVw 1 [a]=g a)→XCode) _ ?h
 case f=>exact fun g _=>g aMw
 case h=>intro a;conv=>lhs;cbv
def aWX:XFn:=by
 refine' (?f:(g:XCode→XCode→XFn)→(∀ a b,mkF prog f241 aVw false false [a,b]=g a b)→XFn) _ ?h
 case f=>exact fun g _=>g aMw aTM
 case h=>intro a b;conv=>lhs;cbv
theorem bAS:aK prog (241,aWX):=bP (fun v w=>call241 v w) func241

def bAr:RM:=⟨[(1,[(1,true)])],[[0,1]],[]⟩
def aTL:XCode:=by
 refine' (?f:(g:XCode)→(mkL prog f242 bAr 0 []=g)→XCode) _ ?h
 case f=>exact fun g _=>g
 case h=>conv=>lhs;cbv
def aWW:XFn:=by
 refine' (?f:(g:XCode→XFn)→(∀ a,mkF prog f242 bAr false false [a]=g a)→XFn) _ ?h
 case f=>exact fun g _=>g aTL
 case h=>intro a;conv=>lhs;cbv
theorem bAR:aK prog (242,aWW):=bP (fun v w=>call242 v w) func242

def bEm:RM:=⟨[(1,[(2,true),(1,false)])],[],[]⟩
def x258:XFn:=by
 refine' (?f:(g:XFn)→(mkF prog f258 bEm false false []=g)→XFn) _ ?h
 case f=>exact fun g _=>g
 case h=>conv=>lhs;cbv
theorem bAQ:aK prog (258,x258):=bP (fun v w=>call258 v w) func258

def bEl:RM:=⟨[(1,[(0,false)])],[],[]⟩
def x264:XFn:=by
 refine' (?f:(g:XFn)→(mkF prog f264 bEl false false []=g)→XFn) _ ?h
 case f=>exact fun g _=>g
 case h=>conv=>lhs;cbv
theorem bAP:aK prog (264,x264):=bP (fun v w=>call264 v w) func264

def bEk:RM:=⟨[(1,[(0,false),(1,false)])],[],[]⟩
def x265:XFn:=by
 refine' (?f:(g:XFn)→(mkF prog f265 bEk false false []=g)→XFn) _ ?h
 case f=>exact fun g _=>g
 case h=>conv=>lhs;cbv
theorem bAO:aK prog (265,x265):=bP (fun v w=>call265 v w) func265

def bEj:RM:=⟨[(1,[(1,true)])],[],[]⟩
def x266:XFn:=by
 refine' (?f:(g:XFn)→(mkF prog f266 bEj false false []=g)→XFn) _ ?h
 case f=>exact fun g _=>g
 case h=>conv=>lhs;cbv
theorem bAN:aK prog (266,x266):=bP (fun v w=>call266 v w) func266

def bAq:RM:=⟨[],[[0,1,7,8]],[]⟩
def aId:XCode:=by
 refine' (?f:(g:XCode)→(mkL prog f267 bAq 0 []=g)→XCode) _ ?h
 case f=>exact fun g _=>g
 case h=>conv=>lhs;cbv
def x267:XFn:=by
 refine' (?f:(g:XCode→XFn)→(∀ a,mkF prog f267 bAq false false [a]=g a)→XFn) _ ?h
 case f=>exact fun g _=>g aId
 case h=>intro a;conv=>lhs;cbv
theorem bAM:aK prog (267,x267):=bP (fun v w=>call267 v w) func267

end Go.Proofs.YtjckchgdlbgolaaGreatDoor
end
