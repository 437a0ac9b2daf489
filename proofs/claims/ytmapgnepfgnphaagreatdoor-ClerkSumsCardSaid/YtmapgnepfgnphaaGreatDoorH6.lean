/- Parts of a proof, joined: G0. No statement of the seed is proved here. -/
import Derived.KernelRfl
import Derived.Test.YtmapgnepfgnphaaGreatDoorProg
import Derived.Test.YtmapgnepfgnphaaGreatDoorH5
set_option linter.unusedSimpArgs false
set_option linter.unusedVariables false
set_option linter.unusedSectionVars false
set_option maxRecDepth 100000
section
namespace Go.Proofs.YtmapgnepfgnphaaGreatDoor
open Go Go.DL Go.Proofs.Tryz

theorem dQ{k:Nat}{x:XFn}{fn:Func}(h1:∀(vs:Array Value)(w:World),(callFunc k vs).run prog w = .ok (.enter k vs) w)(h2:prog.funcs[k]?=some fn)(h3:∃ c,fn.body=some c∧fn.ntmps=x.fn.N∧fn.results.toList.mapM (zD prog)=some x.fn.res∧aGi prog x.fn.N c=some (x.fn.dfr,x.fn.body):=by exact⟨_,rfl,rfl,by kernel_rfl,by kernel_rfl⟩)(h4:okD x=true:=by kernel_rfl)(h5:fG x x.body:=by exact aO rfl)(h6:x.prm=none:=by rfl):aQ prog (k,x) :=
 ⟨⟨h1,by obtain⟨c,h⟩:=h3;exact⟨fn,c,h2,h⟩⟩,h4,h5,h6⟩
abbrev jA(n k:Nat):DOper:=⟨0,some n,.mv (.t k),none⟩
abbrev jP(n:Nat)(o:DOp):DOper:=⟨0,some n,o,none⟩
abbrev jI(i n:Nat)(o:DOp):DOper:=⟨i,some n,o,none⟩
abbrev jS(o:DOp):DOper:=⟨0,none,o,none⟩
abbrev jT(i:Nat)(o:DOp):DOper:=⟨i,none,o,none⟩
abbrev jY(n:Nat)(o:DOp)(k:Nat):DOper:=⟨0,some n,o,some (k,true)⟩
abbrev jN(n:Nat)(o:DOp)(k:Nat):DOper:=⟨0,some n,o,some (k,false)⟩
abbrev jC(k:Int):AO:=.c (.int .i64 k)
abbrev jF(k:Nat)(a:List AO)(l:List Nat):DOp:=.callf false (.c (.fn (.func k) [] [])) a l
abbrev jR(l:List DOper):XCode:=.reg [] false l
abbrev jM(k:Nat):DOp:=.mv (.t k)
abbrev jL(k:Nat):DOp:=.load false 1 (.t k)
def aQq:XCode:=(.loop [0,3,4,5,6,7,8,9,10,144,145] (.seq (jR [jP 146 (.bin .lss (.t 145) (.t 144))]) (.seq (.cond (.t 146) .skip (.exit 3)) (.seq (.block 4 (.seq (jR [jA 147 145,jA 17 147]) (jR [jA 148 9,jA 149 17,jP 150 (.idx 4 (.t 148) (.t 149)),jP 151 (.fld 3 (.t 150)),jS (.store 1 (.t 151) (.c (.bool true)) [])]))) (jR [jP 152 (.bin .add (.t 145) (jC 1)),jA 145 152])))))
def nN:XCode:=(.loop [0,3,4,5,6,7,8,9,10] (.seq (.seq (jR [jA 27 10,jA 28 0,jP 29 (.len false (.t 28)),jP 30 (.bin .lss (.t 27) (.t 29)),jA 31 30,jY 32 (jM 10) 31,jY 33 (.bin .lss (.t 32) (jC 25)) 31,jP 34 (.pick (.t 31) (.t 33) (.c (.bool false)))]) (.cond (.t 34) .skip (.exit 0))) (.seq (.block 1 (.seq (jR [jA 37 0,jA 38 10,jP 39 (.idx 4 (.t 37) (.t 38)),jP 40 (.load true 4 (.t 39)),jP 11 (.alloc [.int .u8 0,.int .u8 0,.int .u8 0,.int .u8 0]),jS (.store 4 (.t 11) (.t 40) [])]) (.seq (jR [jP 41 (.idxa 4 1 (.t 11) (jC 1)),jP 42 (jL 41),jP 43 (.conv .i64 (.t 42)),jP 44 (.bin .rem (.t 43) (jC 4)),jA 12 44]) (.seq (jR [jP 45 (.load true 4 (.t 11)),jP 46 (jF 32 [.t 45] []),jA 13 46]) (.seq (.reg [(3,false)] false [jA 47 3,jA 48 13,jP 49 (jF 21 [.t 47,.t 48] []),jP 50 (.bin .eql (.t 49) (.c (.str ⟨#[111,107]⟩))),jA 14 50]) (.seq (jR [jA 51 13,jP 52 (.len true (.t 51)),jP 53 (.bin .gtr (.t 52) (jC 5)),jA 54 53,jY 55 (jM 13) 54,jY 56 (.slstr (.t 55) none (some (jC 5))) 54,jY 57 (.bin .eql (.t 56) (.c (.str ⟨#[118,111,105,100,32]⟩))) 54,jP 58 (.pick (.t 54) (.t 57) (.c (.bool false))),jA 15 58]) (.seq (.seq (jR [jA 59 15]) (.cond (.t 59) (.seq (jR [jP 60 (.idxa 4 1 (.t 11) (jC 2)),jP 61 (jL 60),jP 62 (.conv .i64 (.t 61)),jP 63 (.bin .rem (.t 62) (jC 8)),jA 16 63]) (.seq (.seq (jR [jA 64 14,jA 65 16,jA 66 9,jP 67 (.len false (.t 66)),jP 68 (.bin .lss (.t 65) (.t 67)),jA 69 68,jY 70 (jM 9) 69,jY 71 (jM 16) 69,jY 72 (jM 9) 69,jY 73 (.len false (.t 72)) 69,jY 74 (.bin .sub (.t 73) (jC 1)) 69,jY 75 (.mm false (.t 71) (.t 74)) 69,jY 76 (.idx 4 (.t 70) (.t 75)) 69,jY 77 (.fld 2 (.t 76)) 69,jY 78 (jL 77) 69,jY 79 (.not (.t 78)) 69,jP 80 (.pick (.t 69) (.t 79) (.c (.bool false))),jA 81 80,jY 82 (jM 9) 81,jY 83 (jM 16) 81,jY 84 (jM 9) 81,jY 85 (.len false (.t 84)) 81,jY 86 (.bin .sub (.t 85) (jC 1)) 81,jY 87 (.mm false (.t 83) (.t 86)) 81,jY 88 (.idx 4 (.t 82) (.t 87)) 81,jY 89 (.fld 3 (.t 88)) 81,jY 90 (jL 89) 81,jY 91 (.not (.t 90)) 81,jP 92 (.pick (.t 81) (.t 91) (.c (.bool false))),jP 93 (.binb true (.t 64) (.t 92))]) (.cond (.t 93) (.seq (jR [jP 2 (.mv (.c (.bool false)))]) .ret) .skip)) (.seq (.seq (jR [jA 94 14]) (.cond (.t 94) (.seq (jR [jA 95 9,jA 96 16,jP 97 (.idx 4 (.t 95) (.t 96)),jP 98 (.fld 2 (.t 97)),jS (.store 1 (.t 98) (.c (.bool true)) [])]) (.reg [] true [jA 99 9,jI 1 100 (jM 16),jI 2 101 (.idx 4 (.t 99) (.t 100)),jI 3 102 (.fld 0 (.t 101)),jI 4 103 (jL 102),jI 5 104 (.idxa 4 1 (.t 4) (.t 103)),jI 6 105 (jL 104),jI 7 106 (jM 9),jI 8 107 (jM 16),jI 9 108 (.idx 4 (.t 106) (.t 107)),jI 10 109 (.fld 1 (.t 108)),jI 11 110 (jL 109),jI 12 111 (.bin .sub (.t 105) (.t 110)),jI 13 112 (.idxa 4 1 (.t 4) (.t 103)),jT 14 (.store 1 (.t 112) (.t 111) [])])) .skip)) (.exit 1)))) .skip)) (.seq (.seq (jR [jA 113 14,jP 114 (.not (.t 113))]) (.cond (.t 114) (.exit 1) .skip)) (.seq (jR [jP 115 (.idxa 4 1 (.t 11) (jC 0)),jP 116 (jL 115),jP 117 (.bin .rem (.t 116) (.c (.int .u8 12)))]) (.block 2 (.seq (.seq (jR [jP 119 (.bin .eql (.t 117) (.c (.int .u8 2))),jA 118 119]) (.cond (.t 118) .skip (.seq (jR [jP 120 (.bin .eql (.t 117) (.c (.int .u8 3))),jA 118 120]) (.cond (.t 118) .skip (.seq (jR [jP 121 (.bin .eql (.t 117) (.c (.int .u8 4))),jA 118 121]) (.cond (.t 118) .skip (jR [jP 122 (.bin .eql (.t 117) (.c (.int .u8 5))),jA 118 122]))))))) (.cond (.t 118) (.seq (jR [jA 123 9,jA 124 12,jP 125 (.idxa 4 1 (.t 11) (jC 2)),jP 126 (jL 125),jP 127 (.conv .i64 (.t 126)),jP 128 (.bin .mul (jC 40) (.t 127)),jP 129 (.build [.int .i64 0,.int .i64 0,.bool false,.bool false] [(0,(1,(.t 124))),(1,(1,(.t 128)))]),jP 130 (.bslice 4 1 [.int .i64 0,.int .i64 0,.bool false,.bool false] [(0,(4,(.t 129)))]),jP 131 (.app 4 24 (.t 123) (.t 130)),jA 9 131]) (.reg [] true [jA 132 12,jI 1 133 (.idxa 4 1 (.t 4) (.t 132)),jI 2 134 (jL 133),jI 3 135 (.idxa 4 1 (.t 11) (jC 2)),jI 4 136 (jL 135),jI 5 137 (.conv .i64 (.t 136)),jI 6 138 (.bin .mul (jC 40) (.t 137)),jI 7 139 (.bin .add (.t 134) (.t 138)),jI 8 140 (.idxa 4 1 (.t 4) (.t 132)),jT 9 (.store 1 (.t 140) (.t 139) [])])) (.seq (jR [jP 142 (.bin .eql (.t 117) (.c (.int .u8 7))),jA 141 142]) (.cond (.t 141) (.seq (jR [jA 143 9,jP 144 (.len false (.t 143)),jP 145 (.mv (jC 0))]) (.block 3 aQq)) (.seq (.seq (jR [jP 154 (.bin .eql (.t 117) (.c (.int .u8 8))),jA 153 154]) (.cond (.t 153) .skip (jR [jP 155 (.bin .eql (.t 117) (.c (.int .u8 9))),jA 153 155]))) (.cond (.t 153) (.seq (jR [jP 156 (.idxa 4 1 (.t 11) (jC 2)),jP 157 (jL 156),jP 158 (.conv .i64 (.t 157)),jP 159 (.bin .mul (jC 390) (.t 158)),jA 18 159]) (.seq (.seq (jR [jA 160 12,jP 161 (.idxa 4 1 (.t 8) (.t 160)),jP 162 (jL 161)]) (.cond (.t 162) (.seq (.reg [] true [jA 163 12,jI 1 164 (.idxa 4 1 (.t 5) (.t 163)),jI 2 165 (jL 164),jI 3 166 (jM 18),jI 4 167 (jM 12),jI 5 168 (.idxa 4 1 (.t 7) (.t 167)),jI 6 169 (jL 168),jI 7 170 (.bin .sub (.t 166) (.t 169)),jI 8 171 (.bin .add (.t 165) (.t 170)),jI 9 172 (.idxa 4 1 (.t 5) (.t 163)),jT 10 (.store 1 (.t 172) (.t 171) [])]) (.seq (jR [jA 173 18,jA 174 12,jP 175 (.idxa 4 1 (.t 7) (.t 174)),jP 176 (jL 175),jP 177 (.bin .lss (.t 173) (.t 176))]) (.cond (.t 177) (jR [jA 178 12,jP 179 (.idxa 4 1 (.t 5) (.t 178)),jP 180 (jL 179),jP 181 (.bin .add (.t 180) (jC 100000)),jP 182 (.idxa 4 1 (.t 5) (.t 178)),jS (.store 1 (.t 182) (.t 181) [])]) .skip))) .skip)) (jR [jA 183 12,jA 184 12,jA 185 18,jP 186 (.idxa 4 1 (.t 8) (.t 183)),jS (.store 1 (.t 186) (.c (.bool true)) []),jP 187 (.idxa 4 1 (.t 7) (.t 184)),jS (.store 1 (.t 187) (.t 185) [])]))) (.seq (jR [jP 189 (.bin .eql (.t 117) (.c (.int .u8 10))),jA 188 189]) (.cond (.t 188) (.reg [] true [jA 190 12,jI 1 191 (.idxa 4 1 (.t 6) (.t 190)),jI 2 192 (jL 191),jI 3 193 (.idxa 4 1 (.t 11) (jC 2)),jI 4 194 (jL 193),jI 5 195 (.conv .i64 (.t 194)),jI 6 196 (.bin .add (jC 10) (.t 195)),jI 7 197 (.idxa 4 1 (.t 11) (jC 3)),jI 8 198 (jL 197),jI 9 199 (.conv .i64 (.t 198)),jI 10 200 (.bin .sub (.t 196) (.t 199)),jI 11 201 (.bin .add (.t 192) (.t 200)),jI 12 202 (.idxa 4 1 (.t 6) (.t 190)),jT 13 (.store 1 (.t 202) (.t 201) [])]) .skip)))))))))))))))))) (jR [jA 35 10,jP 36 (.bin .add (.t 35) (jC 1)),jA 10 36]))))
def aAa:XCode:=(.loop [3,5,6,8,19,203,204] (.seq (jR [jP 205 (.bin .lss (.t 204) (jC 4))]) (.seq (.cond (.t 205) .skip (.exit 5)) (.seq (.block 6 (.seq (jR [jA 206 204,jP 207 (.idxv false 4 1 (.t 203) (.t 204)),jA 20 206,jA 21 207]) (.seq (jR [jA 208 20,jP 209 (.bin .add (jC 97) (.t 208)),jP 210 (.conv .u8 (.t 209)),jP 211 (.bslice 1 1 [.int .u8 0] [(0,(1,(.t 210)))]),jP 212 (.strof (.t 211)),jA 22 212]) (.seq (.reg [(3,false)] false [jA 213 3,jA 214 22,jP 215 (.bin .add (.c (.str ⟨#[110,101,116,32]⟩)) (.t 214)),jP 216 (jF 21 [.t 213,.t 215] []),jA 217 3,jA 218 22,jP 219 (.bin .add (.c (.str ⟨#[117,115,101,100,32]⟩)) (.t 218)),jP 220 (jF 21 [.t 217,.t 219] []),jA 221 3,jA 222 22,jP 223 (.bin .add (.c (.str ⟨#[108,111,115,115,32]⟩)) (.t 222)),jP 224 (jF 21 [.t 221,.t 223] []),jA 23 216,jA 24 220,jA 25 224]) (.seq (.seq (jR [jA 225 23,jP 226 (.bin .neq (.t 225) (.c (.str ⟨#[110,111,32,53]⟩))),jA 227 226,jY 228 (jM 23) 227,jY 229 (jM 21) 227,jY 230 (jF 33 [.t 229] []) 227,jY 231 (.bin .neq (.t 228) (.t 230)) 227,jP 232 (.pick (.t 227) (.t 231) (.c (.bool false))),jA 233 232,jN 234 (jM 23) 233,jN 235 (.bin .eql (.t 234) (.c (.str ⟨#[110,111,32,53]⟩))) 233,jN 236 (jM 235) 233,jY 237 (jM 21) 236,jY 238 (.bin .neq (.t 237) (jC 0)) 236,jN 239 (.pick (.t 236) (.t 238) (.c (.bool false))) 233,jP 240 (.pick (.t 233) (.c (.bool true)) (.t 239)),jA 241 240,jN 242 (jM 24) 241,jN 243 (.bin .neq (.t 242) (.c (.str ⟨#[110,111,32,53]⟩))) 241,jN 244 (jM 243) 241,jY 245 (jM 24) 244,jY 246 (jM 20) 244,jY 247 (.idxa 4 1 (.t 5) (.t 246)) 244,jY 248 (jL 247) 244,jY 249 (jF 33 [.t 248] []) 244,jY 250 (.bin .neq (.t 245) (.t 249)) 244,jN 251 (.pick (.t 244) (.t 250) (.c (.bool false))) 241,jP 252 (.pick (.t 241) (.c (.bool true)) (.t 251)),jA 253 252,jN 254 (jM 24) 253,jN 255 (.bin .eql (.t 254) (.c (.str ⟨#[110,111,32,53]⟩))) 253,jN 256 (jM 255) 253,jY 257 (jM 20) 256,jY 258 (.idxa 4 1 (.t 8) (.t 257)) 256,jY 259 (jL 258) 256,jN 260 (.pick (.t 256) (.t 259) (.c (.bool false))) 253,jP 261 (.pick (.t 253) (.c (.bool true)) (.t 260)),jA 262 261,jN 263 (jM 25) 262,jN 264 (.bin .neq (.t 263) (.c (.str ⟨#[110,111,32,53]⟩))) 262,jN 265 (jM 264) 262,jY 266 (jM 25) 265,jY 267 (jM 20) 265,jY 268 (.idxa 4 1 (.t 6) (.t 267)) 265,jY 269 (jL 268) 265,jY 270 (jF 33 [.t 269] []) 265,jY 271 (.bin .neq (.t 266) (.t 270)) 265,jN 272 (.pick (.t 265) (.t 271) (.c (.bool false))) 262,jP 273 (.pick (.t 262) (.c (.bool true)) (.t 272)),jA 274 273,jN 275 (jM 25) 274,jN 276 (.bin .eql (.t 275) (.c (.str ⟨#[110,111,32,53]⟩))) 274,jN 277 (jM 276) 274,jY 278 (jM 20) 277,jY 279 (.idxa 4 1 (.t 6) (.t 278)) 277,jY 280 (jL 279) 277,jY 281 (.bin .neq (.t 280) (jC 0)) 277,jN 282 (.pick (.t 277) (.t 281) (.c (.bool false))) 274,jP 283 (.pick (.t 274) (.c (.bool true)) (.t 282))]) (.cond (.t 283) (.seq (jR [jP 2 (.mv (.c (.bool false)))]) .ret) .skip)) (jR [jA 284 19,jA 285 21,jP 286 (.bin .add (.t 284) (.t 285)),jA 19 286])))))) (jR [jP 287 (.bin .add (.t 204) (jC 1)),jA 204 287])))))
def x10:XFn:=⟨296,[(2,none)],false,false,(.seq (jR [jP 2 (.mv (.c (.bool false)))]) (.seq (jR [jP 26 (jF 19 [] []),jA 3 26]) (.seq (jR [jP 4 (.alloc [.int .i64 0,.int .i64 0,.int .i64 0,.int .i64 0]),jP 5 (.alloc [.int .i64 0,.int .i64 0,.int .i64 0,.int .i64 0]),jP 6 (.alloc [.int .i64 0,.int .i64 0,.int .i64 0,.int .i64 0]),jP 7 (.alloc [.int .i64 0,.int .i64 0,.int .i64 0,.int .i64 0])]) (.seq (jR [jP 8 (.alloc [.bool false,.bool false,.bool false,.bool false])]) (.seq (jR [jP 9 (.mv (.c .nilsl))]) (.seq (.seq (jR [jP 10 (.mv (jC 0))]) (.block 0 nN)) (.seq (jR [jP 19 (.mv (jC 0))]) (.seq (.seq (jR [jP 203 (.load true 4 (.t 4)),jP 204 (.mv (jC 0))]) (.block 5 aAa)) (.seq (.reg [(3,false)] false [jA 288 3,jP 289 (jF 21 [.t 288,.c (.str ⟨#[116,111,116,97,108]⟩)] []),jA 290 19,jP 291 (jF 33 [.t 290] []),jP 292 (.bin .eql (.t 289) (.t 291)),jA 293 292,jY 294 (jF 13 [] []) 293,jP 295 (.pick (.t 293) (.t 294) (.c (.bool false))),jA 2 295]) .ret))))))))),none,none⟩
theorem bAM:aQ prog (10,x10):=dQ (fun v w=>call10 v w) func10

def m13:RM:=⟨[(4,[(5,false)]),(7,[(8,false),(5,false)]),(10,[(14,false)]),(11,[(15,false)]),(13,[(14,false)]),(14,[(16,false),(14,false)])],[],[]⟩
def x13:XFn:=by
 refine' (?f:(g:XFn)→(mkF prog f13 m13 false false []=g)→XFn) _ ?h
 case f=>exact fun g _=>g
 case h=>conv=>lhs;cbv
theorem bAL:aQ prog (13,x13):=dQ (fun v w=>call13 v w) func13

def m14:RM:=⟨[(1,[(1,false)]),(15,[(0,false),(1,false)])],[[0,1,20,21,22]],[]⟩
def aTp:XCode:=by
 refine' (?f:(g:XCode)→(mkL prog f14 m14 0 []=g)→XCode) _ ?h
 case f=>exact fun g _=>g
 case h=>conv=>lhs;cbv
def x14:XFn:=by
 refine' (?f:(g:XCode→XFn)→(∀ a,mkF prog f14 m14 false false [a]=g a)→XFn) _ ?h
 case f=>exact fun g _=>g aTp
 case h=>intro a;conv=>lhs;cbv
theorem bAK:aQ prog (14,x14):=dQ (fun v w=>call14 v w) func14

def m16:RM:=⟨[(32,[(4,false)])],[[0,1,4,5,7,8,9,35,36],[4,5,105,106,107]],[]⟩
def aQp:XCode:=by
 refine' (?f:(g:XCode)→(mkL prog f16 m16 0 []=g)→XCode) _ ?h
 case f=>exact fun g _=>g
 case h=>conv=>lhs;cbv
def aTj:XCode:=by
 refine' (?f:(g:XCode→XCode)→(∀ a,mkL prog f16 m16 1 [a]=g a)→XCode) _ ?h
 case f=>exact fun g _=>g aQp
 case h=>intro a;conv=>lhs;cbv
def x16:XFn:=by
 refine' (?f:(g:XCode→XCode→XFn)→(∀ a b,mkF prog f16 m16 false false [a,b]=g a b)→XFn) _ ?h
 case f=>exact fun g _=>g aQp aTj
 case h=>intro a b;conv=>lhs;cbv
theorem bAJ:aQ prog (16,x16):=dQ (fun v w=>call16 v w) func16

def m18:RM:=⟨[],[[0,1,5]],[]⟩
def aTe:XCode:=by
 refine' (?f:(g:XCode)→(mkL prog f18 m18 0 []=g)→XCode) _ ?h
 case f=>exact fun g _=>g
 case h=>conv=>lhs;cbv
def x18:XFn:=by
 refine' (?f:(g:XCode→XFn)→(∀ a,mkF prog f18 m18 false false [a]=g a)→XFn) _ ?h
 case f=>exact fun g _=>g aTe
 case h=>intro a;conv=>lhs;cbv
theorem bAI:aQ prog (18,x18):=dQ (fun v w=>call18 v w) func18

def m19:RM:=⟨[],[],[]⟩
def x19:XFn:=by
 refine' (?f:(g:XFn)→(mkF prog f19 m19 false false []=g)→XFn) _ ?h
 case f=>exact fun g _=>g
 case h=>conv=>lhs;cbv
theorem bAH:aQ prog (19,x19):=dQ (fun v w=>call19 v w) func19

def m23:RM:=⟨[(1,[(0,false)]),(4,[(3,false)]),(5,[(0,false)]),(8,[(4,false),(3,false)]),(9,[(3,false)])],[],[[3]]⟩
def x23:XFn:=by
 refine' (?f:(g:XFn)→(mkF prog f23 m23 false false []=g)→XFn) _ ?h
 case f=>exact fun g _=>g
 case h=>conv=>lhs;cbv
theorem bAG:aQ prog (23,x23):=⟨⟨fun vs w=>call23 vs w,_,_,func23,rfl,rfl,by kernel_rfl,by kernel_rfl⟩,by kernel_rfl,⟨aO rfl,⟨aO rfl,⟨aO rfl,⟨aO rfl,⟨⟨aO rfl,⟨by kernel_rfl,aO rfl,aO rfl⟩⟩,aO rfl⟩⟩⟩⟩⟩,rfl⟩

def m25:RM:=⟨[(1,[(0,false)]),(22,[(2,false),(15,false)])],[[3,5,8,9],[2,3,58,59,60]],[]⟩
def aQo:XCode:=by
 refine' (?f:(g:XCode)→(mkL prog f25 m25 0 []=g)→XCode) _ ?h
 case f=>exact fun g _=>g
 case h=>conv=>lhs;cbv
def aSZ:XCode:=by
 refine' (?f:(g:XCode→XCode)→(∀ a,mkL prog f25 m25 1 [a]=g a)→XCode) _ ?h
 case f=>exact fun g _=>g aQo
 case h=>intro a;conv=>lhs;cbv
def x25:XFn:=by
 refine' (?f:(g:XCode→XCode→XFn)→(∀ a b,mkF prog f25 m25 false false [a,b]=g a b)→XFn) _ ?h
 case f=>exact fun g _=>g aQo aSZ
 case h=>intro a b;conv=>lhs;cbv
theorem bAF:aQ prog (25,x25):=dQ (fun v w=>call25 v w) func25

def m31:RM:=⟨[(4,[(0,false)])],[[0,1,5,6]],[]⟩
def aSY:XCode:=by
 refine' (?f:(g:XCode)→(mkL prog f31 m31 0 []=g)→XCode) _ ?h
 case f=>exact fun g _=>g
 case h=>conv=>lhs;cbv
def x31:XFn:=by
 refine' (?f:(g:XCode→XFn)→(∀ a,mkF prog f31 m31 false false [a]=g a)→XFn) _ ?h
 case f=>exact fun g _=>g aSY
 case h=>intro a;conv=>lhs;cbv
theorem bAE:aQ prog (31,x31):=dQ (fun v w=>call31 v w) func31

def x32:XFn:=⟨120,[(2,none)],false,false,(.seq (jR [jP 1 (.box (.t 0)),jP 2 (.mv (.c (.str ⟨#[]⟩)))]) (.seq (jR [jP 5 (.idxa 4 1 (.t 1) (jC 1)),jP 6 (jL 5),jP 7 (.bin .rem (.t 6) (.c (.int .u8 4))),jP 8 (.bin .add (.c (.int .u8 97)) (.t 7)),jP 9 (.bslice 1 1 [.int .u8 0] [(0,(1,(.t 8)))]),jP 10 (.strof (.t 9)),jA 3 10]) (.seq (.seq (jR [jP 11 (.idxa 4 1 (.t 1) (jC 0)),jP 12 (jL 11),jP 13 (.bin .rem (.t 12) (.c (.int .u8 12)))]) (.block 0 (.seq (.seq (jR [jP 15 (.bin .eql (.t 13) (.c (.int .u8 0))),jA 14 15]) (.cond (.t 14) .skip (jR [jP 16 (.bin .eql (.t 13) (.c (.int .u8 1))),jA 14 16]))) (.cond (.t 14) (.seq (jR [jA 17 3,jP 18 (.bin .add (.c (.str ⟨#[102,97,114,109,101,114,32]⟩)) (.t 17)),jA 2 18]) .ret) (.seq (.seq (jR [jP 20 (.bin .eql (.t 13) (.c (.int .u8 2))),jA 19 20]) (.cond (.t 19) .skip (.seq (jR [jP 21 (.bin .eql (.t 13) (.c (.int .u8 3))),jA 19 21]) (.cond (.t 19) .skip (.seq (jR [jP 22 (.bin .eql (.t 13) (.c (.int .u8 4))),jA 19 22]) (.cond (.t 19) .skip (jR [jP 23 (.bin .eql (.t 13) (.c (.int .u8 5))),jA 19 23]))))))) (.cond (.t 19) (.seq (jR [jP 24 (.idxa 4 1 (.t 1) (jC 3)),jP 25 (jL 24),jP 26 (.conv .i64 (.t 25)),jP 27 (.bin .mul (jC 5) (.t 26)),jP 28 (.bin .add (jC 4000) (.t 27)),jA 4 28]) (.seq (.reg [] true [jP 29 (.idxa 4 1 (.t 1) (jC 2)),jI 1 30 (jL 29),jI 2 31 (.conv .i64 (.t 30)),jI 3 32 (.bin .rem (.t 31) (jC 3)),jI 7 36 (jM 4),jI 8 37 (.idxa 4 1 (.t 1) (jC 2)),jI 9 38 (jL 37),jI 10 39 (.conv .i64 (.t 38)),jI 11 40 (.bin .mul (jC 40) (.t 39)),jI 12 41 (.bin .add (.t 36) (.t 40)),jI 16 45 (jM 4),jI 20 49 (jM 3),jI 4 33 (jF 33 [.t 32] [9]),jI 5 34 (.bin .add (.c (.str ⟨#[119,97,103,111,110,32,119]⟩)) (.t 33)),jI 6 35 (.bin .add (.t 34) (.c (.str ⟨#[32]⟩))),jI 13 42 (jF 33 [.t 41] []),jI 14 43 (.bin .add (.t 35) (.t 42)),jI 15 44 (.bin .add (.t 43) (.c (.str ⟨#[32]⟩))),jI 17 46 (jF 33 [.t 45] []),jI 18 47 (.bin .add (.t 44) (.t 46)),jI 19 48 (.bin .add (.t 47) (.c (.str ⟨#[32]⟩))),jI 21 50 (.bin .add (.t 48) (.t 49)),jI 22 2 (jM 50)]) .ret)) (.seq (jR [jP 52 (.bin .eql (.t 13) (.c (.int .u8 6))),jA 51 52]) (.cond (.t 51) (.seq (jR [jP 53 (.idxa 4 1 (.t 1) (jC 2)),jP 54 (jL 53),jP 55 (.conv .i64 (.t 54)),jP 56 (.bin .rem (.t 55) (jC 8)),jP 57 (jF 33 [.t 56] []),jP 58 (.bin .add (.c (.str ⟨#[118,111,105,100,32]⟩)) (.t 57)),jA 2 58]) .ret) (.seq (jR [jP 60 (.bin .eql (.t 13) (.c (.int .u8 7))),jA 59 60]) (.cond (.t 59) (.seq (.seq (jR [jP 61 (.idxa 4 1 (.t 1) (jC 2)),jP 62 (jL 61),jP 63 (.bin .lss (.t 62) (.c (.int .u8 64)))]) (.cond (.t 63) (.seq (jR [jP 2 (.mv (.c (.str ⟨#[99,108,111,115,101]⟩)))]) .ret) .skip)) (.seq (jR [jP 64 (.idxa 4 1 (.t 1) (jC 2)),jP 65 (jL 64),jP 66 (.conv .i64 (.t 65)),jP 67 (.bin .rem (.t 66) (jC 8)),jP 68 (jF 33 [.t 67] []),jP 69 (.bin .add (.c (.str ⟨#[118,111,105,100,32]⟩)) (.t 68)),jA 2 69]) .ret)) (.seq (.seq (jR [jP 71 (.bin .eql (.t 13) (.c (.int .u8 8))),jA 70 71]) (.cond (.t 70) .skip (jR [jP 72 (.bin .eql (.t 13) (.c (.int .u8 9))),jA 70 72]))) (.cond (.t 70) (.seq (jR [jA 73 3,jP 74 (.bin .add (.c (.str ⟨#[109,101,116,101,114,32]⟩)) (.t 73)),jP 75 (.bin .add (.t 74) (.c (.str ⟨#[32]⟩))),jP 76 (.idxa 4 1 (.t 1) (jC 2)),jP 77 (jL 76),jP 78 (.conv .i64 (.t 77)),jP 79 (.bin .mul (jC 390) (.t 78)),jP 80 (jF 33 [.t 79] []),jP 81 (.bin .add (.t 75) (.t 80)),jA 2 81]) .ret) (.seq (jR [jP 83 (.bin .eql (.t 13) (.c (.int .u8 10))),jA 82 83]) (.cond (.t 82) (.seq (.reg [] true [jA 84 3,jI 1 85 (.bin .add (.c (.str ⟨#[112,97,110,32]⟩)) (.t 84)),jI 2 86 (.bin .add (.t 85) (.c (.str ⟨#[32]⟩))),jI 3 87 (.idxa 4 1 (.t 1) (jC 2)),jI 4 88 (jL 87),jI 5 89 (.conv .i64 (.t 88)),jI 6 90 (.bin .add (jC 10) (.t 89)),jI 10 94 (.idxa 4 1 (.t 1) (jC 3)),jI 11 95 (jL 94),jI 12 96 (.conv .i64 (.t 95)),jI 7 91 (jF 33 [.t 90] [11]),jI 8 92 (.bin .add (.t 86) (.t 91)),jI 9 93 (.bin .add (.t 92) (.c (.str ⟨#[32]⟩))),jI 13 97 (jF 33 [.t 96] []),jI 14 98 (.bin .add (.t 93) (.t 97)),jI 15 2 (jM 98)]) .ret) .skip)))))))))))))) (.seq (.reg [] true [jA 99 3,jI 1 100 (.bin .add (.c (.str ⟨#[110,101,116,32]⟩)) (.t 99)),jI 2 101 (.idxa 4 1 (.t 1) (jC 2)),jI 3 102 (jL 101),jI 4 103 (.conv .i64 (.t 102)),jI 5 104 (.bin .rem (.t 103) (jC 8)),jI 8 107 (jM 3),jI 9 108 (.bin .add (.c (.str ⟨#[117,115,101,100,32]⟩)) (.t 107)),jI 10 109 (jM 3),jI 11 110 (.bin .add (.c (.str ⟨#[108,111,115,115,32]⟩)) (.t 109)),jI 12 111 (jM 3),jI 13 112 (.bin .add (.c (.str ⟨#[112,111,119,101,114,32]⟩)) (.t 111)),jI 15 114 (.idxa 4 1 (.t 1) (jC 2)),jI 16 115 (jL 114),jI 17 116 (.conv .i64 (.t 115)),jI 18 117 (.bin .rem (.t 116) (jC 7)),jI 6 105 (jF 33 [.t 104] [16]),jI 7 106 (.bin .add (.c (.str ⟨#[116,105,99,107,101,116,32]⟩)) (.t 105)),jI 14 113 (.bslice 1 7 [(.str ⟨#[]⟩)] [(0,(1,(.t 100))),(1,(1,(.c (.str ⟨#[116,111,116,97,108]⟩)))),(2,(1,(.t 106))),(3,(1,(.t 108))),(4,(1,(.t 110))),(5,(1,(.t 112))),(6,(1,(.c (.str ⟨#[98,108,111,111,109]⟩))))]),jI 19 118 (.idx 1 (.t 113) (.t 117)),jI 20 119 (jL 118),jI 21 2 (jM 119)]) .ret)))),none,none⟩
theorem bAD:aQ prog (32,x32):=dQ (fun v w=>call32 v w) func32

def m33:RM:=⟨[],[],[]⟩
def x33:XFn:=by
 refine' (?f:(g:XFn)→(mkF prog f33 m33 false false []=g)→XFn) _ ?h
 case f=>exact fun g _=>g
 case h=>conv=>lhs;cbv
theorem bAC:aQ prog (33,x33):=dQ (fun v w=>call33 v w) func33

def m34:RM:=⟨[],[[0,3,4]],[]⟩
def aSX:XCode:=by
 refine' (?f:(g:XCode)→(mkL prog f34 m34 0 []=g)→XCode) _ ?h
 case f=>exact fun g _=>g
 case h=>conv=>lhs;cbv
def x34:XFn:=by
 refine' (?f:(g:XCode→XFn)→(∀ a,mkF prog f34 m34 false false [a]=g a)→XFn) _ ?h
 case f=>exact fun g _=>g aSX
 case h=>intro a;conv=>lhs;cbv
theorem bAB:aQ prog (34,x34):=dQ (fun v w=>call34 v w) func34

def m35:RM:=⟨[],[],[]⟩
def x35:XFn:=by
 refine' (?f:(g:XFn)→(mkF prog f35 m35 false false []=g)→XFn) _ ?h
 case f=>exact fun g _=>g
 case h=>conv=>lhs;cbv
theorem bAA:aQ prog (35,x35):=dQ (fun v w=>call35 v w) func35

def m36:RM:=⟨[(1,[(0,false)])],[],[]⟩
def x36:XFn:=by
 refine' (?f:(g:XFn)→(mkF prog f36 m36 false false []=g)→XFn) _ ?h
 case f=>exact fun g _=>g
 case h=>conv=>lhs;cbv
theorem bAz:aQ prog (36,x36):=dQ (fun v w=>call36 v w) func36

def m38:RM:=⟨[(6,[(8,false)]),(7,[(5,false)]),(9,[(6,false),(5,false)]),(10,[(5,false)])],[[1,5,6,9,10,11]],[]⟩
def aSW:XCode:=by
 refine' (?f:(g:XCode)→(mkL prog f38 m38 0 []=g)→XCode) _ ?h
 case f=>exact fun g _=>g
 case h=>conv=>lhs;cbv
def x38:XFn:=by
 refine' (?f:(g:XCode→XFn)→(∀ a,mkF prog f38 m38 false false [a]=g a)→XFn) _ ?h
 case f=>exact fun g _=>g aSW
 case h=>intro a;conv=>lhs;cbv
theorem bAy:aQ prog (38,x38):=dQ (fun v w=>call38 v w) func38

def m42:RM:=⟨[(3,[(1,false)])],[],[]⟩
def x42:XFn:=by
 refine' (?f:(g:XFn)→(mkF prog f42 m42 false false []=g)→XFn) _ ?h
 case f=>exact fun g _=>g
 case h=>conv=>lhs;cbv
theorem bAx:aQ prog (42,x42):=dQ (fun v w=>call42 v w) func42

def m43:RM:=⟨[],[[2,3,7,8,9]],[]⟩
def aSV:XCode:=by
 refine' (?f:(g:XCode)→(mkL prog f43 m43 0 []=g)→XCode) _ ?h
 case f=>exact fun g _=>g
 case h=>conv=>lhs;cbv
def x43:XFn:=by
 refine' (?f:(g:XCode→XFn)→(∀ a,mkF prog f43 m43 false false [a]=g a)→XFn) _ ?h
 case f=>exact fun g _=>g aSV
 case h=>intro a;conv=>lhs;cbv
theorem bAw:aQ prog (43,x43):=dQ (fun v w=>call43 v w) func43

def m44:RM:=⟨[],[[0,2,3,5]],[]⟩
def aSU:XCode:=by
 refine' (?f:(g:XCode)→(mkL prog f44 m44 0 []=g)→XCode) _ ?h
 case f=>exact fun g _=>g
 case h=>conv=>lhs;cbv
def x44:XFn:=by
 refine' (?f:(g:XCode→XFn)→(∀ a,mkF prog f44 m44 false false [a]=g a)→XFn) _ ?h
 case f=>exact fun g _=>g aSU
 case h=>intro a;conv=>lhs;cbv
theorem bAv:aQ prog (44,x44):=dQ (fun v w=>call44 v w) func44

def m45:RM:=⟨[],[[2,3,4,6,8]],[]⟩
def aST:XCode:=by
 refine' (?f:(g:XCode)→(mkL prog f45 m45 0 []=g)→XCode) _ ?h
 case f=>exact fun g _=>g
 case h=>conv=>lhs;cbv
def x45:XFn:=by
 refine' (?f:(g:XCode→XFn)→(∀ a,mkF prog f45 m45 false false [a]=g a)→XFn) _ ?h
 case f=>exact fun g _=>g aST
 case h=>intro a;conv=>lhs;cbv
theorem bAu:aQ prog (45,x45):=dQ (fun v w=>call45 v w) func45

def m46:RM:=⟨[],[],[]⟩
def x46:XFn:=by
 refine' (?f:(g:XFn)→(mkF prog f46 m46 false false []=g)→XFn) _ ?h
 case f=>exact fun g _=>g
 case h=>conv=>lhs;cbv
theorem bAt:aQ prog (46,x46):=dQ (fun v w=>call46 v w) func46

def m52:RM:=⟨[],[],[]⟩
def x52:XFn:=by
 refine' (?f:(g:XFn)→(mkF prog f52 m52 false false []=g)→XFn) _ ?h
 case f=>exact fun g _=>g
 case h=>conv=>lhs;cbv
theorem bAs:aQ prog (52,x52):=dQ (fun v w=>call52 v w) func52

def m53:RM:=⟨[],[],[]⟩
def x53:XFn:=by
 refine' (?f:(g:XFn)→(mkF prog f53 m53 false false []=g)→XFn) _ ?h
 case f=>exact fun g _=>g
 case h=>conv=>lhs;cbv
theorem bAr:aQ prog (53,x53):=dQ (fun v w=>call53 v w) func53

def m54:RM:=⟨[],[],[]⟩
def x54:XFn:=by
 refine' (?f:(g:XFn)→(mkF prog f54 m54 false false []=g)→XFn) _ ?h
 case f=>exact fun g _=>g
 case h=>conv=>lhs;cbv
theorem bAq:aQ prog (54,x54):=dQ (fun v w=>call54 v w) func54

def m55:RM:=⟨[],[],[]⟩
def x55:XFn:=by
 refine' (?f:(g:XFn)→(mkF prog f55 m55 false false []=g)→XFn) _ ?h
 case f=>exact fun g _=>g
 case h=>conv=>lhs;cbv
theorem bAp:aQ prog (55,x55):=dQ (fun v w=>call55 v w) func55

def m58:RM:=⟨[],[],[]⟩
def x58:XFn:=by
 refine' (?f:(g:XFn)→(mkF prog f58 m58 false false []=g)→XFn) _ ?h
 case f=>exact fun g _=>g
 case h=>conv=>lhs;cbv
theorem bAo:aQ prog (58,x58):=dQ (fun v w=>call58 v w) func58

def m59:RM:=⟨[],[],[]⟩
def x59:XFn:=by
 refine' (?f:(g:XFn)→(mkF prog f59 m59 false false []=g)→XFn) _ ?h
 case f=>exact fun g _=>g
 case h=>conv=>lhs;cbv
theorem bAn:aQ prog (59,x59):=dQ (fun v w=>call59 v w) func59

def m60:RM:=⟨[(2,[(0,false)]),(15,[(11,false)])],[[2,4,6,47],[2,6,64]],[]⟩
def aCG:XCode:=by
 refine' (?f:(g:XCode)→(mkL prog f60 m60 0 []=g)→XCode) _ ?h
 case f=>exact fun g _=>g
 case h=>conv=>lhs;cbv
def aCF:XCode:=by
 refine' (?f:(g:XCode→XCode)→(∀ a,mkL prog f60 m60 1 [a]=g a)→XCode) _ ?h
 case f=>exact fun g _=>g aCG
 case h=>intro a;conv=>lhs;cbv
def x60:XFn:=by
 refine' (?f:(g:XCode→XCode→XFn)→(∀ a b,mkF prog f60 m60 false false [a,b]=g a b)→XFn) _ ?h
 case f=>exact fun g _=>g aCG aCF
 case h=>intro a b;conv=>lhs;cbv
theorem bAm:aQ prog (60,x60):=dQ (fun v w=>call60 v w) func60

def m61:RM:=⟨[],[],[]⟩
def nM:XFn:=by
 refine' (?f:(g:XFn)→(mkF prog f61 m61 false false []=g)→XFn) _ ?h
 case f=>exact fun g _=>g
 case h=>conv=>lhs;cbv
theorem bAl:aQ prog (61,nM):=dQ (fun v w=>call61 v w) func61

def aKe:XCode:=(.loop [0,5,20,21,22] (.seq (jR [jP 23 (.bin .lss (.t 22) (.t 21))]) (.seq (.cond (.t 23) .skip (.exit 1)) (.seq (.block 2 (.seq (jR [jP 24 (.idx 1 (.t 20) (.t 22)),jP 25 (jL 24),jA 7 25]) (.reg [(7,false)] false [jA 26 5,jA 27 0,jP 28 (.nilck (.t 27)),jP 29 (.fld 0 (.t 28)),jP 30 (jL 29),jA 31 7,jP 32 (jF 95 [.t 30,.t 31] []),jP 33 (.nilck (.t 32)),jP 34 (.fld 0 (.t 33)),jP 35 (jL 34),jP 36 (.bin .add (.t 26) (.t 35)),jA 5 36]))) (jR [jP 37 (.bin .add (.t 22) (jC 1)),jA 22 37])))))
def sZ:XFn:=⟨136,[(4,none)],false,false,(.seq (jR [jP 3 (.box (.t 1)),jP 4 (.mv (.c (.str ⟨#[]⟩)))]) (.seq (jR [jP 5 (.mv (jC 0))]) (.seq (.seq (jR [jP 10 (.fld 0 (.t 3)),jP 11 (jL 10)]) (.block 0 (.seq (jR [jP 13 (.bin .eql (.t 11) (.c (.str ⟨#[116,111,116,97,108]⟩))),jA 12 13]) (.cond (.t 12) (.seq (jR [jA 14 0,jP 15 (.nilck (.t 14)),jP 16 (.fld 0 (.t 15)),jP 17 (jL 16),jP 18 (.nilck (.t 17)),jP 19 (.fld 0 (.t 18)),jP 20 (jL 19),jP 21 (.len false (.t 20)),jP 22 (.mv (jC 0))]) (.block 1 aKe)) (.seq (jR [jP 39 (.bin .eql (.t 11) (.c (.str ⟨#[110,101,116]⟩))),jA 38 39]) (.cond (.t 38) (.reg [] true [jA 40 0,jI 1 41 (.nilck (.t 40)),jI 2 42 (.fld 0 (.t 41)),jI 3 43 (jL 42),jI 4 44 (.fld 1 (.t 3)),jI 5 45 (jL 44),jI 6 46 (.idx 1 (.t 45) (jC 0)),jI 7 47 (jL 46),jI 8 48 (jF 95 [.t 43,.t 47] []),jI 9 49 (.nilck (.t 48)),jI 10 50 (.fld 0 (.t 49)),jI 11 51 (jL 50),jI 12 5 (jM 51)]) (.seq (jR [jP 53 (.bin .eql (.t 11) (.c (.str ⟨#[117,115,101,100]⟩))),jA 52 53]) (.cond (.t 52) (.reg [] true [jA 54 0,jI 1 55 (.nilck (.t 54)),jI 2 56 (.fld 1 (.t 55)),jI 3 57 (jL 56),jI 4 58 (.fld 1 (.t 3)),jI 5 59 (jL 58),jI 6 60 (.idx 1 (.t 59) (jC 0)),jI 7 61 (jL 60),jI 8 62 (jF 96 [.t 57,.t 61] []),jI 9 63 (.nilck (.t 62)),jI 10 64 (.fld 1 (.t 63)),jI 11 65 (jL 64),jI 12 5 (jM 65)]) (.seq (jR [jP 67 (.bin .eql (.t 11) (.c (.str ⟨#[108,111,115,115]⟩))),jA 66 67]) (.cond (.t 66) (.reg [] true [jA 68 0,jI 1 69 (.nilck (.t 68)),jI 2 70 (.fld 2 (.t 69)),jI 3 71 (jL 70),jI 4 72 (.fld 1 (.t 3)),jI 5 73 (jL 72),jI 6 74 (.idx 1 (.t 73) (jC 0)),jI 7 75 (jL 74),jI 8 76 (jF 97 [.t 71,.t 75] []),jI 9 77 (.nilck (.t 76)),jI 10 78 (.fld 0 (.t 77)),jI 11 79 (jL 78),jI 12 5 (jM 79)]) (.seq (jR [jP 81 (.bin .eql (.t 11) (.c (.str ⟨#[112,111,119,101,114]⟩))),jA 80 81]) (.cond (.t 80) (.reg [(0,false)] false [jA 82 0,jP 83 (.fld 1 (.t 3)),jP 84 (jL 83),jP 85 (.idx 1 (.t 84) (jC 0)),jP 86 (jL 85),jP 87 (jF 98 [.t 82,.t 86] []),jA 5 87]) (.seq (jR [jP 89 (.bin .eql (.t 11) (.c (.str ⟨#[116,105,99,107,101,116]⟩))),jA 88 89]) (.cond (.t 88) (.seq (.reg [] true [jP 90 (.fld 2 (.t 3)),jI 1 91 (jL 90),jI 2 92 (.idx 1 (.t 91) (jC 0)),jI 3 93 (jL 92),jI 4 94 (jM 0),jI 5 95 (.nilck (.t 94)),jI 6 96 (.fld 4 (.t 95)),jI 7 97 (jL 96),jI 8 98 (.len false (.t 97)),jI 9 99 (.bin .lss (.t 93) (.t 98)),jI 10 100 (jF 58 [.t 99,jC 5] [])]) (.seq (.reg [] true [jA 101 0,jI 1 102 (.nilck (.t 101)),jI 2 103 (.fld 4 (.t 102)),jI 3 104 (jL 103),jI 4 105 (.fld 2 (.t 3)),jI 5 106 (jL 105),jI 6 107 (.idx 1 (.t 106) (jC 0)),jI 7 108 (jL 107),jI 8 109 (.idx 1 (.t 104) (.t 108)),jI 9 110 (jL 109),jI 10 8 (jM 110)]) (.seq (.reg [] true [jA 111 8,jI 1 112 (.nilck (.t 111)),jI 2 113 (.fld 0 (.t 112)),jI 3 114 (jL 113),jI 4 115 (jM 8),jI 5 116 (.nilck (.t 115)),jI 6 117 (.fld 1 (.t 116)),jI 7 118 (jL 117),jI 8 119 (jM 8),jI 9 120 (.nilck (.t 119)),jI 10 121 (.fld 2 (.t 120)),jI 11 122 (jL 121),jI 12 123 (jF 57 [.t 122] [3,7]),jI 13 124 (.bslice 1 3 [(.str ⟨#[]⟩)] [(0,(1,(.t 114))),(1,(1,(.t 118))),(2,(1,(.t 123)))]),jI 14 9 (jM 124)]) (.seq (.seq (jR [jA 125 8,jP 126 (.nilck (.t 125)),jP 127 (.fld 3 (.t 126)),jP 128 (jL 127)]) (.cond (.t 128) (jR [jA 129 9,jP 130 (.bslice 1 1 [(.str ⟨#[]⟩)] [(0,(1,(.c (.str ⟨#[118,111,105,100]⟩))))]),jP 131 (.app 1 16 (.t 129) (.t 130)),jA 9 131]) .skip)) (.seq (.reg [(9,false)] false [jA 132 9,jP 133 (jF 99 [.t 132,.c (.str ⟨#[32]⟩)] []),jA 4 133]) .ret))))) .skip)))))))))))))) (.seq (jR [jA 134 5,jP 135 (jF 57 [.t 134] []),jA 4 135]) .ret)))),none,none⟩
theorem bAk:aQ prog (62,sZ):=dQ (fun v w=>call62 v w) func62

def m69:RM:=⟨[(1,[(0,false)])],[],[]⟩
def x69:XFn:=by
 refine' (?f:(g:XFn)→(mkF prog f69 m69 false false []=g)→XFn) _ ?h
 case f=>exact fun g _=>g
 case h=>conv=>lhs;cbv
theorem bAj:aQ prog (69,x69):=dQ (fun v w=>call69 v w) func69

def m70:RM:=⟨[],[],[]⟩
def x70:XFn:=by
 refine' (?f:(g:XFn)→(mkF prog f70 m70 false false []=g)→XFn) _ ?h
 case f=>exact fun g _=>g
 case h=>conv=>lhs;cbv
theorem bAi:aQ prog (70,x70):=dQ (fun v w=>call70 v w) func70

def m73:RM:=⟨[],[],[]⟩
def x73:XFn:=by
 refine' (?f:(g:XFn)→(mkF prog f73 m73 false false []=g)→XFn) _ ?h
 case f=>exact fun g _=>g
 case h=>conv=>lhs;cbv
theorem bAh:aQ prog (73,x73):=dQ (fun v w=>call73 v w) func73

def m75:RM:=⟨[],[],[]⟩
def x75:XFn:=by
 refine' (?f:(g:XFn)→(mkF prog f75 m75 false false []=g)→XFn) _ ?h
 case f=>exact fun g _=>g
 case h=>conv=>lhs;cbv
theorem bAg:aQ prog (75,x75):=dQ (fun v w=>call75 v w) func75

def m77:RM:=⟨[(1,[(1,false)])],[],[]⟩
def x77:XFn:=by
 refine' (?f:(g:XFn)→(mkF prog f77 m77 false false []=g)→XFn) _ ?h
 case f=>exact fun g _=>g
 case h=>conv=>lhs;cbv
theorem bAf:aQ prog (77,x77):=dQ (fun v w=>call77 v w) func77

def m84:RM:=⟨[],[],[]⟩
def x84:XFn:=by
 refine' (?f:(g:XFn)→(mkF prog f84 m84 false false []=g)→XFn) _ ?h
 case f=>exact fun g _=>g
 case h=>conv=>lhs;cbv
theorem bAe:aQ prog (84,x84):=dQ (fun v w=>call84 v w) func84

def m85:RM:=⟨[],[[0,6,7,8]],[]⟩
def aQn:XCode:=by
 refine' (?f:(g:XCode)→(mkL prog f85 m85 0 []=g)→XCode) _ ?h
 case f=>exact fun g _=>g
 case h=>conv=>lhs;cbv
def x85:XFn:=by
 refine' (?f:(g:XCode→XFn)→(∀ a,mkF prog f85 m85 false false [a]=g a)→XFn) _ ?h
 case f=>exact fun g _=>g aQn
 case h=>intro a;conv=>lhs;cbv
theorem bAd:aQ prog (85,x85):=dQ (fun v w=>call85 v w) func85

def m86:RM:=⟨[(1,[(0,false)]),(3,[(0,false),(5,false)])],[],[]⟩
def x86:XFn:=by
 refine' (?f:(g:XFn)→(mkF prog f86 m86 false false []=g)→XFn) _ ?h
 case f=>exact fun g _=>g
 case h=>conv=>lhs;cbv
theorem bAc:aQ prog (86,x86):=dQ (fun v w=>call86 v w) func86

def m87:RM:=⟨[],[],[]⟩
def x87:XFn:=by
 refine' (?f:(g:XFn)→(mkF prog f87 m87 false false []=g)→XFn) _ ?h
 case f=>exact fun g _=>g
 case h=>conv=>lhs;cbv
theorem bAb:aQ prog (87,x87):=dQ (fun v w=>call87 v w) func87

def m88:RM:=⟨[],[],[]⟩
def x88:XFn:=by
 refine' (?f:(g:XFn)→(mkF prog f88 m88 false false []=g)→XFn) _ ?h
 case f=>exact fun g _=>g
 case h=>conv=>lhs;cbv
theorem bAa:aQ prog (88,x88):=dQ (fun v w=>call88 v w) func88

def m89:RM:=⟨[],[],[]⟩
def x89:XFn:=by
 refine' (?f:(g:XFn)→(mkF prog f89 m89 false false []=g)→XFn) _ ?h
 case f=>exact fun g _=>g
 case h=>conv=>lhs;cbv
theorem aZZ:aQ prog (89,x89):=dQ (fun v w=>call89 v w) func89

def m90:RM:=⟨[],[],[]⟩
def x90:XFn:=by
 refine' (?f:(g:XFn)→(mkF prog f90 m90 false false []=g)→XFn) _ ?h
 case f=>exact fun g _=>g
 case h=>conv=>lhs;cbv
theorem aZY:aQ prog (90,x90):=dQ (fun v w=>call90 v w) func90

def m91:RM:=⟨[],[],[]⟩
def x91:XFn:=by
 refine' (?f:(g:XFn)→(mkF prog f91 m91 false false []=g)→XFn) _ ?h
 case f=>exact fun g _=>g
 case h=>conv=>lhs;cbv
theorem aZX:aQ prog (91,x91):=dQ (fun v w=>call91 v w) func91

def m92:RM:=⟨[],[],[]⟩
def x92:XFn:=by
 refine' (?f:(g:XFn)→(mkF prog f92 m92 false false []=g)→XFn) _ ?h
 case f=>exact fun g _=>g
 case h=>conv=>lhs;cbv
theorem aZW:aQ prog (92,x92):=dQ (fun v w=>call92 v w) func92

def m93:RM:=⟨[],[],[]⟩
def x93:XFn:=by
 refine' (?f:(g:XFn)→(mkF prog f93 m93 false false []=g)→XFn) _ ?h
 case f=>exact fun g _=>g
 case h=>conv=>lhs;cbv
theorem aZV:aQ prog (93,x93):=dQ (fun v w=>call93 v w) func93

def m94:RM:=⟨[],[],[]⟩
def x94:XFn:=by
 refine' (?f:(g:XFn)→(mkF prog f94 m94 false false []=g)→XFn) _ ?h
 case f=>exact fun g _=>g
 case h=>conv=>lhs;cbv
theorem aZU:aQ prog (94,x94):=dQ (fun v w=>call94 v w) func94

def m95:RM:=⟨[],[],[]⟩
def x95:XFn:=by
 refine' (?f:(g:XFn)→(mkF prog f95 m95 false false []=g)→XFn) _ ?h
 case f=>exact fun g _=>g
 case h=>conv=>lhs;cbv
theorem aZT:aQ prog (95,x95):=dQ (fun v w=>call95 v w) func95

def m96:RM:=⟨[],[],[]⟩
def x96:XFn:=by
 refine' (?f:(g:XFn)→(mkF prog f96 m96 false false []=g)→XFn) _ ?h
 case f=>exact fun g _=>g
 case h=>conv=>lhs;cbv
theorem aZS:aQ prog (96,x96):=dQ (fun v w=>call96 v w) func96

def m97:RM:=⟨[],[],[]⟩
def x97:XFn:=by
 refine' (?f:(g:XFn)→(mkF prog f97 m97 false false []=g)→XFn) _ ?h
 case f=>exact fun g _=>g
 case h=>conv=>lhs;cbv
theorem aZR:aQ prog (97,x97):=dQ (fun v w=>call97 v w) func97

def m98:RM:=⟨[],[[0,1,5,6,7,26,27,28]],[]⟩
def aQm:XCode:=by
 refine' (?f:(g:XCode)→(mkL prog f98 m98 0 []=g)→XCode) _ ?h
 case f=>exact fun g _=>g
 case h=>conv=>lhs;cbv
def x98:XFn:=by
 refine' (?f:(g:XCode→XFn)→(∀ a,mkF prog f98 m98 false false [a]=g a)→XFn) _ ?h
 case f=>exact fun g _=>g aQm
 case h=>intro a;conv=>lhs;cbv
theorem aZQ:aQ prog (98,x98):=dQ (fun v w=>call98 v w) func98

def aVu:RM:=⟨[],[[0,3,4]],[]⟩
def aRh:XCode:=by
 refine' (?f:(g:XCode)→(mkL prog f116 aVu 0 []=g)→XCode) _ ?h
 case f=>exact fun g _=>g
 case h=>conv=>lhs;cbv
def aTt:XFn:=by
 refine' (?f:(g:XCode→XFn)→(∀ a,mkF prog f116 aVu false false [a]=g a)→XFn) _ ?h
 case f=>exact fun g _=>g aRh
 case h=>intro a;conv=>lhs;cbv
theorem aWu:aQ prog (116,aTt):=dQ (fun v w=>call116 v w) func116

def aVt:RM:=⟨[],[[5,10,11]],[]⟩
def aRg:XCode:=by
 refine' (?f:(g:XCode)→(mkL prog f119 aVt 0 []=g)→XCode) _ ?h
 case f=>exact fun g _=>g
 case h=>conv=>lhs;cbv
def aTs:XFn:=by
 refine' (?f:(g:XCode→XFn)→(∀ a,mkF prog f119 aVt false false [a]=g a)→XFn) _ ?h
 case f=>exact fun g _=>g aRg
 case h=>intro a;conv=>lhs;cbv
theorem aWt:aQ prog (119,aTs):=dQ (fun v w=>call119 v w) func119

def aVs:RM:=⟨[],[[5,6,47,48,49]],[]⟩
def aRf:XCode:=by
 refine' (?f:(g:XCode)→(mkL prog f126 aVs 0 []=g)→XCode) _ ?h
 case f=>exact fun g _=>g
 case h=>conv=>lhs;cbv
def aTr:XFn:=by
 refine' (?f:(g:XCode→XFn)→(∀ a,mkF prog f126 aVs false false [a]=g a)→XFn) _ ?h
 case f=>exact fun g _=>g aRf
 case h=>intro a;conv=>lhs;cbv
theorem aWs:aQ prog (126,aTr):=dQ (fun v w=>call126 v w) func126

def aZP:RM:=⟨[(3,[(0,false),(1,false)]),(5,[(0,false),(1,false)]),(7,[(0,false),(1,false),(2,false)]),(9,[(0,false),(1,false),(3,false)])],[],[]⟩
def aTq:XFn:=by
 refine' (?f:(g:XFn)→(mkF prog f127 aZP false false []=g)→XFn) _ ?h
 case f=>exact fun g _=>g
 case h=>conv=>lhs;cbv
theorem aWr:aQ prog (127,aTq):=dQ (fun v w=>call127 v w) func127

def aZO:RM:=⟨[],[],[]⟩
def aCa:XFn:=by
 refine' (?f:(g:XFn)→(mkF prog f128 aZO false false []=g)→XFn) _ ?h
 case f=>exact fun g _=>g
 case h=>conv=>lhs;cbv
theorem aWq:aQ prog (128,aCa):=dQ (fun v w=>call128 v w) func128

def aZN:RM:=⟨[],[],[]⟩
def aEP:XFn:=by
 refine' (?f:(g:XFn)→(mkF prog f129 aZN false false []=g)→XFn) _ ?h
 case f=>exact fun g _=>g
 case h=>conv=>lhs;cbv
theorem aWp:aQ prog (129,aEP):=dQ (fun v w=>call129 v w) func129

def aZM:RM:=⟨[],[],[]⟩
def aOg:XFn:=by
 refine' (?f:(g:XFn)→(mkF prog f130 aZM false false []=g)→XFn) _ ?h
 case f=>exact fun g _=>g
 case h=>conv=>lhs;cbv
theorem aWo:aQ prog (130,aOg):=dQ (fun v w=>call130 v w) func130

def aZL:RM:=⟨[],[],[]⟩
def aEO:XFn:=by
 refine' (?f:(g:XFn)→(mkF prog f131 aZL false false []=g)→XFn) _ ?h
 case f=>exact fun g _=>g
 case h=>conv=>lhs;cbv
theorem aWn:aQ prog (131,aEO):=dQ (fun v w=>call131 v w) func131

def aZK:RM:=⟨[],[],[]⟩
def aIT:XFn:=by
 refine' (?f:(g:XFn)→(mkF prog f132 aZK false false []=g)→XFn) _ ?h
 case f=>exact fun g _=>g
 case h=>conv=>lhs;cbv
theorem aWm:aQ prog (132,aIT):=dQ (fun v w=>call132 v w) func132

def aZJ:RM:=⟨[],[],[]⟩
def aEN:XFn:=by
 refine' (?f:(g:XFn)→(mkF prog f133 aZJ false false []=g)→XFn) _ ?h
 case f=>exact fun g _=>g
 case h=>conv=>lhs;cbv
theorem aWl:aQ prog (133,aEN):=dQ (fun v w=>call133 v w) func133

def aZI:RM:=⟨[],[],[]⟩
def aEM:XFn:=by
 refine' (?f:(g:XFn)→(mkF prog f134 aZI false false []=g)→XFn) _ ?h
 case f=>exact fun g _=>g
 case h=>conv=>lhs;cbv
theorem aWk:aQ prog (134,aEM):=dQ (fun v w=>call134 v w) func134

def aZH:RM:=⟨[],[],[]⟩
def aIS:XFn:=by
 refine' (?f:(g:XFn)→(mkF prog f135 aZH false false []=g)→XFn) _ ?h
 case f=>exact fun g _=>g
 case h=>conv=>lhs;cbv
theorem aWj:aQ prog (135,aIS):=dQ (fun v w=>call135 v w) func135

def aZG:RM:=⟨[],[],[]⟩
def aEL:XFn:=by
 refine' (?f:(g:XFn)→(mkF prog f136 aZG false false []=g)→XFn) _ ?h
 case f=>exact fun g _=>g
 case h=>conv=>lhs;cbv
theorem aWi:aQ prog (136,aEL):=dQ (fun v w=>call136 v w) func136

def aZF:RM:=⟨[],[],[]⟩
def aOf:XFn:=by
 refine' (?f:(g:XFn)→(mkF prog f137 aZF false false []=g)→XFn) _ ?h
 case f=>exact fun g _=>g
 case h=>conv=>lhs;cbv
theorem aWh:aQ prog (137,aOf):=dQ (fun v w=>call137 v w) func137

def aZE:RM:=⟨[(11,[(1,false)])],[],[]⟩
def aTo:XFn:=by
 refine' (?f:(g:XFn)→(mkF prog f154 aZE false false []=g)→XFn) _ ?h
 case f=>exact fun g _=>g
 case h=>conv=>lhs;cbv
theorem aWg:aQ prog (154,aTo):=dQ (fun v w=>call154 v w) func154

def aZD:RM:=⟨[(1,[(1,false)])],[],[]⟩
def aTn:XFn:=by
 refine' (?f:(g:XFn)→(mkF prog f155 aZD false false []=g)→XFn) _ ?h
 case f=>exact fun g _=>g
 case h=>conv=>lhs;cbv
theorem aWf:aQ prog (155,aTn):=dQ (fun v w=>call155 v w) func155

def aZC:RM:=⟨[(1,[(1,false)])],[],[]⟩
def aTm:XFn:=by
 refine' (?f:(g:XFn)→(mkF prog f156 aZC false false []=g)→XFn) _ ?h
 case f=>exact fun g _=>g
 case h=>conv=>lhs;cbv
theorem aWe:aQ prog (156,aTm):=dQ (fun v w=>call156 v w) func156

def aZB:RM:=⟨[(1,[(1,false),(2,false)])],[],[]⟩
def aTl:XFn:=by
 refine' (?f:(g:XFn)→(mkF prog f157 aZB false false []=g)→XFn) _ ?h
 case f=>exact fun g _=>g
 case h=>conv=>lhs;cbv
theorem aWd:aQ prog (157,aTl):=dQ (fun v w=>call157 v w) func157

def aZA:RM:=⟨[(1,[(1,false),(2,false)])],[],[]⟩
def aTk:XFn:=by
 refine' (?f:(g:XFn)→(mkF prog f158 aZA false false []=g)→XFn) _ ?h
 case f=>exact fun g _=>g
 case h=>conv=>lhs;cbv
theorem aWc:aQ prog (158,aTk):=dQ (fun v w=>call158 v w) func158

def aZz:RM:=⟨[(1,[(2,true)]),(4,[(6,true)])],[],[]⟩
def aOe:XFn:=by
 refine' (?f:(g:XFn)→(mkF prog f159 aZz false false []=g)→XFn) _ ?h
 case f=>exact fun g _=>g
 case h=>conv=>lhs;cbv
theorem aWb:aQ prog (159,aOe):=dQ (fun v w=>call159 v w) func159

def aZy:RM:=⟨[],[],[]⟩
def aOd:XFn:=by
 refine' (?f:(g:XFn)→(mkF prog f160 aZy false false []=g)→XFn) _ ?h
 case f=>exact fun g _=>g
 case h=>conv=>lhs;cbv
theorem aWa:aQ prog (160,aOd):=dQ (fun v w=>call160 v w) func160

def aZx:RM:=⟨[],[],[]⟩
def aTi:XFn:=by
 refine' (?f:(g:XFn)→(mkF prog f175 aZx false false []=g)→XFn) _ ?h
 case f=>exact fun g _=>g
 case h=>conv=>lhs;cbv
theorem aVZ:aQ prog (175,aTi):=dQ (fun v w=>call175 v w) func175

def aVr:RM:=⟨[],[[1,8,9,10,11,12,13,99,100,101]],[]⟩
def aRe:XCode:=by
 refine' (?f:(g:XCode)→(mkL prog f179 aVr 0 []=g)→XCode) _ ?h
 case f=>exact fun g _=>g
 case h=>conv=>lhs;cbv
def aTh:XFn:=by
 refine' (?f:(g:XCode→XFn)→(∀ a,mkF prog f179 aVr false false [a]=g a)→XFn) _ ?h
 case f=>exact fun g _=>g aRe
 case h=>intro a;conv=>lhs;cbv
theorem aVY:aQ prog (179,aTh):=dQ (fun v w=>call179 v w) func179

def aZw:RM:=⟨[],[],[]⟩
def aTg:XFn:=by
 refine' (?f:(g:XFn)→(mkF prog f180 aZw false false []=g)→XFn) _ ?h
 case f=>exact fun g _=>g
 case h=>conv=>lhs;cbv
theorem aVX:aQ prog (180,aTg):=dQ (fun v w=>call180 v w) func180

def aZv:RM:=⟨[],[],[]⟩
def aTf:XFn:=by
 refine' (?f:(g:XFn)→(mkF prog f181 aZv false false []=g)→XFn) _ ?h
 case f=>exact fun g _=>g
 case h=>conv=>lhs;cbv
theorem aVW:aQ prog (181,aTf):=dQ (fun v w=>call181 v w) func181

def aZu:RM:=⟨[(1,[(1,true)]),(4,[(1,true)])],[],[]⟩
def aOc:XFn:=by
 refine' (?f:(g:XFn)→(mkF prog f182 aZu false false []=g)→XFn) _ ?h
 case f=>exact fun g _=>g
 case h=>conv=>lhs;cbv
theorem aVV:aQ prog (182,aOc):=dQ (fun v w=>call182 v w) func182

def aVq:RM:=⟨[],[[1,5,8,9]],[]⟩
def aKn:XCode:=by
 refine' (?f:(g:XCode)→(mkL prog f183 aVq 0 []=g)→XCode) _ ?h
 case f=>exact fun g _=>g
 case h=>conv=>lhs;cbv
def aOb:XFn:=by
 refine' (?f:(g:XCode→XFn)→(∀ a,mkF prog f183 aVq false false [a]=g a)→XFn) _ ?h
 case f=>exact fun g _=>g aKn
 case h=>intro a;conv=>lhs;cbv
theorem aVU:aQ prog (183,aOb):=dQ (fun v w=>call183 v w) func183

def aZt:RM:=⟨[(2,[(3,true),(1,true)]),(4,[(6,false),(3,true)]),(5,[(1,true),(6,false)])],[],[[1,2,3,5]]⟩
def aKm:XFn:=by
 refine' (?f:(g:XFn)→(mkF prog f184 aZt false false []=g)→XFn) _ ?h
 case f=>exact fun g _=>g
 case h=>conv=>lhs;cbv
theorem aVT:aQ prog (184,aKm):=⟨⟨fun vs w=>call184 vs w,_,_,func184,rfl,rfl,by kernel_rfl,by kernel_rfl⟩,by kernel_rfl,⟨aO rfl,⟨aO rfl,⟨⟨aO rfl,⟨by kernel_rfl,aO rfl,aO rfl⟩⟩,aO rfl⟩⟩⟩,rfl⟩

def aZs:RM:=⟨[],[],[]⟩
def aOa:XFn:=by
 refine' (?f:(g:XFn)→(mkF prog f185 aZs false false []=g)→XFn) _ ?h
 case f=>exact fun g _=>g
 case h=>conv=>lhs;cbv
theorem aVS:aQ prog (185,aOa):=dQ (fun v w=>call185 v w) func185

def aZr:RM:=⟨[],[],[]⟩
def aNZ:XFn:=by
 refine' (?f:(g:XFn)→(mkF prog f186 aZr false false []=g)→XFn) _ ?h
 case f=>exact fun g _=>g
 case h=>conv=>lhs;cbv
theorem aVR:aQ prog (186,aNZ):=dQ (fun v w=>call186 v w) func186

def aZq:RM:=⟨[],[],[]⟩
def aTd:XFn:=by
 refine' (?f:(g:XFn)→(mkF prog f197 aZq false false []=g)→XFn) _ ?h
 case f=>exact fun g _=>g
 case h=>conv=>lhs;cbv
theorem aVQ:aQ prog (197,aTd):=dQ (fun v w=>call197 v w) func197

def aZp:RM:=⟨[],[],[]⟩
def aTc:XFn:=by
 refine' (?f:(g:XFn)→(mkF prog f198 aZp false false []=g)→XFn) _ ?h
 case f=>exact fun g _=>g
 case h=>conv=>lhs;cbv
theorem aVP:aQ prog (198,aTc):=dQ (fun v w=>call198 v w) func198

def aZo:RM:=⟨[],[],[]⟩
def aTb:XFn:=by
 refine' (?f:(g:XFn)→(mkF prog f201 aZo false false []=g)→XFn) _ ?h
 case f=>exact fun g _=>g
 case h=>conv=>lhs;cbv
theorem aVO:aQ prog (201,aTb):=dQ (fun v w=>call201 v w) func201

def aVp:RM:=⟨[],[[0,3,4,5]],[]⟩
def aRd:XCode:=by
 refine' (?f:(g:XCode)→(mkL prog f202 aVp 0 []=g)→XCode) _ ?h
 case f=>exact fun g _=>g
 case h=>conv=>lhs;cbv
def aTa:XFn:=by
 refine' (?f:(g:XCode→XFn)→(∀ a,mkF prog f202 aVp false false [a]=g a)→XFn) _ ?h
 case f=>exact fun g _=>g aRd
 case h=>intro a;conv=>lhs;cbv
theorem aVN:aQ prog (202,aTa):=dQ (fun v w=>call202 v w) func202

def aVo:RM:=⟨[(5,[(1,true)]),(7,[(1,true)]),(13,[(1,true)]),(15,[(5,true),(3,false)])],[[1,3,25,26,27]],[]⟩
def aKl:XCode:=by
 refine' (?f:(g:XCode)→(mkL prog f203 aVo 0 []=g)→XCode) _ ?h
 case f=>exact fun g _=>g
 case h=>conv=>lhs;cbv
def aNY:XFn:=by
 refine' (?f:(g:XCode→XFn)→(∀ a,mkF prog f203 aVo false false [a]=g a)→XFn) _ ?h
 case f=>exact fun g _=>g aKl
 case h=>intro a;conv=>lhs;cbv
theorem aVM:aQ prog (203,aNY):=dQ (fun v w=>call203 v w) func203

def aVn:RM:=⟨[],[[1,5,9,10,11]],[]⟩
def aKk:XCode:=by
 refine' (?f:(g:XCode)→(mkL prog f204 aVn 0 []=g)→XCode) _ ?h
 case f=>exact fun g _=>g
 case h=>conv=>lhs;cbv
def aNX:XFn:=by
 refine' (?f:(g:XCode→XFn)→(∀ a,mkF prog f204 aVn false false [a]=g a)→XFn) _ ?h
 case f=>exact fun g _=>g aKk
 case h=>intro a;conv=>lhs;cbv
theorem aVL:aQ prog (204,aNX):=dQ (fun v w=>call204 v w) func204

def aZn:RM:=⟨[],[],[]⟩
def aNW:XFn:=by
 refine' (?f:(g:XFn)→(mkF prog f205 aZn false false []=g)→XFn) _ ?h
 case f=>exact fun g _=>g
 case h=>conv=>lhs;cbv
theorem aVK:aQ prog (205,aNW):=dQ (fun v w=>call205 v w) func205

def aVm:RM:=⟨[(2,[(2,true)])],[[0,1,2,4]],[]⟩
def aKj:XCode:=by
 refine' (?f:(g:XCode)→(mkL prog f206 aVm 0 []=g)→XCode) _ ?h
 case f=>exact fun g _=>g
 case h=>conv=>lhs;cbv
def aNV:XFn:=by
 refine' (?f:(g:XCode→XFn)→(∀ a,mkF prog f206 aVm false false [a]=g a)→XFn) _ ?h
 case f=>exact fun g _=>g aKj
 case h=>intro a;conv=>lhs;cbv
theorem aVJ:aQ prog (206,aNV):=dQ (fun v w=>call206 v w) func206

def aVl:RM:=⟨[],[[0,7,8,9]],[]⟩
def aKi:XCode:=by
 refine' (?f:(g:XCode)→(mkL prog f207 aVl 0 []=g)→XCode) _ ?h
 case f=>exact fun g _=>g
 case h=>conv=>lhs;cbv
def aNU:XFn:=by
 refine' (?f:(g:XCode→XFn)→(∀ a,mkF prog f207 aVl false false [a]=g a)→XFn) _ ?h
 case f=>exact fun g _=>g aKi
 case h=>intro a;conv=>lhs;cbv
theorem aVI:aQ prog (207,aNU):=dQ (fun v w=>call207 v w) func207

def aZm:RM:=⟨[(1,[(0,false)])],[],[]⟩
def aNT:XFn:=by
 refine' (?f:(g:XFn)→(mkF prog f211 aZm false false []=g)→XFn) _ ?h
 case f=>exact fun g _=>g
 case h=>conv=>lhs;cbv
theorem aVH:aQ prog (211,aNT):=dQ (fun v w=>call211 v w) func211

def aZl:RM:=⟨[],[],[]⟩
def aNS:XFn:=by
 refine' (?f:(g:XFn)→(mkF prog f212 aZl false false []=g)→XFn) _ ?h
 case f=>exact fun g _=>g
 case h=>conv=>lhs;cbv
theorem aVG:aQ prog (212,aNS):=dQ (fun v w=>call212 v w) func212

def aZk:RM:=⟨[(1,[(0,false),(1,false)])],[],[]⟩
def aNR:XFn:=by
 refine' (?f:(g:XFn)→(mkF prog f213 aZk false false []=g)→XFn) _ ?h
 case f=>exact fun g _=>g
 case h=>conv=>lhs;cbv
theorem aVF:aQ prog (213,aNR):=dQ (fun v w=>call213 v w) func213

def aVk:RM:=⟨[],[[0,1,7,8]],[]⟩
def aKh:XCode:=by
 refine' (?f:(g:XCode)→(mkL prog f215 aVk 0 []=g)→XCode) _ ?h
 case f=>exact fun g _=>g
 case h=>conv=>lhs;cbv
def aNQ:XFn:=by
 refine' (?f:(g:XCode→XFn)→(∀ a,mkF prog f215 aVk false false [a]=g a)→XFn) _ ?h
 case f=>exact fun g _=>g aKh
 case h=>intro a;conv=>lhs;cbv
theorem aVE:aQ prog (215,aNQ):=dQ (fun v w=>call215 v w) func215

def aZj:RM:=⟨[(2,[(1,false)])],[],[[2,5]]⟩
def aKg:XFn:=by
 refine' (?f:(g:XFn)→(mkF prog f234 aZj false false []=g)→XFn) _ ?h
 case f=>exact fun g _=>g
 case h=>conv=>lhs;cbv
theorem aVD:aQ prog (234,aKg):=⟨⟨fun vs w=>call234 vs w,_,_,func234,rfl,rfl,by kernel_rfl,by kernel_rfl⟩,by kernel_rfl,⟨aO rfl,⟨aO rfl,⟨⟨aO rfl,⟨by kernel_rfl,aO rfl,aO rfl⟩⟩,aO rfl⟩⟩⟩,rfl⟩

def aZi:RM:=⟨[(1,[(2,true),(1,false)])],[],[]⟩
def aNP:XFn:=by
 refine' (?f:(g:XFn)→(mkF prog f235 aZi false false []=g)→XFn) _ ?h
 case f=>exact fun g _=>g
 case h=>conv=>lhs;cbv
theorem aVC:aQ prog (235,aNP):=dQ (fun v w=>call235 v w) func235

def aZh:RM:=⟨[],[],[]⟩
def aNO:XFn:=by
 refine' (?f:(g:XFn)→(mkF prog f236 aZh false false []=g)→XFn) _ ?h
 case f=>exact fun g _=>g
 case h=>conv=>lhs;cbv
theorem aVB:aQ prog (236,aNO):=dQ (fun v w=>call236 v w) func236

def aVj:RM:=⟨[(1,[(1,true)])],[[0,1]],[]⟩
def aDA:XCode:=by
 refine' (?f:(g:XCode)→(mkL prog f237 aVj 0 []=g)→XCode) _ ?h
 case f=>exact fun g _=>g
 case h=>conv=>lhs;cbv
def aNN:XFn:=by
 refine' (?f:(g:XCode→XFn)→(∀ a,mkF prog f237 aVj false false [a]=g a)→XFn) _ ?h
 case f=>exact fun g _=>g aDA
 case h=>intro a;conv=>lhs;cbv
theorem aVA:aQ prog (237,aNN):=dQ (fun v w=>call237 v w) func237

def aZg:RM:=⟨[(1,[(0,false)])],[],[]⟩
def aNM:XFn:=by
 refine' (?f:(g:XFn)→(mkF prog f242 aZg false false []=g)→XFn) _ ?h
 case f=>exact fun g _=>g
 case h=>conv=>lhs;cbv
theorem aVz:aQ prog (242,aNM):=dQ (fun v w=>call242 v w) func242

def aZf:RM:=⟨[(1,[(0,false),(1,false)])],[],[]⟩
def aNL:XFn:=by
 refine' (?f:(g:XFn)→(mkF prog f243 aZf false false []=g)→XFn) _ ?h
 case f=>exact fun g _=>g
 case h=>conv=>lhs;cbv
theorem aVy:aQ prog (243,aNL):=dQ (fun v w=>call243 v w) func243

def aZe:RM:=⟨[(1,[(1,true)])],[],[]⟩
def aNK:XFn:=by
 refine' (?f:(g:XFn)→(mkF prog f244 aZe false false []=g)→XFn) _ ?h
 case f=>exact fun g _=>g
 case h=>conv=>lhs;cbv
theorem aVx:aQ prog (244,aNK):=dQ (fun v w=>call244 v w) func244

def aVi:RM:=⟨[],[[0,1,7,8]],[]⟩
def aKf:XCode:=by
 refine' (?f:(g:XCode)→(mkL prog f245 aVi 0 []=g)→XCode) _ ?h
 case f=>exact fun g _=>g
 case h=>conv=>lhs;cbv
def aNJ:XFn:=by
 refine' (?f:(g:XCode→XFn)→(∀ a,mkF prog f245 aVi false false [a]=g a)→XFn) _ ?h
 case f=>exact fun g _=>g aKf
 case h=>intro a;conv=>lhs;cbv
theorem aVw:aQ prog (245,aNJ):=dQ (fun v w=>call245 v w) func245

end Go.Proofs.YtmapgnepfgnphaaGreatDoor
end
