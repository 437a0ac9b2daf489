/- Parts of a proof, joined: DlA DlB DlC DlD DlE DlF DlG DlH DlI DlJ DlK DlL DlM. No statement of the seed is proved here. -/
import Derived.RangeFuncMany
import Derived.RangeFuncLeaves
import Derived.OrdersIn
import Derived.WalkKit
import Derived.Laws.StructEq
import Derived.Laws.BytesString
import Derived.Conc.SmallLaws
set_option linter.unusedSimpArgs false
set_option linter.unusedVariables false
set_option linter.unusedSectionVars false
set_option linter.defProp false
def A3:=@Option.map_eq_some_iff
def A4:=@Bool.and_eq_true
def A5:=@List.mem_of_getElem?
def A6:=@Nat.le_refl
def A7:=@Prod.mk.injEq
def A8:=@List.getElem?_eq_getElem
def A9:=@List.length_map
def B5:=@List.mem_cons
def B6:=@Option.isSome_iff_exists
def B7:=@List.mem_append
def B8:=@Bool.false_eq_true
def B9:=@Option.bind_eq_some_iff
def C3:=@Int.le_refl
def C4:=@List.getElem?_map
def C5:=@Option.map_some
def C6:=@List.mem_singleton
def C7:=@List.getD_eq_getElem?_getD
def C8:=@List.take_of_length_le
def C9:=@List.length_append
def D0:=@List.getElem?_eq_some_iff
def D4:=@List.getElem?_cons_zero
def D5:=@List.eq_nil_of_length_eq_zero
def D6:=@List.length_set
def D7:=@Array.getElem?_eq_getElem
def D8:=@List.getElem?_cons_succ
def D9:=@List.length_cons
def E5:=@Option.bind_some
def E6:=@Nat.lt_of_lt_of_le
def E7:=@List.mem_cons_of_mem
def E8:=@Array.getD_eq_getD_getElem?
def E9:=@List.getElem?_of_mem
def F6:=@Nat.mul_le_mul_right
def F7:=@List.mem_append_left
def F8:=@List.map_cons
def F9:=@List.not_mem_nil
def G1:=@List.mem_map
def G3:=@Array.getElem?_eq_some_iff
def G4:=@List.getElem?_append
def G5:=@List.getElem?_append_right
def G6:=@List.nil_append
def G7:=@Option.getD_some
def G8:=@Array.getElem?_toList
def G9:=@List.mem_append_right
def H6:=@List.replicate_succ
def H7:=@Array.getElem?_setIfInBounds
def H8:=@List.all_eq_true
def H9:=@List.cons_append
def I0:=@Nat.le_trans
def I1:=@ByteArray.size_append
def I2:=@List.append_nil
def I3:=@Nat.mod_lt
def I4:=@List.take_add_one
def I5:=@List.getElem?_append_left
def I6:=@List.set_eq_take_append_cons_drop
def I7:=@Array.length_toList
def I8:=@List.append_assoc
def I9:=@Bool.not_false
def J0:=@Nat.add_zero
def J1:=@List.ext_getElem?
def J2:=@List.getElem?_toArray
def J3:=@List.mem_cons_self
def J4:=@Nat.pow_le_pow_right
def J5:=@Nat.sub_self
def J6:=@List.drop_eq_nil_of_le
def J7:=@Int.tmod_eq_emod_of_nonneg
def J8:=@Int.tdiv_eq_ediv_of_nonneg
def J9:=@Nat.mod_eq_of_lt
def M0:=@Nat.zero_add
def M8:=@List.flatten_cons
def M9:=@Bool.not_eq_true'
def N4:=@List.nodup_cons
def N5:=@List.all_cons
def N6:=@Array.getElem?_map
def N7:=@List.mem_range
def N8:=@Nat.mul_le_mul
def N9:=@List.map_append
def O0:=@List.range_eq_range'
def O1:=@List.mem_of_mem_take
def O2:=@Classical.not_not
def O3:=@Nat.pow_lt_pow_right
def O4:=@List.Sublist.append_left
def O5:=@List.map_congr_left
def O6:=@List.take_append_of_le_length
def O7:=@Nat.sub_zero
def O8:=@Int.zero_add
def O9:=@List.sublist_cons_self
def aA0:=@Option.map_eq_none_iff
def aA1:=@Array.getElem?_append
def aA2:=@List.set_append_right
def aA3:=@Int.mul_lt_mul_of_pos_right
def aA4:=@List.mapM_cons
def aA5:=@List.mem_of_mem_drop
def aA6:=@List.getElem?_set_ne
def aA7:=@List.nodup_nil
def aA8:=@Option.ne_none_iff_exists'
def aA9:=@List.flatten_nil
def aB0:=@Int.le_trans
def aB1:=@List.range'_succ
def aB2:=@List.mem_flatMap
def aB3:=@List.drop_eq_getElem_cons
def aB4:=@List.set_eq_of_length_le
def aB5:=@List.length_nil
def aB6:=@Option.map_none
def aB7:=@List.range_succ
def aB8:=@Nat.add_sub_cancel
def aB9:=@Nat.lt_of_le_of_lt
def aC0:=@List.length_eq_zero_iff
def aC1:=@List.flatMap_cons
def aC2:=@Option.mem_toList
def aC3:=@Int.mul_nonneg
def aC4:=@List.getElem?_set_self
def aC5:=@List.map_map
def aC6:=@List.mem_iff_getElem?
def aC7:=@Nat.le_of_ble_eq_true
def aC8:=@List.length_take
def aC9:=@List.take_set
def aD0:=@Nat.mul_one
def aD1:=@Int.mul_le_mul_of_nonneg_left
def aD2:=@List.pairwise_append
def aD3:=@List.foldl_cons
def aD4:=@List.all_append
def aD5:=@List.cons.injEq
def aD6:=@Bool.or_eq_true
def aD7:=@Nat.min_eq_left
def aD8:=@Option.bind_eq_bind
def aD9:=@List.getElem?_range
def aE0:=@List.getD_cons_zero
def aE1:=@List.flatten_append
def aE2:=@Array.ext_getElem?
def aE3:=@Nat.one_le_two_pow
def aE4:=@List.append_of_mem
def aE5:=@List.pairwise_cons
def aE6:=@List.exists_cons_of_ne_nil
def aE7:=@UInt8.toNat_ofNat'
def aE8:=@List.set_cons_succ
def aE9:=@List.isSuffixOf_iff_suffix
def aF0:=@List.mem_or_eq_of_mem_set
def aF1:=@List.getElem?_eq_none_iff
def aF2:=@Int.lt_of_mul_lt_mul_left
def aF3:=@Nat.add_mul
def aF4:=@Bool.not_eq_false
def aF5:=@Nat.le_succ
def aF6:=@Bool.eq_false_iff
def aF7:=@List.getElem?_inj
def aF8:=@List.nodup_append
def aF9:=@Bool.true_and
def aG0:=@Array.getElem?_replicate
def aG1:=@List.drop_set
def aG2:=@List.sum_cons
def aG3:=@List.length_drop
def aG4:=@List.mem_flatten
def aG5:=@Nat.add_sub_cancel_left
def aG6:=@List.drop_append
def aG7:=@List.map_nil
def aG8:=@Int.add_zero
def aG9:=@Nat.succ_pos
def aH0:=@Option.pure_def
def aH1:=@Nat.and_le_left
def aH2:=@Nat.zero_le
def aH3:=@Int.add_mul
def aH4:=@Bool.and_false
def aH5:=@Nat.add_assoc
def aH6:=@Bool.and_self
def aH7:=@List.take_add
def aH8:=@Bool.not_true
set_option linter.defProp false
def AAd:=@if_false
def AAe:=@if_true
def AAf:=@decide_eq_true_eq
def AAg:=@or_false
def AAh:=@true_and
def AAi:=@decide_eq_true
def AAj:=@decide_eq_false
def AAk:=@eq_true
def AAl:=@eq_false
def AAm:=@not_false_eq_true
def AAn:=@congrArg
theorem AM{p:Prop}(h:p:=by omega):p:=h
theorem AAa{p:Prop}(h:p:=by omega):p=True:=eq_true h
theorem AAb{p:Prop}(h:¬p:=by omega):p=False:=eq_false h
abbrev AAo:ByteArray:=⟨⟨[102,97,114,109,101,114]⟩⟩
abbrev AAp:ByteArray:=⟨⟨[119,97,103,111,110]⟩⟩
abbrev AAq:ByteArray:=⟨⟨[118,111,105,100]⟩⟩
abbrev AAr:ByteArray:=⟨⟨[99,108,111,115,101]⟩⟩
abbrev AAs:ByteArray:=⟨⟨[109,101,116,101,114]⟩⟩
abbrev AAt:ByteArray:=⟨⟨[112,97,110]⟩⟩
abbrev AAu:ByteArray:=⟨⟨[110,101,116]⟩⟩
abbrev AAv:ByteArray:=⟨⟨[116,111,116,97,108]⟩⟩
abbrev AAw:ByteArray:=⟨⟨[116,105,99,107,101,116]⟩⟩
abbrev AAx:ByteArray:=⟨⟨[117,115,101,100]⟩⟩
abbrev AAy:ByteArray:=⟨⟨[108,111,115,115]⟩⟩
abbrev AAz:ByteArray:=⟨⟨[112,111,119,101,114]⟩⟩
abbrev AAA:ByteArray:=⟨⟨[119,110,110,102]⟩⟩
abbrev AAB:ByteArray:=⟨⟨[112,110,110]⟩⟩
namespace Go.DL
theorem oSI.{u} {α:Type u} {a b:α}:(some a=some b)=(a=b):=Option.some.injEq a b

inductive AV where
 | int (k:IntKind) (n:Int)
 | bool (b:Bool)
 | str (s:ByteArray)
 | agg (cs:List AV)
 | tup (vs:List AV)
 | fs (rows:List (List AV))
 | fp (rows:List (List AV)) (i off:Nat)
 | cs (rows:List (List AV))
 | sl (b off s len:Nat)
 | pt (b off:Nat)
 | mp (b:Nat)
 | sb (b n:Nat)
 | bp (b:Nat)
 | nilsl
 | nilpt
 | nilmap
 | fn (f:Fn) (first cap:List AV)
 | nilfn
 | ifc (t:TypeId) (v:AV)
 | nilifc
 | any
deriving Inhabited

inductive ABlk where
 | cells (wr:Bool) (cs:List AV)
 | map (wr:Bool) (es:List (AV×AV))
 | obj (wr:Bool) (o:Obj)
def ABlk.wr:ABlk→Bool
 | .cells p _=>p
 | .map p _=>p
 | .obj p _=>p
def ABlk.ro:ABlk→ABlk
 | .cells _ cs=>.cells false cs
 | .map _ es=>.map false es
 | .obj _ o=>.obj false o

abbrev aH:=Nat→AV
abbrev Hp:=Nat→Option ABlk
def anyE:aH:=fun _=>.any
def noH:Hp:=fun _=>none
def upd(e:aH)(k:Nat)(v:AV):aH:=fun j=>if j=k then v else e j
def aX(e:aH)(k:Option Nat)(v:AV):aH:=match k with|some k=>upd e k v|none=>e
def hset(H:Hp)(b:Nat)(x:ABlk):Hp:=fun j=>if j=b then some x else H j
def sX(H:Hp)(b:Nat):Bool:=match H b with
 | some x=>x.wr
 | none=>false
def iS(H:Hp):Hp:=fun b=>(H b).map ABlk.ro
def mV(H:Hp)(b:Nat):Hp:=fun j=>if j=b then none else H j

@[simp] theorem upd_same (e:aH) (k:Nat) (v:AV):upd e k v k=v:=by simp[upd]
theorem pK(e:aH){k j:Nat}(v:AV)(h:j≠k):upd e k v j=e j:=by simp[upd,h]
@[simp] theorem hset_same (H:Hp) (b:Nat) (x:ABlk):hset H b x b=some x:=by simp[hset]
theorem aO(H:Hp){b j:Nat}(x:ABlk)(h:j≠b):hset H b x j=H j:=by simp[hset,h]

def aFG:TypeId:=5
def aTf:TypeId:=104
inductive Rv(F:Nat→Prop)(w:World):AV→Value→Prop where
 | int (k:IntKind) (n:Int):Rv F w (.int k n) (.int k n)
 | bool (b:Bool):Rv F w (.bool b) (.bool b)
 | str (s:ByteArray):Rv F w (.str s) (.string s)
 | agg (cs:List AV) (vs:Array Value) (hl:cs.length=vs.size) (ho:∀(i:Nat)(v:Value),vs[i]?=some v→v.oneCell'=true)
  (h:∀(i:Nat)(c:AV)(v:Value),cs[i]?=some c→vs[i]?=some v→Rv F w c v):Rv F w (.agg cs) (.agg vs)
 | tup (cs:List AV) (vs:Array Value) (hl:cs.length=vs.size)
  (h:∀(i:Nat)(c:AV)(v:Value),cs[i]?=some c→vs[i]?=some v→Rv F w c v):Rv F w (.tup cs) (.tuple vs)
 | fs0 (a:Option Addr) (cap:Nat):Rv F w (.fs []) (.slice a 0 cap)
 | fs (rows:List (List AV)) (blk off s cap:Nat) (g:Nat→Nat→Value) (hcap:rows.length≤cap) (hF:F blk) (hs:∀ r∈rows,r.length=s)
  (hc:∀(i:Nat)(r:List AV)(j:Nat)(c:AV),rows[i]?=some r→r[j]?=some c→w.cell? ⟨blk,off+i*s+j,none⟩=some (g i j))
  (ho:∀(i j:Nat),(g i j).oneCell'=true)
  (h:∀(i:Nat)(r:List AV)(j:Nat)(c:AV),rows[i]?=some r→r[j]?=some c→Rv F w c (g i j)) :
  Rv F w (.fs rows) (.slice (some ⟨blk,off,none⟩) rows.length cap)
 | fp (rows:List (List AV)) (i o:Nat) (blk off s:Nat) (g:Nat→Nat→Value) (hF:F blk) (hs:∀ r∈rows,r.length=s)
  (hc:∀(i:Nat)(r:List AV)(j:Nat)(c:AV),rows[i]?=some r→r[j]?=some c→w.cell? ⟨blk,off+i*s+j,none⟩=some (g i j))
  (ho:∀(i j:Nat),(g i j).oneCell'=true)
  (h:∀(i:Nat)(r:List AV)(j:Nat)(c:AV),rows[i]?=some r→r[j]?=some c→Rv F w c (g i j)) :
  Rv F w (.fp rows i o) (.pointer (some ⟨blk,off+i*s+o,none⟩))
 | cs (rows:List (List AV)) (a:Option Addr) (h:Rv F w (.fs rows) (.slice a rows.length rows.length)):Rv F w (.cs rows) (.slice a rows.length rows.length)
 | sl (b off s len cap:Nat) (c:Array Value) (e:TypeId) (fr:Nat×Nat) (hb:w.heap[b]?=some (.cells c e fr)) (hcap:off+cap*s≤c.size) (hlen:len≤cap) :
  Rv F w (.sl b off s len) (.slice (some ⟨b,off,none⟩) len cap)
 | pt (b off:Nat):Rv F w (.pt b off) (.pointer (some ⟨b,off,none⟩))
 | mp (b:Nat):Rv F w (.mp b) (.map (some b))
 | sb (b n cap:Nat) (c:Array Value) (fr:Nat×Nat) (hb:w.heap[b]?=some (.cells c aFG fr)) (hcap:cap≤c.size) (hlen:n≤cap):Rv F w (.sb b n) (.slice (some ⟨b,0,none⟩) n cap)
 | bp (b:Nat) (c:Array Value) (fr:Nat×Nat) (hb:w.heap[b]?=some (.cells c aTf fr)) (hsz:c.size=2):Rv F w (.bp b) (.pointer (some ⟨b,0,none⟩))
 | nilsl:Rv F w .nilsl (.slice none 0 0)
 | nilpt:Rv F w .nilpt (.pointer none)
 | nilmap:Rv F w .nilmap (.map none)
 | fn (f:Fn) (first cap:List AV) (fv cv:Array Value) (hl1:first.length=fv.size) (hl2:cap.length=cv.size)
  (h1:∀(i:Nat)(c:AV)(v:Value),first[i]?=some c→fv[i]?=some v→Rv F w c v)
  (h2:∀(i:Nat)(c:AV)(v:Value),cap[i]?=some c→cv[i]?=some v→Rv F w c v):Rv F w (.fn f first cap) (.func f fv cv)
 | nilfn:Rv F w .nilfn .nilFunc
 | ifc (t:TypeId) (a:AV) (v:Value) (h:Rv F w a v):Rv F w (.ifc t a) (.iface t v)
 | nilifc:Rv F w .nilifc .nilIface
 | any (v:Value):Rv F w .any v

structure Up(F:Nat→Prop)(w:World)(F':Nat→Prop)(w':World):Prop where
 sub:∀ b,F b→F' b
 same:∀ b,F b→w'.heap[b]?=w.heap[b]?
 size:∀(b:Nat)(c:Array Value)(e:TypeId)(fr:Nat×Nat),w.heap[b]?=some (.cells c e fr) →
  ∃ c' e' fr',w'.heap[b]?=some (.cells c' e' fr')∧(c'.size,e')=(c.size,e)
 le:w.heap.size≤w'.heap.size

theorem aAr{F F':Nat→Prop}{w w':World}(hu:Up F w F' w'){a:Addr}(hF:F a.block):w'.cell? a=w.cell? a:=by
 unfold World.cell?;rw[hu.same _ hF]

theorem Rv.up{F F':Nat→Prop}{w w':World}(hu:Up F w F' w'){a:AV}{v:Value}(h:Rv F w a v):Rv F' w' a v:=by
 induction h with
 | int k n=>exact .int k n
 | bool b=>exact .bool b
 | str s=>exact .str s
 | agg cs vs hl ho _ ih=>exact .agg cs vs hl ho ih
 | tup cs vs hl _ ih=>exact .tup cs vs hl ih
 | fs0 a cap=>exact .fs0 a cap
 | fs rows blk off s cap g hcap hF hs hc ho _ ih =>
   exact .fs rows blk off s cap g hcap (hu.sub _ hF) hs (fun i r j c h1 h2=>by grind [aAr]) ho ih
 | fp rows i o blk off s g hF hs hc ho _ ih =>
   exact .fp rows i o blk off s g (hu.sub _ hF) hs (fun i r j c h1 h2=>by grind [aAr]) ho ih
 | cs rows a _ ih=>exact .cs rows a ih
 | sl b off s len cap c e fr hb hcap hlen =>
   obtain⟨c',e',fr',h1,h2⟩:=hu.size b c e fr hb;exact .sl b off s len cap c' e' fr' h1 (by grind) hlen
 | pt b off=>exact .pt b off
 | mp b=>exact .mp b
 | sb b n cap c fr hb hcap hlen =>
   obtain⟨c',e',fr',h1,h2⟩:=hu.size b c _ fr hb;obtain⟨h3,rfl⟩:=Prod.mk.inj h2;exact .sb b n cap c' fr' h1 AM hlen
 | bp b c fr hb hsz =>
   obtain⟨c',e',fr',h1,h2⟩:=hu.size b c _ fr hb;obtain⟨h3,rfl⟩:=Prod.mk.inj h2;exact .bp b c' fr' h1 (h3.trans hsz)
 | nilsl=>exact .nilsl
 | nilpt=>exact .nilpt
 | nilmap=>exact .nilmap
 | fn f first cap fv cv hl1 hl2 _ _ ih1 ih2=>exact .fn f first cap fv cv hl1 hl2 ih1 ih2
 | nilfn=>exact .nilfn
 | ifc t a v _ ih=>exact .ifc t a v ih
 | nilifc=>exact .nilifc
 | any v=>exact .any v


inductive RB(F:Nat→Prop)(w:World):ABlk→Obj→Prop where
 | cells (p:Bool) (cs:List AV) (c:Array Value) (e:TypeId) (fr:Nat×Nat) (hfr:∀ i,i<c.size→(fr.1≤i&&i<fr.2)=false) (hl:cs.length≤c.size) (ho:∀(i:Nat)(v:Value),c[i]?=some v→v.oneCell'=true)
  (h:∀(i:Nat)(a:AV)(v:Value),cs[i]?=some a→c[i]?=some v→Rv F w a v):RB F w (.cells p cs) (.cells c e fr)
 | map (p:Bool) (es:List (AV×AV)) (m:Array MapEntry) (clock:Nat) (hl:es.length=m.size)
  (h:∀(i:Nat)(a:AV×AV)(x:MapEntry),es[i]?=some a→m[i]?=some x→Rv F w a.1 x.key∧Rv F w a.2 x.val):RB F w (.map p es) (.map m clock)
 | obj (p:Bool) (o:Obj):RB F w (.obj p o) o


theorem RB.up{F F':Nat→Prop}{w w':World}(hu:Up F w F' w'){a:ABlk}{o:Obj}(h:RB F w a o):RB F' w' a o:=by
 cases h with
 | cells p cs c e fr hfr hl ho h=>exact .cells p cs c e fr hfr hl ho fun i a v h1 h2=>(h i a v h1 h2).up hu
 | map p es m clock hl h=>exact .map p es m clock hl fun i a x h1 h2=>⟨(h i a x h1 h2).1.up hu,(h i a x h1 h2).2.up hu⟩
 | obj p o=>exact .obj p o

structure St(F:Nat→Prop)(w:World)(H:Hp):Prop where
 lt:∀ b,F b→b<w.heap.size
 dis:∀ b x,H b=some x→¬F b
 blk:∀ b x,H b=some x→∃ o,w.heap[b]?=some o∧RB F w x o

structure SameIO(w w':World):Prop where
 os:w'.os=w.os
 tape:w'.tape=w.tape
 output:w'.output=w.output
theorem SameIO.refl(w:World):SameIO w w:=⟨rfl,rfl,rfl⟩
theorem SameIO.trans{w w' w'':World}(h:SameIO w w')(k:SameIO w' w''):SameIO w w'':=⟨k.os.trans h.os,k.tape.trans h.tape,k.output.trans h.output⟩

structure Ext(F:Nat→Prop)(w:World)(H:Hp)(F':Nat→Prop)(w':World)(H':Hp):Prop where
 sub:∀ b,F b→F' b
 fnew:∀ b,F' b→F b∨(H b).isSome=true∨w.heap.size≤b
 hdom:∀ b,(H' b).isSome=true→(H b).isSome=true∨w.heap.size≤b
 hnew:∀ b,sX H' b=true→sX H b=true∨w.heap.size≤b
 le:w.heap.size≤w'.heap.size
 same:∀ b,b<w.heap.size→sX H b=false→w'.heap[b]?=w.heap[b]?
 cells:∀(b:Nat)(c:Array Value)(e:TypeId)(fr:Nat×Nat),w.heap[b]?=some (.cells c e fr) →
  ∃ c' e' fr',w'.heap[b]?=some (.cells c' e' fr')∧(c'.size,e')=(c.size,e)
 io:SameIO w w'

variable{F F' F'':Nat→Prop}{w w' w'':World}{H H' H'':Hp}

theorem St.none_of(h:St F w H){b:Nat}(hF:F b):H b=none:=by
 cases hb:H b with
 | none=>rfl
 | some x=>exact absurd hF (h.dis b x hb)
theorem St.own_lt(h:St F w H){b:Nat}{x:ABlk}(hb:H b=some x):b<w.heap.size:=by
 obtain⟨o,ho,_⟩:=h.blk b x hb
 grind

theorem Ext.refl(F:Nat→Prop)(w:World)(H:Hp):Ext F w H F w H :=
 ⟨fun _ h=>h,fun _ h=>.inl h,fun _ h=>.inl h,fun _ h=>.inl h,A6 _,fun _ _ _=>rfl,fun _ c e fr h=>⟨c,e,fr,h,rfl⟩,SameIO.refl w⟩

theorem Ext.trans(h:Ext F w H F' w' H')(k:Ext F' w' H' F'' w'' H''):Ext F w H F'' w'' H'' where
 sub b hb:=k.sub b (h.sub b hb)
 fnew b hb:=by
  rcases k.fnew b hb with h1|h1|h1;·exact h.fnew b h1
  ·exact .inr (h.hdom b h1)
  ·exact .inr (.inr (I0 h.le h1))
 hdom b hb:=by
  rcases k.hdom b hb with h1|h1;·exact h.hdom b h1
  ·exact .inr (I0 h.le h1)
 hnew b hb:=by
  rcases k.hnew b hb with h1|h1;·exact h.hnew b h1
  ·exact .inr (I0 h.le h1)
 le:=I0 h.le k.le
 same b hb hn:=by
  have hn':sX H' b=false:=by
   cases h1:sX H' b with
   | false=>rfl
   | true =>
     rcases h.hnew b h1 with h2|h2;all_goals grind
  rw[k.same b (E6 hb h.le) hn',h.same b hb hn]
 cells b c e fr hb:=by
  obtain⟨c1,e1,f1,h1,h2⟩:=h.cells b c e fr hb;obtain⟨c2,e2,f2,h3,h4⟩:=k.cells b c1 e1 f1 h1
  grind
 io:=h.io.trans k.io

theorem Ext.up(h:Ext F w H F' w' H')(st:St F w H):Up F w F' w' :=
 ⟨h.sub,fun b hb=>h.same b (st.lt b hb) (by simp[sX,st.none_of hb]),h.cells,h.le⟩

theorem Ext.forget(h:Ext F w H F' w' H')(h1:∀ b x,H'' b=some x→H' b=some x):Ext F w H F' w' H'' :=
 { h with
   hdom:=fun b hb=>by
    cases h2:H'' b with
    | none=>grind
    | some x=>exact h.hdom b (by grind)
   hnew:=fun b hb=>by
    cases h2:H'' b with
    | none=>simp[sX,h2]at hb
    | some x=>exact h.hnew b (by simp_all [sX]) }
theorem St.forget(h:St F w H)(h1:∀ b x,H' b=some x→H b=some x):St F w H' :=
 ⟨h.lt,fun b x hb=>h.dis b x (h1 b x hb),fun b x hb=>h.blk b x (h1 b x hb)⟩

def aAk:Nat→Option (List AV):=fun g=>if g=2 then some [.int .u64 1,.int .u64 10,.int .u64 100,.int .u64 1000,.int .u64 10000,.int .u64 100000,.int .u64 1000000,.int .u64 10000000,.int .u64 100000000,.int .u64 1000000000,.int .u64 10000000000,.int .u64 100000000000,.int .u64 1000000000000,.int .u64 10000000000000,.int .u64 100000000000000,.int .u64 1000000000000000,.int .u64 10000000000000000,.int .u64 100000000000000000,.int .u64 1000000000000000000,.int .u64 10000000000000000000] else if g=0 then some [.int .u8 0,.int .u8 1,.int .u8 28,.int .u8 2,.int .u8 29,.int .u8 14,.int .u8 24,.int .u8 3,.int .u8 30,.int .u8 22,.int .u8 20,.int .u8 15,.int .u8 25,.int .u8 17,.int .u8 4,.int .u8 8,.int .u8 31,.int .u8 27,.int .u8 13,.int .u8 23,.int .u8 21,.int .u8 19,.int .u8 16,.int .u8 7,.int .u8 26,.int .u8 12,.int .u8 18,.int .u8 6,.int .u8 11,.int .u8 5,.int .u8 10,.int .u8 9] else if g=1 then some [.int .u8 0,.int .u8 1,.int .u8 56,.int .u8 2,.int .u8 57,.int .u8 49,.int .u8 28,.int .u8 3,.int .u8 61,.int .u8 58,.int .u8 42,.int .u8 50,.int .u8 38,.int .u8 29,.int .u8 17,.int .u8 4,.int .u8 62,.int .u8 47,.int .u8 59,.int .u8 36,.int .u8 45,.int .u8 43,.int .u8 51,.int .u8 22,.int .u8 53,.int .u8 39,.int .u8 33,.int .u8 30,.int .u8 24,.int .u8 18,.int .u8 12,.int .u8 5,.int .u8 63,.int .u8 55,.int .u8 48,.int .u8 27,.int .u8 60,.int .u8 41,.int .u8 37,.int .u8 16,.int .u8 46,.int .u8 35,.int .u8 44,.int .u8 21,.int .u8 52,.int .u8 32,.int .u8 23,.int .u8 11,.int .u8 54,.int .u8 26,.int .u8 40,.int .u8 15,.int .u8 34,.int .u8 20,.int .u8 31,.int .u8 10,.int .u8 25,.int .u8 14,.int .u8 19,.int .u8 9,.int .u8 13,.int .u8 8,.int .u8 7,.int .u8 6] else none
def aDx:List Nat:=[5]
def aDy:List (Nat×List Value):=[(2,(List.range 20).map fun i=>Value.int .u64 ((10^i:Nat):Int))]
def aBQ:List Nat:=[3,4]
def GI(F:Nat→Prop)(w:World):Prop:=(∀ g row,aAk g=some row→F g∧∃ gv:Nat→Value,(∀ j,(gv j).oneCell'=true)∧∀ j c,row[j]?=some c→w.cell? ⟨g,j,none⟩=some (gv j)∧Rv F w c (gv j)) ∧
 (∀ g∈aDx,F g∧∃ n:Int,w.cell? ⟨g,0,none⟩=some (.int .i64 n))∧(∀ p∈aDy,F p.1∧∃ e fr,w.heap[p.1]?=some (.cells p.2.toArray e fr)) ∧
 ∀ g∈aBQ,F g∧∃ v:Value,w.cell? ⟨g,0,none⟩=some v∧(v = .nilIface∨∃ te pe,v = .iface te pe)
theorem GI.up(hu:Up F w F' w')(h:GI F w):GI F' w':=by
 refine⟨fun g row hg=>?_,fun g hg=>?_,fun p hp=>?_,fun g hg=>?_⟩
 ·obtain⟨h1,gv,h2,h3⟩:=h.1 g row hg
  refine⟨hu.sub _ h1,gv,h2,fun j c hj=>?_⟩;obtain⟨h4,h5⟩:=h3 j c hj;exact⟨by grind [aAr],h5.up hu⟩
 ·obtain⟨h1,n,h2⟩:=h.2.1 g hg
  exact⟨hu.sub _ h1,n,by grind [aAr]⟩
 ·obtain⟨h1,e,fr,h2⟩:=h.2.2.1 p hp
  exact⟨hu.sub _ h1,e,fr,by rw[hu.same _ h1];exact h2⟩
 ·obtain⟨h1,v,h2,h3⟩:=h.2.2.2 g hg
  exact⟨hu.sub _ h1,v,by grind [aAr],h3⟩

structure RT(F:Nat→Prop)(w:World)(env:aH)(tmps:Array Value):Prop where
 rv:∀ k,Rv F w (env k) (tmps.getD k undef)
 gi:GI F w
def RE(F:Nat→Prop)(w:World)(env:aH)(a:Act):Prop:=RT F w env a.tmps
theorem RE.rv{env:aH}{a:Act}(h:RE F w env a):∀ k,Rv F w (env k) (a.tmps.getD k undef):=RT.rv h
theorem RE.gi{env:aH}{a:Act}(h:RE F w env a):GI F w:=RT.gi h

theorem RE.up{env:aH}{a:Act}(hu:Up F w F' w')(h:RE F w env a):RE F' w' env a:=⟨fun k=>(h.rv k).up hu,h.gi.up hu⟩

theorem RE.put{env:aH}{a:Act}{v:AV}{c:Value}{d:Option Nat}(h:RE F w env a)(hv:Rv F w v c)(hd:∀ k,d=some k→k<a.tmps.size):RE F w (aX env d v) (a.put d c):=by
 cases d with
 | none=>exact h
 | some d =>
   refine⟨fun k=>?_,h.gi⟩;by_cases hk:k=d
   ·subst hk
    have:k<a.tmps.size:=hd k rfl;simpa [aX,Act.put,E8,H7,this]using hv
   ·have:=h.rv k
    simp only[aX,pK env v hk,Act.put];simpa [E8,Array.getElem?_setIfInBounds_ne (Ne.symm hk)]using this

@[simp] theorem put_size (a:Act) (d:Option Nat) (v:Value):(a.put d v).tmps.size=a.tmps.size:=by cases d<;>simp[Act.put]
@[simp] theorem put_defers (a:Act) (d:Option Nat) (v:Value):(a.put d v).defers=a.defers:=by cases d<;>rfl

def Le(e e':aH):Prop:=∀ k,e' k = .any∨e' k=e k
theorem Le.refl(e:aH):Le e e:=fun _=>.inr rfl
theorem Le.anyE(e:aH):Le e anyE:=fun _=>.inl rfl
theorem Le.upd{e e':aH}{k:Nat}{v:AV}(h:Le e e')(hk:e k=v):Le e (upd e' k v):=fun j=>by
 by_cases hj:j=k;·simp_all
 ·rw[pK _ _ hj];exact h j
theorem RE.le{env env':aH}{a:Act}(h:RE F w env a)(hl:Le env env'):RE F w env' a:=⟨fun k=>by
 rcases hl k with h1|h1;·rw[h1];exact .any _
 ·rw[h1];exact h.rv k,h.gi⟩

theorem nD(st:St F w H){x:ABlk}{o:Obj}(hx:RB F (w.alloc o) x o)(hH:∀ b,H b≠none→b≠w.heap.size) :
 Ext F w H F (w.alloc o) (hset H w.heap.size x)∧St F (w.alloc o) (hset H w.heap.size x):=by
 have hget:∀ b,b<w.heap.size→(w.alloc o).heap[b]?=w.heap[b]?:=fun b hb=>by
  show (w.heap.push o)[b]?=_
  grind
 have hE:Ext F w H F (w.alloc o) (hset H w.heap.size x):=by
  refine⟨fun _ h=>h,fun _ h=>.inl h,fun b hb=>?_,fun b hb=>?_,by simp,fun b hb _=>hget b hb,fun b c e fr hb=>⟨c,e,fr,?_,rfl⟩,⟨rfl,rfl,rfl⟩⟩;·grind [aO]
  ·by_cases h1:b=w.heap.size
   all_goals simp_all [sX,hset]
  grind
 refine⟨hE,?_⟩;have hu:=hE.up st;refine⟨fun b hb=>E6 (st.lt b hb) hE.le,fun b y hb=>?_,fun b y hb=>?_⟩
 ·by_cases h1:b=w.heap.size
  ·subst h1;intro hF;exact absurd (st.lt _ hF) AM
  ·rw[aO _ _ h1]at hb;exact st.dis b y hb
 ·by_cases h1:b=w.heap.size
  ·subst h1
   simp only[hset_same,oSI]at hb;subst hb;exact⟨o,by show (w.heap.push o)[w.heap.size]?=_;simp,hx⟩
  ·rw[aO _ _ h1]at hb
   obtain⟨o',h2,h3⟩:=st.blk b y hb;exact⟨o',by grind,h3.up hu⟩

theorem St.size_none(st:St F w H):∀ b,H b≠none→b≠w.heap.size:=fun b hb e=>by
 cases h:H b with
 | none=>exact hb h
 | some x=>exact absurd (st.own_lt h) AM

theorem kO(st:St F w H){b:Nat}{x y:ABlk}{o o':Obj}(hb:H b=some x)(hwr:x.wr=true)(ho:w.heap[b]?=some o)
 (hw:w'.heap=w.heap.setIfInBounds b o') (hio:SameIO w w') (hsz:∀ c e fr,o = .cells c e fr→∃ c' e' fr',o' = .cells c' e' fr'∧(c'.size,e')=(c.size,e))
 (hy:∀ F' w',Up F w F' w'→RB F' w' y o'):Ext F w H F w' (hset H b y)∧St F w' (hset H b y):=by
 have hlt:b<w.heap.size:=(G3.1 ho).1;have hget:∀ j,j≠b→w'.heap[j]?=w.heap[j]?:=fun j hj=>by grind
 have hgetb:w'.heap[b]?=some o':=by grind
 have hE:Ext F w H F w' (hset H b y):=by
  refine⟨fun _ h=>h,fun _ h=>.inl h,fun j hj=>?_,fun j hj=>?_,by grind,fun j hj hn=>hget j (fun e=>by simp_all [sX]),fun j c e fr hj=>?_,hio⟩;·grind [aO]
  ·by_cases h1:j=b
   all_goals simp_all [sX,hset]
  grind
 refine⟨hE,?_⟩;have hu:=hE.up st;refine⟨fun j hj=>E6 (st.lt j hj) hE.le,fun j z hj=>?_,fun j z hj=>?_⟩
 ·by_cases h1:j=b
  ·subst h1;exact st.dis j x hb
  ·rw[aO _ _ h1]at hj;exact st.dis j z hj
 ·by_cases h1:j=b
  ·simp_all
  ·rw[aO _ _ h1]at hj
   obtain⟨o1,h2,h3⟩:=st.blk j z hj;exact⟨o1,by grind,h3.up hu⟩

theorem qM(st:St F w H):St F w.drew H :=
 ⟨st.lt,st.dis,fun b x hb=>let ⟨o,h1,h2⟩:=st.blk b x hb
  ⟨o,h1,h2.up (⟨fun _ h=>h,fun _ _=>rfl,fun b c e fr h=>⟨c,e,fr,h,rfl⟩,A6 _⟩:Up F w F w.drew)⟩⟩
theorem iW(F:Nat→Prop)(w:World)(H:Hp):Ext F w H F w.drew H :=
 ⟨fun _ h=>h,fun _ h=>.inl h,fun _ h=>.inl h,fun _ h=>.inl h,A6 _,fun _ _ _=>rfl,fun _ c e fr h=>⟨c,e,fr,h,rfl⟩,⟨rfl,rfl,rfl⟩⟩

inductive AO where
 | t (k:Nat)
 | c (v:AV)
 | meth (tab:List (TypeId×FuncId)) (k:Nat)
deriving Inhabited

def uK(t:TypeId)(v:AV):List (TypeId×FuncId)→AV
 | []=>.any
 | (u,f)::r=>if u=t then .fn (.func f) [v] [] else uK t v r
def aDk(tab:List (TypeId×FuncId)):AV→AV
 | .ifc t v=>uK t v tab
 | _=>.any
def aL(e:aH):AO→AV
 | .t k=>e k
 | .c v=>v
 | .meth tab k=>aDk tab (e k)

def xQ:Value→AV
 | .int k n=>.int k n
 | .bool b=>.bool b
 | .string s=>.str s
 | .pointer none=>.nilpt
 | .slice none 0 0=>.nilsl
 | .map none=>.nilmap
 | .nilFunc=>.nilfn
 | .nilIface=>.nilifc
 | _=>.any

def zY(cs:Array Value):Bool:=cs.toList.all Value.oneCell'
def aPj:Value→AV
 | .agg cs=>if zY cs then .agg (cs.toList.map xQ) else .any
 | v=>xQ v

def cellsOf:AV→Option (List AV)
 | .agg cs=>some cs
 | .tup _=>none
 | .any=>none
 | v=>some [v]

def bG(z:List AV)(off:Nat)(cs:List AV):List AV:=z.take off++cs++z.drop (off+cs.length)

def gG(z:List AV):List (Nat×Nat×AV)→Option (List AV)
 | []=>some z
 | (off,n,v)::rest =>
   match cellsOf v with
   | some cs=>if cs.length=n∧off+n≤z.length then gG (bG z off cs) rest else none
   | none=>none

def iT(agg:Bool)(n:Nat)(cs:List AV)(o:Nat):Option AV :=
 if agg then (if o+n≤cs.length then some (.agg ((cs.drop o).take n)) else none) else cs[o]?

def fG(agg:Bool)(n:Nat)(H:Hp):AV→Option AV
 | .pt b o=>match H b with
   | some (.cells _ cs)=>iT agg n cs o
   | _=>none
 | .fp rows i o=>match rows[i]? with
   | some r=>iT agg n r o
   | none=>none
 | _=>none

def kU:Nat→AV→AV→Option Bool
 | 0,.int k a,.int k' b=>if k=k' then some (a==b) else none
 | 1,.bool a,.bool b=>some (a==b)
 | 2,.str a,.str b=>some (a==b)
 | _,_,_=>none
def bC:List Nat→List AV→List AV→Option Bool
 | [],[],[]=>some true
 | k::ks,a::r,b::s=>match kU k a b,bC ks r s with
   | some x,some y=>some (x&&y)
   | _,_=>none
 | _,_,_=>none

def eM:Nat→AV→AV→Option Bool
 | 0,.int k a,.int k' b=>if k=k' then some (a==b) else none
 | 1,.str a,.str b=>some (a==b)
 | n+2,.agg as,.agg bs=>bC (List.replicate n 0) as bs
 | _,_,_=>none
def qB:Nat→AV→Bool
 | 0,_|1,_=>true
 | n+2,.agg as=>bC (List.replicate n 0) as as==some true
 | _,_=>false

def aR(q:Nat)(k:AV):List (AV×AV)→Option (Option AV)
 | []=>if qB q k then some none else none
 | (a,v)::r=>match eM q k a with
   | some true=>some (some v)
   | some false=>aR q k r
   | none=>none

def oO(op:BinOp)(k:IntKind)(x y:Int):Int :=
 let a:=BitVec.ofInt k.bits x
 let b:=BitVec.ofInt k.bits y
 match op with
 | .and=>k.wrap (a&&&b).toNat
 | .or=>k.wrap (a|||b).toNat
 | .xor=>k.wrap (a^^^b).toNat
 | _=>k.wrap (a &&& ~~~b).toNat

def gU(op:BinOp)(k:IntKind)(a:Int)(k':IntKind)(b:Int):Option AV :=
 match op with
 | .shl=>if b<0 then none else some (.int k (k.wrap (a*2^min b.toNat k.bits)))
 | .shr=>if b<0 then none else some (.int k (a.fdiv (2^min b.toNat k.bits)))
 | .add=>if k=k' then some (.int k (k.wrap (a+b))) else none
 | .sub=>if k=k' then some (.int k (k.wrap (a-b))) else none
 | .mul=>if k=k' then some (.int k (k.wrap (a*b))) else none
 | .quo=>if k=k'∧b≠0 then some (.int k (k.wrap (a.tdiv b))) else none
 | .rem=>if k=k'∧b≠0 then some (.int k (a.tmod b)) else none
 | .and=>if k=k' then some (.int k (oO .and k a b)) else none
 | .or=>if k=k' then some (.int k (oO .or k a b)) else none
 | .xor=>if k=k' then some (.int k (oO .xor k a b)) else none
 | .andNot=>if k=k' then some (.int k (oO .andNot k a b)) else none
 | .eql=>if k=k' then some (.bool (a==b)) else none
 | .neq=>if k=k' then some (.bool (a != b)) else none
 | .lss=>if k=k' then some (.bool (decide (a<b))) else none
 | .leq=>if k=k' then some (.bool (decide (a≤b))) else none
 | .gtr=>if k=k' then some (.bool (decide (b<a))) else none
 | .geq=>if k=k' then some (.bool (decide (b≤a))) else none

def aY(op:BinOp)(a b:ByteArray):Option AV :=
 match op with
 | .add=>if ((a.size+b.size:Nat):Int)>IntKind.i64.max then none else some (.str (a++b))
 | .eql=>some (.bool (a.toList==b.toList))
 | .neq=>some (.bool !(a.toList==b.toList))
 | .lss=>some (.bool (Op.bytesLess a.toList b.toList))
 | _=>none

def aDX(op:BinOp):AV→AV→Option AV
 | .int k a,.int k' b=>gU op k a k' b
 | .str a,.str b=>aY op a b
 | _,_=>none

def wL:Nat→AV→AV→Option Bool
 | 0,.nilsl,.nilsl=>some true
 | 0,.sl ..,.nilsl=>some false
 | 0,.fs (_::_),.nilsl=>some false
 | 1,.nilmap,.nilmap=>some true
 | 1,.mp _,.nilmap=>some false
 | 2,.nilfn,.nilfn=>some true
 | 2,.fn ..,.nilfn=>some false
 | 3,.nilpt,.nilpt=>some true
 | 3,.pt ..,.nilpt=>some false
 | 3,.fp ..,.nilpt=>some false
 | 4,.ifc ..,.nilifc=>some false
 | 5,.ifc ..,.nilifc=>some false
 | 5,.nilifc,.nilifc=>some true
 | _,_,_=>none

inductive DOp where
 | mv (x:AO)
 | pick (c a b:AO)
 | alloc (z:List AV)
 | box (x:AO)
 | build (z:List AV) (parts:List (Nat×Nat×AO))
 | bslice (s len:Nat) (z:List AV) (parts:List (Nat×Nat×AO))
 | load (agg:Bool) (n:Nat) (x:AO)
 | nilck (x:AO)
 | bin (op:BinOp) (x y:AO)
 | binb (neg:Bool) (x y:AO)
 | eqag (neg:Bool) (ks:List Nat) (x y:AO)
 | eqn (kd:Nat) (neg:Bool) (x y:AO)
 | not (x:AO)
 | neg (x:AO)
 | conv (k:IntKind) (x:AO)
 | mkf (f:Fn) (first cap:List AO)
 | fld (off:Nat) (x:AO)
 | idxa (len s:Nat) (x i:AO)
 | idx (s:Nat) (x i:AO)
 | idxv (agg:Bool) (len s:Nat) (x i:AO)
 | idxs (x i:AO)
 | mksl (s bytes:Nat) (z:List AV) (l c:AO)
 | slarr (len s:Nat) (x:AO) (lo hi:Option AO)
 | slsl (s:Nat) (x:AO) (lo hi:Option AO)
 | slstr (x:AO) (lo hi:Option AO)
 | mkmap
 | allocb
 | lookup (q:Nat) (ok:Bool) (z:AV) (m k:AO)
 | ext (x:AO) (i:Nat)
 | len (q:Bool) (x:AO)
 | lenm (x:AO)
 | clip (s:Nat) (x h m:AO)
 | app (s bytes:Nat) (x y:AO)
 | mm (mx:Bool) (x y:AO)
 | mkifc (t:TypeId) (x:AO)
 | bytes (x:AO)
 | strof (x:AO)
 | rngs (x:AO)
 | stuck
 | store (n:Nat) (p x:AO) (aBa:List Nat)
 | copy (s:Nat) (x y:AO)
 | mapup (q:Nat) (m k x:AO)
 | nxts (x:AO)
 | callf (quiet:Bool) (f:AO) (args:List AO) (aBa:List Nat)

inductive Eff where
 | val (v:AV)
 | new (own:Option Nat) (x:ABlk) (f:Nat→AV)

def aS(cap:Nat)(d:Nat)(e:aH):Option AO→Option Nat
 | none=>some d
 | some x=>match aL e x with
   | .int _ n=>if 0≤n∧n≤(cap:Int) then some n.toNat else none
   | _=>none

def eT(s:Nat)(H:Hp):AV→Option (Nat×List AV)
 | .nilsl=>some (0,[])
 | .str x=>if s=1 then some (x.size,x.data.toList.map fun b=>.int .u8 (b.toNat:Int)) else none
 | .fs rows=>if rows.all (fun r=>r.length==s) then some (rows.length,rows.flatten) else none
 | .sl b o s' len=>match H b with
   | some (.cells _ cs)=>if s'=s∧o+len*s≤cs.length then some (len,(cs.drop o).take (len*s)) else none
   | _=>none
 | _=>none

def jQ:List AV→Option (List UInt8)
 | []=>some []
 | .int .u8 n::r=>(jQ r).map (UInt8.ofNat n.toNat :: ·)
 | _=>none
def nJ:Option (Nat×List AV)→Option AV
 | some (_,cs)=>(jQ cs).map fun l=>.str ⟨⟨l⟩⟩
 | none=>none

def jE(H:Hp):AV→Option AV
 | .str _=>none
 | v=>nJ (eT 1 H v)
def pC(s bytes:Nat)(H:Hp)(x y:AV):Option Eff :=
 match eT s H y with
 | none=>none
 | some (n,new) =>
   match x with
   | .cs rows=>if rows.all (fun r=>r.length==s)∧n≠0∧(rows.length+n)*bytes≤1099511627776∧rows.length+n≤1099511627776 then some (.new none (.cells true (rows.flatten++new)) fun b=>.sl b 0 s (rows.length+n)) else none
   | .nilsl=>if n*bytes≤1099511627776∧n≤1099511627776 then (if n=0 then some (.val .nilsl) else some (.new none (.cells true new) fun b=>if bytes=1048577 then .sb b n else .sl b 0 s n)) else none
   | .sb b len=>match H b with
     | some (.cells true cs)=>if bytes=1048577∧s=1∧len=cs.length∧len+n≤1099511627776 then some (.new (some b) (.cells true (cs++new)) fun b=>.sb b (len+n)) else none
     | _=>none
   | .sl b 0 s' len=>match H b with
     | some (.cells true cs)=>if s'=s∧len*s=cs.length∧(len+n)*bytes≤1099511627776∧len+n≤1099511627776 then some (.new (some b) (.cells true (cs++new)) fun b=>.sl b 0 s (len+n)) else none
     | _=>none
   | _=>none

def aED(s bytes:Nat)(H:Hp)(x y:AV):Option (Eff×Eff):=match eT s H y,x with
 | some (n,new),.sl b off s' len=>match H b with
   | some (.cells true cs)=>if s'=s∧off+len*s=cs.length∧(len+n)*bytes≤1099511627776∧len+n≤1099511627776 then some (.new (some b) (.cells true (cs++new)) fun j=>.sl j off s (len+n),.new none (.cells true (cs.drop off++new)) fun j=>.sl j 0 s (len+n)) else none
   | _=>none
 | _,_=>none

def lX(s:Nat)(e:aH)(lo hi:Option AO):AV→Option AV
 | .fs rows=>if rows.all (fun r=>r.length==s) then (match aS rows.length rows.length e hi with
   | some h=>match aS h 0 e lo with
     | some l=>some (.fs ((rows.drop l).take (h-l)))
     | none=>none
   | none=>none) else none
 | .sl b o s' len=>if s'=s then (match aS len len e hi with
   | some h=>match aS h 0 e lo with
     | some l=>if l<h then some (.sl b (o+l*s) s (h-l)) else if l=0 then some (.sl b o s 0) else some (.fs [])
     | none=>none
   | none=>none) else none
 | .nilsl=>match aS 0 0 e hi with
   | some h=>match aS h 0 e lo with
     | some _=>some .nilsl
     | none=>none
   | none=>none
 | _=>none

def mC(q:Nat)(H:Hp)(k:AV):AV→Option (Option AV)
 | .mp b=>match H b with
   | some (.map _ es)=>aR q k es
   | _=>none
 | .nilmap=>aR q k []
 | _=>none

def aFz(s:Nat):AV→AV→AV→Option AV
 | .fs rows,.int _ h,.int _ m=>if h=(rows.length:Int)∧m=(rows.length:Int)∧rows.all (fun r=>r.length==s) then some (.cs rows) else none
 | .nilsl,.int _ h,.int _ m=>if h=0∧m=0 then some .nilsl else none
 | _,_,_=>none
def aAg(H:Hp):AV→Option AV
 | .mp b=>match H b with
   | some (.map _ es)=>some (.int .i64 (es.length:Int))
   | _=>none
 | .nilmap=>some (.int .i64 0)
 | _=>none
def nV(s:ByteArray)(l h:Nat):ByteArray:=⟨⟨(s.data.toList.drop l).take (h-l)⟩⟩
theorem aLg(s:ByteArray)(l h:Nat):s.extract l h=nV s l h:=by
 have e:(s.extract l h).data=(nV s l h).data:=by
  grind [ByteArray.data_extract,Array.toList_extract,nV]
 cases hx:s.extract l h with
 | mk d=>simp_all

def uL(ok:Bool)(z:AV):Option AV→AV
 | some v=>if ok then .tup [v,.bool true] else v
 | none=>if ok then .tup [z,.bool false] else z

def aD(op:DOp)(e:aH)(H:Hp):Option Eff :=
 match op with
 | .mv x=>some (.val (aL e x))
 | .pick c a b=>match aL e c with
   | .bool t=>some (.val (if t then aL e a else aL e b))
   | _=>none
 | .alloc z=>some (.new none (.cells true z) fun b=>.pt b 0)
 | .box x=>match cellsOf (aL e x)with
   | some cs=>some (.new none (.cells true cs) fun b=>.pt b 0)
   | none=>none
 | .build z parts=>match gG z (parts.map fun p=>(p.1,p.2.1,aL e p.2.2))with
   | some cs=>some (.val (.agg cs))
   | none=>none
 | .bslice s len z parts=>match gG (List.replicate len z).flatten (parts.map fun p=>(p.1,p.2.1,aL e p.2.2))with
   | some cs=>some (.new none (.cells true cs) fun b=>.sl b 0 s len)
   | none=>none
 | .load agg n x=>match fG agg n H (aL e x)with
   | some v=>some (.val v)
   | none=>none
 | .nilck x=>match aL e x with
   | .pt b o=>some (.val (.pt b o))
   | .bp b=>some (.val (.pt b 0))
   | .fp r i o=>some (.val (.fp r i o))
   | .ifc t v=>some (.val (.ifc t v))
   | _=>none
 | .bin op x y=>match aDX op (aL e x) (aL e y)with
   | some v=>some (.val v)
   | none=>none
 | .binb neg x y=>match aL e x,aL e y with
   | .bool a,.bool b=>some (.val (.bool (if neg then a != b else a==b)))
   | _,_=>none
 | .eqag neg ks x y=>match aL e x,aL e y with
   | .agg cs,.agg ds=>match bC ks cs ds with
     | some b=>some (.val (.bool (if neg then !b else b)))
     | none=>none
   | _,_=>none
 | .eqn kd neg x y=>match wL kd (aL e x) (aL e y)with
   | some b=>some (.val (.bool (if neg then !b else b)))
   | none=>none
 | .not x=>match aL e x with
   | .bool b=>some (.val (.bool !b))
   | _=>none
 | .neg x=>match aL e x with
   | .int k n=>some (.val (.int k (k.wrap (0-n))))
   | _=>none
 | .conv k x=>match aL e x with
   | .int _ n=>some (.val (.int k (k.wrap n)))
   | _=>none
 | .mkf f first cap=>some (.val (.fn f (first.map (aL e)) (cap.map (aL e))))
 | .fld off x=>match aL e x with
   | .pt b o=>some (.val (.pt b (o+off)))
   | .fp r i o=>some (.val (.fp r i (o+off)))
   | _=>none
 | .idxa len s x i=>match aL e x,aL e i with
   | .pt b o,.int _ n=>if 0≤n∧n<(len:Int) then some (.val (.pt b (o+n.toNat*s))) else none
   | .fp r j o,.int _ n=>if 0≤n∧n<(len:Int) then some (.val (.fp r j (o+n.toNat*s))) else none
   | _,_=>none
 | .idx s x i=>match aL e x,aL e i with
   | .sl b o s' len,.int _ n=>if s'=s∧0≤n∧n<(len:Int) then some (.val (.pt b (o+n.toNat*s))) else none
   | .fs rows,.int _ n=>if 0≤n∧n<(rows.length:Int)∧(rows.getD n.toNat []).length=s then some (.val (.fp rows n.toNat 0)) else none
   | _,_=>none
 | .idxv agg len s x i=>match aL e x,aL e i with
   | .agg cs,.int _ n=>if 0≤n∧n<(len:Int) then (match iT agg s cs (n.toNat*s)with
     | some v=>some (.val v)
     | none=>none) else none
   | _,_=>none
 | .idxs x i=>match aL e x,aL e i with
   | .str s,.int _ n=>if 0≤n∧n<(s.size:Int) then some (.val (.int .u8 ((s.data.toList.getD n.toNat 0).toNat:Int))) else none
   | _,_=>none
 | .mksl s bytes z l c=>match aL e l,aL e c with
   | .int .i64 l,.int .i64 c=>if 0≤l∧l≤c∧(bytes:Int)*c≤281474976710656∧c≤9223372036854775807 then
    some (.new none (.cells true (List.replicate c.toNat z).flatten) fun b=>.sl b 0 s l.toNat) else none
   | _,_=>none
 | .slarr len s x lo hi=>match aL e x with
   | .pt b o=>match H b,aS len len e hi with
     | some (.cells _ cs),some h=>match aS h 0 e lo with
       | some l=>if o+len*s≤cs.length∧l<len then some (.val (.sl b (o+l*s) s (h-l))) else none
       | none=>none
     | _,_=>none
   | _=>none
 | .slsl s x lo hi=>match lX s e lo hi (aL e x)with
   | some v=>some (.val v)
   | none=>none
 | .slstr x lo hi=>match aL e x with
   | .str s=>match aS s.size s.size e hi with
     | some h=>match aS h 0 e lo with
       | some l=>some (.val (.str (nV s l h)))
       | none=>none
     | none=>none
   | _=>none
 | .mkmap=>some (.new none (.map true []) fun b=>.mp b)
 | .allocb=>some (.new none (.cells true [.nilpt,.nilsl]) fun b=>.bp b)
 | .lookup q ok z m k=>match mC q H (aL e k) (aL e m)with
   | some r=>some (.val (uL ok z r))
   | none=>none
 | .ext x i=>match aL e x with
   | .tup vs=>match vs[i]? with
     | some v=>some (.val v)
     | none=>none
   | _=>none
 | .len q x=>match q,aL e x with
   | true,.str s=>some (.val (.int .i64 (s.size:Int)))
   | false,.fs rows=>some (.val (.int .i64 (rows.length:Int)))
   | false,.sl _ _ _ n=>some (.val (.int .i64 (n:Int)))
   | false,.nilsl=>some (.val (.int .i64 0))
   | _,_=>none
 | .clip s x h m=>(aFz s (aL e x) (aL e h) (aL e m)).map .val
 | .lenm x=>(aAg H (aL e x)).map .val
 | .app s bytes x y=>pC s bytes H (aL e x) (aL e y)
 | .mm mx x y=>match aL e x,aL e y with
   | .int k a,.int _ b=>some (.val (.int k (if mx then (if b>a then b else a) else (if b<a then b else a))))
   | _,_=>none
 | .mkifc t x=>some (.val (.ifc t (aL e x)))
 | .bytes x=>match aL e x with
   | .str s=>some (.new none (.cells true (s.data.toList.map fun b=>.int .u8 (b.toNat:Int))) fun b=>.sl b 0 1 s.size)
   | _=>none
 | .strof x=>(jE H (aL e x)).map .val
 | .rngs x=>match aL e x with
   | .str s=>some (.new none (.obj true (.stringIter s 0)) fun b=>.pt b 0)
   | _=>none
 | .stuck | .store .. | .copy .. | .mapup .. | .nxts .. | .callf .. => none

def oX(n:Nat)(H:Hp)(p x:AV):Option Hp :=
 match p with
 | .pt b o=>match H b,cellsOf x with
   | some (.cells true cs),some vs=>if vs.length=n∧o+n≤cs.length then some (hset H b (.cells true (bG cs o vs))) else none
   | _,_=>none
 | _=>none

def eH:AV→Option Nat
 | .pt b _=>some b
 | .sl b _ _ _=>some b
 | .mp b=>some b
 | .sb b _=>some b
 | _=>none

def kA(q:Nat)(k v:AV):List (AV×AV)→Option (List (AV×AV))
 | []=>if qB q k then some [(k,v)] else none
 | (a,x)::r=>match eM q k a with
   | some true=>some ((a,v)::r)
   | some false=>(kA q k v r).map ((a,x) :: ·)
   | none=>none

def xS(q:Nat)(H:Hp)(m k x:AV):Option Hp :=
 match m with
 | .mp b=>match H b with
   | some (.map true es)=>(kA q k x es).map fun es'=>hset H b (.map true es')
   | _=>none
 | _=>none

def aHQ(H:Hp)(x:AV):Option (AV×Hp):=match x with
 | .pt b 0=>match H b with
   | some (.obj true (.stringIter s pos))=>if pos<s.size then some (.tup [.bool true,.int .i64 (pos:Int),.int .i32 (Utf8.decode s pos).1],hset H b (.obj true (.stringIter s (pos+(Utf8.decode s pos).2)))) else some (.tup [.bool false],H)
   | _=>none
 | _=>none


def aDP(s:Nat)(H:Hp)(x y:AV):Option (Nat×Hp) :=
 match x,eT s H y with
 | .sl b o s' len,some (n,new)=>match H b with
   | some (.cells true cs)=>if s'=s∧o+len*s≤cs.length then some (min n len,hset H b (.cells true (bG cs o (new.take (min n len*s))))) else none
   | _=>none
 | _,_=>none

def co:Operand→Option AO
 | .tmp t=>some (.t t)
 | .const v=>some (.c (aPj v))
 | .func f=>some (.c (.fn (.func f) [] []))
 | .global g=>(aAk g).map fun row=>.c (.fp [row] 0 0)

def coO:Option Operand→Option (Option AO)
 | none=>some none
 | some x=>(co x).map some

def coL(xs:Array Operand):Option (List AO):=xs.toList.mapM co

def dE(P:Program)(t:TypeId):Option Bool :=
 match P.underlying t with
 | some (.struct _)=>some true
 | some (.array ..)=>some true
 | some _=>some false
 | none=>none
def kX(P:Program)(t:TypeId):Option Nat:=(P.info? t).map (·.size)
def pF(P:Program)(t:TypeId):Option (List AV) :=
 match P.info? t with
 | some i=>match i.zero with
   | some v=>if zY v.cells then some (v.cells.toList.map xQ) else none
   | none=>none
 | none=>none

def aIK(P:Program)(t:TypeId):Option AV :=
 match P.info? t with
 | some i=>match i.zero with
   | some v=>if v.oneCell' then some (xQ v) else none
   | none=>none
 | none=>none

def aBM(P:Program)(t:TypeId)(i:Nat):Option (Nat×Nat) :=
 match P.underlying t with
 | some (.struct fields)=>match fields[i]? with
   | some f=>(kX P f.type).map fun n=>(f.offset,n)
   | none=>none
 | some (.array _ e)=>(kX P e).map fun n=>(i*n,n)
 | _=>none

def aGt(place:Nat→Option (Nat×Nat))(ps:Array (Nat×Operand)):Option (List (Nat×Nat×AO)) :=
 ps.toList.mapM fun p=>match place p.1,co p.2 with
  | some (off,n),some x=>some (off,n,x)
  | _,_=>none

def aDD(P:Program):Nat→TypeId→Option (List (Nat×Nat))
 | 0,_=>none
 | d+1,t =>
   match P.underlying t with
   | some .bool=>some [(0,1)]
   | some (.int _)=>some [(0,0)]
   | some .string=>some [(0,2)]
   | some (.struct fs)=>if P.stoodInHeld t then none else
     match kX P t, fs.toList.mapM fun f=>if f.name = "_" then none else (aDD P d f.type).map fun l=>l.map fun p=>(f.offset+p.1, p.2)with
     | some n,some ls=>if ls.flatten.all fun p=>decide (p.1<n) then some ls.flatten else none
     | _,_=>none
   | some (.array len e) =>
     match kX P t,kX P e,aDD P d e with
     | some n,some s,some l =>
       let ls:=(List.range len).flatMap fun i=>l.map fun p=>(i*s+p.1,p.2)
       if ls.all fun p=>decide (p.1<n) then some ls else none
     | _,_,_=>none
   | _=>none

def lK(P:Program)(t:TypeId):Option (List Nat) :=
 if P.eqGuardType P.depth t then none else
 match dE P t,aDD P 100 t with
 | some true,some l=>if l.map (·.1)=List.range l.length∧kX P t=some l.length then some (l.map (·.2)) else none
 | _,_=>none

def aGB(name:String)(ms:Array Method):Option FuncId:=match ms.toList.find? fun m=>m.name==name with
 | some m=>match m.path.toList,m.func with
   | [],some (f,false)=>some f
   | _,_=>none
 | none=>none
def aFg(P:Program)(name:String):List (TypeId×FuncId):=(List.range P.types.size).filterMap fun t=>match P.info? t,P.underlying t with
 | some i,some (.struct _)=>(aGB name i.methods).map fun f=>(t,f)
 | some i,some (.slice _)=>(aGB name i.methods).map fun f=>(t,f)
 | _,_=>none
def qI(P:Program)(c:Call):Option DOp :=
 match c.callee with
 | .builtin .len=>match c.args.toList,c.argTypes.toList with
   | [x],[t]=>match P.underlying t,co x with
     | some (.array n _),_=>some (.mv (.c (.int .i64 (n:Int))))
     | some .string,some x=>some (.len true x)
     | some (.slice _),some x=>some (.len false x)
     | some (.map ..),some x=>some (.lenm x)
     | _,_=>none
   | _,_=>none
 | .builtin .append=>match c.args.toList,c.argTypes.toList with
   | [x,y],[t,u]=>match P.underlying t,co x,co y with
     | some (.slice e),some x,some y=>match P.info? e,P.underlying u,pF P e with
       | some i,some (.slice _),some z=>if z.length=i.size∧i.bytes≤1048576 then some (.app i.size i.bytes x y) else none
       | some i,some .string,some z=>if z.length=i.size∧i.bytes≤1048576 then some (.app i.size (if e=aFG∧i.bytes=1∧i.size=1 then 1048577 else i.bytes) x y) else none
       | _,_,_=>none
     | _,_,_=>none
   | _,_=>none
 | .builtin .copy=>match c.args.toList,c.argTypes.toList with
   | [x,y],[t,_]=>match P.underlying t,co x,co y with
     | some (.slice e),some x,some y=>(kX P e).map fun s=>.copy s x y
     | _,_,_=>none
   | _,_=>none
 | .builtin .min=>match c.args.toList with
   | [x,y]=>match co x,co y with
     | some x,some y=>some (.mm false x y)
     | _,_=>none
   | _=>none
 | .builtin .max=>match c.args.toList with
   | [x,y]=>match co x,co y with
     | some x,some y=>some (.mm true x y)
     | _,_=>none
   | _=>none
 | .value f=>match co f,coL c.args with
   | some f,some xs=>some (.callf false f xs [])
   | _,_=>none
 | .invoke (.tmp k) name=>match coL c.args with
   | some xs=>some (.callf false (.meth (aFg P name) k) xs [])
   | none=>none
 | _=>none

def aDq(P:Program)(kt:TypeId):Option Nat:=match P.underlying kt with
 | some (.int _)=>some 0
 | some .string=>some 1
 | some (.array n e)=>match P.underlying e with
   | some (.int _)=>if kX P e=some 1∧lK P kt=some (List.replicate n 0) then some (n+2) else none
   | _=>none
 | _=>none
def aIc:Operand→Nat
 | .const _=>5
 | _=>4
def bZ(P:Program)(o:Oper):Option DOp :=
 match o.op with
 | .move x=>(co x).map .mv
 | .assign x=>(co x).map .mv
 | .pick c a b=>match co c,co a,co b with
   | some c,some a,some b=>some (.pick c a b)
   | _,_,_=>none
 | .alloc t=>match pF P t with
   | some z=>if t=aTf then (if z.length=2 then (match z with | [.nilpt,.nilsl]=>some .allocb|_=>none) else none) else some (.alloc z)
   | none=>none
 | .box _ x=>(co x).map .box
 | .build t parts=>match pF P t,dE P t,aGt (aBM P t) parts with
   | some z,some true,some ps=>match P.underlying t with
     | some (.struct fields)=>if fields.toList.all fun f=>(kX P f.type).isSome then some (.build z ps) else none
     | some (.array _ e)=>if (kX P e).isSome then some (.build z ps) else none
     | _=>none
   | _,_,_=>none
 | .buildSlice t len parts=>match P.underlying t with
   | some (.slice e)=>match kX P e,pF P e with
     | some s,some z=>match aGt (fun i=>some (i*s,s)) parts with
       | some ps=>if len*s≤16777216∧z.length=s then some (.bslice s len z ps) else none
       | none=>none
     | _,_=>none
   | _=>none
 | .load t a=>match dE P t,kX P t,co a with
   | some g,some n,some x=>some (.load g n x)
   | _,_,_=>none
 | .store t a x=>match kX P t,co a,co x with
   | some n,some a,some x=>some (.store n a x [])
   | _,_,_=>none
 | .nilCheck x=>(co x).map .nilck
 | .binOp op t x0 y0 _=>match co x0,co y0 with
   | some x,some y=>match op,P.underlying t with
     | .eql,some .bool=>some (.binb false x y)
     | .neq,some .bool=>some (.binb true x y)
     | .eql,some (.struct _)=>(lK P t).map fun ks=>.eqag false ks x y
     | .eql,some (.array ..)=>(lK P t).map fun ks=>.eqag false ks x y
     | .neq,some (.struct _)=>(lK P t).map fun ks=>.eqag true ks x y
     | .neq,some (.array ..)=>(lK P t).map fun ks=>.eqag true ks x y
     | .eql,some (.slice _)=>some (.eqn 0 false x y)
     | .neq,some (.slice _)=>some (.eqn 0 true x y)
     | .eql,some (.map ..)=>some (.eqn 1 false x y)
     | .neq,some (.map ..)=>some (.eqn 1 true x y)
     | .eql,some (.func ..)=>some (.eqn 2 false x y)
     | .neq,some (.func ..)=>some (.eqn 2 true x y)
     | .eql,some (.pointer _)=>some (.eqn 3 false x y)
     | .neq,some (.pointer _)=>some (.eqn 3 true x y)
     | .eql,some (.interface _)=>some (.eqn (aIc y0) false x y)
     | .neq,some (.interface _)=>some (.eqn (aIc y0) true x y)
     | op,_=>some (.bin op x y)
   | _,_=>none
 | .unOp .not _ x=>(co x).map .not
 | .unOp .neg _ x=>(co x).map .neg
 | .convert src dst x=>match P.underlying src,P.underlying dst,co x with
   | some (.int _),some (.int k),some x=>some (.conv k x)
   | some .string,some (.slice e),some x=>match P.underlying e with
     | some (.int .u8)=>some (.bytes x)
     | _=>none
   | some (.slice e),some .string,some x=>match P.underlying e with
     | some (.int .u8)=>some (.strof x)
     | _=>none
   | _,_,_=>none
 | .makeFunc fn first cap=>match coL first,coL cap with
   | some f,some c=>some (.mkf fn f c)
   | _,_=>none
 | .fieldAddr s x f=>match P.underlying s,co x with
   | some (.struct fields),some x=>match fields[f]? with
     | some fd=>match kX P fd.type with
       | some (_+1)=>some (.fld fd.offset x)
       | _=>none
     | none=>none
   | _,_=>none
 | .indexAddr t x i=>match P.underlying t,co x,co i with
   | some (.array len e),some x,some i=>(kX P e).map fun s=>.idxa len s x i
   | some (.slice e),some x,some i=>(kX P e).map fun s=>.idx s x i
   | _,_,_=>none
 | .index t x i=>match P.underlying t,co x,co i with
   | some (.array len e),some x,some i=>match dE P e,kX P e with
     | some g,some s=>some (.idxv g len s x i)
     | _,_=>none
   | some .string,some x,some i=>some (.idxs x i)
   | _,_,_=>none
 | .makeSlice t l c=>match P.underlying t,co l,co c with
   | some (.slice e),some l,some c=>match P.info? e,pF P e with
     | some i,some z=>if z.length=i.size then some (.mksl i.size i.bytes z l c) else none
     | _,_=>none
   | _,_,_=>none
 | .slice t x none (some h) (some m)=>match P.underlying t,co x,co h,co m with
   | some (.slice e),some x,some h,some m=>(kX P e).map fun s=>.clip s x h m
   | _,_,_,_=>none
 | .slice t x lo hi none=>match P.underlying t,co x,coO lo,coO hi with
   | some (.array len e),some x,some lo,some hi=>(kX P e).map fun s=>.slarr len s x lo hi
   | some (.slice e),some x,some lo,some hi=>(kX P e).map fun s=>.slsl s x lo hi
   | some .string,some x,some lo,some hi=>some (.slstr x lo hi)
   | _,_,_,_=>none
 | .makeMap _ none=>some .mkmap
 | .lookup t m k ok=>match P.underlying t,co m,co k with
   | some (.map kt e),some m,some k=>match aIK P e,aDq P kt with
     | some z,some q=>some (.lookup q ok z m k)
     | _,_=>none
   | _,_,_=>none
 | .mapUpdate t m k x=>match P.underlying t,co m,co k,co x with
   | some (.map kt _),some m,some k,some x=>(aDq P kt).map fun q=>.mapup q m k x
   | _,_,_,_=>none
 | .insert t m k x=>match P.underlying t,co m,co k,co x with
   | some (.map kt _),some m,some k,some x=>(aDq P kt).map fun q=>.mapup q m k x
   | _,_,_,_=>none
 | .range t x=>match P.underlying t,co x with
   | some .string,some x=>some (.rngs x)
   | _,_=>none
 | .next x true=>(co x).map .nxts
 | .extract x i=>(co x).map fun x=>.ext x i
 | .makeInterface t x=>match P.underlying t,co x with
   | some (.interface _),_=>none
   | some _,some x=>some (.mkifc t x)
   | _,_=>none
 | .call c=>qI P c
 | _=>none

def xZ(P:Program)(o:Oper):DOp:=(bZ P o).getD .stuck

structure DOper where
 ix:Nat
 dst:Option Nat
 op:DOp
 guard:Option (Nat×Bool)

def aFw(P:Program)(ops:Array Oper)(o:Oper):Option DOper :=
 match o.op with
 | .defer _=>none
 | _=>match o.guard with
   | none=>some ⟨0,o.dst,xZ P o,none⟩
   | some (j,w)=>match (ops[j]?).bind (·.dst)with
     | some d=>some ⟨0,o.dst,xZ P o,some (d,w)⟩
     | none=>none

def cH(o:Oper):List Nat:=(o.after.toList.filter fun e=>Region.binds .any e).map (·.on)

def aQl(P:Program)(ops:Array Oper):Option (List DOper):=ops.toList.mapM (aFw P ops)

inductive DCode where
 | skip
 | reg (draw:Bool) (ops:List DOper)
 | seq (a b:DCode)
 | cond (c:AO) (a b:DCode)
 | block (id:Nat) (a:DCode)
 | loop (a:DCode)
 | scope (l:Nat) (a b:DCode)
 | lab (l:Nat)
 | goto (l:Nat)
 | rng (f:AO) (ps:List Nat) (assign body:DCode)
 | exit (id:Nat)
 | ret

def AO.sees:AO→List Nat
 | .t k=>[k]
 | .c _=>[]
 | .meth _ k=>[k]
def aHq:Option AO→List Nat
 | some x=>x.sees
 | none=>[]
def aHr(l:List AO):List Nat:=l.flatMap AO.sees
def DOp.sees:DOp→List Nat
 | .mv x | .box x | .load _ _ x | .nilck x | .not x | .neg x | .conv _ x | .fld _ x | .ext x _ | .len _ x | .lenm x | .mkifc _ x | .bytes x | .strof x | .rngs x | .nxts x=>x.sees
 | .pick c a b=>c.sees++a.sees++b.sees
 | .alloc _ | .mkmap | .allocb | .stuck=>[]
 | .build _ ps | .bslice _ _ _ ps=>ps.flatMap fun p=>p.2.2.sees
 | .bin _ x y | .binb _ x y | .eqag _ _ x y | .eqn _ _ x y | .idxa _ _ x y | .idx _ x y | .idxv _ _ _ x y | .idxs x y | .mksl _ _ _ x y | .lookup _ _ _ x y | .app _ _ x y
 | .mm _ x y | .copy _ x y=>x.sees++y.sees
 | .store _ x y _=>x.sees++y.sees
 | .mkf _ f c=>aHr f++aHr c
 | .slarr _ _ x lo hi | .slsl _ x lo hi | .slstr x lo hi=>x.sees++aHq lo++aHq hi
 | .clip _ x h m=>x.sees++(h.sees++m.sees)
 | .mapup _ m k x=>m.sees++k.sees++x.sees
 | .callf _ f xs _=>f.sees++aHr xs
def DOper.sees(o:DOper):List Nat:=o.op.sees++(match o.guard with|some (g,_)=>[g]|none=>[])

def DOp.kind:DOp→Nat
 | .load .. | .lookup .. | .slarr .. | .strof _ | .lenm _=>1
 | .box _ | .bslice .. | .mksl .. | .bytes _ | .rngs _=>2
 | .alloc _ | .mkmap | .allocb=>7
 | .app .. => 3
 | .callf true .. => 4
 | .callf false .. => 6
 | .store .. | .copy .. | .mapup .. | .nxts _=>5
 | _=>0

def lU:Nat→Nat→Bool
 | 0,_=>true
 | 1,k=>k≤4||k==7
 | 2,k=>k≤3||k==7
 | 7,k=>k≤3||k==7
 | 3,k=>k≤2||k==7
 | 4,k=>k≤4||k==7
 | 6,k=>k==7
 | _,k=>k==0

def aQK(x y:DOper):Bool :=
 (match x.dst with
  | some d => !(y.sees).contains d&&y.dst != some d
  | none=>true) &&
 (match y.dst with
  | some d => !(x.sees).contains d
  | none=>true)

def aXx(x y:DOper):Bool :=
 match x.op,y.op with
 | .load ..,.store _ _ _ l=>l.contains x.ix
 | .load ..,.callf false _ _ l=>l.contains x.ix
 | _,_=>false

def oW(x y:DOper):Bool:=(lU x.op.kind y.op.kind||aXx x y)&&aQK x y&&(x.op.kind != 6||y.guard.isNone)

def kT(afs:List (List Nat)):List Nat :=
 afs.foldl (fun acc o=>acc++[o.foldl (fun s j=>s|||(2^j|||acc.getD j 0)) 0]) []

def aWw(afs:List (List Nat))(ops:List DOper):List Nat :=
 (ops.zip afs).foldl (fun acc p =>
  let low:=p.2.foldl (fun m j=>max m (acc.getD j 0)) 0
  let high:=acc.foldl max 0
  acc++[match p.1.op.kind with
   | 0|1=>(low+1)/2*2
   | 4|6=>(high+1)/2*2+1
   | _=>(high+1)/2*2]) []

def aLq(lv:List Nat)(ops:List DOper):List DOper :=
 (List.range (lv.foldl max 0+1)).flatMap fun h=>ops.filter fun o=>lv.getD o.ix 0==h

def aEK(cl:List Nat)(before after:List DOper)(o:DOper):DOper :=
 let c:=cl.getD o.ix 0
 let aBa:=before.filterMap fun x=>if c.testBit x.ix then none else match x.op with
  | .load .. => some x.ix
  | _=>none
 match o.op with
 | .store n p x _=>{ o with op:=.store n p x aBa }
 | .callf _ f xs _ =>
   if (after.all fun y=>(cl.getD y.ix 0).testBit o.ix||y.op.kind==7)&&(before.all fun x=>c.testBit x.ix||x.op.kind != 1||(match x.op with | .load .. => true|_=>false)) then { o with op:=.callf false f xs aBa } else { o with op:=.callf true f xs [] }
 | _=>o

def aNE(cl:List Nat):List DOper→List DOper→List DOper
 | _,[]=>[]
 | before,o::rest=>aEK cl before rest o::aNE cl (before++[o]) rest

def zV(cl:List Nat):List DOper→Bool
 | []=>true
 | x::rest=>(rest.all fun y => !(cl.getD x.ix 0).testBit y.ix&&((cl.getD y.ix 0).testBit x.ix||oW x y))&&zV cl rest

def aDd(ops:List DOper):List DOper:=ops.zipIdx.map fun p=>{ p.1 with ix:=p.2 }

def wF(afs:List (List Nat)):Bool:=(List.range afs.length).all fun i=>(afs.getD i []).all (· < i)

def aQi(N:Nat)(ops:List DOper):Bool:=ops.all fun o=>match o.dst with
 | some d=>decide (d<N)
 | none=>true

def aDe:List Nat→Bool
 | []=>true
 | x::r => !r.contains x&&aDe r

def DOp.isComm(_:DOp):Bool:=false
def DOp.isQ:DOp→Bool
 | .store .. | .copy .. | .mapup .. | .nxts _ | .callf .. => false
 | _=>true
def sK(P:Program)(N:Nat)(ops:Array Oper)(draw:Bool):Option (List DOper) :=
 match aQl P ops with
 | none=>none
 | some l =>
   if !(aQi N l) then none else
   if draw then
    let afs:=ops.toList.map cH
    let cl:=kT afs
    let l':=aNE cl [] (aLq (aWw afs l) (aDd l))
    if wF afs&&zV cl l'&&(l'.map (·.ix)).length==l.length&&aDe (l'.map (·.ix))&&(List.range l.length).all (fun i=>(l'.map (·.ix)).contains i) then some l' else none
   else some l

def aSy:DCode→Option Nat
 | .seq a b=>match aSy a with
   | some l=>some l
   | none=>aSy b
 | .lab l=>some l
 | _=>none
def aAn:DCode→Nat→Option DCode
 | .seq a b,l=>match aAn a l with
   | some r=>some (.seq r b)
   | none=>aAn b l
 | .lab j,l=>if j=l then some .skip else none
 | _,_=>none
def aCl(a:DCode):Option DCode:=(aSy a).bind fun l=>(aAn a l).map fun b=>.scope l a b
def bR(P:Program)(N:Nat):Code→Option DCode
 | .skip=>some .skip
 | .region _ ops draw=>match sK P N ops draw with
   | some l=>some (.reg draw l)
   | none=>none
 | .seq a b=>match bR P N a,bR P N b with
   | some a,some b=>some (.seq a b)
   | _,_=>none
 | .cond c a b=>match co c,bR P N a,bR P N b with
   | some c,some a,some b=>some (.cond c a b)
   | _,_,_=>none
 | .block id a=>match bR P N a with
   | some a=>some (.block id a)
   | none=>none
 | .loop a=>match bR P N a with
   | some a=>some (.loop a)
   | none=>none
 | .scope a=>match bR P N a with
   | some a=>aCl a
   | none=>none
 | .label l=>some (.lab l)
 | .goto l=>some (.goto l)
 | .rangeFunc f ps assign body=>match co f,bR P N assign,bR P N body with
   | some f,some x,some y=>if ps.toList.all (· < N) then some (.rng f ps.toList x y) else none
   | _,_,_=>none
 | .exit id=>some (.exit id)
 | .ret=>some .ret
 | _=>none

def aIz(P:Program)(N:Nat)(c:Code):Option (Option (List DOper×Nat)×DCode):=(bR P N c).map fun d=>(none,d)

variable{P:Program}{F F':Nat→Prop}{w w':World}{H:Hp}{env:aH}{a:Act}

structure RL(F:Nat→Prop)(w:World)(cs:List AV)(vs:Array Value):Prop where
 len:cs.length=vs.size
 one:∀(i:Nat)(v:Value),vs[i]?=some v→v.oneCell'=true
 at_:∀(i:Nat)(c:AV)(v:Value),cs[i]?=some c→vs[i]?=some v→Rv F w c v

theorem RL.up{cs:List AV}{vs:Array Value}(hu:Up F w F' w')(h:RL F w cs vs):RL F' w' cs vs :=
 ⟨h.len,h.one,fun i c v h1 h2=>(h.at_ i c v h1 h2).up hu⟩

theorem aAG(v:Value):Rv F w (xQ v) v:=by
 unfold xQ;split<;>constructor

theorem aHH{vs:Array Value}(h:zY vs=true):RL F w (vs.toList.map xQ) vs:=by
 refine⟨by simp,fun i v hv=>?_,fun i c v hc hv=>?_⟩;·grind [zY]
 grind [aAG]

theorem aOq(v:Value):Rv F w (aPj v) v:=by
 unfold aPj;split
 ·split
  ·rename_i h
   have:=aHH (F:=F) (w:=w) h;exact .agg _ _ this.len this.one this.at_
  ·exact .any _
 grind [aAG]

theorem bB(re:RE F w env a){x:Operand}{y:AO}(h:co x=some y):Rv F w (aL env y) (a.eval x):=by
 cases x with
 | tmp t=>simp only[co,oSI]at h;subst h;exact re.rv t
 | const v=>simp only[co,oSI]at h;subst h;exact aOq v
 | func f =>
   simp only[co,oSI]at h;subst h;exact .fn _ _ _ _ _ rfl rfl (fun i c v h=>by simp at h) (fun i c v h=>by simp at h)
 | global g =>
   simp only[co,A3]at h;obtain⟨row,hr,rfl⟩:=h;obtain⟨h1,gv,h2,h3⟩:=re.gi.1 g row hr;have hz:∀(i:Nat)(r:List AV)(j:Nat)(c:AV),[row][i]?=some r→r[j]?=some c→i=0∧row[j]?=some c:=by
    grind
   have:=Rv.fp (F:=F) (w:=w) [row] 0 0 g 0 row.length (fun _ j=>gv j) h1 (fun r hr=>by grind) (fun i r j c e1 e2=>by
    grind) (fun _ j=>h2 j) (fun i r j c e1 e2=>(h3 j c (hz i r j c e1 e2).2).2)
   have e:a.eval (.global g) = .pointer (some ⟨g,0,none⟩):=rfl;rw[e];simpa [aL]using this

theorem xN{v:AV}{c:Value}{cs:List AV}(h:Rv F w v c)(hc:cellsOf v=some cs):RL F w cs c.cells:=by
 have single:∀{v:AV}{c:Value},Rv F w v c→c.cells = #[c]→c.oneCell'=true→RL F w [v] c.cells:=by
  intro v c h h1 h2;rw[h1];refine⟨rfl,fun i x hx=>?_,fun i d x hd hx=>?_⟩;all_goals grind
 cases h with
 | agg cs' vs hl ho h=>simp only[cellsOf,oSI]at hc;subst hc;exact⟨hl,ho,h⟩
 | tup=>grind [cellsOf]
 | any=>grind [cellsOf]
 | int k n=>simp only[cellsOf,oSI]at hc;subst hc;exact single (.int k n) rfl rfl
 | bool b=>simp only[cellsOf,oSI]at hc;subst hc;exact single (.bool b) rfl rfl
 | str s=>simp only[cellsOf,oSI]at hc;subst hc;exact single (.str s) rfl rfl
 | fs0 a cap=>simp only[cellsOf,oSI]at hc;subst hc;exact single (.fs0 a cap) rfl rfl
 | fs rows blk off s cap g hcap hF hs hc' ho h=>simp only[cellsOf,oSI]at hc;subst hc;exact single (.fs rows blk off s cap g hcap hF hs hc' ho h) rfl rfl
 | fp rows i o blk off s g hF hs hc' ho h=>simp only[cellsOf,oSI]at hc;subst hc;exact single (.fp rows i o blk off s g hF hs hc' ho h) rfl rfl
 | cs rows a h=>simp only[cellsOf,oSI]at hc;subst hc;exact single (.cs rows a h) rfl rfl
 | sl b off s len cap c e fr hb h1 h2=>simp only[cellsOf,oSI]at hc;subst hc;exact single (.sl b off s len cap c e fr hb h1 h2) rfl rfl
 | pt b off=>simp only[cellsOf,oSI]at hc;subst hc;exact single (.pt b off) rfl rfl
 | mp b=>simp only[cellsOf,oSI]at hc;subst hc;exact single (.mp b) rfl rfl
 | sb b n cap c fr hb h1 h2=>simp only[cellsOf,oSI]at hc;subst hc;exact single (.sb b n cap c fr hb h1 h2) rfl rfl
 | bp b c fr hb h1=>simp only[cellsOf,oSI]at hc;subst hc;exact single (.bp b c fr hb h1) rfl rfl
 | nilsl=>simp only[cellsOf,oSI]at hc;subst hc;exact single .nilsl rfl rfl
 | nilpt=>simp only[cellsOf,oSI]at hc;subst hc;exact single .nilpt rfl rfl
 | nilmap=>simp only[cellsOf,oSI]at hc;subst hc;exact single .nilmap rfl rfl
 | fn f first cap fv cv hl1 hl2 h1 h2=>simp only[cellsOf,oSI]at hc;subst hc;exact single (.fn f first cap fv cv hl1 hl2 h1 h2) rfl rfl
 | nilfn=>simp only[cellsOf,oSI]at hc;subst hc;exact single .nilfn rfl rfl
 | ifc t a v h=>simp only[cellsOf,oSI]at hc;subst hc;exact single (.ifc t a v h) rfl rfl
 | nilifc=>simp only[cellsOf,oSI]at hc;subst hc;exact single .nilifc rfl rfl


def Lies(F:Nat→Prop)(w:World)(cs:List AV)(b o:Nat):Prop :=
 ∀(j:Nat)(c:AV),cs[j]?=some c→∃ v,w.cell? ⟨b,o+j,none⟩=some v∧v.oneCell'=true∧Rv F w c v

theorem nP(st:St F w H){b:Nat}{p:Bool}{cs:List AV}(hb:H b=some (.cells p cs)):Lies F w cs b 0:=by
 obtain⟨o,ho,hr⟩:=st.blk b _ hb;cases hr with
 | cells p cs c e fr hfr hl h1 h2 =>
   intro j x hj;have hlt:j<c.size:=by grind
   refine⟨c[j],?_,h1 j _ (by simp[hlt]),h2 j x _ hj (by simp[hlt])⟩;simp[World.cell?,ho,hlt]

theorem Lies.drop{cs:List AV}{b o:Nat}(h:Lies F w cs b o)(n:Nat):Lies F w (cs.drop n) b (o+n):=fun j c hj=>by
 grind [Lies]
theorem Lies.take{cs:List AV}{b o:Nat}(h:Lies F w cs b o)(n:Nat):Lies F w (cs.take n) b o:=fun j c hj=>by
 grind [Lies]

theorem eN(b o n:Nat):(⟨b,o,none⟩:Addr).add n=⟨b,o+n,none⟩:=by
 unfold Addr.add
 grind

theorem eI{cs:List AV}{b o:Nat}(h:Lies F w cs b o):∃ vs,(loadCells ⟨b,o,none⟩ cs.length).run P w = .ok vs w∧RL F w cs vs:=by
 have hf:∀ j,∃ v,j<cs.length→w.cell? ⟨b,o+j,none⟩=some v∧v.oneCell'=true∧∀ c,cs[j]?=some c→Rv F w c v:=by
  intro j;by_cases hj:j<cs.length;·simp_all [Lies]
  ·exact⟨undef,fun h=>absurd h hj⟩
 have ⟨f,hf⟩:=Classical.axiomOfChoice hf;refine⟨_,run_loadCells w ⟨b,o,none⟩ cs.length f (fun j hj=>by grind [eN]),?_⟩;have hget:∀ i v,((List.range cs.length).map f).toArray[i]?=some v→i<cs.length∧v=f i:=fun i v hv=>by
  grind
 refine⟨by simp,fun i v hv=>?_,fun i c v hc hv=>?_⟩;all_goals grind

theorem aSA{t:TypeId}{n:Nat}(h:kX P t=some n):∃ i,P.info? t=some i∧i.size=n:=by
 simp_all [kX]

theorem aU{t:TypeId}{n:Nat}(h:kX P t=some n)(w:World):(sizeOf t).run P w = .ok n w:=by
 obtain⟨i,hi,rfl⟩:=aSA h;simp[sizeOf,typeInfo,hi]

theorem qR{t:TypeId}{g:Bool}(h:dE P t=some g)(w:World):(isAgg t).run P w = .ok g w:=by
 unfold dE at h;cases hu:P.underlying t with
 | none=>grind
 | some d =>
   simp only[hu]at h;simp only[isAgg,Sem.run_bind,run_underlying hu,Result.andThen_ok];cases d<;>simp_all

theorem pO{t:TypeId}{g:Bool}{n:Nat}{cs:List AV}{b o k:Nat}{v:AV}(hg:dE P t=some g)(hn:kX P t=some n)
 (h:Lies F w cs b o) (hr:iT g n cs k=some v):∃ c,(loadVar t ⟨b,o+k,none⟩).run P w = .ok c w∧Rv F w v c:=by
 unfold iT at hr;cases g with
 | true =>
   simp only[AAe]at hr;split at hr
   ·rename_i hle
    simp only[oSI]at hr;subst hr;have h1:=(h.drop k).take n;have hl:((cs.drop k).take n).length=n:=by simp;omega
    obtain⟨vs,h2,h3⟩:=eI (P:=P) h1;rw[hl]at h2;refine⟨.agg vs,?_,.agg _ _ h3.len h3.one h3.at_⟩;simp only[loadVar,Sem.run_bind,qR hg,Result.andThen_ok,AAe,aU hn,h2,Sem.run_pure]
   ·simp at hr
 | false =>
   simp only[B8,AAd]at hr;obtain⟨x,h1,_,h3⟩:=h k v hr;refine⟨x,?_,h3⟩;simp only[loadVar,Sem.run_bind,qR hg,Result.andThen_ok,B8,AAd,run_load,h1]

theorem aET{t:TypeId}{g:Bool}{n:Nat}{p v:AV}{x:Value}(st:St F w H)(hg:dE P t=some g)(hn:kX P t=some n)
 (hp:Rv F w p x) (hr:fG g n H p=some v):∃ c,(Instr.loadAt t x).run P w = .ok c w∧Rv F w v c:=by
 cases hp with
 | pt b o =>
   simp only[fG]at hr;split at hr
   ·rename_i p cs hb
    have:=nP st hb;obtain⟨c,h1,h2⟩:=pO (P:=P) (k:=o) hg hn this hr;rw[M0]at h1;exact⟨c,by simpa [Instr.loadAt,Instr.sureAddr]using h1,h2⟩
   ·simp at hr
 | fp rows i o blk off s g' hF hs hc ho h =>
   simp only[fG]at hr;split at hr
   ·rename_i r hi
    have hL:Lies F w r blk (off+i*s):=fun j c hj=>⟨g' i j,hc i r j c hi hj,ho i j,h i r j c hi hj⟩;obtain⟨c,h1,h2⟩:=pO (P:=P) (k:=o) hg hn hL hr;exact⟨c,by simpa [Instr.loadAt,Instr.sureAddr]using h1,h2⟩
   ·simp at hr
 | _=>simp[fG]at hr


theorem uR(off:Nat):∀(l:List Value)(k:Nat)(zs:Array Value),off+k+l.length≤zs.size →
 ((l.zipIdx k).foldl (fun c (p:Value×Nat)=>c.setIfInBounds (off+p.2) p.1) zs).size=zs.size ∧
 ∀ i:Nat,((l.zipIdx k).foldl (fun c (p:Value×Nat)=>c.setIfInBounds (off+p.2) p.1) zs)[i]?=if off+k≤i∧i<off+k+l.length then l[i-(off+k)]? else zs[i]?
 | [],k,zs,_=>⟨rfl,fun i=>by simp;omega⟩
 | x::l,k,zs,h=>by
   simp only[List.zipIdx_cons,aD3,D9]at h ⊢;obtain⟨h1,h2⟩:=uR off l (k+1) (zs.setIfInBounds (off+k) x) (by grind)
   grind

theorem aLW{z:List AV}{zs:Array Value}{off:Nat}{cs:List AV}{vs:Array Value}(hz:RL F w z zs)(hv:RL F w cs vs)(hle:off+cs.length≤z.length) :
 RL F w (bG z off cs) (vs.zipIdx.foldl (fun c (p:Value×Nat)=>c.setIfInBounds (off+p.2) p.1) zs):=by
 have h1:=(uR off vs.toList 0 zs (by have:=hz.len;have:=hv.len;simp;omega)).1;have h2:=(uR off vs.toList 0 zs (by have:=hz.len;have:=hv.len;simp;omega)).2;simp only[J0,I7,G8]at h1 h2;rw[←Array.foldl_toList,Array.toList_zipIdx];have hlen:=hv.len;have hzl:=hz.len;have hgA:∀ i,(bG z off cs)[i]?=if off≤i∧i<off+cs.length then cs[i-off]? else z[i]?:=fun i=>by
  unfold bG;rw[I8,G4,G4]
  grind
 refine⟨?_,fun i v hv'=>?_,fun i c v hc hv'=>?_⟩;·grind [bG]
 ·rw[h2]at hv'
  split at hv';·exact hv.one _ _ hv'
  ·exact hz.one _ _ hv'
 ·rw[h2]at hv'
  rw[hgA]at hc;split at hv';·rename_i h3;rw[if_pos AM]at hc;exact hv.at_ _ _ _ hc hv'
  ·rename_i h3;rw[if_neg AM]at hc;exact hz.at_ _ _ _ hc hv'


theorem aFh{α β:Type}{f:α→Option β}:∀{l:List α}{r:List β},l.mapM f=some r→r.length=l.length∧∀(i:Nat)(x:α),l[i]?=some x→∃ y,f x=some y∧r[i]?=some y
 | [],r,h=>by grind
 | x::l,r,h=>by
   simp only[aA4,aD8,B9,aH0,oSI]at h;obtain⟨y,hy,s,hs,rfl⟩:=h;obtain⟨h1,h2⟩:=aFh hs;refine⟨by simp[h1],fun i z hz=>?_⟩;cases i with
   | zero=>simp at hz;subst hz;exact⟨y,hy,rfl⟩
   | succ i=>simpa using h2 i z (by simpa using hz)

theorem zL{α β:Type}{f:α→Sem β}{g:α→β}(w:World):∀(l:List α),(∀ x∈l,(f x).run P w = .ok (g x) w)→(l.mapM f).run P w = .ok (l.map g) w
 | [],_=>by simp
 | x::l,h=>by
   simp only[aA4,Sem.run_bind,h x (by simp),Result.andThen_ok,zL w l (fun y hy=>h y (by simp[hy])),Sem.run_pure,F8]

theorem aHz{α β:Type}{f:α→Sem β}{g:α→β}(w:World)(l:Array α)(h:∀ x∈l.toList,(f x).run P w = .ok (g x) w):(l.mapM f).run P w = .ok (l.map g) w:=by
 rw[Array.mapM_eq_mapM_toList,Sem.run_map,zL w l.toList h];simp only[Result.andThen_ok];congr 1
 grind

theorem aBR{place place':Nat→Option (Nat×Nat)}(re:RE F w env a):∀{ps:List (Nat×Operand)}{l:List (Nat×Nat×AO)}{z cs:List AV}{zs:Array Value},
 (ps.mapM fun p=>match place p.1,co p.2 with
  | some (off,n),some x=>some (off,n,x)
  | _,_=>none)=some l→(∀ i r,place i=some r→place' i=some r) →
 gG z (l.map fun p=>(p.1,p.2.1,aL env p.2.2))=some cs→RL F w z zs →
 ∃ out,Instr.fill place' zs (ps.map fun p=>(p.1,a.eval p.2))=some out∧RL F w cs out
 | [],l,z,cs,zs,hl,hp,hf,hz=>by
   simp at hl;subst hl;simp[gG]at hf;subst hf;exact⟨zs,by rfl,hz⟩
 | p::ps,l,z,cs,zs,hl,hp,hf,hz=>by
   simp only[aA4,aD8,B9,aH0,oSI]at hl;obtain⟨q,hq,s,hs,rfl⟩:=hl;split at hq
   ·rename_i off n x h1 h2
    simp only[oSI]at hq;subst hq;simp only[F8,gG]at hf;split at hf
    ·rename_i vs hvs
     split at hf
     ·rename_i hle
      have hv:=xN (bB re h2) hvs;have hz':=aLW (off:=off) hz hv AM;obtain⟨out,h3,h4⟩:=aBR re hs hp hf hz';refine⟨out,?_,h4⟩;have hlen:=hv.len;have hzl:=hz.len;simp only[F8,Instr.fill,hp _ _ h1]
      grind
     ·simp at hf
    ·simp at hf
   ·simp at hq

theorem vJ{t:TypeId}{z:List AV}(h:pF P t=some z):∃ i v,P.info? t=some i∧i.zero=some v∧RL F w z v.cells:=by
 grind [aHH,pF]

theorem iR{t:TypeId}{i:TypeInfo}{v:Value}(hi:P.info? t=some i)(hv:i.zero=some v)(w:World):(zeroValue t).run P w = .ok v w:=by
 simp[zeroValue,typeInfo,hi,hv]

theorem aLQ{t:TypeId}{parts:Array (Nat×Operand)}{z:List AV}{l:List (Nat×Nat×AO)}{cs:List AV}(re:RE F w env a)(hz:pF P t=some z)
 (hg:dE P t=some true) (hl:aGt (aBM P t) parts=some l)
 (hall:∀ fields,P.underlying t=some (.struct fields)→(fields.toList.all fun f=>(kX P f.type).isSome)=true)
 (harr:∀ n e,P.underlying t=some (.array n e)→(kX P e).isSome=true)
 (hf:gG z (l.map fun p=>(p.1,p.2.1,aL env p.2.2))=some cs) :
 ∃ c,(Instr.build t (parts.map fun(i,x)=>(i,a.eval x))).run P w = .ok c w∧Rv F w (.agg cs) c:=by
 obtain⟨i,v,hi,hv,hzr⟩:=vJ (F:=F) (w:=w) hz;have hmap:(parts.map fun(i,x)=>(i,a.eval x)).toList=parts.toList.map fun p=>(p.1,a.eval p.2):=by simp
 unfold dE at hg;cases hu:P.underlying t with
 | none=>grind
 | some d =>
   cases d with
   | struct fields =>
     have hsz:∀ f∈fields.toList,∃ n,kX P f.type=some n:=fun f hf'=>by
      grind [Option.isSome_iff_exists]
     have hrun:=aHz (P:=P) (f:=fun f:Field=>do pure (f.offset,←sizeOf f.type)) (g:=fun f:Field=>(f.offset,(kX P f.type).getD 0)) w fields (fun f hf'=>by
      obtain⟨n,hn⟩:=hsz f hf';simp[aU hn,hn])
     obtain⟨out,h1,h2⟩:=aBR (place':=fun i=>(fields.map fun f:Field=>(f.offset,(kX P f.type).getD 0))[i]?) re hl (fun i r hr=>by
      unfold aBM at hr
      grind) hf hzr
     refine⟨.agg out,?_,.agg _ _ h2.len h2.one h2.at_⟩;rw[←hmap]at h1;simp only[Instr.build,Sem.run_bind,iR hi hv,Result.andThen_ok,run_underlying hu,hrun,h1,Sem.run_pure]
   | array n e =>
     cases hn:kX P e with
     | none=>grind
     | some s =>
       obtain⟨out,h1,h2⟩:=aBR (place':=fun i=>some (i*s,s)) re hl (fun i r hr=>by
        unfold aBM at hr
        grind) hf hzr
       refine⟨.agg out,?_,.agg _ _ h2.len h2.one h2.at_⟩;rw[←hmap]at h1;simp only[Instr.build,Sem.run_bind,iR hi hv,Result.andThen_ok,run_underlying hu,aU hn,h1,Sem.run_pure]
   | _=>simp[hu]at hg


def aIC:Nat→Option Value→Option Value→Option Bool
 | 0,some (.int k a),some (.int k' b)=>if k=k' then some (a==b) else none
 | 1,some (.bool a),some (.bool b)=>some (a==b)
 | 2,some (.string a),some (.string b)=>some (a==b)
 | _,_,_=>none

theorem aQq{k:Nat}{x y:AV}{v u:Value}{b:Bool}(h:kU k x y=some b)(hv:Rv F w x v)(hu:Rv F w y u):aIC k (some v) (some u)=some b:=by
 unfold kU at h;split at h;·cases hv;cases hu;exact h
 ·cases hv;cases hu;exact h
 ·cases hv;cases hu;exact h
 ·simp at h

theorem yE:∀{ks:List Nat}{cs ds:List AV}{b:Bool},bC ks cs ds=some b→ks.length=cs.length∧ks.length=ds.length ∧
 ∃ r:Nat→Bool,(∀(i k:Nat)(x y:AV),ks[i]?=some k→cs[i]?=some x→ds[i]?=some y→kU k x y=some (r i))∧b=(List.range ks.length).all r
 | [],[],[],b,h=>by simp_all [bC]
 | k::ks,x::cs,y::ds,b,h=>by
   simp only[bC]at h;split at h
   ·rename_i x' y' h1 h2
    simp only[oSI]at h;obtain⟨e1,e2,r,h3,h4⟩:=yE h2;refine⟨by simp[e1],by simp[e2],fun i=>match i with|0=>x'|i+1=>r i,fun i k' x0 y0 hk hx hy=>?_,?_⟩;·grind
    ·rw[←h,h4]
     grind [List.range_succ_eq_map,List.all_map]
   ·simp at h
 | [],[],_::_,_,h=>by simp[bC]at h
 | [],_::_,_,_,h=>by simp[bC]at h
 | _::_,[],_,_,h=>by simp[bC]at h
 | _::_,_::_,[],_,h=>by simp[bC]at h

def aBT(d:Nat)(e:TypeId)(n:Nat)(xs ys:Array Value):List Nat→Sem Bool
 | []=>pure true
 | i::is=>do
   let a ←part e xs (i*n)
   let b ←part e ys (i*n)
   let r ←Op.equalIn d e a b
   if (!r)=true then pure false else aBT d e n xs ys is

theorem zM(w:World)(d:Nat){t e:TypeId}{len n:Nat}(xs ys:Array Value)(ht:P.underlying t=some (.array len e))(hn:kX P e=some n) :
 (Op.equalIn (d+1) t (.agg xs) (.agg ys)).run P w=(aBT d e n xs ys (List.range len)).run P w:=by
 simp only[Op.equalIn,Sem.run_bind,run_underlying ht,Result.andThen_ok,aU hn];rw[Std.Legacy.Range.forIn_eq_forIn_range'];simp only[Std.Legacy.Range.size,O7,aB8,Nat.div_one];rw[←O0];generalize List.range len=is;clear ht;induction is generalizing w with
 | nil=>rfl
 | cons i is ih =>
   simp only[List.forIn_cons,aBT,Sem.run_bind,Sem.run_ite];generalize (part e xs (i*n)).run P w=r1;cases r1 with
   | ok a w1 =>
     simp only[Result.andThen_ok];generalize (part e ys (i*n)).run P w1=r2;cases r2 with
     | ok b w2 =>
       simp only[Result.andThen_ok];generalize (Op.equalIn d e a b).run P w2=r3;cases r3 with
       | ok r w3 =>
         simp_all
       | halt x w3=>rfl
     | halt x w2=>rfl
   | halt x w1=>rfl

theorem eD{t:TypeId}{xs:Array Value}{o:Nat}{v:Value}(hg:dE P t=some false)(hv:xs[o]?=some v)(w:World):(part t xs o).run P w = .ok v w:=by
 simp[part,qR hg,hv]
theorem iC{t:TypeId}{xs:Array Value}{o n:Nat}(hg:dE P t=some true)(hn:kX P t=some n)(w:World):(part t xs o).run P w = .ok (.agg (xs.extract o (o+n))) w:=by
 simp[part,qR hg,aU hn]

theorem aBr{xs:Array Value}{b n o:Nat}(h:o<n):(xs.extract b (b+n))[o]?=xs[b+o]?:=by
 grind

def aTq(P:Program)(w:World)(D:Nat)(t:TypeId)(l:List (Nat×Nat)):Prop :=
 ∀(xs ys:Array Value)(base:Nat)(r:Nat→Bool),(∀ p∈l,aIC p.2 xs[base+p.1]? ys[base+p.1]?=some (r p.1)) →
   ∃ va vb,(part t xs base).run P w = .ok va w∧(part t ys base).run P w = .ok vb w∧(Op.equalIn D t va vb).run P w = .ok (l.all fun p=>r p.1) w

theorem aDC(w:World):∀(d:Nat)(t:TypeId)(l:List (Nat×Nat)),aDD P d t=some l→∀ D,d≤D→aTq P w D t l
 | 0,_,_,h=>by simp[aDD]at h
 | d+1, t, l,h=>by
   intro D hD xs ys base r hr;obtain⟨D,rfl⟩:∃ k,D=k+1:=⟨D-1,by omega⟩;unfold aDD at h;split at h
   ·rename_i hu
    simp only[oSI]at h;subst h;have h0:=hr (0,1) (by simp);have hg:dE P t=some false:=by simp[dE,hu]
    simp only[J0]at h0;unfold aIC at h0;split at h0<;>simp_all
    rename_i a b e1 e2;exact⟨_,eD hg e1 w,_,eD hg e2 w,by grind [run_equalIn_bool']⟩
   ·rename_i k0 hu
    simp only[oSI]at h;subst h;have h0:=hr (0,0) (by simp);have hg:dE P t=some false:=by simp[dE,hu]
    simp only[J0]at h0;unfold aIC at h0;split at h0<;>simp_all
    rename_i e1 e2;obtain⟨rfl,h0⟩:=h0;exact⟨_,eD hg e1 w,_,eD hg e2 w,by grind [run_equalIn_int]⟩
   ·rename_i hu
    simp only[oSI]at h;subst h;have h0:=hr (0,2) (by simp);have hg:dE P t=some false:=by simp[dE,hu]
    simp only[J0]at h0;unfold aIC at h0;split at h0<;>simp_all
    rename_i a b e1 e2;exact⟨_,eD hg e1 w,_,eD hg e2 w,by grind [run_equalIn_string,beq_toListBytes]⟩
   ·rename_i fs hu
    split at h;·simp at h
    rename_i hst;split at h
    ·rename_i n ls hn hls
     split at h
     ·rename_i hall
      simp only[oSI]at h;subst h;have hg:dE P t=some true:=by simp[dE,hu]
      refine⟨_,_,iC hg hn w,iC hg hn w,?_⟩;have hfo:P.fieldsOf t=fs:=by simp[Program.fieldsOf,hu]
      rw[run_equalIn_struct w D t _ _ (by grind) (by grind),hfo];have hlt:∀ p∈ls.flatten,p.1<n:=fun p hp=>by grind
      clear hall hu hst hfo hg;generalize fs.toList=fl at hls;induction fl generalizing ls with
      | nil=>simp at hls;subst hls;rfl
      | cons f fl ih =>
        simp only[aA4,aD8,B9,aH0,oSI]at hls;obtain⟨l1,h1,ls',h2,rfl⟩:=hls;split at h1;·simp at h1
        rename_i hname;cases hf:aDD P d f.type with
        | none=>grind
        | some l0 =>
          simp only[hf,C5,oSI]at h1;subst h1;obtain⟨va,vb,e1,e2,e3⟩:=aDC w d f.type l0 hf D AM (xs.extract base (base+n)) (ys.extract base (base+n)) f.offset (fun o=>r (f.offset+o)) (fun p hp=>by
           have hm:(f.offset+p.1,p.2)∈((l0.map fun p=>(f.offset+p.1,p.2))::ls').flatten:=by grind
           grind [aBr])
          have ih':=ih ls' (fun p hp=>hr p (by grind)) (fun p hp=>hlt p (by grind)) h2;simp only[Op.eqFields,ne_eq,hname,AAm,AAe,Sem.run_bind,e1,Result.andThen_ok,e2,e3,Sem.run_ite];simp only[M8,aD4,List.all_map];cases hb:(l0.all fun p=>r (f.offset+p.1))with
          | true =>
            grind
          | false =>
            simp only[I9,AAe,Sem.run_pure]
            grind
     ·simp at h
    ·simp at h
   ·rename_i len e hu
    split at h
    ·rename_i n s l0 hn hs hl0
     dsimp only at h;split at h
     ·rename_i hall
      simp only[oSI]at h;subst h;have hg:dE P t=some true:=by simp[dE,hu]
      refine⟨_,_,iC hg hn w,iC hg hn w,?_⟩;rw[zM w D _ _ hu hs];have hlt:∀ p∈(List.range len).flatMap (fun i=>l0.map fun p=>(i*s+p.1,p.2)),p.1<n:=fun p hp=>by grind
      clear hall hu hg;generalize List.range len=is at hr hlt;induction is with
      | nil=>rfl
      | cons i is ih =>
        obtain⟨va,vb,e1,e2,e3⟩:=aDC w d e l0 hl0 D AM (xs.extract base (base+n)) (ys.extract base (base+n)) (i*s) (fun o=>r (i*s+o)) (fun p hp=>by
         have hm:(i*s+p.1,p.2)∈(i::is).flatMap (fun i=>l0.map fun p=>(i*s+p.1,p.2)):=by grind
         grind [aBr])
        have ih':=ih (fun p hp=>hr p (by grind)) (fun p hp=>hlt p (by grind));simp only[aBT,Sem.run_bind,e1,Result.andThen_ok,e2,e3,Sem.run_ite];simp only[aC1,aD4,List.all_map];cases hb:(l0.all fun p=>r (i*s+p.1))with
        | true =>
          grind
        | false =>
          simp only[I9,AAe,Sem.run_pure]
          grind
     ·simp at h
    ·simp at h
   ·simp at h

theorem aHy{t:TypeId}{ks:List Nat}{cs ds:List AV}{b:Bool}{vx vy:Value}(hk:lK P t=some ks)(hx:Rv F w (.agg cs) vx)(hy:Rv F w (.agg ds) vy)(hb:bC ks cs ds=some b) :
 P.eqGuardType P.depth t=false∧(∃ xs ys,vx = .agg xs∧vy = .agg ys)∧dE P t=some true∧(Op.equalIn 10000 t vx vy).run P w = .ok b w:=by
 unfold lK at hk;split at hk;·simp at hk
 rename_i hgd;split at hk
 ·rename_i l hg hl
  split at hk
  ·rename_i hrange
   obtain⟨hrange,hsz⟩:=hrange;simp only[oSI]at hk;cases hx with
   | agg _ xs hlx hox hax =>
   cases hy with
   | agg _ ys hly hoy hay =>
   obtain⟨e1,e2,r,h1,h2⟩:=yE hb;have hkl:ks.length=l.length:=by grind
   have hfst:∀(i:Nat)(p:Nat×Nat),l[i]?=some p→p.1=i:=fun i p hp=>by
    have:(l.map (·.1))[i]?=some p.1:=by simp[hp]
    grind
   have hall:(l.all fun p=>r p.1)=b:=by
    grind
   have hflat:=aDC (P:=P) w 100 t l hl 10000 AM xs ys 0 r (fun p hp=>by
    obtain⟨i,hi⟩:=E9 hp;have hpi:=hfst i p hi;have hil:i<l.length:=(D0.1 hi).1;have hki:ks[i]?=some p.2:=by grind
    have hxi:i<cs.length:=AM
    have hyi:i<ds.length:=AM
    have hxs:i<xs.size:=AM
    have hys:i<ys.size:=AM
    rw[M0,hpi,D7 hxs,D7 hys];exact aQq (h1 i p.2 cs[i] ds[i] hki (by simp[hxi]) (by simp[hyi])) (hax i _ _ (by simp[hxi]) (by simp[hxs])) (hay i _ _ (by simp[hyi]) (by simp[hys])))
   have hb':(Op.equalIn 10000 t (.agg xs) (.agg ys)).run P w = .ok b w:=by
    obtain⟨va,vb,f1,f2,f3⟩:=hflat;rw[hall]at f3;rw[iC hg hsz]at f1 f2;have x1:xs.extract 0 (0+l.length)=xs:=by grind
    have x2:ys.extract 0 (0+l.length)=ys:=by grind
    grind
   exact⟨by simpa using hgd,⟨_,_,rfl,rfl⟩,hg,hb'⟩
  ·simp at hk
 ·simp at hk

theorem aNV{op:BinOp}{neg:Bool}{t:TypeId}{ks:List Nat}{x y:Operand}{cs ds:List AV}{b:Bool}{vx vy:Value}(hk:lK P t=some ks)
 (hx:Rv F w (.agg cs) vx) (hy:Rv F w (.agg ds) vy) (hb:bC ks cs ds=some b) (hop:(op = .eql∧neg=false)∨(op = .neq∧neg=true)) :
 ((do eqGuard op t x y vx vy;binOp op t vx vy):Sem Value).run P w = .ok (.bool (if neg then !b else b)) w:=by
 obtain⟨hgd,⟨xs,ys,rfl,rfl⟩,hg,hb'⟩:=aHy hk hx hy hb
 grind [Sem.run_bind,run_eqGuard_agg,Result.andThen_ok,run_eql_struct,run_neq_struct]


theorem fP(e:TypeId)(c:Array Value)(w:World):(newRow e c).run P w = .ok ⟨w.heap.size,0,none⟩ (w.alloc (.cells c e)):=by
 rfl

theorem aVD{cs:List AV}{c:Array Value}{e:TypeId}(h:RL F w cs c):RB F w (.cells true cs) (.cells c e (0,0)) :=
 .cells true cs c e (0,0) (fun i _=>by simp) (by rw[h.len];omega) h.one h.at_

theorem aLG(st:St F w H)(o:Obj):Up F w F (w.alloc o):=by
 have hget:∀ b,b<w.heap.size→(w.alloc o).heap[b]?=w.heap[b]?:=fun b hb=>by
  show (w.heap.push o)[b]?=_
  grind
 exact⟨fun _ h=>h,fun b hb=>hget b (st.lt b hb),fun b c e fr hb=>⟨c,e,fr,by grind,rfl⟩,by simp⟩

theorem vT(st:St F w H){cs:List AV}{c:Array Value}(e:TypeId)(h:RL F w cs c) :
 H w.heap.size=none∧Ext F w H F (w.alloc (.cells c e)) (hset H w.heap.size (.cells true cs))∧St F (w.alloc (.cells c e)) (hset H w.heap.size (.cells true cs)) ∧
 (w.alloc (.cells c e)).heap[w.heap.size]?=some (.cells c e (0,0)):=by
 obtain⟨h1,h2⟩:=nD st (o:=.cells c e) (aVD (e:=e) (h.up (aLG st _))) st.size_none;refine⟨?_,h1,h2,by show (w.heap.push _)[w.heap.size]?=_;simp⟩;cases hb:H w.heap.size with
 | none=>rfl
 | some x=>exact absurd (st.own_lt hb) AM

theorem aEt{z:List AV}{n i:Nat}(hi:i<n*z.length)(hz:0<z.length):(List.replicate n z).flatten[i]?=z[i%z.length]?:=by
 induction n generalizing i with
 | zero=>simp at hi
 | succ n ih =>
   rw[H6,M8,G4];split;all_goals grind [Nat.mod_eq_of_lt,Nat.mod_eq_sub_mod]

theorem aPV{n:Nat}{z:List AV}:(List.replicate n z).flatten.length=n*z.length:=by simp

theorem aCH{z:List AV}{v:Array Value}{n:Nat}(h:RL F w z v) :
 RL F w (List.replicate n z).flatten ((Array.range (n*z.length)).map (v[· % v.size]!)):=by
 have hl:=h.len;have hget:∀ i x,((Array.range (n*z.length)).map (v[· % v.size]!))[i]?=some x→i<n*z.length∧0<z.length∧v[i%v.size]?=some x:=fun i x hx=>by
  simp only[N6]at hx;by_cases hi:i<n*z.length
  ·have hz:0<z.length:=by
    grind
   grind [Nat.mod_lt]
  grind
 refine⟨by simp,fun i x hx=>h.one _ _ (hget i x hx).2.2,fun i c x hc hx=>?_⟩;obtain⟨h1,h2,h3⟩:=hget i x hx;rw[aEt h1 h2]at hc;rw[←hl]at h3;exact h.at_ _ _ _ hc h3

theorem aCI:RL F w [] #[]:=⟨rfl,fun i v h=>by simp at h,fun i c v h=>by simp at h⟩


theorem aFT{b o:Nat}{c:Array Value}{e:TypeId}{fr:Nat×Nat}(h:w.heap[b]?=some (.cells c e fr))(v:Value) :
 (w.setCell ⟨b,o,none⟩ v).heap=w.heap.setIfInBounds b (.cells (c.setIfInBounds o v) e fr):=by
 have hlt:b<w.heap.size:=(G3.1 h).1;apply aE2;intro i;simp only[World.setCell,Array.getElem?_modify,H7]
 grind

theorem fY(b off:Nat)(e:TypeId)(fr:Nat×Nat):∀(vs:List Value)(i:Nat)(w:World)(c:Array Value),w.heap[b]?=some (.cells c e fr) →
 (∀ j,j<c.size→(fr.1≤j&&j<fr.2)=false)→off+i+vs.length≤c.size→(∀ v∈vs,v.oneCell'=true) →
 ∃ w' c',(storeCells ⟨b,off,none⟩ vs i).run P w = .ok () w'∧(w'.heap=w.heap.setIfInBounds b (.cells c' e fr)∧SameIO w w')∧c'.size=c.size ∧
   ∀ k:Nat,c'[k]?=if off+i≤k∧k<off+i+vs.length then vs[k-(off+i)]? else c[k]?
 | [],i,w,c,hb,_,_,_=>by
   refine⟨w,c,by rfl,⟨?_,SameIO.refl w⟩,rfl,fun k=>by grind⟩
   grind
 | v::vs,i,w,c,hb,hfr,hle,hone=>by
   simp only[D9]at hle;have hcell:w.cell? ⟨b,off+i,none⟩=some c[off+i]:=by simp[World.cell?,hb,show off+i<c.size by omega]
   have hfz:w.frozen? ⟨b,off+i,none⟩=false:=by
    have:=hfr (off+i) AM;simp only[World.frozen?,hb];exact this
   have hheap:=aFT (o:=off+i) hb v;have hb':(w.setCell ⟨b,off+i,none⟩ v).heap[b]?=some (.cells (c.setIfInBounds (off+i) v) e fr):=by
    grind
   obtain⟨w',c',h1,h2,h3,h4⟩:=fY b off e fr vs (i+1) (w.setCell ⟨b,off+i,none⟩ v) (c.setIfInBounds (off+i) v) hb'
    (fun j hj=>hfr j (by grind)) (by grind) (fun x hx=>hone x (by simp[hx]))
   refine⟨w',c',?_,⟨?_,SameIO.trans (w':=w.setCell ⟨b,off+i,none⟩ v) ⟨rfl,rfl,rfl⟩ h2.2⟩,by grind,fun k=>?_⟩;·simp only[storeCells,eN,Sem.run_bind,run_store P w _ v _ (hone v (by simp)),hcell,hfz,B8,AAd,Result.andThen_ok,h1]
   ·grind
   grind

theorem aES(st:St F w H){b off:Nat}{cs vs:List AV}{us:Array Value}(hb:H b=some (.cells true cs))(hv:RL F w vs us)(hle:off+vs.length≤cs.length) :
 ∃ w',(storeCells ⟨b,off,none⟩ us.toList 0).run P w = .ok () w'∧Ext F w H F w' (hset H b (.cells true (bG cs off vs)))∧St F w' (hset H b (.cells true (bG cs off vs))):=by
 obtain⟨o,ho,hr⟩:=st.blk b _ hb;cases hr with
 | cells p cs c e fr hfr hl h1 h2 =>
   have hlen:=hv.len;obtain⟨w',c',g1,g2,g3,g4⟩:=fY (P:=P) b off e fr us.toList 0 w c ho hfr (by simp;omega) (fun v hv'=>by
    obtain⟨i,hi⟩:=E9 hv';exact hv.one i v (by grind))
   refine⟨w',g1,?_⟩;refine kO st hb rfl ho g2.1 g2.2 (fun c0 e0 fr0 h=>?_) (fun F1 w1 hu=>?_);·grind
   ·simp only[I7,G8,J0]at g4
    have hgA:∀ i,(bG cs off vs)[i]?=if off≤i∧i<off+vs.length then vs[i-off]? else cs[i]?:=fun i=>by
     unfold bG;rw[I8,G4,G4]
     grind
    refine .cells true _ c' e fr (fun i hi=>hfr i AM) ?_ (fun i v hi=>?_) (fun i x v hx hi=>?_);·rw[g3];unfold bG;simp;omega
    ·rw[g4]at hi
     split at hi;·exact hv.one _ _ hi
     grind
    ·rw[g4]at hi
     rw[hgA]at hx;split at hi;·rename_i h3;rw[if_pos AM]at hx;exact(hv.at_ _ _ _ hx hi).up hu
     ·rename_i h3;rw[if_neg AM]at hx;exact(h2 _ _ _ hx hi).up hu

theorem aLO(st:St F w H){t:TypeId}{n:Nat}{p x:AV}{vp vx:Value}{H':Hp}(hn:kX P t=some n)(hp:Rv F w p vp)(hx:Rv F w x vx)
 (hs:oX n H p x=some H'):∃ w',(Instr.storeAt t vp vx).run P w = .ok () w'∧Ext F w H F w' H'∧St F w' H':=by
 cases hp with
 | pt b o =>
   simp only[oX]at hs;split at hs
   ·rename_i cs vs hb hc
    split at hs
    ·rename_i hle
     simp only[oSI]at hs;subst hs;have hv:=xN hx hc;obtain⟨w',h1,h2⟩:=aES (P:=P) st hb hv (off:=o) AM;refine⟨w',?_,h2⟩;have:=hv.len;simp only[Instr.storeAt,Instr.sureAddr,storeVar,Sem.run_bind,Sem.run_pure,Result.andThen_ok,aU hn,Sem.run_ite]
     grind
    ·simp at hs
   ·simp at hs
 | _=>simp[oX]at hs


theorem aGG{rows:List (List AV)}{blk off s:Nat}(h:∀(i:Nat)(r:List AV),rows[i]?=some r→r.length=s∧Lies F w r blk (off+i*s)):Lies F w rows.flatten blk off:=by
 induction rows generalizing off with
 | nil=>simp[Lies]
 | cons r rows ih =>
   intro j c hj;obtain⟨hr,hl⟩:=h 0 r rfl;rw[M8,G4]at hj;split at hj;·grind [Lies]
   ·have:=ih (off:=off+s) (fun i r' hi=>by
     obtain⟨h1,h2⟩:=h (i+1) r' (by grind)
     grind) (j-r.length) c hj
    grind

theorem aIj{rows:List (List AV)}{s:Nat}(h:∀ r∈rows,r.length=s):rows.flatten.length=rows.length*s:=by
 induction rows with
 | nil=>simp
 | cons r rows ih=>grind

theorem aHI(s:ByteArray)(m:Nat):RL F w ((s.data.toList.map fun b=>AV.int .u8 (b.toNat:Int)).take m) ((s.extract 0 m).data.map fun b=>Value.int .u8 b.toNat):=by
 have e:(s.extract 0 m).data.toList=s.data.toList.take m:=by
  simp_all
 refine⟨?_,fun i v hv=>?_,fun i c v hc hv=>?_⟩;·simp_all
 ·rw[N6]at hv
  cases hx:(s.extract 0 m).data[i]? with
  | none=>grind
  | some x=>rw[hx]at hv;simp only[C5,oSI]at hv;subst hv;rfl
 ·rw[N6,←G8,e]at hv
  rw[←List.map_take,C4]at hc;cases hx:(s.data.toList.take m)[i]? with
  | none=>grind
  | some x =>
    rw[hx]at hv hc;simp only[C5,oSI]at hv hc;subst hv hc;exact .int _ _
theorem qN(st:St F w H){s:Nat}{y:AV}{vy:Value}{n:Nat}{new:List AV}(hy:Rv F w y vy)(hs:eT s H y=some (n,new)) :
 (Builtin.lenOf vy).run P w = .ok n w∧new.length=n*s∧∃ us,(Builtin.firstCells s n vy).run P w = .ok us w∧RL F w new us ∧
  ∀ m,m≤n→∃ us',(Builtin.firstCells s m vy).run P w = .ok us' w∧RL F w (new.take (m*s)) us':=by
 have fin:∀(b o len:Nat)(cap:Nat)(new:List AV),new.length=len*s→Lies F w new b o→∀ m,m≤len →
  ∃ us',(Builtin.firstCells s m (.slice (some ⟨b,o,none⟩) len cap)).run P w = .ok us' w∧RL F w (new.take (m*s)) us':=by
  intro b o len cap new hl hL m hm;have h1:=hL.take (m*s);obtain⟨us,h2,h3⟩:=eI (P:=P) h1;have e:(new.take (m*s)).length=m*s:=by
   simp_all
  rw[e]at h2;exact⟨us,by simpa [Builtin.firstCells]using h2,h3⟩
 cases hy with
 | nilsl =>
   simp only[eT,oSI,A7]at hs;obtain⟨rfl,rfl⟩:=hs;exact⟨by rfl,by simp,#[],by rfl,aCI,fun m hm=>⟨#[],by rfl,by simpa using aCI⟩⟩
 | fs0 a0 cap =>
   simp only[eT,List.all_nil,AAe,oSI,A7,aB5,aA9]at hs;obtain⟨rfl,rfl⟩:=hs;refine⟨by rfl,by simp,#[],?_,aCI,fun m hm=>⟨#[],?_,by simpa using aCI⟩⟩;·cases a0<;>simp[Builtin.firstCells,loadCells,loadCellsFrom]
   ·obtain rfl:m=0:=AM
    cases a0<;>simp[Builtin.firstCells,loadCells,loadCellsFrom]
 | fs rows blk off s' cap g hcap hF hs' hc ho h =>
   simp only[eT]at hs;split at hs
   ·rename_i hall
    simp only[oSI,A7]at hs;obtain⟨rfl,rfl⟩:=hs;have hrow:∀ r∈rows,r.length=s:=fun r hr=>by grind
    have hL:Lies F w rows.flatten blk off:=aGG (s:=s) fun i r hi=>by
     have hm:=A5 hi;have e:s'=s:=by grind
     simp_all [Lies]
    have hl:=aIj hrow;have f:=fin blk off rows.length cap rows.flatten hl hL;obtain⟨us,h1,h2⟩:=f rows.length (A6 _);exact⟨by rfl,hl,us,h1,by grind,f⟩
   ·simp at hs
 | sl b o s' len cap c e fr hb hcap hlen =>
   simp only[eT]at hs;split at hs
   ·rename_i p cs hH
    split at hs
    ·rename_i hle
     simp only[oSI,A7]at hs;obtain⟨rfl,rfl⟩:=hs;have hL:Lies F w ((cs.drop o).take (len*s)) b o:=by
      have:=((nP st hH).drop o).take (len*s)
      grind
     have hl:((cs.drop o).take (len*s)).length=len*s:=by simp;omega
     have f:=fin b o len cap _ hl hL;obtain⟨us,h1,h2⟩:=f len (A6 _);refine⟨by rfl,hl,us,h1,?_,f⟩
     grind
    ·simp at hs
   ·simp at hs
 | str x =>
   simp only[eT]at hs;split at hs<;>simp only[oSI,A7,reduceCtorEq]at hs
   rename_i h1;subst h1;obtain⟨rfl,rfl⟩:=hs;have hl:(x.data.toList.map fun b=>AV.int .u8 (b.toNat:Int)).length=x.size:=by simp_all
   have h0:=aHI (F:=F) (w:=w) x x.size;rw[C8 AM]at h0;exact⟨by rfl,by omega,_,by rfl,h0,fun m hm=>⟨(x.extract 0 m).data.map fun b=>Value.int .u8 b.toNat,by rfl,by rw[aD0];exact aHI x m⟩⟩
 | _=>simp[eT]at hs


theorem aFm(n:Nat):∀(r c:Nat),Builtin.growBy n r c≤(c+768)*2^r
 | 0,c=>by simp[Builtin.growBy]
 | r+1,c=>by
   simp only[Builtin.growBy];split
   ·have:1≤2^(r+1):=aE3
    calc c≤(c+768)*1:=AM
     _≤(c+768)*2^(r+1):=Nat.mul_le_mul_left _ this
   ·refine I0 (aFm n r _) ?_
    rw[Nat.pow_succ,Nat.mul_comm (2^r) 2,←Nat.mul_assoc];exact F6 _ AM

theorem aDg{n c:Nat}(h:c<n):Builtin.nextslicecap n c≤(n+768)*16:=by
 unfold Builtin.nextslicecap
 grind [aFm]

theorem tY(need old:Nat)(e:TypeId)(w:World)(hn:need≤1099511627776) :
 ∃ c,need≤c∧(choose (.appendCap need old e)).run P w = .ok c w.drew:=by
 refine⟨(Question.appendCap need old e).cut (w.tape w.drawn (.appendCap need old e)),?_,?_⟩;·exact Nat.le_add_right _ _
 rfl

theorem aEW{cs ds:List AV}{us vs:Array Value}(h:RL F w cs us)(k:RL F w ds vs):RL F w (cs++ds) (us++vs):=by
 have hl:=h.len;refine⟨by simp[h.len,k.len],fun i v hv=>?_,fun i c v hc hv=>?_⟩
 ·rw[aA1]at hv
  split at hv;·exact h.one _ _ hv
  ·exact k.one _ _ hv
 ·rw[aA1]at hv
  rw[G4]at hc;split at hv;·rename_i hi;rw[if_pos AM]at hc;exact h.at_ _ _ _ hc hv
  ·rename_i hi;rw[if_neg AM,hl]at hc;exact k.at_ _ _ _ hc hv

theorem aGj{z:List AV}{v:Array Value}{n:Nat}(h:RL F w z v):RL F w (List.replicate n z).flatten (Builtin.zeroCells v n):=by
 have:=aCH (n:=n) h;unfold Builtin.zeroCells;rw[h.len]at this;exact this

theorem qL(F:Nat→Prop)(w:World):Up F w F w.drew:=⟨fun _ h=>h,fun _ _=>rfl,fun _ c e fr h=>⟨c,e,fr,h,rfl⟩,A6 _⟩

theorem uO(st:St F w H){e:TypeId}{cs new z:List AV}{us vs zv:Array Value}{need newCap s:Nat}(hc:RL F w cs us)(hn:RL F w new vs)(hz:RL F w z zv)
 (hzl:z.length=s) (hlen:cs.length+new.length=need*s) (hcap:need≤newCap) :
 ∃ c w',(newRow e (us++vs++Builtin.zeroCells zv (newCap-need))).run P w.drew = .ok c w'∧c=⟨w.heap.size,0,none⟩∧H w.heap.size=none ∧
   Ext F w H F w' (hset H w.heap.size (.cells true (cs++new)))∧St F w' (hset H w.heap.size (.cells true (cs++new))) ∧
   Rv F w' (.sl w.heap.size 0 s need) (.slice (some ⟨w.heap.size,0,none⟩) need newCap)∧∃ c0 fr0,w'.heap[w.heap.size]?=some (.cells c0 e fr0)∧newCap*s≤c0.size:=by
 have hz':=aGj (n:=newCap-need) hz;have hall:=(aEW (aEW hc hn) hz').up (qL F w);obtain⟨h1,h2,h3,h4⟩:=vT (qM st) e hall;have hext:=(iW F w H).trans h2;have hsz:w.drew.heap.size=w.heap.size:=rfl;rw[hsz]at h1 h2 h3 h4 hext;refine⟨_,_,fP _ _ _,rfl,h1,?_,?_,?_⟩
 ·exact⟨hext.sub,fun b hb=>.inl hb,fun b hb=>hext.hdom b (by
   by_cases h0:b=w.heap.size;all_goals simp_all [hset]),fun b hb=>hext.hnew b (by
   by_cases h0:b=w.heap.size;·subst h0;simp[sX,ABlk.wr]
   simp_all [sX,hset]),hext.le,hext.same,hext.cells,hext.io⟩
 ·refine⟨h3.lt,fun b x hb=>?_,fun b x hb=>?_⟩
  ·by_cases h0:b=w.heap.size
   ·subst h0;exact h3.dis _ _ (hset_same _ _ _)
   ·rw[aO _ _ h0]at hb;exact h3.dis b x (by simp_all [hset])
  ·by_cases h0:b=w.heap.size
   ·subst h0
    simp only[hset_same,oSI]at hb;subst hb;obtain⟨o,ho,hr⟩:=h3.blk w.heap.size _ (hset_same _ _ _);refine⟨o,ho,?_⟩;cases hr with
    | cells p cs0 c e fr hfr hl h1' h2' =>
      refine .cells true _ c e fr hfr (by grind) h1' (fun i x v hx hv=>h2' i x v ?_ hv)
      grind
   ·rw[aO _ _ h0]at hb
    exact h3.blk b x (by simp_all [hset])
 ·have goal:∀ x,0+newCap*s≤x→newCap*s≤x:=fun x hx=>by omega
  suffices hroom:_ from ⟨.sl _ 0 s need newCap _ _ _ h4 hroom hcap,_,_,h4,goal _ hroom⟩
  have e1:=hc.len;have e2:=hn.len;have e3:=hz'.len;have e4:(List.replicate (newCap-need) z).flatten.length=(newCap-need)*s:=by simp_all
  simp only[Array.size_append];rw[←e1,←e2,←e3,e4,hlen,M0,Nat.sub_mul];omega

theorem aKu(st:St F w H){t u e e' ty:TypeId}{i:TypeInfo}{z:List AV}{x y:AV}{vx vy:Value}{eff:Eff}(ht:P.underlying t=some (.slice e))
 {d:TypeDesc} (hu:P.underlying u=some d) (hd:d = .slice e'∨d = .string) (hi:P.info? e=some i) (hz:pF P e=some z) (hzl:z.length=i.size) (hby:i.bytes≤1048576)
 (hx:Rv F w x vx) (hy:Rv F w y vy) {bts:Nat} (hbt:bts=i.bytes∨(bts=1048577∧e=aFG∧i.bytes=1∧i.size=1)) (ha:pC i.size bts H x y=some eff) :
 match eff with
 | .val v=>∃ c,(Builtin.append_ #[t,u] ty #[vx,vy]).run P w = .ok c w∧Rv F w v c
 | .new own b f=>∃ j c w',(H j=none∨own=some j)∧(Builtin.append_ #[t,u] ty #[vx,vy]).run P w = .ok c w'∧Ext F w H F w' (hset H j b)∧St F w' (hset H j b)∧Rv F w' (f j) c:=by
 obtain⟨i',v,hi',hv,hzr⟩:=vJ (F:=F) (w:=w) hz;rw[hi]at hi';obtain rfl:i=i':=by grind
 have hsz:kX P e=some i.size:=by simp[kX,hi]
 unfold pC at ha;split at ha;·simp at ha
 rename_i n new hsrc;obtain⟨s1,s2,us,s3,s4,_⟩:=qN (P:=P) st hy hsrc;obtain⟨_,_,us2,r2,s5,_⟩:=qN (P:=P) (qM st) (hy.up (qL F w)) hsrc;have hti:∀ w',(typeInfo e).run P w' = .ok i w':=fun w'=>by simp[typeInfo,hi]
 have fits_some:∀(b o sLen sCap:Nat)(w':World),sLen+n≤sCap→(storeCells ⟨b,o+sLen*i.size,none⟩ us.toList).run P w = .ok () w' →
  (Builtin.append_ #[t,u] ty #[.slice (some ⟨b,o,none⟩) sLen sCap,vy]).run P w = .ok (.slice (some ⟨b,o,none⟩) (sLen+n) sCap) w':=by
  intro b o sLen sCap w' hle hst;unfold Builtin.append_
  rcases hd with rfl|rfl<;>simp only[J2,D4,D8,Sem.run_bind,run_underlying ht,Result.andThen_ok,aU hsz,run_underlying hu,Sem.run_pure,
   B8,AAd,s1,I9,AAe,hle,s3,eN,hst]
 have fits_none:∀(sLen sCap:Nat),sLen+n≤sCap →
  (Builtin.append_ #[t,u] ty #[.slice none sLen sCap,vy]).run P w = .ok (.slice none (sLen+n) sCap) w:=by
  intro sLen sCap hle;unfold Builtin.append_
  rcases hd with rfl|rfl<;>simp only[J2,D4,D8,Sem.run_bind,run_underlying ht,Result.andThen_ok,aU hsz,run_underlying hu,Sem.run_pure,
   B8,AAd,s1,I9,AAe,hle,s3]
 have grows:∀(base:Option Addr)(sLen sCap:Nat)(old:Array Value),¬sLen+n≤sCap→(sLen+n)*i.bytes≤1099511627776→sLen+n≤1099511627776 →
  (Builtin.firstCells i.size sLen (.slice base sLen sCap)).run P w.drew = .ok old w.drew →
  (∀ newCap,sLen+n≤newCap→∃ c w',(newRow e (old++us2++Builtin.zeroCells v.cells (newCap-(sLen+n)))).run P w.drew = .ok c w') →
  ∃ newCap c w',sLen+n≤newCap∧(newRow e (old++us2++Builtin.zeroCells v.cells (newCap-(sLen+n)))).run P w.drew = .ok c w' ∧
    (Builtin.append_ #[t,u] ty #[.slice base sLen sCap,vy]).run P w = .ok (.slice (some c) (sLen+n) newCap) w':=by
  intro base sLen sCap old hle hb1 hb2 r1 hrow;obtain⟨newCap,hcap,hch⟩:=tY (P:=P) (sLen+n) sCap e w hb2;obtain⟨c,w',hr⟩:=hrow newCap hcap;refine⟨newCap,c,w',hcap,hr,?_⟩;have hn1:¬(((sLen+n:Nat):Int)>IntKind.i64.max∧(False∨i.bytes=0)):=by
   rintro ⟨h1,_⟩;have:IntKind.i64.max=9223372036854775807:=by decide
   omega
  have hn2:¬Builtin.nextslicecap (sLen+n) sCap*i.bytes>2^48:=by
   have h1:=aDg (show sCap<sLen+n by omega);have h2:Builtin.nextslicecap (sLen+n) sCap*i.bytes≤(sLen+n+768)*16*i.bytes:=F6 _ h1
   grind
  unfold Builtin.append_;rcases hd with rfl|rfl <;>
  (simp only[J2,D4,D8,Sem.run_bind,run_underlying ht,Result.andThen_ok,aU hsz,run_underlying hu,Sem.run_pure,
    B8,AAd,s1,I9,AAe,hle,Sem.run_ite,hti,false_or]at hn1 ⊢
   rw[if_neg hn1];simp only[Sem.run_pure,Result.andThen_ok,hn2,AAd,hch,run_askRoom,r1,r2,iR hi hv,hr])
 cases hx with
 | cs rows ad hxf =>
   simp only at ha;split at ha
   ·rename_i hc
    obtain⟨hall,hn0,hb1,hb2⟩:=hc;simp only[oSI]at ha;subst ha;have hsx:eT i.size H (.fs rows)=some (rows.length,rows.flatten):=by simp only[eT,hall,AAe]
    obtain⟨_,hl,old,o1,o2,_⟩:=qN (P:=P) (qM st) (hxf.up (qL F w)) hsx;have back:Up F w.drew F w:=⟨fun _ h=>h,fun _ _=>rfl,fun _ c e fr h=>⟨c,e,fr,h,rfl⟩,A6 _⟩;have gr:=fun newCap hcap=>uO (P:=P) (s:=i.size) st (e:=e) (cs:=rows.flatten) (new:=new) (us:=old) (vs:=us2) (need:=rows.length+n) (newCap:=newCap) (z:=z) (o2.up back) (s5.up back) hzr hzl (by grind) hcap;obtain⟨newCap,c,w',hcap,hrow,hrun⟩:=grows ad rows.length rows.length old AM (by grind) hb2 o1 (fun newCap hcap=>by
     grind)
    obtain⟨c2,w2,g1,g2,g3,g4,g5,g6,_⟩:=gr newCap hcap
    grind
   ·simp at ha
 | nilsl =>
   simp only at ha;split at ha
   ·rename_i hb
    split at ha
    ·rename_i hn0
     simp only[oSI]at ha;subst ha hn0;exact⟨_,fits_none 0 0 AM,.nilsl⟩
    ·rename_i hn0
     simp only[oSI]at ha;subst ha;have gr:=fun newCap hcap=>uO (P:=P) (s:=i.size) st (e:=e) (cs:=[]) (new:=new) (us := #[]) (vs:=us2) (need:=0+n) (newCap:=newCap) (z:=z) aCI (s5.up (show Up F w.drew F w from ⟨fun _ h=>h,fun _ _=>rfl,fun _ c e fr h=>⟨c,e,fr,h,rfl⟩,A6 _⟩)) hzr hzl (by simp[s2]) hcap;obtain⟨newCap,c,w',hcap,hrow,hrun⟩:=grows none 0 0 #[] AM (by
      grind) AM (by rfl) (fun newCap hcap=>by
      grind)
     obtain⟨c2,w2,g1,g2,g3,g4,g5,g6,c0,fr0,g7,g8⟩:=gr newCap hcap;rw[g1]at hrow;simp only[Result.ok.injEq]at hrow;obtain⟨rfl,rfl⟩:=hrow;subst g2;simp only[M0,G6]at hrun g4 g5 g6 hcap;refine⟨w.heap.size,_,_,.inl g3,hrun,g4,g5,?_⟩;split
     ·rename_i h0
      rcases hbt with rfl|⟨_,he,_,hs1⟩;·omega
      ·subst he
       exact .sb _ n newCap c0 fr0 g7 (by grind) hcap
     ·exact g6
   ·simp at ha
 | sl b o s' len cap c0 e0 fr0 hb0 hcap0 hlen0 =>
   cases o with
   | succ o=>simp at ha
   | zero =>
   simp only at ha;split at ha
   ·rename_i cs hb
    split at ha
    ·rename_i hc
     obtain⟨es,hlen,hb1,hb2⟩:=hc;simp only[oSI]at ha;subst ha;subst es;by_cases hfit:len+n≤cap
     ·-- in its own block
      obtain⟨ob,hob,hr⟩:=st.blk b _ hb;cases hr with
      | cells p cs c e1 fr hfr hl h1 h2 =>
        rw[hob]at hb0;simp only[oSI,Obj.cells.injEq]at hb0;obtain⟨rfl,rfl,rfl⟩:=hb0;have hsl:=s4.len;have hroom:len*i.size+n*i.size≤c.size:=by
         have:=F6 i.size hfit
         grind
        obtain⟨w',c',g1,g2,g3,g4⟩:=fY (P:=P) b (0+len*i.size) e1 fr us.toList 0 w c hob hfr (by simp;omega) (fun v hv'=>by
         obtain⟨j,hj⟩:=E9 hv';exact s4.one j v (by grind))
        simp only[I7,G8,J0,M0]at g4;have hET:=kO (w':=w') (y:=.cells true (cs++new)) st hb rfl hob g2.1 g2.2 (fun c1 e2 fr1 h=>by grind) (fun F1 w1 hu=>by
         refine .cells true _ c' e1 fr (fun j hj=>hfr j AM) (by grind) (fun j v hj=>?_) (fun j x v hx hj=>?_)
         ·rw[g4]at hj
          split at hj;·exact s4.one _ _ hj
          grind
         ·rw[g4]at hj
          rw[G4]at hx;split at hj
          ·rename_i h3
           rw[if_neg AM,←hlen]at hx;exact(s4.at_ _ _ _ hx hj).up hu
          ·rename_i h3
           have hjl:j<(cs++new).length:=by
            grind
           rw[C9]at hjl;rw[if_pos AM]at hx;exact(h2 _ _ _ hx hj).up hu)
        refine⟨b,_,w',.inr rfl,fits_some b 0 len cap w' hfit g1,hET.1,hET.2,?_⟩;obtain⟨c2,e2,f2,k1,k2⟩:=hET.1.cells b c e1 fr hob;have k2:=(Prod.mk.inj k2).1;exact .sl b 0 i.size (len+n) cap c2 e2 f2 k1 AM hfit
     ·-- in a new one
      have hL:Lies F w cs b 0:=nP st hb;obtain⟨old,o1,o2⟩:=eI (P:=P) (w:=w.drew) (cs:=cs) (b:=b) (o:=0) (F:=F) (fun j x hj=>by
       obtain⟨v1,q1,q2,q3⟩:=hL j x hj;exact⟨v1,q1,q2,q3.up (qL F w)⟩)
      have back:Up F w.drew F w:=⟨fun _ h=>h,fun _ _=>rfl,fun _ c e fr h=>⟨c,e,fr,h,rfl⟩,A6 _⟩;have gr:=fun newCap hcap=>uO (P:=P) (s:=i.size) st (e:=e) (cs:=cs) (new:=new) (us:=old) (vs:=us2) (need:=len+n) (newCap:=newCap) (z:=z) (o2.up back) (s5.up back) hzr hzl (by grind) hcap;obtain⟨newCap,c,w',hcap,hrow,hrun⟩:=grows (some ⟨b,0,none⟩) len cap old hfit (by
       grind) hb2 (by rw[←hlen]at o1;simpa [Builtin.firstCells]using o1) (fun newCap hcap=>by
       grind)
      obtain⟨c2,w2,g1,g2,g3,g4,g5,g6,_⟩:=gr newCap hcap
      grind
    ·simp at ha
   ·simp at ha
 | sb b len cap c0 fr0 hb0 hcap0 hlen0 =>
   simp only at ha;split at ha
   ·rename_i cs hb
    split at ha
    ·rename_i hc
     obtain⟨htag,hs1,hlen,hb2⟩:=hc;simp only[oSI]at ha;subst ha;obtain⟨he,hby1⟩:e=aFG∧i.bytes=1:=by
      grind
     by_cases hfit:len+n≤cap
     ·-- in its own block
      obtain⟨ob,hob,hr⟩:=st.blk b _ hb;cases hr with
      | cells p cs c e1 fr hfr hl h1 h2 =>
        rw[hob]at hb0;simp only[oSI,Obj.cells.injEq]at hb0;obtain⟨rfl,rfl,rfl⟩:=hb0;have hsl:=s4.len;rw[hs1,aD0]at s2;have hroom:len+n≤c.size:=AM
        obtain⟨w',c',g1,g2,g3,g4⟩:=fY (P:=P) b (0+len*i.size) aFG fr us.toList 0 w c hob hfr (by grind) (fun v hv'=>by
         obtain⟨j,hj⟩:=E9 hv';exact s4.one j v (by grind))
        rw[hs1]at g4;simp only[I7,G8,J0,M0,aD0]at g4;have hET:=kO (w':=w') (y:=.cells true (cs++new)) st hb rfl hob g2.1 g2.2 (fun c1 e2 fr1 h=>by grind) (fun F1 w1 hu=>by
         refine .cells true _ c' _ fr (fun j hj=>hfr j AM) (by grind) (fun j v hj=>?_) (fun j x v hx hj=>?_)
         ·rw[g4]at hj
          split at hj;·exact s4.one _ _ hj
          grind
         ·rw[g4]at hj
          rw[G4]at hx;split at hj
          ·rename_i h3
           rw[if_neg AM,←hlen]at hx;exact(s4.at_ _ _ _ hx hj).up hu
          ·rename_i h3
           have hjl:j<(cs++new).length:=by
            grind
           rw[C9]at hjl;rw[if_pos AM]at hx;exact(h2 _ _ _ hx hj).up hu)
        refine⟨b,_,w',.inr rfl,fits_some b 0 len cap w' hfit g1,hET.1,hET.2,?_⟩;obtain⟨c2,e2,f2,k1,k2⟩:=hET.1.cells b c _ fr hob;obtain⟨k3,rfl⟩:=Prod.mk.inj k2;exact .sb b (len+n) cap c2 f2 k1 AM hfit
     ·-- in a new one
      have hL:Lies F w cs b 0:=nP st hb;obtain⟨old,o1,o2⟩:=eI (P:=P) (w:=w.drew) (cs:=cs) (b:=b) (o:=0) (F:=F) (fun j x hj=>by
       obtain⟨v1,q1,q2,q3⟩:=hL j x hj;exact⟨v1,q1,q2,q3.up (qL F w)⟩)
      have back:Up F w.drew F w:=⟨fun _ h=>h,fun _ _=>rfl,fun _ c e fr h=>⟨c,e,fr,h,rfl⟩,A6 _⟩;have gr:=fun newCap hcap=>uO (P:=P) (s:=i.size) st (e:=e) (cs:=cs) (new:=new) (us:=old) (vs:=us2) (need:=len+n) (newCap:=newCap) (z:=z) (o2.up back) (s5.up back) hzr hzl (by grind) hcap;obtain⟨newCap,c,w',hcap,hrow,hrun⟩:=grows (some ⟨b,0,none⟩) len cap old hfit (by grind) hb2 (by rw[←hlen]at o1;simpa [Builtin.firstCells,hs1]using o1) (fun newCap hcap=>by
       grind)
      obtain⟨c2,w2,g1,g2,g3,g4,g5,g6,c0',fr0',g7,g8⟩:=gr newCap hcap;rw[g1]at hrow;simp only[Result.ok.injEq]at hrow;obtain⟨rfl,rfl⟩:=hrow;subst g2;subst he;exact⟨w.heap.size,_,_,.inl g3,hrun,g4,g5,.sb _ _ newCap c0' fr0' g7 (by grind) hcap⟩
    ·simp at ha
   ·simp at ha
 | _=>simp at ha

theorem aKv(st:St F w H){t u e e' ty:TypeId}{i:TypeInfo}{z:List AV}{x y:AV}{vx vy:Value}{e1 e2:Eff}(ht:P.underlying t=some (.slice e))
 {d:TypeDesc} (hu:P.underlying u=some d) (hd:d = .slice e'∨d = .string) (hi:P.info? e=some i) (hz:pF P e=some z) (hzl:z.length=i.size) (hby:i.bytes≤1048576)
 (hx:Rv F w x vx) (hy:Rv F w y vy) {bts:Nat} (hbt:bts=i.bytes∨(bts=1048577∧e=aFG∧i.bytes=1∧i.size=1)) (ha:aED i.size bts H x y=some (e1,e2)) :
 ∃ own b f own' b' f',e1 = .new own b f∧e2 = .new own' b' f'∧((∃ j c w',(H j=none∨own=some j)∧(Builtin.append_ #[t,u] ty #[vx,vy]).run P w = .ok c w'∧Ext F w H F w' (hset H j b)∧St F w' (hset H j b)∧Rv F w' (f j) c) ∨
   (∃ j c w',(H j=none∨own'=some j)∧(Builtin.append_ #[t,u] ty #[vx,vy]).run P w = .ok c w'∧Ext F w H F w' (hset H j b')∧St F w' (hset H j b')∧Rv F w' (f' j) c)):=by
 obtain⟨i',v,hi',hv,hzr⟩:=vJ (F:=F) (w:=w) hz;rw[hi]at hi';obtain rfl:i=i':=by grind
 have hsz:kX P e=some i.size:=by simp[kX,hi]
 unfold aED at ha;split at ha
 case h_2=>simp at ha
 rename_i n new b o s' len hsrc;obtain⟨s1,s2,us,s3,s4,_⟩:=qN (P:=P) st hy hsrc;obtain⟨_,_,us2,r2,s5,_⟩:=qN (P:=P) (qM st) (hy.up (qL F w)) hsrc;have hti:∀ w',(typeInfo e).run P w' = .ok i w':=fun w'=>by simp[typeInfo,hi]
 have fits_some:∀(b o sLen sCap:Nat)(w':World),sLen+n≤sCap→(storeCells ⟨b,o+sLen*i.size,none⟩ us.toList).run P w = .ok () w' →
  (Builtin.append_ #[t,u] ty #[.slice (some ⟨b,o,none⟩) sLen sCap,vy]).run P w = .ok (.slice (some ⟨b,o,none⟩) (sLen+n) sCap) w':=by
  intro b o sLen sCap w' hle hst;unfold Builtin.append_
  rcases hd with rfl|rfl<;>simp only[J2,D4,D8,Sem.run_bind,run_underlying ht,Result.andThen_ok,aU hsz,run_underlying hu,Sem.run_pure,
   B8,AAd,s1,I9,AAe,hle,s3,eN,hst]
 have fits_none:∀(sLen sCap:Nat),sLen+n≤sCap →
  (Builtin.append_ #[t,u] ty #[.slice none sLen sCap,vy]).run P w = .ok (.slice none (sLen+n) sCap) w:=by
  intro sLen sCap hle;unfold Builtin.append_
  rcases hd with rfl|rfl<;>simp only[J2,D4,D8,Sem.run_bind,run_underlying ht,Result.andThen_ok,aU hsz,run_underlying hu,Sem.run_pure,
   B8,AAd,s1,I9,AAe,hle,s3]
 have grows:∀(base:Option Addr)(sLen sCap:Nat)(old:Array Value),¬sLen+n≤sCap→(sLen+n)*i.bytes≤1099511627776→sLen+n≤1099511627776 →
  (Builtin.firstCells i.size sLen (.slice base sLen sCap)).run P w.drew = .ok old w.drew →
  (∀ newCap,sLen+n≤newCap→∃ c w',(newRow e (old++us2++Builtin.zeroCells v.cells (newCap-(sLen+n)))).run P w.drew = .ok c w') →
  ∃ newCap c w',sLen+n≤newCap∧(newRow e (old++us2++Builtin.zeroCells v.cells (newCap-(sLen+n)))).run P w.drew = .ok c w' ∧
    (Builtin.append_ #[t,u] ty #[.slice base sLen sCap,vy]).run P w = .ok (.slice (some c) (sLen+n) newCap) w':=by
  intro base sLen sCap old hle hb1 hb2 r1 hrow;obtain⟨newCap,hcap,hch⟩:=tY (P:=P) (sLen+n) sCap e w hb2;obtain⟨c,w',hr⟩:=hrow newCap hcap;refine⟨newCap,c,w',hcap,hr,?_⟩;have hn1:¬(((sLen+n:Nat):Int)>IntKind.i64.max∧(False∨i.bytes=0)):=by
   rintro ⟨h1,_⟩;have:IntKind.i64.max=9223372036854775807:=by decide
   omega
  have hn2:¬Builtin.nextslicecap (sLen+n) sCap*i.bytes>2^48:=by
   have h1:=aDg (show sCap<sLen+n by omega);have h2:Builtin.nextslicecap (sLen+n) sCap*i.bytes≤(sLen+n+768)*16*i.bytes:=F6 _ h1
   grind
  unfold Builtin.append_;rcases hd with rfl|rfl <;>
  (simp only[J2,D4,D8,Sem.run_bind,run_underlying ht,Result.andThen_ok,aU hsz,run_underlying hu,Sem.run_pure,
    B8,AAd,s1,I9,AAe,hle,Sem.run_ite,hti,false_or]at hn1 ⊢
   rw[if_neg hn1];simp only[Sem.run_pure,Result.andThen_ok,hn2,AAd,hch,run_askRoom,r1,r2,iR hi hv,hr])
 cases hx with
 | sl _ _ _ _ cap c0 e0 fr0 hb0 hcap0 hlen0 =>
   split at ha
   ·rename_i cs hb
    split at ha
    ·rename_i hc
     obtain⟨es,hlen,hb1,hb2⟩:=hc;simp only[oSI,A7]at ha;obtain⟨rfl,rfl⟩:=ha;refine⟨_,_,_,_,_,_,rfl,rfl,?_⟩;subst es;by_cases hfit:len+n≤cap
     ·-- in its own block
      left;obtain⟨ob,hob,hr⟩:=st.blk b _ hb;cases hr with
      | cells p cs c e1 fr hfr hl h1 h2 =>
        rw[hob]at hb0;simp only[oSI,Obj.cells.injEq]at hb0;obtain⟨rfl,rfl,rfl⟩:=hb0;have hsl:=s4.len;have hroom:o+len*i.size+n*i.size≤c.size:=by
         have:=F6 i.size hfit
         grind
        obtain⟨w',c',g1,g2,g3,g4⟩:=fY (P:=P) b (o+len*i.size) e1 fr us.toList 0 w c hob hfr (by simp;omega) (fun v hv'=>by
         obtain⟨j,hj⟩:=E9 hv';exact s4.one j v (by grind))
        simp only[I7,G8,J0]at g4;have hET:=kO (w':=w') (y:=.cells true (cs++new)) st hb rfl hob g2.1 g2.2 (fun c1 e2 fr1 h=>by grind) (fun F1 w1 hu=>by
         refine .cells true _ c' e1 fr (fun j hj=>hfr j AM) (by grind) (fun j v hj=>?_) (fun j x v hx hj=>?_)
         ·rw[g4]at hj
          split at hj;·exact s4.one _ _ hj
          grind
         ·rw[g4]at hj
          rw[G4]at hx;split at hj
          ·rename_i h3
           rw[if_neg AM,←hlen]at hx;exact(s4.at_ _ _ _ hx hj).up hu
          ·rename_i h3
           have hjl:j<(cs++new).length:=by
            grind
           rw[C9]at hjl;rw[if_pos AM]at hx;exact(h2 _ _ _ hx hj).up hu)
        refine⟨b,_,w',.inr rfl,fits_some b o len cap w' hfit g1,hET.1,hET.2,?_⟩;obtain⟨c2,e2,f2,k1,k2⟩:=hET.1.cells b c e1 fr hob;have k2:=(Prod.mk.inj k2).1;exact .sl b o i.size (len+n) cap c2 e2 f2 k1 AM hfit
     ·-- in a new one
      right;have hL:Lies F w (cs.drop o) b o:=fun j x hj=>by
       have:=nP st hb (o+j) x (by grind);simpa using this
      obtain⟨old,o1,o2⟩:=eI (P:=P) (w:=w.drew) (cs:=cs.drop o) (b:=b) (o:=o) (F:=F) (fun j x hj=>by
       obtain⟨v1,q1,q2,q3⟩:=hL j x hj;exact⟨v1,q1,q2,q3.up (qL F w)⟩)
      have hdl:(cs.drop o).length=len*i.size:=by rw[aG3];omega
      have back:Up F w.drew F w:=⟨fun _ h=>h,fun _ _=>rfl,fun _ c e fr h=>⟨c,e,fr,h,rfl⟩,A6 _⟩;have gr:=fun newCap hcap=>uO (P:=P) (s:=i.size) st (e:=e) (cs:=cs.drop o) (new:=new) (us:=old) (vs:=us2) (need:=len+n) (newCap:=newCap) (z:=z) (o2.up back) (s5.up back) hzr hzl (by rw[hdl,s2,aF3]) hcap;obtain⟨newCap,c,w',hcap,hrow,hrun⟩:=grows (some ⟨b,o,none⟩) len cap old hfit (by
       grind) hb2 (by rw[hdl]at o1;simpa [Builtin.firstCells]using o1) (fun newCap hcap=>by
       grind)
      obtain⟨c2,w2,g1,g2,g3,g4,g5,g6,_⟩:=gr newCap hcap;rw[g1]at hrow;simp only[Result.ok.injEq]at hrow;obtain⟨rfl,rfl⟩:=hrow;subst g2;exact⟨w.heap.size,_,_,.inl g3,hrun,g4,g5,g6⟩
    ·simp at ha
   ·simp at ha

theorem aNW(st:St F w H){t u e ty:TypeId}{s n:Nat}{x y:AV}{vx vy:Value}{H':Hp}(ht:P.underlying t=some (.slice e))(hs:kX P e=some s)
 (hx:Rv F w x vx) (hy:Rv F w y vy) (hc:aDP s H x y=some (n,H')) :
 ∃ w',(Builtin.copy_ #[t,u] ty #[vx,vy]).run P w = .ok (.int .i64 (n:Int)) w'∧Ext F w H F w' H'∧St F w' H':=by
 unfold aDP at hc;split at hc
 ·rename_i b o s' len m new hsrc
  cases hx with
  | sl _ _ _ _ cap c0 e0 fr0 hb0 hcap0 hlen0 =>
  split at hc
  ·rename_i cs hb
   split at hc
   ·rename_i hle
    obtain⟨rfl,hle⟩:=hle;simp only[oSI,A7]at hc;obtain⟨rfl,rfl⟩:=hc;obtain⟨s1,s2,_,_,_,s6⟩:=qN (P:=P) st hy hsrc;obtain⟨us,s7,s8⟩:=s6 (min m len) (Nat.min_le_left _ _);have hlen:(new.take (min m len*s')).length=min m len*s':=by
     simp_all
    have h3:=F6 s' (Nat.min_le_right m len);obtain⟨w',h1,h2⟩:=aES (P:=P) st hb s8 (off:=o) AM;refine⟨w',?_,h2⟩;unfold Builtin.copy_;simp only[J2,D4,D8,Sem.run_bind,run_underlying ht,Result.andThen_ok,aU hs,s1,Sem.run_pure];rw[show Nat.min m len=min m len from rfl,s7];simp only[Result.andThen_ok,Sem.run_bind,h1];rfl
   ·simp at hc
  ·simp at hc
 ·simp at hc


theorem aIZ(st:St F w H)(re:RE F w env a){t e:TypeId}{len s:Nat}{parts:Array (Nat×Operand)}{z cs:List AV}{l:List (Nat×Nat×AO)}
 (ht:P.underlying t=some (.slice e)) (hs:kX P e=some s) (hz:pF P e=some z) (hl:aGt (fun i=>some (i*s,s)) parts=some l)
 (hle:len*s≤16777216) (hzs:z.length=s) (hf:gG (List.replicate len z).flatten (l.map fun p=>(p.1,p.2.1,aL env p.2.2))=some cs) :
 ∃ c w',(Instr.buildSlice t len (parts.map fun(i,x)=>(i,a.eval x))).run P w = .ok c w'∧H w.heap.size=none ∧
   Ext F w H F w' (hset H w.heap.size (.cells true cs))∧St F w' (hset H w.heap.size (.cells true cs))∧Rv F w' (.sl w.heap.size 0 s len) c:=by
 obtain⟨i,v,hi,hv,hzr⟩:=vJ (F:=F) (w:=w) hz;have hmap:(parts.map fun(i,x)=>(i,a.eval x)).toList=parts.toList.map fun p=>(p.1,a.eval p.2):=by simp
 have hzz:=aCH (n:=len) hzr;rw[hzs]at hzz;obtain⟨out,h1,h2⟩:=aBR (place:=fun i=>some (i*s,s)) (place':=fun i=>some (i*s,s)) re hl (fun i r hr=>hr) hf hzz;obtain⟨g1,g2,g3,g4⟩:=vT st e h2;refine⟨.slice (some ⟨w.heap.size,0,none⟩) len len,_,?_,g1,g2,g3,?_⟩
 ·rw[←hmap]at h1
  have hv':v.cells.size=s:=by rw[←hzr.len,hzs]
  simp only[Instr.buildSlice,Sem.run_bind,run_underlying ht,Result.andThen_ok,aU hs,Sem.run_ite];rw[if_neg AM];by_cases h0:len*s=0
  ·rw[if_pos h0]
   grind [Sem.run_pure,Result.andThen_ok,Sem.run_bind,fP]
  ·rw[if_neg h0]
   simp only[Sem.run_bind,iR hi hv,Sem.run_pure,Result.andThen_ok,h1,fP]
 ·refine .sl _ 0 s len len _ _ _ g4 ?_ (A6 _)
  rw[←h2.len,M0];have hfl:∀(ps:List (Nat×Nat×AV))(z cs:List AV),gG z ps=some cs→cs.length=z.length:=by
   intro ps;induction ps with
   | nil=>intro z cs h;simp[gG]at h;subst h;rfl
   | cons p ps ih =>
     intro z cs h;obtain⟨off,n,v⟩:=p;simp only[gG]at h;split at h
     ·split at h
      ·rename_i hle
       rw[ih _ _ h];unfold bG;simp;omega
      ·simp at h
     ·simp at h
  rw[hfl _ _ _ hf,aPV,hzs];omega

theorem aNU(st:St F w H){t e:TypeId}{i:TypeInfo}{z:List AV}{l c:Int}(ht:P.underlying t=some (.slice e))(hi:P.info? e=some i)(hz:pF P e=some z)
 (hzs:z.length=i.size) (h0:0≤l) (h1:l≤c) (h2:(i.bytes:Int)*c≤281474976710656) (h3:c≤9223372036854775807) :
 ∃ v w',(Instr.makeSlice t (.int .i64 l) (.int .i64 c)).run P w = .ok v w'∧H w.heap.size=none ∧
   Ext F w H F w' (hset H w.heap.size (.cells true (List.replicate c.toNat z).flatten))∧St F w' (hset H w.heap.size (.cells true (List.replicate c.toNat z).flatten)) ∧
   Rv F w' (.sl w.heap.size 0 i.size l.toNat) v:=by
 obtain⟨i',v,hi',hv,hzr⟩:=vJ (F:=F) (w:=w) hz;rw[hi]at hi';obtain rfl:i=i':=by grind
 have hsz:kX P e=some i.size:=by simp[kX,hi]
 have hzz:=aCH (n:=c.toNat) hzr;rw[hzs]at hzz;obtain⟨g1,g2,g3,g4⟩:=vT st e hzz;have wl:IntKind.i64.wrap l=l:=IntWalk.i64_in l AM;have wc:IntKind.i64.wrap c=c:=IntWalk.i64_in c AM;have hti:(typeInfo e).run P w = .ok i w:=by simp[typeInfo,hi]
 refine⟨.slice (some ⟨w.heap.size,0,none⟩) l.toNat c.toNat,_,?_,g1,g2,g3,?_⟩
 ·have c1:(decide (c<0)||decide ((i.bytes:Int)*c>2^48))=false:=by
   grind
  simp only[Instr.makeSlice,Sem.run_bind,run_underlying ht,Result.andThen_ok,asInt,asIntOf,Sem.run_pure,hti,wl,wc,Sem.run_ite];rw[c1];have c2:decide (l<0)=false:=by simp;omega
  have c3:decide (l>c)=false:=by simp;omega
  simp only[c2,c3,Bool.or_self,B8,AAd,Sem.run_pure,Result.andThen_ok,run_askRoom,aU hsz];by_cases hn:c.toNat*i.size=0
  ·rw[if_pos hn]
   grind [Result.andThen_ok,fP]
  ·rw[if_neg hn]
   simp only[Sem.run_bind,iR hi hv,Sem.run_pure,Result.andThen_ok,fP]
 ·refine .sl _ 0 i.size l.toNat c.toNat _ _ _ g4 ?_ AM
  simp

theorem aAH{d cap:Nat}{x:Option Operand}{y:Option AO}{n:Nat}{code:BoundsCode}(re:RE F w env a)(hx:coO x=some y)(h:aS cap d env y=some n) :
 (x=none∧n=d)∨(∃ o,x=some o∧(Instr.sliceBound (a.eval o) cap code).run P w = .ok n w∧n≤cap):=by
 cases x with
 | none=>simp only[coO,oSI]at hx;subst hx;simp_all [aS]
 | some o =>
   simp only[coO]at hx;cases hc:co o with
   | none=>grind
   | some z =>
     simp only[hc,C5,oSI]at hx;subst hx;have hr:=bB re hc;simp only[aS]at h;split at h
     ·rename_i k m he
      rw[he]at hr;obtain⟨vo,hvo⟩:∃ vo,a.eval o=vo:=⟨_,rfl⟩;rw[hvo]at hr;cases hr;split at h
      ·rename_i hle
       simp only[oSI]at h;subst h;refine .inr ⟨o,rfl,?_,by omega⟩;simp only[Instr.sliceBound,hvo,asIntOf,Sem.run_bind,Sem.run_pure,Result.andThen_ok,Sem.run_ite]
       grind
      ·simp at h
     ·simp at h

theorem jG{len cap h l:Nat}{lo hi:Option Operand}{lo' hi':Option AO}(isS:Bool)(re:RE F w env a)(hlo:coO lo=some lo')(hhi:coO hi=some hi')
 (h1:aS len len env hi'=some h) (h2:aS h 0 env lo'=some l) (hle:len≤cap) :
 (Instr.sliceBounds isS len cap (lo.map a.eval) (hi.map a.eval) none).run P w = .ok (l,h,cap) w∧l≤h∧h≤len:=by
 have hb:∀{k m n:Nat}{x:Option Operand}{y:Option AO},coO x=some y→aS k m env y=some n→x=none∧n=m∨∃ o z,x=some o∧y=some z∧n≤k:=by
  intro k m n x y hx hn;rcases aAH (P:=P) (code:=.index) re hx hn with h|⟨o,h,_,h'⟩;·exact .inl h
  ·subst h
   simp only[coO]at hx;cases hc:co o with
   | none=>grind
   | some z=>grind
 have hup:∀{x:Option AO},aS len len env x=some h→aS cap len env x=some h:=by
  intro x hx;unfold aS at hx ⊢;split;all_goals grind
 have hhle:h≤len:=by
  grind
 have hlle:l≤h:=by
  grind
 refine⟨?_,hlle,hhle⟩;unfold Instr.sliceBounds;rcases aAH (P:=P) (code:=if isS then .sliceAcap else .sliceAlen) re hhi (hup h1)with ⟨rfl,rfl⟩|⟨o,rfl,hr,_⟩ <;>
 rcases aAH (P:=P) (code:=.sliceB) re hlo h2 with ⟨rfl,rfl⟩|⟨o',rfl,hr',_⟩ <;>
 simp only[Sem.run_bind,Sem.run_pure,Result.andThen_ok,aB6,C5,Option.isSome_none,B8,AAd, *]

theorem aNT(re:RE F w env a){t e:TypeId}{s:Nat}{x:AV}{vx:Value}{lo hi:Option Operand}{lo' hi':Option AO}{r:AV}
 (ht:P.underlying t=some (.slice e)) (hs:kX P e=some s) (hlo:coO lo=some lo') (hhi:coO hi=some hi') (hx:Rv F w x vx)
 (hr:lX s env lo' hi' x=some r) :
 ∃ c,(Instr.sliceAt t vx (lo.map a.eval) (hi.map a.eval) none).run P w = .ok c w∧Rv F w r c:=by
 have run:∀(ad:Option Addr)(len cap h l:Nat),len≤cap→aS len len env hi'=some h→aS h 0 env lo'=some l →
  (Instr.sliceAt t (.slice ad len cap) (lo.map a.eval) (hi.map a.eval) none).run P w = .ok (.slice (if cap=l then ad else ad.map (·.add (l*s))) (h-l) (cap-l)) w:=by
  intro ad len cap h l hle h1 h2;have hb:=(jG (P:=P) true re hlo hhi h1 h2 hle).1;simp only[Instr.sliceAt,Instr.slice,Sem.run_bind,run_underlying ht,Result.andThen_ok,hb,aU hs,Sem.run_pure]
 have two:∀{n:Nat}{K:Nat→Nat→Option AV},(match aS n n env hi' with
  | some h=>match aS h 0 env lo' with
    | some l=>K h l
    | none=>none
  | none=>none)=some r→∃ h l,aS n n env hi'=some h∧aS h 0 env lo'=some l∧K h l=some r:=by
  grind
 unfold lX at hr;cases hx with
 | nilsl =>
   obtain⟨h,l,h1,h2,h3⟩:=two (K:=fun _ _=>some AV.nilsl) hr;simp only[oSI]at h3;subst h3;obtain⟨_,b1,b2⟩:=jG (P:=P) true re hlo hhi h1 h2 (A6 0);refine⟨_,run none 0 0 h l (A6 _) h1 h2,?_⟩;have e1:l=0:=AM
   have e2:h=0:=AM
   subst e1 e2;exact .nilsl
 | fs0 ad cap =>
   simp only[List.all_nil,AAe]at hr;obtain⟨h,l,h1,h2,h3⟩:=two (K:=fun h l=>some (AV.fs ((([]:List (List AV)).drop l).take (h-l)))) hr;simp only[oSI]at h3;subst h3;obtain⟨_,b1,b2⟩:=jG (P:=P) (len:=0) (cap:=cap) true re hlo hhi h1 h2 (aH2 _);have e1:l=0:=AM
   have e2:h=0:=AM
   refine⟨_,run ad 0 cap h l (aH2 _) h1 h2,?_⟩;subst e1 e2;simpa using Rv.fs0 (F:=F) (w:=w) (if cap=0 then ad else ad.map (·.add (0*s))) cap
 | fs rows blk off s' cap g hcap hF hs' hc ho h0 =>
   simp only at hr;split at hr
   ·rename_i hall
    obtain⟨h,l,h1,h2,h3⟩:=two (K:=fun h l=>some (AV.fs ((rows.drop l).take (h-l)))) hr;simp only[oSI]at h3;subst h3;obtain⟨_,b1,b2⟩:=jG (P:=P) true re hlo hhi h1 h2 hcap;refine⟨_,run (some ⟨blk,off,none⟩) rows.length cap h l hcap h1 h2,?_⟩;by_cases hlt:l<h
    ·rw[if_neg AM]
     simp only[C5,eN];have es:s'=s:=by
      have hm:rows[l]'AM∈rows:=List.getElem_mem _
      grind
     subst es;have hlen:((rows.drop l).take (h-l)).length=h-l:=by simp;omega
     have hget:∀(i:Nat)(r:List AV),((rows.drop l).take (h-l))[i]?=some r→rows[l+i]?=some r:=fun i r hi=>by
      grind
     have:=Rv.fs (F:=F) (w:=w) ((rows.drop l).take (h-l)) blk (off+l*s') s' (cap-l) (fun i j=>g (l+i) j) AM hF
      (fun r hr=>hs' r (aA5 (O1 hr)))
      (fun i r j c hi hj=>by
       grind)
      (fun i j=>ho _ _) (fun i r j c hi hj=>h0 (l+i) r j c (hget i r hi) hj)
     grind
    ·have e0:(rows.drop l).take (h-l)=[]:=by grind
     rw[e0,show h-l=0 by omega];exact .fs0 _ _
   ·simp at hr
 | sl b o s' len cap c e0 fr hb hcap hlen =>
   simp only at hr;split at hr
   ·rename_i es
    obtain⟨h,l,h1,h2,h3⟩:=two (K:=fun h l=>if l<h then some (AV.sl b (o+l*s) s (h-l)) else if l=0 then some (.sl b o s 0) else some (.fs [])) hr;obtain⟨_,b1,b2⟩:=jG (P:=P) true re hlo hhi h1 h2 hlen;refine⟨_,run (some ⟨b,o,none⟩) len cap h l hlen h1 h2,?_⟩;split at h3
    ·rename_i hlt
     simp only[oSI]at h3;subst h3;rw[if_neg AM];simp only[C5,eN];subst es;refine .sl b (o+l*s') s' (h-l) (cap-l) c e0 fr hb ?_ AM;rw[Nat.sub_mul];have:=F6 s' (show l≤cap by omega);omega
    ·rename_i hlt
     split at h3
     ·rename_i hl0
      simp only[oSI]at h3;subst h3 hl0 es;rw[show h-0=0 by omega];have ha:(if cap=0 then some (⟨b,o,none⟩:Addr) else (some (⟨b,o,none⟩:Addr)).map (·.add (0*s')))=some ⟨b,o,none⟩:=by
       split;·rfl
       ·simp only[C5,eN,Nat.zero_mul,J0]
      rw[ha];exact .sl b o s' 0 (cap-0) c e0 fr hb AM (aH2 _)
     simp only[oSI]at h3;subst h3;rw[show h-l=0 by omega];exact .fs0 _ _
   ·simp at hr
 | _=>simp at hr

theorem aNX{t e:TypeId}{s:Nat}{x h m:AV}{vx vh vm:Value}{r:AV}(ht:P.underlying t=some (.slice e))(hs:kX P e=some s)(hx:Rv F w x vx)(hh:Rv F w h vh)(hm:Rv F w m vm)(hr:aFz s x h m=some r) :
 ∃ c,(Instr.sliceAt t vx none (some vh) (some vm)).run P w = .ok c w∧Rv F w r c:=by
 have run:∀(ad:Option Addr)(len cap:Nat)(k k':IntKind),len≤cap→(Instr.sliceAt t (.slice ad len cap) none (some (.int k (len:Int))) (some (.int k' (len:Int)))).run P w = .ok (.slice (if len=0 then ad else ad.map (·.add (0*s))) len len) w:=by
  intro ad len cap k k' hle;have b:∀(k:IntKind)(c:Nat)(code:BoundsCode),len≤c→(Instr.sliceBound (.int k (len:Int)) c code).run P w = .ok len w:=fun k c code h=>by
   simp only[Instr.sliceBound,asIntOf,Sem.run_bind,Sem.run_pure,Result.andThen_ok,Sem.run_ite];rw[if_pos AM];simp
  simp only[Instr.sliceAt,Instr.slice,Instr.sliceBounds,Sem.run_bind,run_underlying ht,Result.andThen_ok,b _ _ _ hle,b _ _ _ (A6 _),aU hs,Sem.run_pure,O7]
 unfold aFz at hr;split at hr
 ·rename_i rows k h k' m
  split at hr
  ·rename_i hc
   obtain⟨rfl,rfl,hall⟩:=hc;simp only[oSI]at hr;subst hr;cases hh;cases hm;cases hx with
   | fs0 ad cap=>exact⟨_,run ad 0 cap k k' (aH2 _),.cs [] _ (by simpa using Rv.fs0 (F:=F) (w:=w) ad 0)⟩
   | fs rows blk off s' cap g hcap hF hs' hc ho h0 =>
     refine⟨_,run (some ⟨blk,off,none⟩) rows.length cap k k' hcap,.cs rows _ ?_⟩;have e:(if rows.length=0 then some (⟨blk,off,none⟩:Addr) else (some (⟨blk,off,none⟩:Addr)).map (·.add (0*s)))=some ⟨blk,off,none⟩:=by
      split;·rfl
      ·simp only[C5,eN,Nat.zero_mul,J0]
     rw[e];exact .fs rows blk off s' rows.length g (A6 _) hF hs' hc ho h0
  ·simp at hr
 ·rename_i k h k' m
  split at hr
  ·rename_i hc
   obtain⟨rfl,rfl⟩:=hc;simp only[oSI]at hr;subst hr;cases hh;cases hm;cases hx;exact⟨_,run none 0 0 k k' (A6 _),by simpa using Rv.nilsl (F:=F) (w:=w)⟩
  ·simp at hr
 ·simp at hr


def aEb(P:Program)(F:Nat→Prop)(w:World)(H:Hp)(a:Act)(o:Oper):Eff→Prop
 | .val v=>∃ c,(execOp a.eval o).run P w = .ok (.value c) w∧Rv F w v c
 | .new own x f=>∃ j c w',(H j=none∨own=some j)∧(execOp a.eval o).run P w = .ok (.value c) w'∧Ext F w H F w' (hset H j x)∧St F w' (hset H j x)∧Rv F w' (f j) c

theorem aOp{g:Bool}{t:TypeId}{n o:Nat}{cs:List AV}{vs:Array Value}{v:AV}(hg:dE P t=some g)(hn:kX P t=some n)
 (hl:cs.length=vs.size) (ho:∀(i:Nat)(v:Value),vs[i]?=some v→v.oneCell'=true)
 (h:∀(i:Nat)(c:AV)(v:Value),cs[i]?=some c→vs[i]?=some v→Rv F w c v) (hr:iT g n cs o=some v) :
 ∃ c,(part t vs o).run P w = .ok c w∧Rv F w v c:=by
 unfold iT at hr;cases g with
 | true =>
   simp only[AAe]at hr;split at hr
   ·rename_i hle
    simp only[oSI]at hr;subst hr;refine⟨_,iC hg hn w,.agg _ _ (by simp;omega) (fun i v hv=>?_) (fun i c v hc hv=>?_)⟩;all_goals grind [Array.getElem?_extract]
   ·simp at hr
 | false =>
   simp only[B8,AAd]at hr;have hlt:o<vs.size:=by grind
   exact⟨vs[o],eD hg (by simp[hlt]) w,h o v _ hr (by simp[hlt])⟩

theorem aJd(re:RE F w env a){xs:Array Operand}{ys:List AO}(h:coL xs=some ys) :
 (ys.map (aL env)).length=(xs.map a.eval).size∧∀(i:Nat)(c:AV)(v:Value),(ys.map (aL env))[i]?=some c→(xs.map a.eval)[i]?=some v→Rv F w c v:=by
 obtain⟨h1,h2⟩:=aFh h;refine⟨by simp[h1],fun i c v hc hv=>?_⟩;simp only[N6]at hv;cases hx:xs[i]? with
 | none=>grind
 | some x =>
   simp only[hx,C5,oSI]at hv;obtain⟨y,h3,h4⟩:=h2 i x (by grind)
   grind [bB]

theorem wE(a b:ByteArray):(a==b)=true↔a=b:=by
 obtain⟨⟨x⟩⟩:=a;obtain⟨⟨y⟩⟩:=b;show ((⟨x⟩:Array UInt8)==⟨y⟩)=true↔_;simp

def mT(same:Value→Option Bool):List MapEntry→Nat→Option (Option (Nat×Value))
 | [],_=>some none
 | e::es,i=>match same e.key with
   | some true=>some (some (i,e.val))
   | some false=>mT same es (i+1)
   | none=>none
theorem aAU{kd:TypeDesc}{vk:Value}:∀(l:List MapEntry)(i:Nat),Instr.findNow kd vk l i=mT (Instr.sameNow kd vk) l i
 | [],_=>rfl
 | e::es,i=>by
   simp only[Instr.findNow,mT,aAU es];rfl

theorem aDR:∀{n:Nat}{as bs:List AV}{xs ys:List Value},bC (List.replicate n 0) as bs=some true→as.length=xs.length→bs.length=ys.length →
 (∀(i:Nat)(a:AV)(v:Value),as[i]?=some a→xs[i]?=some v→Rv F w a v)→(∀(i:Nat)(a:AV)(v:Value),bs[i]?=some a→ys[i]?=some v→Rv F w a v)→ys=xs∧∀ v∈xs,∃ k m,v = .int k m
 | 0,as,bs,xs,ys,h,h1,h2,_,_=>by
   cases as with
   | cons a as=>simp[bC]at h
   | nil=>cases bs with
     | cons b bs=>simp[bC]at h
     | nil =>
       have e1:xs=[]:=aC0.1 h1.symm;have e2:ys=[]:=aC0.1 h2.symm;simp[e1,e2]
 | n+1,as,bs,xs,ys,h,h1,h2,k1,k2=>by
   cases as with
   | nil=>cases bs<;>simp[H6,bC]at h
   | cons a as=>cases bs with
     | nil=>simp[H6,bC]at h
     | cons b bs =>
       cases xs with
       | nil=>simp at h1
       | cons x xs=>cases ys with
         | nil=>simp at h2
         | cons y ys =>
           simp only[H6,bC]at h;split at h
           ·rename_i p q e1 e2
            simp only[oSI,A4]at h;obtain⟨rfl,rfl⟩:=h;have r1:=k1 0 a x rfl rfl;have r2:=k2 0 b y rfl rfl;obtain⟨h3,h4⟩:=aDR e2 (by simpa using h1) (by simpa using h2) (fun i a v ha hv=>k1 (i+1) a v ha hv) (fun i a v ha hv=>k2 (i+1) a v ha hv);unfold kU at e1;split at e1
            ·cases r1;cases r2
             split at e1
             ·rename_i hk;subst hk
              simp only[oSI,beq_iff_eq]at e1;subst e1;exact⟨by rw[h3],fun v hv=>by
               rcases B5.1 hv with rfl|hv;·exact⟨_,_,rfl⟩
               ·exact h4 v hv⟩
             ·simp at e1
            all_goals simp_all
           ·simp at h

theorem aKS{kt:TypeId}{q:Nat}{k:AV}{vk:Value}(hq:aDq P kt=some q)(hk:Rv F w k vk):∃ same:Value→Option Bool,(∀ l c,mT same l 0=some c→(Instr.findKey kt vk l).run P w = .ok c w) ∧
 ∀ ka va b,Rv F w ka va→eM q k ka=some b→same va=some b∧(b=true→va=vk∧Instr.sameBits 10000 vk vk=true):=by
 unfold aDq at hq;split at hq
 ·rename_i x hu
  simp only[oSI]at hq;subst hq;refine⟨Instr.sameNow (.int x) vk,fun l c hc=>by simp only[Instr.findKey,Sem.run_bind,run_underlying hu,Result.andThen_ok,aAU,hc,Sem.run_pure],fun ka va b ha h=>?_⟩;unfold eM at h;split at h
  ·cases hk
   cases ha;split at h
   ·rename_i hkk
    subst hkk;refine⟨by simpa [Instr.sameNow]using h,fun hb=>?_⟩;subst hb;simp at h;exact⟨by rw[h],by simp[Instr.sameBits]⟩
   ·simp at h
  all_goals simp_all
 ·rename_i hu
  simp only[oSI]at hq;subst hq;refine⟨Instr.sameNow .string vk,fun l c hc=>by simp only[Instr.findKey,Sem.run_bind,run_underlying hu,Result.andThen_ok,aAU,hc,Sem.run_pure],fun ka va b ha h=>?_⟩;unfold eM at h;split at h;·simp_all
  ·cases hk
   cases ha;refine⟨by simpa [Instr.sameNow]using h,fun hb=>?_⟩;subst hb;simp only[oSI,wE]at h;exact⟨by rw[h],by simp only[Instr.sameBits,wE]⟩
  all_goals simp_all
 ·rename_i n e hu
  split at hq
  ·rename_i x he
   split at hq
   ·rename_i hs
    simp only[oSI]at hq;subst hq
    open Classical in
    refine⟨fun va=>if (Op.equal kt vk va).run P w = .ok true w then some true else if (Op.equal kt vk va).run P w = .ok false w then some false else none,fun l c hc=>?_,fun ka va b ha h=>?_⟩
    ·have ask:∀(l:List MapEntry)(i:Nat)(c:Option (Nat×Value)),mT (fun va=>if (Op.equal kt vk va).run P w = .ok true w then some true else if (Op.equal kt vk va).run P w = .ok false w then some false else none) l i=some c →
      (Instr.findAsking kt vk l i).run P w = .ok c w:=by
      intro l;induction l with
      | nil=>intro i c hc;simp only[mT,oSI]at hc;subst hc;rfl
      | cons y l ih =>
        intro i c hc;simp only[mT]at hc;simp only[Instr.findAsking,Sem.run_bind];split at hc
        ·rename_i h1
         simp only[oSI]at hc;subst hc;split at h1;·rename_i h2;rw[h2];rfl
         ·split at h1<;>simp at h1
        ·rename_i h1
         split at h1;·simp at h1
         ·split at h1
          ·rename_i h2;rw[h2];exact ih _ _ hc
          ·simp at h1
        ·simp at hc
     simp only[Instr.findKey,Sem.run_bind,run_underlying hu,Result.andThen_ok];cases l with
     | nil=>simp only[mT,oSI]at hc;subst hc;rfl
     | cons y l =>
       have hn:Instr.findNow (.array n e) vk (y::l) 0=none:=by
        cases vk<;>cases hy:y.key<;>simp[Instr.findNow,Instr.sameNow,hy]
       rw[hn];exact ask _ _ _ hc
    ·cases k with
     | agg as=>cases ka with
       | agg bs =>
         simp only[eM]at h;obtain⟨_,_,_,h1⟩:=aHy hs.2 hk ha h;have h1:(Op.equal kt vk va).run P w = .ok b w:=h1;refine⟨by simp only[h1];cases b<;>simp,fun hb=>?_⟩;subst hb;cases hk with
         | agg _ xs hl _ hx =>
         cases ha with
         | agg _ ys hl' _ hy =>
           obtain⟨h2,h3⟩:=aDR h (xs:=xs.toList) (ys:=ys.toList) (by simpa using hl) (by simpa using hl') (fun i a v h1 h2=>hx i a v h1 (by simpa using h2)) (fun i a v h1 h2=>hy i a v h1 (by simpa using h2));refine⟨by rw[Array.toList_inj.1 h2],?_⟩;simp only[Instr.sameBits,beq_self_eq_true,aF9,H8];rintro ⟨u,v⟩ huv;obtain⟨i,hi⟩:=E9 huv;rw[List.getElem?_zip_eq_some]at hi;obtain⟨k0,m0,hu0⟩:=h3 u (A5 hi.1);have:u=v:=by grind
           subst this;rw[hu0];simp[Instr.sameBits]
       | _=>simp[eM]at h
     | _=>simp[eM]at h
   ·simp at hq
  ·simp at hq
 ·simp at hq

theorem aAN{q:Nat}{k a:AV}{b:Bool}(h:eM q k a=some b):qB q k=true:=by
 have aux:∀(n:Nat)(as bs:List AV)(b:Bool),bC (List.replicate n 0) as bs=some b→bC (List.replicate n 0) as as=some true:=by
  intro n;induction n with
  | zero=>intro as bs b h;cases as<;>cases bs<;>simp_all [bC]
  | succ n ih =>
    intro as bs b h;cases as with
    | nil=>cases bs<;>simp[H6,bC]at h
    | cons x as=>cases bs with
      | nil=>simp[H6,bC]at h
      | cons y bs =>
        simp only[H6,bC]at h ⊢;split at h
        ·rename_i e1 e2
         rw[ih _ _ _ e2];unfold kU at e1;split at e1<;>simp_all [kU]
        ·simp at h
 unfold eM at h;split at h;·rfl
 ·rfl
 ·simp only[qB,beq_iff_eq];exact aux _ _ _ _ h
 ·simp at h
theorem aDF{q:Nat}{k:AV}:∀{es:List (AV×AV)}{o:Option AV},aR q k es=some o→qB q k=true
 | [],o,h=>by simp only[aR]at h;split at h<;>simp_all
 | (a,v)::r,o,h=>by
   simp only[aR]at h;split at h;·rename_i hb;exact aAN hb
   ·exact aDF h
   ·simp at h
theorem aSe{q:Nat}{k x:AV}:∀{es o:List (AV×AV)},kA q k x es=some o→qB q k=true
 | [],o,h=>by simp only[kA]at h;split at h<;>simp_all
 | (a,v)::r,o,h=>by
   simp only[kA]at h;split at h;·rename_i hb;exact aAN hb
   ·rename_i hb;exact aAN hb
   ·simp at h

theorem aIm{q:Nat}{k:AV}{vk:Value}{same:Value→Option Bool}(hs:∀ ka va b,Rv F w ka va→eM q k ka=some b→same va=some b∧(b=true→va=vk∧Instr.sameBits 10000 vk vk=true)) :
 ∀{es:List (AV×AV)}{l:List MapEntry}{i:Nat}{r:Option AV},es.length=l.length→(∀(i:Nat)(a:AV×AV)(x:MapEntry),es[i]?=some a→l[i]?=some x→Rv F w a.1 x.key∧Rv F w a.2 x.val) →
   aR q k es=some r→∃ c,mT same l i=some c∧(match r with
    | some v=>∃ j y,c=some (j,y)∧Rv F w v y
    | none=>c=none)
 | [],[],i,r,_,_,hf=>by simp only[aR]at hf;split at hf<;>simp at hf;subst hf;exact⟨none,by rfl,rfl⟩
 | (ka,va)::es,x::l,i,r,hl,h,hf=>by
   obtain⟨hka,hva⟩:=h 0 (ka,va) x rfl rfl;simp only[aR]at hf;split at hf
   ·rename_i hb
    simp only[oSI]at hf;subst hf;exact⟨_,by simp only[mT,(hs _ _ _ hka hb).1],i,x.val,rfl,hva⟩
   ·rename_i hb
    obtain⟨c,h1,h2⟩:=aIm hs (i:=i+1) (by simpa using hl) (fun j a y ha hy=>h (j+1) a y (by grind) (by grind)) hf;exact⟨c,by simp only[mT,(hs _ _ _ hka hb).1];exact h1,h2⟩
   ·simp at hf
 | [],_::_,_,_,hl,_,_=>by simp at hl
 | _::_,[],_,_,hl,_,_=>by simp at hl

theorem aKD{q:Nat}{k v:AV}{vk vv:Value}{same:Value→Option Bool}{clock:Nat}(hs:∀ ka va b,Rv F w ka va→eM q k ka=some b→same va=some b∧(b=true→va=vk∧Instr.sameBits 10000 vk vk=true))(hkv:Rv F w k vk)(hvv:Rv F w v vv) :
 ∀{es es':List (AV×AV)}{l:List MapEntry}{i:Nat},es.length=l.length→(∀(i:Nat)(a:AV×AV)(x:MapEntry),es[i]?=some a→l[i]?=some x→Rv F w a.1 x.key∧Rv F w a.2 x.val) →
   kA q k v es=some es'→∃ c,mT same l i=some c∧(match c with
    | some (j,_)=>∃ e,i≤j∧l[j-i]?=some e∧(e.key=vk∧Instr.sameBits 10000 vk vk=true)∧es'.length=l.length ∧
     ∀(n:Nat)(a:AV×AV)(x:MapEntry),es'[n]?=some a→(if n=j-i then some { e with val:=vv } else l[n]?)=some x→Rv F w a.1 x.key∧Rv F w a.2 x.val
    | none=>es'.length=l.length+1∧∀(n:Nat)(a:AV×AV)(x:MapEntry),es'[n]?=some a→(l++[{ key:=vk,val:=vv,born:=clock }])[n]?=some x→Rv F w a.1 x.key∧Rv F w a.2 x.val)
 | [],es',[],i,_,_,hf=>by
   simp only[kA]at hf;split at hf<;>simp at hf;subst hf
   refine⟨none,by rfl,rfl,fun n a x ha hx=>?_⟩
   grind
 | (ka,va)::es,es',x::l,i,hl,h,hf=>by
   obtain⟨hka,hva⟩:=h 0 (ka,va) x rfl rfl;simp only[kA]at hf;split at hf
   ·rename_i hb
    simp only[oSI]at hf;subst hf;obtain⟨s1,s2⟩:=hs _ _ _ hka hb;refine⟨some (i,x.val),by simp only[mT,s1],x,A6 _,by simp,s2 rfl,by omega,fun n a y ha hy=>?_⟩
    grind
   ·rename_i hb
    obtain⟨s1,_⟩:=hs _ _ _ hka hb;cases hp:kA q k v es with
    | none=>grind
    | some es0 =>
      simp only[hp,C5,oSI]at hf;subst hf;obtain⟨c,h1,h2⟩:=aKD hs hkv hvv (i:=i+1) (clock:=clock) (by simpa using hl) (fun j a y ha hy=>h (j+1) a y (by grind) (by grind)) hp;refine⟨c,by simp only[mT,s1];exact h1,?_⟩;cases c with
      | none =>
        grind
      | some c =>
        obtain⟨j,c⟩:=c;simp only at h2 ⊢;obtain⟨e,g1,g2,g3,g4,g5⟩:=h2;refine⟨e,by omega,?_,g3,by simp[g4],fun n a y ha hy=>?_⟩;·grind
        grind
   ·simp at hf
 | [],_,_::_,_,hl,_,_=>by simp at hl
 | _::_,_,[],_,hl,_,_=>by simp at hl

theorem aAp{kt:TypeId}{q:Nat}{emp:Bool}{k:AV}{v:Value}{n:Nat}(hq:aDq P kt=some q)(hk:Rv F w k v)(ho:qB q k=true) :
 (Instr.checkKey emp (n+2) kt v).run P w = .ok () w:=by
 unfold aDq at hq;split at hq;·rename_i x hu;simp[Instr.checkKey,run_underlying hu]
 ·rename_i hu;simp[Instr.checkKey,run_underlying hu]
 ·rename_i len e hu
  split at hq
  ·rename_i x he
   split at hq
   ·rename_i hs
    simp only[oSI]at hq;subst hq;unfold qB at ho;split at ho;·simp_all
    ·simp_all
    ·rename_i m as
     cases hk with
     | agg _ xs hl _ hx =>
     have hlen:xs.size=len:=by
      have:=(yE (beq_iff_eq.1 ho)).1;simp at this;omega
     have hg:dE P e=some false:=by simp[dE,he]
     have key:∀ is:List Nat,(∀ i∈is,i<len)→∀ f:Nat→PUnit→Sem (ForInStep PUnit),(∀ i u,i<len→(f i u).run P w = .ok (.yield ⟨⟩) w)→(forIn is ⟨⟩ f:Sem PUnit).run P w = .ok ⟨⟩ w:=by
      intro is;induction is with
      | nil=>intro _ f _;rfl
      | cons i is ih =>
        intro hi f hf;simp only[List.forIn_cons,Sem.run_bind,hf i ⟨⟩ (hi i (by simp)),Result.andThen_ok];exact ih (fun j hj=>hi j (by simp[hj])) f hf
     rw[Instr.checkKey];simp only[Sem.run_bind,run_underlying hu,Result.andThen_ok];rw[Std.Legacy.Range.forIn_eq_forIn_range'];simp only[Std.Legacy.Range.size,O7,aB8,Nat.div_one];rw[←O0,key _ (fun i hi=>N7.1 hi)];·rfl
     ·intro i u hi
      have hi':i<xs.size:=AM
      simp only[Sem.run_bind,aU hs.1,Result.andThen_ok,aD0,eD hg (D7 hi'),Instr.checkKey,run_underlying he,Sem.run_pure]
    ·simp at ho
   ·simp at hq
  ·simp at hq
 ·simp at hq

theorem aGC(st:St F w H){b:Nat}{p:Bool}{es:List (AV×AV)}(hb:H b=some (.map p es)) :
 ∃ m clock,w.heap[b]?=some (.map m clock)∧(getObj b).run P w = .ok (.map m clock) w∧es.length=m.toList.length ∧
   ∀(i:Nat)(a:AV×AV)(x:MapEntry),es[i]?=some a→m.toList[i]?=some x→Rv F w a.1 x.key∧Rv F w a.2 x.val:=by
 obtain⟨o,ho,hr⟩:=st.blk b _ hb;cases hr with
 | map p es m clock hl h =>
   refine⟨m,clock,ho,by simp[getObj,Sem.run,ho],by omega,fun i a x ha hx=>h i a x ha (by grind)⟩

theorem aLP(st:St F w H){t kt e:TypeId}{q:Nat}{m k x:AV}{vm vk vx:Value}{H':Hp}(ht:P.underlying t=some (.map kt e))(hq:aDq P kt=some q)(hm:Rv F w m vm)(hkv:Rv F w k vk)(hx:Rv F w x vx)(hs:xS q H m k x=some H') :
 ∃ w',(Instr.mapUpdate t vm vk vx).run P w = .ok () w'∧Ext F w H F w' H'∧St F w' H':=by
 unfold xS at hs;split at hs
 ·rename_i b
  cases hm;split at hs
  ·rename_i es hb
   cases hp:kA q k x es with
   | none=>grind
   | some es' =>
     simp only[hp,C5,oSI]at hs;subst hs;obtain⟨ms,clock,ho,hg,hl,hat⟩:=aGC (P:=P) st hb;obtain⟨same,hs1,hs2⟩:=aKS hq hkv;obtain⟨c,h1,h2⟩:=aKD (clock:=clock) hs2 hkv hx (i:=0) hl hat hp;have hck:=aAp (emp:=false) (n:=9998) hq hkv (aSe hp);have h1:=hs1 _ _ h1;have hsetO:∀(o':Obj)(w0:World),w0.heap[b]?=some (.map ms clock)→(setObj b o').run P w0 = .ok () { w0 with heap:=w0.heap.setIfInBounds b o' }:=fun o' w0 h0=>by simp[setObj,Sem.run,h0]
     have fin:∀(m':Array MapEntry)(clock':Nat)(w':World),w'.heap=w.heap.setIfInBounds b (.map m' clock')→SameIO w w'→es'.length=m'.size →
      (∀(i:Nat)(a:AV×AV)(x:MapEntry),es'[i]?=some a→m'[i]?=some x→Rv F w a.1 x.key∧Rv F w a.2 x.val) →
      Ext F w H F w' (hset H b (.map true es'))∧St F w' (hset H b (.map true es')):=fun m' clock' w' hw hio h3 h4 =>
      kO st hb rfl ho hw hio (fun c e fr h=>by cases h) (fun F1 w1 hu=>.map true es' m' clock' h3 fun i a x ha hx=>⟨(h4 i a x ha hx).1.up hu,(h4 i a x ha hx).2.up hu⟩)
     cases c with
     | none =>
       simp only at h2;refine⟨{ w with heap:=w.heap.setIfInBounds b (.map (ms.push { key:=vk,val:=vx,born:=clock }) (clock+1)) },?_,fin (ms.push { key:=vk,val:=vx,born:=clock }) (clock+1) _ rfl ⟨rfl,rfl,rfl⟩ (by simp[h2.1]) (fun i a x ha hx=>h2.2 i a x ha ?_)⟩;·simp only[Instr.mapUpdate,Sem.run_bind,run_underlying ht,Result.andThen_ok,hg,hck,h1,Sem.run_pure,hsetO _ w ho]
       grind
     | some c =>
       obtain⟨j,c⟩:=c;simp only at h2;obtain⟨e0,_,g2,g3,g4,g5⟩:=h2;simp only[O7]at g2 g5;have hj:ms[j]?=some e0:=by grind
       refine⟨{ w with heap:=w.heap.setIfInBounds b (.map (ms.modify j fun e=>{ e with key:=vk,val:=vx }) clock) },?_,fin (ms.modify j fun e=>{ e with key:=vk,val:=vx }) clock _ rfl ⟨rfl,rfl,rfl⟩ (by grind) (fun i a x ha hx=>g5 i a x ha ?_)⟩
       ·have hkeep:∀ w,(Instr.keyThatStays vk vk).run P w = .ok vk w:=fun w=>by
         simp[Instr.keyThatStays,g3.2]
        simp only[Instr.mapUpdate,Sem.run_bind,run_underlying ht,Result.andThen_ok,hg,hck,h1,Sem.run_pure,hj,C5,G7,g3.1,hkeep,hsetO _ w ho]
       grind
  ·simp at hs
 ·simp at hs

theorem aRB(st:St F w H){ty:TypeId}{x r:AV}{vx:Value}{H':Hp}(hx:Rv F w x vx)(hs:aHQ H x=some (r,H')) :
 ∃ c w',(Instr.next vx true ty).run P w = .ok c w'∧Ext F w H F w' H'∧St F w' H'∧Rv F w' r c:=by
 have tup3:∀(w':World)(n m:Int),Rv F w' (.tup [.bool true,.int .i64 n,.int .i32 m]) (.tuple #[.bool true,.int .i64 n,.int .i32 m]):=fun w' n m=>by
  refine .tup _ _ rfl fun i c v hc hv=>?_;match i with
  | 0=>simp at hc hv;subst hc hv;exact .bool _
  | 1=>simp at hc hv;subst hc hv;exact .int _ _
  | 2=>simp at hc hv;subst hc hv;exact .int _ _
  | i+3=>simp at hc
 unfold aHQ at hs;split at hs
 ·rename_i b
  cases hx;split at hs
  ·rename_i s pos hb
   obtain⟨o,ho,hr⟩:=st.blk b _ hb;cases hr;have hg:∀ w0:World,w0.heap[b]?=some (.stringIter s pos)→(getObj b).run P w0 = .ok (.stringIter s pos) w0:=fun w0 h0=>by simp[getObj,Sem.run,h0]
   have hsetO:∀(o':Obj)(w0:World),w0.heap[b]?=some (.stringIter s pos)→(setObj b o').run P w0 = .ok () { w0 with heap:=w0.heap.setIfInBounds b o' }:=fun o' w0 h0=>by simp[setObj,Sem.run,h0]
   split at hs<;>simp only[oSI,A7]at hs<;>obtain⟨rfl,rfl⟩:=hs
   ·rename_i hlt
    have hE:=kO (w':={ w with heap:=w.heap.setIfInBounds b (.stringIter s (pos+(Utf8.decode s pos).2)) }) (y:=.obj true (.stringIter s (pos+(Utf8.decode s pos).2))) st hb rfl ho rfl ⟨rfl,rfl,rfl⟩ (fun c e fr h=>by cases h) (fun F1 w1 hu=>.obj true _);refine⟨.tuple #[.bool true,.int .i64 (pos:Int),.int .i32 (Utf8.decode s pos).1],_,?_,hE.1,hE.2,tup3 _ _ _⟩;simp only[Instr.next,Sem.run_bind,hg w ho,Result.andThen_ok,hlt,AAe,hsetO _ w ho,Sem.run_pure,goInt]
   ·rename_i hlt
    refine⟨.tuple #[.bool false],w,?_,Ext.refl _ _ _,st,.tup _ _ rfl fun i c v hc hv=>?_⟩;·simp only[Instr.next,Sem.run_bind,hg w ho,Result.andThen_ok,hlt,AAd,Sem.run_pure]
    ·match i with
     | 0=>simp at hc hv;subst hc hv;exact .bool _
     | i+1=>simp at hc
  ·simp at hs
 ·simp at hs

theorem bI{o:Oper}{v:AV}{c:Value}(h:(execOp a.eval o).run P w = .ok (.value c) w)(hv:Rv F w v c):aEb P F w H a o (.val v):=⟨c,h,hv⟩

theorem yA{α:Type}{x:Operand}{f:AO→α}{y:α}(h:(co x).map f=some y):∃ z,co x=some z∧y=f z:=by
 cases hc:co x with
 | none=>grind
 | some z=>grind

theorem aRC{op:BinOp}{k k':IntKind}{n m:Int}{v:AV}{t:TypeId}(h:gU op k n k' m=some v) :
 ∃ c,(binOp op t (.int k n) (.int k' m)).run P w = .ok c w∧Rv F w v c:=by
 cases op<;>simp only[gU]at h<;>(try (split at h<;>simp only[oSI,reduceCtorEq]at h))<;>subst h<;>rename_i hc
 all_goals first
  | (obtain⟨rfl,hm⟩:=hc
     refine⟨_,?_,.int _ _⟩;simp only[binOp,ne_eq,not_true_eq_false,AAd,Op.intDiv,hm,Sem.run_pure];done)
  | (subst hc
     refine⟨_,?_,.int _ _⟩;simp only[binOp,ne_eq,not_true_eq_false,AAd,Op.intArith,Op.intBits,oO,Sem.run_pure];done)
  | (subst hc
     refine⟨_,?_,.bool _⟩;simp only[binOp,ne_eq,not_true_eq_false,AAd,Op.intCmp,Sem.run_pure];try rfl
     done)
  | (refine⟨_,?_,.int _ _⟩
     simp only[binOp,Op.shift,hc,AAd,Sem.run_pure];done)

theorem aRA{op:BinOp}{s t:ByteArray}{v:AV}{ty:TypeId}(h:aY op s t=some v):∃ c,(binOp op ty (.string s) (.string t)).run P w = .ok c w∧Rv F w v c:=by
 cases op<;>simp only[aY]at h<;>(try (split at h))<;>simp only[oSI,reduceCtorEq]at h<;>subst h
 ·rename_i hc
  refine⟨_,?_,.str _⟩;simp only[binOp,Op.stringOp,hc,AAd,Sem.run_pure]
 all_goals
  refine⟨_,?_,.bool _⟩;rfl

theorem aMo{op:BinOp}{t:TypeId}{x y:Operand}{k k':IntKind}{n m:Int}(w:World):(eqGuard op t x y (.int k n) (.int k' m)).run P w = .ok () w:=by
 unfold eqGuard;simp_all
theorem aMn{op:BinOp}{t:TypeId}{x y:Operand}{s u:ByteArray}(w:World):(eqGuard op t x y (.string s) (.string u)).run P w = .ok () w:=by
 unfold eqGuard;simp_all
theorem aJx{op:BinOp}{t:TypeId}{x y:Operand}{s u:Bool}(w:World):(eqGuard op t x y (.bool s) (.bool u)).run P w = .ok () w:=by
 unfold eqGuard;simp_all

theorem aNZ{op:BinOp}{t:TypeId}{x y:Operand}{u v r:AV}{vu vv:Value}(hu:Rv F w u vu)(hv:Rv F w v vv)(h:aDX op u v=some r) :
 ∃ c,((do eqGuard op t x y vu vv;binOp op t vu vv):Sem Value).run P w = .ok c w∧Rv F w r c:=by
 unfold aDX at h;split at h
 ·cases hu;cases hv
  obtain⟨c,h1,h2⟩:=aRC (P:=P) (F:=F) (w:=w) (t:=t) h
  grind [Sem.run_bind,aMo,Result.andThen_ok]
 ·cases hu;cases hv
  obtain⟨c,h1,h2⟩:=aRA (P:=P) (F:=F) (w:=w) (ty:=t) h
  grind [Sem.run_bind,aMn,Result.andThen_ok]
 ·simp at h

theorem aNY{t:TypeId}{x y:Operand}{neg p q:Bool}(hu:P.underlying t=some .bool){op:BinOp}(hop:(op = .eql∧neg=false)∨(op = .neq∧neg=true)) :
 ((do eqGuard op t x y (.bool p) (.bool q);binOp op t (.bool p) (.bool q)):Sem Value).run P w = .ok (.bool (if neg then p != q else p==q)) w:=by
 rcases hop with ⟨rfl,rfl⟩|⟨rfl,rfl⟩ <;>
 simp only[Sem.run_bind,aJx,Result.andThen_ok,binOp,Op.equal,Op.maxDepth,run_equalIn_bool' w 9999 t p q hu,Sem.run_pure]<;>simp[bne]

def aXB(P:Program)(t:TypeId):Nat→Prop
 | 0=>∃ e,P.underlying t=some (.slice e)
 | 1=>∃ k e,P.underlying t=some (.map k e)
 | 2=>∃ a b c,P.underlying t=some (.func a b c)
 | 3=>∃ e,P.underlying t=some (.pointer e)
 | _=>∃ ms,P.underlying t=some (.interface ms)
theorem aRD{t:TypeId}{x y:Operand}{u v:AV}{vx vy:Value}{kd:Nat}{neg b:Bool}(hx:Rv F w u vx)(hy:Rv F w v vy)(hb:wL kd u v=some b)
 (hu:aXB P t kd) (hk:kd=5→∃ c,y = .const c)
 {op:BinOp} (hop:(op = .eql∧neg=false)∨(op = .neq∧neg=true)) :
 ((do eqGuard op t x y vx vy;binOp op t vx vy):Sem Value).run P w = .ok (.bool (if neg then !b else b)) w:=by
 have key:∀{vx vy:Value}{b:Bool},(∀ w,(eqGuard op t x y vx vy).run P w = .ok () w)→(binOp .eql t vx vy=do pure (.bool (←Op.equal t vx vy)))→(binOp .neq t vx vy=do pure (.bool !(←Op.equal t vx vy)))→(∀ d,(Op.equalIn (d+1) t vx vy).run P w = .ok b w) →
  ((do eqGuard op t x y vx vy;binOp op t vx vy):Sem Value).run P w = .ok (.bool (if neg then !b else b)) w:=by
  intro vx vy b h1 h2 h3 h5;have h4:(Op.equal t vx vy).run P w = .ok b w:=h5 9999;rcases hop with ⟨rfl,rfl⟩|⟨rfl,rfl⟩;·simp only[Sem.run_bind,h1,Result.andThen_ok,h2,h4,Sem.run_pure];rfl
  ·simp only[Sem.run_bind,h1,Result.andThen_ok,h3,h4,Sem.run_pure];rfl
 unfold wL at hb;split at hb<;>simp only[oSI,reduceCtorEq]at hb<;>subst hb<;>cases hy<;>simp only[aXB]at hu
 all_goals
  first
   | (obtain⟨_,hu⟩:=hu;obtain⟨c0,rfl⟩:=hk rfl;cases hx;refine key (fun w=>by rcases hop with ⟨rfl,_⟩|⟨rfl,_⟩<;>simp[eqGuard,Sem.run_pure]) rfl rfl (fun d=>?_);simp[Op.equalIn,run_underlying hu];done)
   | (obtain⟨_,_,_,hu⟩:=hu;cases hx<;>refine key (fun w=>by cases op<;>rfl) rfl rfl (fun d=>?_)<;>simp[Op.equalIn,run_underlying hu])
   | (obtain⟨_,_,hu⟩:=hu;cases hx<;>refine key (fun w=>by cases op<;>rfl) rfl rfl (fun d=>?_)<;>simp[Op.equalIn,run_underlying hu])
   | (obtain⟨_,hu⟩:=hu;cases hx<;>refine key (fun w=>by cases op<;>rfl) rfl rfl (fun d=>?_)<;>simp[Op.equalIn,run_underlying hu])

theorem uU{b o:Nat}{f:Field}{n:Nat}(hn:kX P f.type=some (n+1))(w:World):(fieldPlace ⟨b,o,none⟩ f).run P w = .ok ⟨b,o+f.offset,none⟩ w:=by
 simp[fieldPlace,aU hn,eN]

theorem uQ{b n:Nat}{c:Array Value}{e:TypeId}(h:w.heap[b]?=some (.cells c e (0,0))) :
 (w.freeze ⟨b,n,none⟩ 1).heap=w.heap.setIfInBounds b (.cells c e (n,n+1)):=by
 have hlt:b<w.heap.size:=(G3.1 h).1;have hg:w.heap[b] = .cells c e (0,0):=(G3.1 h).2;unfold World.freeze
 grind

theorem aFF{us:Array Value}:∀{cs:List AV}{l:List UInt8}{vs:List Value},jQ cs=some l→cs.length=vs.length→(∀(i:Nat)(c:AV)(v:Value),cs[i]?=some c→vs[i]?=some v→Rv F w c v)→∃ ns:List Int,vs=ns.map (Value.int .u8)∧l=ns.map fun n=>UInt8.ofNat n.toNat
 | [],l,vs,h,hl,_=>by
   simp only[jQ,oSI]at h;have:vs=[]:=by grind
   simp_all
 | c::cs,l,vs,h,hl,hr=>by
   cases vs with
   | nil=>simp at hl
   | cons v vs =>
     unfold jQ at h;split at h;·simp at *
     ·rename_i n r he
      simp only[aD5]at he;obtain⟨rfl,rfl⟩:=he;simp only[A3]at h;obtain⟨l',h1,rfl⟩:=h;obtain⟨ns,e1,e2⟩:=aFF (us:=us) h1 (by simpa using hl) fun i c v hc hv=>hr (i+1) c v (by grind) (by grind);have hv:=hr 0 _ v rfl rfl;cases hv;exact⟨n::ns,by rw[e1];rfl,by rw[e2];rfl⟩
     ·simp at h
theorem aDB:∀(ns:List Int)(s:ByteArray),ns.foldl (fun r n=>r.push (UInt8.ofNat n.toNat)) s=⟨s.data++(ns.map fun n=>UInt8.ofNat n.toNat).toArray⟩
 | [],s=>by simp
 | n::ns,s=>by
   rw[aD3,aDB ns];simp[ByteArray.push]
theorem aLR(st:St F w H){v r:AV}{x:Value}(hv:Rv F w v x)(h:nJ (eT 1 H v)=some r)(hs:∀ s,v ≠ .str s):∃ c,(Conv.bytesToString x).run P w = .ok c w∧Rv F w r c:=by
 unfold nJ at h;split at h
 ·rename_i n cs hsrc
  simp only[A3]at h;obtain⟨l,h1,rfl⟩:=h;obtain⟨s1,s2,us,s3,s4,_⟩:=qN (P:=P) st hv hsrc;obtain⟨ns,e1,e2⟩:=aFF (us:=us) (vs:=us.toList) h1 (by rw[s4.len,I7]) fun i c v hc hv=>s4.at_ i c v hc (by grind);have go:∀(ad:Addr)(len cap:Nat),(loadCells ad len).run P w = .ok us w→∃ c,(Conv.bytesToString (.slice (some ad) len cap)).run P w = .ok c w∧Rv F w (.str ⟨⟨l⟩⟩) c:=by
   intro ad len cap hl;refine⟨_,run_bytesToString w ad len cap ns (by rw[hl,←e1]),?_⟩;rw[aDB,←e2];have:(⟨ByteArray.empty.data++l.toArray⟩:ByteArray)=⟨⟨l⟩⟩:=by
    simp_all
   rw[this];exact .str _
  have nil:cs=[]→∃ c,(Conv.bytesToString (.slice none 0 0)).run P w = .ok c w∧Rv F w (.str ⟨⟨l⟩⟩) c:=by
   intro hc;subst hc;simp only[jQ,oSI]at h1;subst h1;exact⟨.string ⟨⟨[]⟩⟩,by rfl,.str _⟩
  cases hv with
  | nilsl =>
    simp_all [eT]
  | fs0 a0 cap =>
    simp only[eT,List.all_nil,AAe,oSI,A7,aB5,aA9]at hsrc;obtain⟨rfl,rfl⟩:=hsrc;cases a0 with
    | none =>
      simp only[jQ,oSI]at h1;subst h1;exact⟨.string ⟨⟨[]⟩⟩,by rfl,.str _⟩
    | some ad=>exact go ad 0 cap (by simpa [Builtin.firstCells]using s3)
  | fs rows blk off s' cap g hcap hF hs' hc ho hh =>
    have:n=rows.length:=by
     simp_all [eT]
    subst this;exact go _ _ _ (by simpa [Builtin.firstCells]using s3)
  | sl b o s' len cap c e fr hb hcap hlen =>
    have:n=len:=by
     simp only[eT]at hsrc
     grind
    subst this;exact go _ _ _ (by simpa [Builtin.firstCells]using s3)
  | str s=>grind
  | _=>simp[eT]at hsrc
 ·simp at h
theorem aLS(st:St F w H){s:ByteArray}{e:TypeId} :
 ∃ c w',(Conv.stringToBytes e s).run P w = .ok c w'∧H w.heap.size=none ∧
   Ext F w H F w' (hset H w.heap.size (.cells true (s.data.toList.map fun b=>.int .u8 (b.toNat:Int)))) ∧
   St F w' (hset H w.heap.size (.cells true (s.data.toList.map fun b=>.int .u8 (b.toNat:Int))))∧Rv F w' (.sl w.heap.size 0 1 s.size) c:=by
 obtain⟨cap,hcap⟩:∃ cap,(Question.appendCap s.size 0 e).cut (w.tape w.drawn (.appendCap s.size 0 e))=cap:=⟨_,rfl⟩;have hle:s.size≤cap:=by rw[←hcap];exact Nat.le_add_right _ _
 obtain⟨row,hrow⟩:∃ row:Array Value,(s.data.map fun b=>Value.int .u8 b.toNat)++Array.replicate (cap-s.size) (.int .u8 0)=row:=⟨_,rfl⟩;have hsize:row.size=cap:=by rw[←hrow];simp;omega
 have hone:∀(i:Nat)(v:Value),row[i]?=some v→v.oneCell'=true:=fun i v hv=>by
  rw[←hrow,aA1]at hv;split at hv
  ·simp only[N6]at hv
   cases hx:s.data[i]? with
   | none=>grind
   | some x=>simp[hx]at hv;subst hv;rfl
  ·rw[aG0]at hv
   split at hv;·simp at hv;subst hv;rfl
   ·simp at hv
 have hrl:∀ F w,RL F w ((s.data.toList.map fun b=>AV.int .u8 (b.toNat:Int))++List.replicate (cap-s.size) (.int .u8 0)) row:=fun F w=>by
  refine⟨by grind,hone,fun i c v hc hv=>?_⟩;rw[←hrow,aA1]at hv;rw[G4]at hc;simp only[A9,I7,Array.size_map]at hc hv;split at hv
  ·rename_i hi
   rw[if_pos hi]at hc;simp only[C4,G8,N6,D7 hi,C5,oSI]at hc hv;subst hc hv;exact .int _ _
  ·rename_i hi
   rw[if_neg hi]at hc;rw[aG0]at hv;rw[List.getElem?_replicate]at hc;split at hv
   ·rename_i hlt
    rw[if_pos hlt]at hc;simp at hc hv;subst hc hv;exact .int _ _
   ·simp at hv
 obtain⟨g1,g2,g3,g4⟩:=vT (qM st) e (hrl F w.drew);have hsz:w.drew.heap.size=w.heap.size:=rfl;rw[hsz]at g1 g2 g3 g4;obtain⟨w1,hw1⟩:∃ w1,w.drew.alloc (.cells row e)=w1:=⟨_,rfl⟩;rw[hw1]at g2 g3 g4;have hfh:=uQ (n:=row.size) g4
 have ht:=kO (y:=.cells true (s.data.toList.map fun b=>.int .u8 (b.toNat:Int))) g3 (hset_same _ _ _) rfl g4 hfh (by unfold World.freeze;exact⟨rfl,rfl,rfl⟩) (fun c e fr h=>by grind)
  (fun F1 w1 hu=>.cells true _ row e _ (fun i hi=>by simp;omega) (by grind) hone (fun i c v hc hv =>
   (hrl F1 w1).at_ i c v (by grind) hv))
 have hh:hset (hset H w.heap.size (.cells true ((s.data.toList.map fun b=>AV.int .u8 (b.toNat:Int))++List.replicate (cap-s.size) (.int .u8 0)))) w.heap.size (.cells true (s.data.toList.map fun b=>.int .u8 (b.toNat:Int))) =
  hset H w.heap.size (.cells true (s.data.toList.map fun b=>.int .u8 (b.toNat:Int))):=by
  funext j;simp_all [hset]
 rw[hh]at ht;have hext:=((iW F w H).trans g2).trans ht.1;refine⟨.slice (some ⟨w.heap.size,0,none⟩) s.size cap,_,?_,g1,hext,ht.2,?_⟩
 ·have hshape:w1.shape? w.heap.size=some (e,row.size):=by simp[World.shape?,g4]
  unfold Conv.stringToBytes;have hchoose:(choose (.appendCap s.size 0 e)).run P w = .ok cap w.drew:=by
   simp only[run_choose,Question.forced,B8,AAd,hcap,World.drew_eq]
  simp only[Sem.run_bind,hchoose,Result.andThen_ok,hrow,fP,markStringish,run_shape,hsz,hw1,hshape,run_freeze,Sem.run_pure]
 ·refine .sl _ 0 1 s.size cap row e (row.size,row.size+1) ?_ AM hle
  grind

theorem bEH(st:St F w H)(re:RE F w env a){o:Oper}{op:DOp}{e:Eff}(hc:bZ P o=some op)(hq:aD op env H=some e):aEb P F w H a o e:=by
 obtain⟨dst,oo,ty,pos,after,guard⟩:=o;cases oo with
 | move x =>
   obtain⟨y,hy,rfl⟩:=yA hc;simp only[aD,oSI]at hq;subst hq;exact bI (c:=a.eval x) (by rfl) (bB re hy)
 | assign x =>
   obtain⟨y,hy,rfl⟩:=yA hc;simp only[aD,oSI]at hq;subst hq;exact bI (c:=a.eval x) (by rfl) (bB re hy)
 | pick c x y =>
   simp only[bZ]at hc;split at hc<;>simp only[oSI,reduceCtorEq]at hc
   rename_i c' x' y' h1 h2 h3;subst hc;simp only[aD]at hq;split at hq<;>simp only[oSI,reduceCtorEq]at hq
   rename_i t ht;subst hq;have hcv:=bB re h1;rw[ht]at hcv;obtain⟨vc,hvc⟩:∃ v,a.eval c=v:=⟨_,rfl⟩;rw[hvc]at hcv;cases hcv;refine bI (c:=if t then a.eval x else a.eval y) ?_ ?_;·simp only[execOp,hvc,asBool,Sem.run_bind,Sem.run_pure,Result.andThen_ok]
   grind [bB]
 | alloc t =>
   simp only[bZ]at hc;cases hz:pF P t with
   | none=>grind
   | some z =>
     simp only[hz]at hc;obtain⟨i,v,hi,hv,hzr⟩:=vJ (F:=F) (w:=w) hz;obtain⟨g1,g2,g3,g4⟩:=vT st t hzr;split at hc
     ·rename_i ht
      split at hc
      ·rename_i hl2
       split at hc<;>simp only[oSI,reduceCtorEq]at hc
       subst hc;simp only[aD,oSI]at hq;subst hq;have hlen:=hzr.len;refine⟨w.heap.size,.pointer (some ⟨w.heap.size,0,none⟩),_,.inl g1,?_,g2,g3,?_⟩;·simp only[execOp,Instr.alloc,newVar,Sem.run_bind,iR hi hv,Result.andThen_ok,fP,Sem.run_pure]
       ·subst ht
        exact .bp _ _ _ g4 AM
      ·simp at hc
     ·simp only[oSI]at hc
      subst hc;simp only[aD,oSI]at hq;subst hq;refine⟨w.heap.size,.pointer (some ⟨w.heap.size,0,none⟩),_,.inl g1,?_,g2,g3,.pt _ _⟩;simp only[execOp,Instr.alloc,newVar,Sem.run_bind,iR hi hv,Result.andThen_ok,fP,Sem.run_pure]
 | box t x =>
   obtain⟨y,hy,rfl⟩:=yA hc;simp only[aD]at hq;split at hq<;>simp only[oSI,reduceCtorEq]at hq
   rename_i cs hcs;subst hq;obtain⟨g1,g2,g3,g4⟩:=vT st t (xN (bB re hy) hcs);refine⟨w.heap.size,.pointer (some ⟨w.heap.size,0,none⟩),_,.inl g1,?_,g2,g3,.pt _ _⟩;rfl
 | build t parts =>
   simp only[bZ]at hc;split at hc
   ·rename_i z ps hz hg hps
    have key:DOp.build z ps=op∧(∀ fields,P.underlying t=some (.struct fields)→(fields.toList.all fun f=>(kX P f.type).isSome)=true) ∧
     (∀ n e,P.underlying t=some (.array n e)→(kX P e).isSome=true):=by
     grind
    obtain⟨rfl,k1,k2⟩:=key;simp only[aD]at hq;split at hq<;>simp only[oSI,reduceCtorEq]at hq
    rename_i cs hcs;subst hq;obtain⟨c,h1,h2⟩:=aLQ (P:=P) (w:=w) re hz hg hps k1 k2 hcs;refine bI (c:=c) ?_ h2;simp only[execOp,Sem.run_bind,h1,Result.andThen_ok,Sem.run_pure]
   ·simp at hc
 | buildSlice t len parts =>
   simp only[bZ]at hc;split at hc
   ·rename_i e0 hu
    split at hc
    ·rename_i s z hs hz
     split at hc
     ·rename_i ps hps
      split at hc<;>simp only[oSI,reduceCtorEq]at hc
      rename_i hle;subst hc;simp only[aD]at hq;split at hq<;>simp only[oSI,reduceCtorEq]at hq
      rename_i cs hcs;subst hq;obtain⟨c,w',h1,h2,h3,h4,h5⟩:=aIZ (P:=P) st re hu hs hz hps hle.1 hle.2 hcs;refine⟨w.heap.size,c,w',.inl h2,?_,h3,h4,h5⟩;simp only[execOp,Sem.run_bind,h1,Result.andThen_ok,Sem.run_pure]
     ·simp at hc
    ·simp at hc
   ·simp at hc
 | load t x =>
   simp only[bZ]at hc;split at hc<;>simp only[oSI,reduceCtorEq]at hc
   rename_i g n y hg hn hy;subst hc;simp only[aD]at hq;split at hq<;>simp only[oSI,reduceCtorEq]at hq
   rename_i v hv;subst hq;obtain⟨c,h1,h2⟩:=aET (P:=P) st hg hn (bB re hy) hv;refine bI (c:=c) ?_ h2;simp only[execOp,Sem.run_bind,h1,Result.andThen_ok,Sem.run_pure]
 | nilCheck x =>
   obtain⟨y,hy,rfl⟩:=yA hc;have hxv:=bB re hy;obtain⟨vx,hvx⟩:∃ v,a.eval x=v:=⟨_,rfl⟩;rw[hvx]at hxv;simp only[aD]at hq;split at hq<;>simp only[oSI,reduceCtorEq]at hq
   ·rename_i b o ht
    subst hq;rw[ht]at hxv;have hxv':=hxv;cases hxv;exact bI (by simp only[execOp,hvx,Sem.run_pure]) hxv'
   ·rename_i b ht
    subst hq;rw[ht]at hxv;cases hxv;exact bI (by simp only[execOp,hvx,Sem.run_pure]) (.pt _ _)
   ·rename_i r i o ht
    subst hq;rw[ht]at hxv;have hxv':=hxv;cases hxv;exact bI (by simp only[execOp,hvx,Sem.run_pure]) hxv'
   ·rename_i t v ht
    subst hq;rw[ht]at hxv;have hxv':=hxv;cases hxv;exact bI (by simp only[execOp,hvx,Sem.run_pure]) hxv'
 | binOp bop t x y yt =>
   simp only[bZ]at hc;split at hc
   ·rename_i x' y' hx hy
    have hxv:=bB re hx;have hyv:=bB re hy
    have plain:∀{x' y':AO}{r:AV},aDX bop (aL env x') (aL env y')=some r→Rv F w (aL env x') (a.eval x)→Rv F w (aL env y') (a.eval y) →
     aEb P F w H a ⟨dst,.binOp bop t x y yt,ty,pos,after,guard⟩ (.val r):=by
     intro x' y' r h hxv hyv;obtain⟨c,h1,h2⟩:=aNZ (P:=P) (t:=t) (x:=x) (y:=y) hxv hyv h;refine bI (c:=c) ?_ h2;simp only[execOp];rw[Sem.run_bind,h1];rfl
    have boolc:∀(neg:Bool){e:Eff},P.underlying t=some .bool→((bop = .eql∧neg=false)∨(bop = .neq∧neg=true))→aD (.binb neg x' y') env H=some e →
     aEb P F w H a ⟨dst,.binOp bop t x y yt,ty,pos,after,guard⟩ e:=by
     intro neg e hu hop he;simp only[aD]at he;split at he<;>simp only[oSI,reduceCtorEq]at he
     rename_i p q h1 h2;subst he;rw[h1]at hxv;rw[h2]at hyv;obtain⟨vx,hvx⟩:∃ v,a.eval x=v:=⟨_,rfl⟩;obtain⟨vy,hvy⟩:∃ v,a.eval y=v:=⟨_,rfl⟩;rw[hvx]at hxv;rw[hvy]at hyv;cases hxv;cases hyv;refine bI ?_ (.bool _);have:=aNY (P:=P) (w:=w) (x:=x) (y:=y) (p:=p) (q:=q) hu hop;simp only[execOp,hvx,hvy];rw[Sem.run_bind,this];rfl
    have aggc:∀(neg:Bool){ks:List Nat}{e:Eff},lK P t=some ks→((bop = .eql∧neg=false)∨(bop = .neq∧neg=true))→aD (.eqag neg ks x' y') env H=some e →
     aEb P F w H a ⟨dst,.binOp bop t x y yt,ty,pos,after,guard⟩ e:=by
     intro neg ks e hk hop he;simp only[aD]at he;split at he
     ·rename_i cs ds h1 h2
      split at he<;>simp only[oSI,reduceCtorEq]at he
      rename_i b hb;subst he;rw[h1]at hxv;rw[h2]at hyv;refine bI ?_ (.bool _);have:=aNV (P:=P) (x:=x) (y:=y) hk hxv hyv hb hop;simp only[execOp];rw[Sem.run_bind,this];rfl
     ·simp at he
    have nilc:∀(kd:Nat)(neg:Bool){e:Eff},aXB P t kd→(kd=5→∃ c,y = .const c) →
     ((bop = .eql∧neg=false)∨(bop = .neq∧neg=true))→aD (.eqn kd neg x' y') env H=some e→aEb P F w H a ⟨dst,.binOp bop t x y yt,ty,pos,after,guard⟩ e:=by
     intro kd neg e hu hk hop he;simp only[aD]at he;split at he<;>simp only[oSI,reduceCtorEq]at he
     rename_i b hb;subst he;refine bI ?_ (.bool _);have:=aRD (P:=P) (x:=x) (y:=y) hxv hyv hb hu hk hop;simp only[execOp];rw[Sem.run_bind,this];rfl
    split at hc;·grind
    ·grind
    ·cases hk:lK P t with
     | none=>grind
     | some ks=>grind
    ·cases hk:lK P t with
     | none=>grind
     | some ks=>grind
    ·cases hk:lK P t with
     | none=>grind
     | some ks=>grind
    ·cases hk:lK P t with
     | none=>grind
     | some ks=>grind
    ·rename_i hu;simp only[oSI]at hc;subst hc;exact nilc 0 false (by exact⟨_,hu⟩) (by simp) (.inl ⟨rfl,rfl⟩) hq
    ·rename_i hu;simp only[oSI]at hc;subst hc;exact nilc 0 true (by exact⟨_,hu⟩) (by simp) (.inr ⟨rfl,rfl⟩) hq
    ·rename_i hu;simp only[oSI]at hc;subst hc;exact nilc 1 false (by exact⟨_,_,hu⟩) (by simp) (.inl ⟨rfl,rfl⟩) hq
    ·rename_i hu;simp only[oSI]at hc;subst hc;exact nilc 1 true (by exact⟨_,_,hu⟩) (by simp) (.inr ⟨rfl,rfl⟩) hq
    ·rename_i hu;simp only[oSI]at hc;subst hc;exact nilc 2 false (by exact⟨_,_,_,hu⟩) (by simp) (.inl ⟨rfl,rfl⟩) hq
    ·rename_i hu;simp only[oSI]at hc;subst hc;exact nilc 2 true (by exact⟨_,_,_,hu⟩) (by simp) (.inr ⟨rfl,rfl⟩) hq
    ·rename_i hu;simp only[oSI]at hc;subst hc;exact nilc 3 false (by exact⟨_,hu⟩) (by simp) (.inl ⟨rfl,rfl⟩) hq
    ·rename_i hu;simp only[oSI]at hc;subst hc;exact nilc 3 true (by exact⟨_,hu⟩) (by simp) (.inr ⟨rfl,rfl⟩) hq
    ·rename_i hu;simp only[oSI]at hc;subst hc;exact nilc (aIc y) false (by unfold aIc;split<;>exact⟨_,hu⟩) (fun h=>by cases y<;>simp[aIc]at h;grind) (.inl ⟨rfl,rfl⟩) hq
    ·rename_i hu;simp only[oSI]at hc;subst hc;exact nilc (aIc y) true (by unfold aIc;split<;>exact⟨_,hu⟩) (fun h=>by cases y<;>simp[aIc]at h;grind) (.inr ⟨rfl,rfl⟩) hq
    ·simp only[oSI]at hc
     subst hc;simp only[aD]at hq
     grind
   ·simp at hc
 | unOp uop t x =>
   cases uop with
   | not =>
     obtain⟨y,hy,rfl⟩:=yA hc;have hxv:=bB re hy;obtain⟨vx,hvx⟩:∃ v,a.eval x=v:=⟨_,rfl⟩;rw[hvx]at hxv;simp only[aD]at hq;split at hq<;>simp only[oSI,reduceCtorEq]at hq
     rename_i b ht;subst hq;rw[ht]at hxv;cases hxv;exact bI (by simp only[execOp,hvx,Op.unary,Sem.run_bind,Sem.run_pure,Result.andThen_ok]) (.bool _)
   | neg =>
     obtain⟨y,hy,rfl⟩:=yA hc;have hxv:=bB re hy;obtain⟨vx,hvx⟩:∃ v,a.eval x=v:=⟨_,rfl⟩;rw[hvx]at hxv;simp only[aD]at hq;split at hq<;>simp only[oSI,reduceCtorEq]at hq
     rename_i k n ht;subst hq;rw[ht]at hxv;cases hxv;exact bI (by simp only[execOp,hvx,Op.unary,Op.intArith,Sem.run_bind,Sem.run_pure,Result.andThen_ok]) (.int _ _)
   | _=>simp[bZ]at hc
 | convert src dt x =>
   simp only[bZ]at hc;split at hc
   ·rename_i k0 k x' h1 h2 h3
    simp only[oSI]at hc;subst hc;have hxv:=bB re h3;obtain⟨vx,hvx⟩:∃ v,a.eval x=v:=⟨_,rfl⟩;rw[hvx]at hxv;simp only[aD]at hq;split at hq<;>simp only[oSI,reduceCtorEq]at hq
    rename_i k1 n ht;subst hq;rw[ht]at hxv;cases hxv;exact bI (by simp only[execOp,hvx,convert,Sem.run_bind,run_underlying h1,run_underlying h2,Conv.intToInt,Sem.run_pure,Result.andThen_ok]) (.int _ _)
   ·rename_i e0 x' h1 h2 h3
    split at hc
    ·rename_i h4
     simp only[oSI]at hc;subst hc;have hxv:=bB re h3;obtain⟨vx,hvx⟩:∃ v,a.eval x=v:=⟨_,rfl⟩;rw[hvx]at hxv;simp only[aD]at hq;split at hq<;>simp only[oSI,reduceCtorEq]at hq
     rename_i s ht;subst hq;rw[ht]at hxv;cases hxv;obtain⟨c,w',g1,g2,g3,g4,g5⟩:=aLS (P:=P) (e:=e0) (s:=s) st;refine⟨w.heap.size,c,w',.inl g2,?_,g3,g4,g5⟩;simp only[execOp,hvx,convert,Sem.run_bind,run_underlying h1,run_underlying h2,run_underlying h4,g1,Sem.run_pure,Result.andThen_ok]
    ·simp at hc
   ·rename_i e0 x' h1 h2 h3
    split at hc
    ·rename_i h4
     simp only[oSI]at hc;subst hc;have hxv:=bB re h3;obtain⟨vx,hvx⟩:∃ v,a.eval x=v:=⟨_,rfl⟩;rw[hvx]at hxv;simp only[aD,A3]at hq;obtain⟨r,hq,rfl⟩:=hq;unfold jE at hq;split at hq;·simp at hq
     ·rename_i hne
      obtain⟨c,g1,g2⟩:=aLR (P:=P) st hxv hq hne;have hsl:∃ ad l cp,vx = .slice ad l cp:=by
       generalize aL env x'=v at hxv hq hne;cases hxv with
       | nilsl=>grind
       | fs0 a0 cap=>grind
       | fs=>grind
       | sl=>grind
       | str s=>grind
       | _=>simp[eT,nJ]at hq
      obtain⟨ad,l,cp,rfl⟩:=hsl;refine bI (c:=c) ?_ g2;simp only[execOp,hvx,Sem.run_bind,run_convert_bytes_string w src dt e0 ad l cp h1 h4 h2,g1,Sem.run_pure,Result.andThen_ok]
    ·simp at hc
   ·simp at hc
 | range t x =>
   simp only[bZ]at hc;split at hc<;>simp only[oSI,reduceCtorEq]at hc
   rename_i x' h1 h2;subst hc;have hxv:=bB re h2;obtain⟨vx,hvx⟩:∃ v,a.eval x=v:=⟨_,rfl⟩;rw[hvx]at hxv;simp only[aD]at hq;split at hq<;>simp only[oSI,reduceCtorEq]at hq
   rename_i s ht;subst hq;rw[ht]at hxv;cases hxv;obtain⟨g1,g2⟩:=nD st (x:=.obj true (.stringIter s 0)) (o:=.stringIter s 0) (.obj true _) st.size_none;have hn:H w.heap.size=none:=by
    cases hb:H w.heap.size with
    | none=>rfl
    | some x=>exact absurd (st.own_lt hb) AM
   refine⟨w.heap.size,.pointer (some ⟨w.heap.size,0,none⟩),_,.inl hn,?_,g1,g2,.pt _ _⟩;simp only[execOp,hvx,Instr.range,Sem.run_bind,run_underlying h1,Sem.run_pure,Result.andThen_ok,run_newObj,World.alloc_eq]
 | insert t m k x =>
   simp only[bZ]at hc;split at hc;·simp only[A3]at hc;obtain⟨q,_,rfl⟩:=hc;simp[aD]at hq
   ·simp at hc
 | next x s =>
   cases s with
   | true=>simp only[bZ,A3]at hc;obtain⟨y,_,rfl⟩:=hc;simp[aD]at hq
   | false=>simp[bZ]at hc
 | makeFunc fn first cap =>
   simp only[bZ]at hc;split at hc<;>simp only[oSI,reduceCtorEq]at hc
   rename_i f c h1 h2;subst hc;simp only[aD,oSI]at hq;subst hq;obtain⟨g1,g2⟩:=aJd re h1;obtain⟨g3,g4⟩:=aJd re h2;exact bI (by rfl) (.fn fn _ _ _ _ g1 g3 g2 g4)
 | fieldAddr s x fd =>
   simp only[bZ]at hc;split at hc
   ·rename_i fields x' h1 h2
    split at hc
    ·rename_i f hf
     split at hc<;>simp only[oSI,reduceCtorEq]at hc
     rename_i n hn;subst hc;have hxv:=bB re h2;obtain⟨vx,hvx⟩:∃ v,a.eval x=v:=⟨_,rfl⟩;rw[hvx]at hxv;simp only[aD]at hq;split at hq<;>simp only[oSI,reduceCtorEq]at hq
     ·rename_i b o ht
      subst hq;rw[ht]at hxv;cases hxv;exact bI (by simp only[execOp,hvx,Instr.fieldAt,Sem.run_bind,run_underlying h1,hf,Instr.sureAddr,uU hn,Sem.run_pure,Result.andThen_ok]) (.pt _ _)
     ·rename_i r i o ht
      subst hq;rw[ht]at hxv;cases hxv with
      | fp _ _ _ blk off s' g hF hs hcc ho h =>
        refine bI (c:=.pointer (some ⟨blk,off+i*s'+(o+f.offset),none⟩)) (by simp only[execOp,hvx,Instr.fieldAt,Sem.run_bind,run_underlying h1,hf,Instr.sureAddr,uU hn,Sem.run_pure,Result.andThen_ok,aH5]) ?_;exact .fp r i (o+f.offset) blk off s' g hF hs hcc ho h
    ·simp at hc
   ·simp at hc
 | indexAddr t x i =>
   have idx:∀{b o len s:Nat}{k:IntKind}{n:Int}{e0:TypeId},kX P e0=some s→0≤n→((⟨b,o,none⟩:Addr).add (n.toNat*s))=⟨b,o+n.toNat*s,none⟩:=fun _ _=>eN _ _ _;simp only[bZ]at hc;split at hc
   ·rename_i len e0 x' i' h1 h2 h3
    cases hs:kX P e0 with
    | none=>grind
    | some s =>
      simp only[hs,C5,oSI]at hc;subst hc;have hxv:=bB re h2;have hiv:=bB re h3;obtain⟨vx,hvx⟩:∃ v,a.eval x=v:=⟨_,rfl⟩;obtain⟨vi,hvi⟩:∃ v,a.eval i=v:=⟨_,rfl⟩;rw[hvx]at hxv;rw[hvi]at hiv;simp only[aD]at hq;split at hq
      ·rename_i b o k n hx hi
       split at hq<;>simp only[oSI,reduceCtorEq]at hq
       rename_i hle;subst hq;rw[hx]at hxv;rw[hi]at hiv;cases hxv;cases hiv;refine bI ?_ (.pt _ _);simp only[execOp,hvx,hvi,Instr.indexAt,asIntOf,Sem.run_bind,run_underlying h1,Instr.sureAddr,Sem.run_pure,Result.andThen_ok,Sem.run_ite];rw[if_pos hle];simp only[Sem.run_bind,aU hs,Sem.run_pure,Result.andThen_ok,eN]
      ·rename_i r j o k n hx hi
       split at hq<;>simp only[oSI,reduceCtorEq]at hq
       rename_i hle;subst hq;rw[hx]at hxv;rw[hi]at hiv;cases hiv;cases hxv with
       | fp _ _ _ blk off s' g hF hs' hcc ho h =>
         refine bI (c:=.pointer (some ⟨blk,off+j*s'+(o+n.toNat*s),none⟩)) ?_ (.fp r j (o+n.toNat*s) blk off s' g hF hs' hcc ho h);simp only[execOp,hvx,hvi,Instr.indexAt,asIntOf,Sem.run_bind,run_underlying h1,Instr.sureAddr,Sem.run_pure,Result.andThen_ok,Sem.run_ite];rw[if_pos hle];simp only[Sem.run_bind,aU hs,Sem.run_pure,Result.andThen_ok,eN,aH5]
      ·simp at hq
   ·rename_i e0 x' i' h1 h2 h3
    cases hs:kX P e0 with
    | none=>grind
    | some s =>
      simp only[hs,C5,oSI]at hc;subst hc;have hxv:=bB re h2;have hiv:=bB re h3;obtain⟨vx,hvx⟩:∃ v,a.eval x=v:=⟨_,rfl⟩;obtain⟨vi,hvi⟩:∃ v,a.eval i=v:=⟨_,rfl⟩;rw[hvx]at hxv;rw[hvi]at hiv;simp only[aD]at hq;split at hq
      ·rename_i b o s' len k n hx hi
       split at hq<;>simp only[oSI,reduceCtorEq]at hq
       rename_i hle;obtain⟨rfl,hle⟩:=hle;subst hq;rw[hx]at hxv;rw[hi]at hiv;cases hxv;cases hiv;refine bI ?_ (.pt _ _);simp only[execOp,hvx,hvi,Instr.indexAt,asIntOf,Sem.run_bind,run_underlying h1,Sem.run_pure,Result.andThen_ok,Sem.run_ite];rw[if_pos hle];simp only[Sem.run_bind,aU hs,Sem.run_pure,Result.andThen_ok,eN]
      ·rename_i rows k n hx hi
       split at hq<;>simp only[oSI,reduceCtorEq]at hq
       rename_i hle;obtain⟨hle1,hle2,hle3⟩:=hle;subst hq;rw[hx]at hxv;rw[hi]at hiv;cases hiv;cases hxv with
       | fs0 ad cap=>grind
       | fs _ blk off s' cap g hcap hF hs' hcc ho h =>
         have hlt:n.toNat<rows.length:=AM
         have es:s'=s:=by
          grind
         subst es;refine bI (c:=.pointer (some ⟨blk,off+n.toNat*s'+0,none⟩)) ?_ (.fp rows n.toNat 0 blk off s' g hF hs' hcc ho h);simp only[execOp,hvx,hvi,Instr.indexAt,asIntOf,Sem.run_bind,run_underlying h1,Sem.run_pure,Result.andThen_ok,Sem.run_ite];rw[if_pos ⟨hle1,hle2⟩];simp only[Sem.run_bind,aU hs,Sem.run_pure,Result.andThen_ok,eN,J0]
      ·simp at hq
   ·simp at hc
 | index t x i =>
   simp only[bZ]at hc;split at hc
   ·rename_i len e0 x' i' h1 h2 h3
    split at hc<;>simp only[oSI,reduceCtorEq]at hc
    rename_i g s hg hs;subst hc;have hxv:=bB re h2;have hiv:=bB re h3;obtain⟨vx,hvx⟩:∃ v,a.eval x=v:=⟨_,rfl⟩;obtain⟨vi,hvi⟩:∃ v,a.eval i=v:=⟨_,rfl⟩;rw[hvx]at hxv;rw[hvi]at hiv;simp only[aD]at hq;split at hq
    ·rename_i cs k n hx hi
     split at hq
     ·rename_i hle
      split at hq<;>simp only[oSI,reduceCtorEq]at hq
      rename_i v hv;subst hq;rw[hx]at hxv;rw[hi]at hiv;cases hiv;cases hxv with
      | agg _ vs hl ho h =>
        obtain⟨c,g1,g2⟩:=aOp (P:=P) hg hs hl ho h hv;refine bI (c:=c) ?_ g2;simp only[execOp,hvx,hvi,Instr.index,asIntOf,Sem.run_bind,run_underlying h1,Sem.run_pure,Result.andThen_ok,Sem.run_ite];rw[if_pos hle];simp only[Sem.run_bind,aU hs,Result.andThen_ok,g1,Sem.run_pure]
     ·simp at hq
    ·simp at hq
   ·rename_i x' i' h1 h2 h3
    simp only[oSI]at hc;subst hc;have hxv:=bB re h2;have hiv:=bB re h3;obtain⟨vx,hvx⟩:∃ v,a.eval x=v:=⟨_,rfl⟩;obtain⟨vi,hvi⟩:∃ v,a.eval i=v:=⟨_,rfl⟩;rw[hvx]at hxv;rw[hvi]at hiv;simp only[aD]at hq;split at hq
    ·rename_i s k n hx hi
     split at hq<;>simp only[oSI,reduceCtorEq]at hq
     rename_i hle;subst hq;rw[hx]at hxv;rw[hi]at hiv;cases hiv;cases hxv;have hlt:n.toNat<s.size:=AM
     have hget:s[n.toNat]?=some (s.data.toList.getD n.toNat 0):=by
      rw[C7,G8];have:s[n.toNat]?=some s[n.toNat]:=by simp[hlt]
      rw[this];have h2:n.toNat<s.data.size:=hlt;rw[D7 h2];rfl
     refine bI (c:=.int .u8 ((s.data.toList.getD n.toNat 0).toNat:Int)) ?_ (.int _ _);simp only[execOp,hvx,hvi,Instr.index,asIntOf,Sem.run_bind,run_underlying h1,Sem.run_pure,Result.andThen_ok]
     simp_all
    ·simp at hq
   ·simp at hc
 | makeSlice t l c =>
   simp only[bZ]at hc;split at hc
   ·rename_i e0 l' c' h1 h2 h3
    split at hc
    ·rename_i i z hi hz
     split at hc<;>simp only[oSI,reduceCtorEq]at hc
     rename_i hzs;subst hc;have hlv:=bB re h2;have hcv:=bB re h3;obtain⟨vl,hvl⟩:∃ v,a.eval l=v:=⟨_,rfl⟩;obtain⟨vc,hvc⟩:∃ v,a.eval c=v:=⟨_,rfl⟩;rw[hvl]at hlv;rw[hvc]at hcv;simp only[aD]at hq;split at hq
     ·rename_i l0 c0 hl hcc
      split at hq<;>simp only[oSI,reduceCtorEq]at hq
      rename_i hle;subst hq;rw[hl]at hlv;rw[hcc]at hcv;cases hlv;cases hcv;obtain⟨v,w',g1,g2,g3,g4,g5⟩:=aNU (P:=P) st h1 hi hz hzs hle.1 hle.2.1 hle.2.2.1 hle.2.2.2;refine⟨w.heap.size,v,w',.inl g2,?_,g3,g4,g5⟩;simp only[execOp,hvl,hvc,Sem.run_bind,g1,Result.andThen_ok,Sem.run_pure]
     ·simp at hq
    ·simp at hc
   ·simp at hc
 | slice t x lo hi mx =>
   cases mx with
   | some m =>
     cases lo with
     | some lo=>simp[bZ]at hc
     | none=>cases hi with
       | none=>simp[bZ]at hc
       | some h =>
         simp only[bZ]at hc;split at hc
         ·rename_i e0 x' h' m' h1 h2 h3 h4
          simp only[A3]at hc;obtain⟨s,hs,rfl⟩:=hc;simp only[aD,A3]at hq;obtain⟨v,hv,rfl⟩:=hq;obtain⟨c,k1,k2⟩:=aNX (P:=P) h1 hs (bB re h2) (bB re h3) (bB re h4) hv;exact bI (by simp only[execOp,aB6,C5,Sem.run_bind,k1,Result.andThen_ok,Sem.run_pure]) k2
         ·simp at hc
   | none =>
   simp only[bZ]at hc;split at hc
   ·rename_i len e0 x' lo' hi' h1 h2 h3 h4
    cases hs:kX P e0 with
    | none=>grind
    | some s =>
      simp only[hs,C5,oSI]at hc;subst hc;have hxv:=bB re h2;obtain⟨vx,hvx⟩:∃ v,a.eval x=v:=⟨_,rfl⟩;rw[hvx]at hxv;simp only[aD]at hq;split at hq
      ·rename_i b o hx
       split at hq
       ·rename_i p cs h hb hh
        split at hq
        ·rename_i l hl
         split at hq<;>simp only[oSI,reduceCtorEq]at hq
         rename_i hle;subst hq;rw[hx]at hxv;cases hxv;obtain⟨b1,b2,b3⟩:=jG (P:=P) (w:=w) (len:=len) (cap:=len) false re h3 h4 hh hl (A6 _);obtain⟨ob,hob,hr⟩:=st.blk b _ hb;cases hr with
         | cells _ _ c e1 fr hfr hcl ho hcc =>
           refine bI (c:=.slice (some ⟨b,o+l*s,none⟩) (h-l) (len-l)) ?_ (.sl b (o+l*s) s (h-l) (len-l) c e1 fr hob ?_ (Nat.sub_le_sub_right b3 l))
           ·simp only[execOp,hvx,Instr.sliceAt,Instr.sureAddr,aB6,Sem.run_bind,run_underlying h1,b1,aU hs,Sem.run_pure,Result.andThen_ok]
            rw[if_neg AM,eN]
           ·rw[Nat.sub_mul]
            have:=F6 s (show l≤len by omega);omega
        ·simp at hq
       ·simp at hq
      ·simp at hq
   ·rename_i e0 x' lo' hi' h1 h2 h3 h4
    cases hs:kX P e0 with
    | none=>grind
    | some s =>
      simp only[hs,C5,oSI]at hc;subst hc;have hxv:=bB re h2;simp only[aD]at hq;split at hq<;>simp only[oSI,reduceCtorEq]at hq
      rename_i r hr;subst hq;obtain⟨c,g1,g2⟩:=aNT (P:=P) re h1 hs h3 h4 hxv hr;exact bI (by simp only[execOp,aB6,Sem.run_bind,g1,Result.andThen_ok,Sem.run_pure]) g2
   ·rename_i x' lo' hi' h1 h2 h3 h4
    simp only[oSI]at hc;subst hc;have hxv:=bB re h2;obtain⟨vx,hvx⟩:∃ v,a.eval x=v:=⟨_,rfl⟩;rw[hvx]at hxv;simp only[aD]at hq;split at hq
    ·rename_i s hx
     split at hq
     ·rename_i h hh
      split at hq<;>simp only[oSI,reduceCtorEq]at hq
      rename_i l hl;subst hq;rw[hx]at hxv;cases hxv;obtain⟨b1,b2,b3⟩:=jG (P:=P) (w:=w) (len:=s.size) (cap:=s.size) false re h3 h4 hh hl (A6 _);rw[←aLg];refine bI ?_ (.str _);simp only[execOp,hvx,Instr.sliceAt,Instr.slice,Sem.run_bind,run_underlying h1,aB6,Option.isSome_none,B8,AAd,Sem.run_ite,b1,Sem.run_pure,Result.andThen_ok]
     ·simp at hq
    ·simp at hq
   ·simp at hc
 | makeMap t r =>
   cases r with
   | some r=>simp[bZ]at hc
   | none =>
     simp only[bZ,oSI]at hc;subst hc;simp only[aD,oSI]at hq;subst hq;obtain⟨h1,h2⟩:=nD st (x:=.map true []) (o:=.map #[] 0) (.map true [] #[] 0 rfl (fun i a x ha hx=>by simp at ha)) st.size_none;have hn:H w.heap.size=none:=by
      cases hb:H w.heap.size with
      | none=>rfl
      | some x=>exact absurd (st.own_lt hb) AM
     refine⟨w.heap.size,.map (some w.heap.size),_,.inl hn,?_,h1,h2,.mp _⟩;rfl
 | lookup t m k ok =>
   simp only[bZ]at hc;split at hc
   ·rename_i kt e0 m' k' h1 h2 h3
    have key:∀(q:Nat)(z:AV),aDq P kt=some q→aIK P e0=some z →
     aD (.lookup q ok z m' k') env H=some e→aEb P F w H a ⟨dst,.lookup t m k ok,ty,pos,after,guard⟩ e:=by
     intro q z hq hz he;have hmv:=bB re h2;have hkv:=bB re h3;obtain⟨vm,hvm⟩:∃ v,a.eval m=v:=⟨_,rfl⟩;rw[hvm]at hmv;obtain⟨i,zv,hi,hzv,hzone⟩:∃ i zv,P.info? e0=some i∧i.zero=some zv∧Rv F w z zv:=by
      unfold aIK at hz
      grind [aAG]
     obtain⟨same,hs1,hs2⟩:=aKS hq hkv;have tupR:∀{v:AV}{y:Value}{b:Bool},Rv F w v y→Rv F w (.tup [v,.bool b]) (.tuple #[y,.bool b]):=fun {v y b} h=>.tup _ _ rfl (fun i c v hc hv=>by
      match i with
      | 0=>grind
      | 1=>simp at hc hv;subst hc hv;exact .bool b
      | i+2=>simp at hc)
     have run:∀(es:Array MapEntry)(c:Option (Nat×Value)),(vm = .map none∧es = #[]∨∃ b clock,vm = .map (some b)∧(getObj b).run P w = .ok (.map es clock) w) →
      qB q (aL env k')=true→mT same es.toList 0=some c→(Instr.lookup t vm (a.eval k) ok).run P w=(match c with
       | some (_,v)=>.ok (if ok then .tuple #[v,.bool true] else v) w
       | none=>.ok (if ok then .tuple #[zv,.bool false] else zv) w):=by
      intro es c hm hck hf;have hck:=fun emp=>aAp (P:=P) (emp:=emp) (n:=9998) hq hkv hck;have hf:=hs1 _ _ hf;rcases hm with ⟨rfl,rfl⟩|⟨b,clock,rfl,hg⟩
      ·cases c with
       | none=>simp only[Instr.lookup,Sem.run_bind,run_underlying h1,Result.andThen_ok,Sem.run_pure,hck,hf,iR hi hzv]
       | some c=>obtain⟨j,v⟩:=c;simp only[Instr.lookup,Sem.run_bind,run_underlying h1,Result.andThen_ok,Sem.run_pure,hck,hf]
      ·cases c with
       | none=>simp only[Instr.lookup,Sem.run_bind,run_underlying h1,Result.andThen_ok,Sem.run_pure,hg,hck,hf,iR hi hzv]
       | some c=>obtain⟨j,v⟩:=c;simp only[Instr.lookup,Sem.run_bind,run_underlying h1,Result.andThen_ok,Sem.run_pure,hg,hck,hf]
     simp only[aD]at he;split at he<;>simp only[oSI,reduceCtorEq]at he
     rename_i r hr;subst he;obtain⟨y,hy⟩:∃ y,aL env m'=y:=⟨_,rfl⟩;rw[hy]at hr hmv
     have fin:∀(es:Array MapEntry)(c:Option (Nat×Value)),(vm = .map none∧es = #[]∨∃ b clock,vm = .map (some b)∧(getObj b).run P w = .ok (.map es clock) w) →
      qB q (aL env k')=true→mT same es.toList 0=some c→(∀ v,r=some v→∃ j y,c=some (j,y)∧Rv F w v y)→(r=none→c=none) →
      aEb P F w H a ⟨dst,.lookup t m k ok,ty,pos,after,guard⟩ (.val (uL ok z r)):=by
      intro es c f1 f0 f2 f3 f4;have f5:=run es c f1 f0 f2;cases r with
      | none =>
        rw[f4 rfl]at f5;exact bI (c:=if ok then .tuple #[zv,.bool false] else zv) (by simp only[execOp,hvm,Sem.run_bind,f5,Result.andThen_ok,Sem.run_pure]) (by
         cases ok;·exact hzone
         ·exact tupR hzone)
      | some v =>
        obtain⟨j,y,rfl,hy⟩:=f3 v rfl;exact bI (c:=if ok then .tuple #[y,.bool true] else y) (by simp only[execOp,hvm,Sem.run_bind,f5,Result.andThen_ok,Sem.run_pure]) (by
         cases ok;·exact hy
         ·exact tupR hy)
     cases hmv with
     | mp b =>
       simp only[mC]at hr;split at hr
       ·rename_i p es hH
        obtain⟨ms,clock,ho,hg',hl,hat⟩:=aGC (P:=P) st hH;obtain⟨c,g1,g2⟩:=aIm hs2 (i:=0) hl hat hr;exact fin ms c (.inr ⟨b,clock,rfl,hg'⟩) (aDF hr) g1 (fun v hv=>by grind) (fun hv=>by grind)
       ·simp at hr
     | nilmap =>
       simp only[mC]at hr;have hok:=aDF hr;simp only[aR,hok,AAe,oSI]at hr;subst hr;exact fin #[] none (.inl ⟨rfl,rfl⟩) hok rfl (fun v hv=>by simp at hv) (fun _=>rfl)
     | _=>simp[mC]at hr
    grind
   ·simp at hc
 | extract x i =>
   obtain⟨y,hy,rfl⟩:=yA hc;have hxv:=bB re hy;obtain⟨vx,hvx⟩:∃ v,a.eval x=v:=⟨_,rfl⟩;rw[hvx]at hxv;simp only[aD]at hq;split at hq
   ·rename_i vs ht
    split at hq<;>simp only[oSI,reduceCtorEq]at hq
    rename_i v hv;subst hq;rw[ht]at hxv;cases hxv with
    | tup _ us hl h =>
      have hlt:i<us.size:=by grind
      exact bI (c:=us[i]) (by simp[execOp,hvx,Instr.extract,hlt]) (h i v _ hv (by simp[hlt]))
   ·simp at hq
 | makeInterface t x =>
   simp only[bZ]at hc;split at hc;·simp at hc
   ·rename_i d x' hne h1 h2
    simp only[oSI]at hc;subst hc;simp only[aD,oSI]at hq;subst hq;refine bI (c:=.iface t (a.eval x)) ?_ (.ifc t _ _ (bB re h2));simp only[execOp,Instr.makeInterface,Sem.run_bind,run_underlying h1,Result.andThen_ok];rfl
   ·simp at hc
 | call c =>
   simp only[bZ]at hc;unfold qI at hc;obtain⟨callee,args,argTypes⟩:=c
   have res:∀(b:Builtin)(vs:Array Value)(r:Sem Value)(cv:Value)(w':World),callee = .builtin b→args.map a.eval=vs →
    (∀ cs,builtin b argTypes ty cs vs=do pure (.value (←r)))→r.run P w = .ok cv w' →
    (execOp a.eval ⟨dst,.call { callee:=callee,args:=args,argTypes:=argTypes },ty,pos,after,guard⟩).run P w = .ok (.value cv) w':=by
    intro b vs r cv w' hb hvs hbu hr;subst hb;simp only[execOp,resolve,Sem.run_bind,Sem.run_pure,Result.andThen_ok,invoke,hvs,hbu,hr]
   have arr:∀{α:Type}{xs:Array α}{l:List α},xs.toList=l→xs=l.toArray:=fun h=>by rw[←h]
   split at hc
   ·rename_i hcal
    simp only at hcal hc;split at hc
    ·rename_i x t hx ht
     have e1:=arr hx;have e2:=arr ht;subst e1 e2;split at hc<;>simp only[oSI,reduceCtorEq]at hc
     ·rename_i n e0 hu
      subst hc;simp only[aD,aL,oSI]at hq;subst hq;refine bI (res .len #[a.eval x] _ _ w hcal (by simp) (fun cs=>rfl) ?_) (.int .i64 (n:Int));simp[Builtin.len_,run_underlying hu,goInt]
     ·rename_i x' hu hxx
      subst hc;have hxv:=bB re hxx;obtain⟨vx,hvx⟩:∃ v,a.eval x=v:=⟨_,rfl⟩;rw[hvx]at hxv;simp only[aD]at hq;split at hq<;>simp only[oSI,reduceCtorEq]at hq
      ·rename_i s _ hh
       subst hq;rw[hh]at hxv;cases hxv;refine bI (res .len #[.string s] _ _ w hcal (by simp[hvx]) (fun cs=>rfl) ?_) (.int .i64 (s.size:Int));simp[Builtin.len_,run_underlying hu,goInt]
      all_goals grind
     ·rename_i e0 x' hu hxx
      subst hc;have hxv:=bB re hxx;obtain⟨vx,hvx⟩:∃ v,a.eval x=v:=⟨_,rfl⟩;rw[hvx]at hxv;have key:∀(ad:Option Addr)(n cap:Nat),vx = .slice ad n cap→aEb P F w H a ⟨dst,.call { callee:=callee,args:=[x].toArray,argTypes:=[t].toArray },ty,pos,after,guard⟩ (.val (.int .i64 (n:Int))):=by
       intro ad n cap hv;subst hv;refine bI (res .len #[.slice ad n cap] _ _ w hcal (by simp[hvx]) (fun cs=>rfl) ?_) (.int .i64 (n:Int));simp[Builtin.len_,run_underlying hu,goInt]
      simp only[aD]at hq;split at hq<;>simp only[oSI,reduceCtorEq]at hq
      ·simp_all
      ·rename_i rows hh
       subst hq;rw[hh]at hxv;cases hxv;all_goals grind
      ·rename_i hh
       subst hq;rw[hh]at hxv;cases hxv
       grind
      ·rename_i hh
       subst hq;rw[hh]at hxv;cases hxv
       grind
     ·rename_i _ _ x' hu hxx
      subst hc;have hxv:=bB re hxx;obtain⟨vx,hvx⟩:∃ v,a.eval x=v:=⟨_,rfl⟩;rw[hvx]at hxv;simp only[aD,A3]at hq;obtain⟨v,hl,rfl⟩:=hq;unfold aAg at hl;split at hl
      ·rename_i b hh
       rw[hh]at hxv;cases hxv;split at hl
       ·rename_i p es hb
        simp only[oSI]at hl;subst hl;obtain⟨ms,clock,_,hg',hl,_⟩:=aGC (P:=P) st hb;refine bI (res .len #[.map (some b)] _ _ w hcal (by simp[hvx]) (fun cs=>rfl) ?_) (.int .i64 (es.length:Int));rw[hl];simp[Builtin.len_,run_underlying hu,hg',goInt]
       ·simp at hl
      ·rename_i hh
       rw[hh]at hxv;cases hxv;simp only[oSI]at hl;subst hl;refine bI (res .len #[.map none] _ _ w hcal (by simp[hvx]) (fun cs=>rfl) ?_) (.int .i64 0);simp[Builtin.len_,run_underlying hu,goInt]
      ·simp at hl
    ·simp at hc
   ·rename_i hcal
    simp only at hcal hc;split at hc
    ·rename_i x y t u hx ht
     have e1:=arr hx;have e2:=arr ht;subst e1 e2;split at hc
     ·rename_i e0 x' y' hu hxx hyy
      split at hc
      ·rename_i i e1 z hi hu2 hz
       split at hc<;>simp only[oSI,reduceCtorEq]at hc
       rename_i hzl;subst hc;simp only[aD]at hq;have hs:=aKu (P:=P) (ty:=ty) st hu hu2 (.inl rfl) hi hz hzl.1 hzl.2 (bB re hxx) (bB re hyy) (.inl rfl) hq;cases e with
       | val v =>
         obtain⟨c,h1,h2⟩:=hs;exact bI (res .append #[a.eval x,a.eval y] _ _ w hcal (by simp) (fun cs=>rfl) h1) h2
       | new own b f =>
         obtain⟨j,c,w',h1,h2,h3⟩:=hs;exact⟨j,c,w',h1,res .append #[a.eval x,a.eval y] _ _ w' hcal (by simp) (fun cs=>rfl) h2,h3⟩
      ·rename_i i e1 z hi hu2 hz
       split at hc<;>simp only[oSI,reduceCtorEq]at hc
       rename_i hzl;subst hc;simp only[aD]at hq;have hs:=aKu (P:=P) (ty:=ty) (e':=0) st hu hu2 (.inr rfl) hi hz hzl.1 hzl.2 (bB re hxx) (bB re hyy) (by
        grind) hq
       cases e with
       | val v =>
         obtain⟨c,h1,h2⟩:=hs;exact bI (res .append #[a.eval x,a.eval y] _ _ w hcal (by simp) (fun cs=>rfl) h1) h2
       | new own b f =>
         obtain⟨j,c,w',h1,h2,h3⟩:=hs;exact⟨j,c,w',h1,res .append #[a.eval x,a.eval y] _ _ w' hcal (by simp) (fun cs=>rfl) h2,h3⟩
      ·simp at hc
     ·simp at hc
    ·simp at hc
   ·split at hc
    ·split at hc
     ·rename_i e0 x' y' hu hxx hyy
      cases hs:kX P e0 with
      | none=>grind
      | some s=>simp only[hs,C5,oSI]at hc;subst hc;simp[aD]at hq
     ·simp at hc
    ·simp at hc
   ·rename_i hcal
    simp only at hcal hc;split at hc
    ·rename_i x y hx
     have e1:=arr hx;subst e1;split at hc<;>simp only[oSI,reduceCtorEq]at hc
     rename_i x' y' hxx hyy;subst hc;have hxv:=bB re hxx;have hyv:=bB re hyy;obtain⟨vx,hvx⟩:∃ v,a.eval x=v:=⟨_,rfl⟩;obtain⟨vy,hvy⟩:∃ v,a.eval y=v:=⟨_,rfl⟩;rw[hvx]at hxv;rw[hvy]at hyv;simp only[aD]at hq;split at hq<;>simp only[oSI,reduceCtorEq]at hq
     rename_i k n k' m h1 h2;subst hq;rw[h1]at hxv;rw[h2]at hyv;cases hxv;cases hyv;refine bI (res .min #[.int k n,.int k' m] _ _ w hcal (by grind) (fun cs=>rfl) ?_) (.int _ _);rfl
    ·simp at hc
   ·rename_i hcal
    simp only at hcal hc;split at hc
    ·rename_i x y hx
     have e1:=arr hx;subst e1;split at hc<;>simp only[oSI,reduceCtorEq]at hc
     rename_i x' y' hxx hyy;subst hc;have hxv:=bB re hxx;have hyv:=bB re hyy;obtain⟨vx,hvx⟩:∃ v,a.eval x=v:=⟨_,rfl⟩;obtain⟨vy,hvy⟩:∃ v,a.eval y=v:=⟨_,rfl⟩;rw[hvx]at hxv;rw[hvy]at hyv;simp only[aD]at hq;split at hq<;>simp only[oSI,reduceCtorEq]at hq
     rename_i k n k' m h1 h2;subst hq;rw[h1]at hxv;rw[h2]at hyv;cases hxv;cases hyv;refine bI (res .max #[.int k n,.int k' m] _ _ w hcal (by grind) (fun cs=>rfl) ?_) (.int _ _);rfl
    ·simp at hc
   ·split at hc<;>simp only[oSI,reduceCtorEq]at hc
    subst hc;simp[aD]at hq
   ·split at hc<;>simp only[oSI,reduceCtorEq]at hc
    subst hc;simp[aD]at hq
   ·simp at hc
 | store t x y =>
   simp only[bZ]at hc;split at hc<;>simp only[oSI,reduceCtorEq]at hc
   subst hc;simp[aD]at hq
 | mapUpdate t m k x =>
   simp only[bZ]at hc;split at hc;·simp only[A3]at hc;obtain⟨q,_,rfl⟩:=hc;simp[aD]at hq
   ·simp at hc
 | _=>simp[bZ]at hc

theorem aRE(st:St F w H)(re:RE F w env a){o:Oper}{s bts:Nat}{x y:AO}{e1 e2:Eff}(hc:bZ P o=some (.app s bts x y))(ha:aED s bts H (aL env x) (aL env y)=some (e1,e2)) :
 ∃ own b f own' b' f',e1 = .new own b f∧e2 = .new own' b' f'∧(aEb P F w H a o e1∨aEb P F w H a o e2):=by
 obtain⟨dst,oo,ty,pos,after,guard⟩:=o;cases oo<;>simp only[bZ]at hc
 case call c =>
  obtain⟨callee,args,argTypes⟩:=c;unfold qI at hc
  have res:∀(b:Builtin)(vs:Array Value)(r:Sem Value)(cv:Value)(w':World),callee = .builtin b→args.map a.eval=vs →
   (∀ cs,builtin b argTypes ty cs vs=do pure (.value (←r)))→r.run P w = .ok cv w' →
   (execOp a.eval ⟨dst,.call { callee:=callee,args:=args,argTypes:=argTypes },ty,pos,after,guard⟩).run P w = .ok (.value cv) w':=by
   intro b vs r cv w' hb hvs hbu hr;subst hb;simp only[execOp,resolve,Sem.run_bind,Sem.run_pure,Result.andThen_ok,invoke,hvs,hbu,hr]
  have arr:∀{α:Type}{xs:Array α}{l:List α},xs.toList=l→xs=l.toArray:=fun h=>by rw[←h]
  split at hc
  case h_2 =>
   rename_i hcal;simp only at hcal hc;split at hc
   ·rename_i x y t u hx ht
    have e1:=arr hx;have e2:=arr ht;subst e1 e2;split at hc
    ·rename_i e0 x' y' hu hxx hyy
     split at hc
     ·rename_i i e1 z hi hu2 hz
      split at hc<;>simp only[oSI,reduceCtorEq]at hc
      rename_i hzl;cases hc;obtain⟨own,b,f,own',b',f',rfl,rfl,hs⟩:=aKv (P:=P) (ty:=ty) st hu hu2 (.inl rfl) hi hz hzl.1 hzl.2 (bB re hxx) (bB re hyy) (.inl rfl) ha;refine⟨_,_,_,_,_,_,rfl,rfl,hs.imp ?_ ?_⟩<;>rintro ⟨j,c,w',h1,h2,h3⟩<;>exact⟨j,c,w',h1,res .append #[a.eval x,a.eval y] _ _ w' hcal (by simp) (fun cs=>rfl) h2,h3⟩
     ·rename_i i e1 z hi hu2 hz
      split at hc<;>simp only[oSI,reduceCtorEq]at hc
      rename_i hzl;cases hc;obtain⟨own,b,f,own',b',f',rfl,rfl,hs⟩:=aKv (P:=P) (ty:=ty) (e':=0) st hu hu2 (.inr rfl) hi hz hzl.1 hzl.2 (bB re hxx) (bB re hyy) (by
       grind) ha
      refine⟨_,_,_,_,_,_,rfl,rfl,hs.imp ?_ ?_⟩<;>rintro ⟨j,c,w',h1,h2,h3⟩<;>exact⟨j,c,w',h1,res .append #[a.eval x,a.eval y] _ _ w' hcal (by simp) (fun cs=>rfl) h2,h3⟩
     ·simp at hc
    ·simp at hc
   ·simp at hc
  all_goals exfalso; (repeat' split at hc)<;>simp at hc
 all_goals exfalso; (repeat' split at hc)<;>first|(simp at hc;done)|grind


structure Base where
 F:Nat→Prop
 w:World
 gi:GI F w

def Base.Up(B:Base)(F:Nat→Prop)(w:World):Prop:=Go.DL.Up B.F B.w F w
theorem Up.trans{F'':Nat→Prop}{w'':World}(h:Up F w F' w')(k:Up F' w' F'' w''):Up F w F'' w'' :=
 ⟨fun b hb=>k.sub b (h.sub b hb),fun b hb=>by rw[k.same b (h.sub b hb),h.same b hb],fun b c e fr hb=>by
  obtain⟨c1,e1,f1,h1,h2⟩:=h.size b c e fr hb;obtain⟨c2,e2,f2,h3,h4⟩:=k.size b c1 e1 f1 h1
  grind,I0 h.le k.le⟩
theorem Up.refl(F:Nat→Prop)(w:World):Up F w F w:=⟨fun _ h=>h,fun _ _=>rfl,fun _ c e fr h=>⟨c,e,fr,h,rfl⟩,A6 _⟩

def Args(F:Nat→Prop)(w:World)(as:List AV)(vs:Array Value):Prop :=
 as.length=vs.size∧∀(i:Nat)(a:AV)(v:Value),as[i]?=some a→vs[i]?=some v→Rv F w a v

def vH(F:Nat→Prop)(w:World)(H:Hp)(Q:AV→Hp→Prop):Ending→World→Prop:=fun e w' =>
 ∃ r v F' H',e = .returned r∧Ext F w H F' w' H'∧St F' w' H'∧Rv F' w' v r∧Q v H'

def FnW(B:Base)(P:Program)(f:FuncId)(as:List AV)(H:Hp)(Q:AV→Hp→Prop):Prop :=
 (∀(vs:Array Value)(w:World),(callFunc f vs).run P w = .ok (.enter f vs) w)∧∀(F:Nat→Prop)(w:World)(vs:Array Value),B.Up F w→St F w H→Args F w as vs→CallsIn Fence.wide 0 P f vs w (vH F w H Q)

def YW(B:Base)(P:Program)(l:Nat)(as:List AV)(H:Hp)(Q:AV→Hp→Prop):Prop :=
 ∀(F:Nat→Prop)(w:World)(vs:Array Value),B.Up F w→St F w H→Args F w as vs→YieldAt Fence.wide 0 P l vs w (vH F w H Q)

def CallV(B:Base)(P:Program)(fv:AV)(as:List AV)(H:Hp)(Q:AV→Hp→Prop):Prop :=
 match fv with
 | .fn (.func g) first cap=>FnW B P g (first++as++cap) H Q
 | .fn (.yield l) [] []=>YW B P l as H Q
 | _=>False

def mO{α:Type}(o:Option α)(k:α→Prop):Prop :=
 match o with
 | some x=>k x
 | none=>False
@[simp] theorem optW_some {α:Type} (x:α) (k:α→Prop):mO (some x) k=k x:=rfl
@[simp] theorem optW_none {α:Type} (k:α→Prop):mO none k=False:=rfl
theorem cN{α:Type}{o:Option α}{k k':α→Prop}(h:∀ x,k x→k' x)(ho:mO o k):mO o k':=by
 cases o with
 | none=>exact ho
 | some x=>exact h x ho
theorem cZ{α:Type}{o:Option α}{k:α→Prop}:mO o k↔∃ x,o=some x∧k x:=by
 cases o<;>simp

def fJ(d:Option Nat)(e:Eff)(K:aH→Hp→Prop)(env:aH)(H:Hp):Prop :=
 match e with
 | .val v=>K (aX env d v) H
 | .new own x f=>∀ b,(H b=none∨own=some b)→K (aX env d (f b)) (hset H b x)

def gd(o:DOper)(env:aH):Option Bool :=
 match o.guard with
 | none=>some true
 | some (g,want)=>match env g with
   | .bool t=>some (t==want)
   | .tup _=>some false
   | _=>none

def iI(B:Base)(P:Program)(d:Option Nat)(op:DOp)(K:aH→Hp→Prop)(env:aH)(H:Hp):Prop :=
 match op with
 | .store n p x _=>mO (oX n H (aL env p) (aL env x)) fun H'=>K (aX env d .any) H'
 | .copy s x y=>mO (aDP s H (aL env x) (aL env y)) fun r=>K (aX env d (.int .i64 (r.1:Int))) r.2
 | .mapup q m k x=>mO (xS q H (aL env m) (aL env k) (aL env x)) fun H'=>K (aX env d .any) H'
 | .nxts x=>mO (aHQ H (aL env x)) fun r=>K (aX env d r.1) r.2
 | .callf true f xs _=>∃ v,CallV B P (aL env f) (xs.map (aL env)) (iS H) (fun v' H'=>v'=v∧H'=iS H)∧K (aX env d v) H
 | .callf false f xs _=>CallV B P (aL env f) (xs.map (aL env)) H (fun v H'=>K (aX env d v) H')
 | op=>mO (aD op env H) fun e=>fJ d e K env H

def opW(B:Base)(P:Program)(o:DOper)(K:aH→Hp→Prop)(env:aH)(H:Hp):Prop :=
 match gd o env with
 | some true=>iI B P o.dst o.op K env H
 | some false=>K (aX env o.dst (.tup [])) H
 | none=>False

def opA(B:Base)(P:Program)(o:DOper)(K:aH→Hp→Prop)(env:aH)(H:Hp):Prop :=
 opW B P o K env H∨(gd o env=some true∧∃ s bts x y e1 e2,o.op = .app s bts x y∧aED s bts H (aL env x) (aL env y)=some (e1,e2)∧fJ o.dst e1 K env H∧fJ o.dst e2 K env H)
def RSA(B:Base)(P:Program):List DOper→(aH→Hp→Prop)→aH→Hp→Prop
 | [],K,env,H=>K env H
 | o::rest,K,env,H=>opA B P o (RSA B P rest K) env H

def RS(B:Base)(P:Program):List DOper→(aH→Hp→Prop)→aH→Hp→Prop
 | [],K,env,H=>K env H
 | o::rest,K,env,H=>opW B P o (RS B P rest K) env H

theorem CallV.mono{B:Base}{fv:AV}{as:List AV}{Q Q':AV→Hp→Prop}(h:CallV B P fv as H Q)(hq:∀ v H',Q v H'→Q' v H'):CallV B P fv as H Q':=by
 have post:∀(F:Nat→Prop)(w:World)(e:Ending)(w':World),vH F w H Q e w'→vH F w H Q' e w':=fun F w e w' ⟨r,v,F',H',h1,h2,h3,h4,h5⟩=>⟨r,v,F',H',h1,h2,h3,h4,hq _ _ h5⟩;unfold CallV at *;split at h;·exact⟨h.1,fun F w vs h1 h2 h3=>(h.2 F w vs h1 h2 h3).mono (post F w)⟩
 ·exact fun F w vs h1 h2 h3=>let ⟨fn,t,x,y,h4,h5⟩:=h F w vs h1 h2 h3; ⟨fn,t,x,y,h4,h5.mono (post F w)⟩
 ·exact h.elim

theorem aFv{d:Option Nat}{e:Eff}{K K':aH→Hp→Prop}(hk:∀ env H,K env H→K' env H)(h:fJ d e K env H):fJ d e K' env H:=by
 unfold fJ at *
 grind

theorem rK{B:Base}{d:Option Nat}{op:DOp}{K:aH→Hp→Prop}(h:op.isQ=true):iI B P d op K env H=mO (aD op env H) fun e=>fJ d e K env H:=by
 cases op<;>first|rfl|(simp[DOp.isQ]at h)

theorem aJQ{B:Base}{d:Option Nat}{op:DOp}{K K':aH→Hp→Prop}(hk:∀ env H,K env H→K' env H)(h:iI B P d op K env H):iI B P d op K' env H:=by
 cases op with
 | store n p x l=>exact cN (fun _=>hk _ _) h
 | copy s x y=>exact cN (fun _=>hk _ _) h
 | mapup q m k x=>exact cN (fun _=>hk _ _) h
 | nxts x=>exact cN (fun _=>hk _ _) h
 | callf q f xs l =>
   cases q with
   | true=>obtain⟨v,h1,h2⟩:=h;exact⟨v,h1,hk _ _ h2⟩
   | false=>exact CallV.mono h fun v H'=>hk _ _
 | _ =>
   rw[rK rfl]at h ⊢;exact cN (fun _=>aFv hk) h

theorem aHP{B:Base}{o:DOper}{K K':aH→Hp→Prop}(hk:∀ env H,K env H→K' env H)(h:opW B P o K env H):opW B P o K' env H:=by
 unfold opW at *
 grind [aJQ]
theorem RS.alt{B:Base}:∀{l:List DOper}{K:aH→Hp→Prop}{env:aH}{H:Hp},RS B P l K env H→RSA B P l K env H
 | [],_,_,_,h=>h
 | o::l,K,env,H,h=>.inl (aHP (fun _ _ h=>RS.alt h) h)


def FW(r:Option Nat):Fence:={ Fence.wide with round:=r }

theorem mK(r:Option Nat)(o:Oper):∀ f,o.about P w a.eval=some f→(FW r).fn f:=fun _ _=>trivial

structure Reads(P:Program)(ops:Array Oper)(i:Nat)(d:DOper):Prop where
 get:∃ o,ops[i]?=some o∧d.dst=o.dst ∧
  (match o.guard with
   | none=>d.guard=none
   | some (j,w)=>∃ g,(ops[j]?).bind (·.dst)=some g∧d.guard=some (g,w)) ∧
  (xZ P o=d.op∨(∃ n p x l,xZ P o = .store n p x []∧d.op = .store n p x l)∨(∃ q f xs l,xZ P o = .callf false f xs []∧d.op = .callf q f xs l)) ∧
  (∀ c,o.op ≠ .defer c)

theorem aJg(st:St F w H):St F w (iS H):=by
 refine⟨st.lt,fun b x hb=>?_,fun b x hb=>?_⟩
 ·unfold iS at hb
  cases h:H b with
  | none=>grind
  | some y=>exact st.dis b y h
 ·unfold iS at hb
  cases h:H b with
  | none=>grind
  | some y =>
    simp only[h,C5,oSI]at hb;obtain⟨o,h1,h2⟩:=st.blk b y h;refine⟨o,h1,?_⟩;subst hb;cases h2 with
    | cells p cs c e fr hfr hl ho hc=>exact .cells false cs c e fr hfr hl ho hc
    | map p es m clock hl hm=>exact .map false es m clock hl hm
    | obj p o=>exact .obj false o

theorem aIP(H:Hp)(b:Nat):sX (iS H) b=false:=by
 unfold sX iS;cases H b with
 | none=>rfl
 | some x=>cases x<;>rfl

theorem aAV(st:St F w H)(h:Ext F w (iS H) F' w' (iS H))(st':St F' w' (iS H)):Ext F w H F' w' H∧St F' w' H:=by
 have hsame:∀ b,b<w.heap.size→w'.heap[b]?=w.heap[b]?:=fun b hb=>h.same b hb (aIP H b);have hd:∀ b,(iS H b).isSome=(H b).isSome:=fun b=>by simp[iS]
 have hE:Ext F w H F' w' H:=by
  refine⟨h.sub,fun b hb=>?_,fun b hb=>.inl hb,fun b hb=>.inl hb,h.le,fun b hb _=>hsame b hb,h.cells,h.io⟩;have:=h.fnew b hb
  grind
 refine⟨hE,fun b hb=>st'.lt b hb,fun b x hb=>?_,fun b x hb=>?_⟩;·exact st'.dis b x.ro (by unfold iS;rw[hb];rfl)
 ·obtain⟨o,h1,h2⟩:=st.blk b x hb
  exact⟨o,by grind,h2.up (hE.up st)⟩

theorem aAX(re:RE F w env a){xs:Array Operand}{ys:List AO}(h:coL xs=some ys):Args F w (ys.map (aL env)) (xs.map a.eval):=aJd re h

theorem eZ{as bs:List AV}{vs us:Array Value}(h:Args F w as vs)(k:Args F w bs us):Args F w (as++bs) (vs++us):=by
 grind [Args]

theorem aIE{B:Base}{r:Option Nat}(hB:B.Up F w)(st:St F w H)(re:RE F w env a){o:Oper}{f:Operand}{args:Array Operand}{ts:Array TypeId}{f':AO}{xs:List AO}
 (ho:o.op = .call { callee:=.value f,args:=args,argTypes:=ts }) (hf:co f=some f') (hx:coL args=some xs) {Q:AV→Hp→Prop}
 (h:CallV B P (aL env f') (xs.map (aL env)) H Q) {next:Act→World→Prop} {Qc:Exit→Act→World→Prop}
 (hn:∀ v c F' w' H',Ext F w H F' w' H'→St F' w' H'→Rv F' w' v c→Q v H'→next (a.put o.dst c) w') :
 o.wpIn (FW r) 0 P a w next Qc:=by
 refine⟨mK r o,?_⟩;rw[Oper.semAt_eq _ _ _ (by grind)];have hfv:=bB re hf;obtain⟨vf,hvf⟩:∃ v,a.eval f=v:=⟨_,rfl⟩;rw[hvf]at hfv;have hargs:=aAX re hx;unfold CallV at h;split at h
 ·rename_i g first cap hev
  rw[hev]at hfv;cases hfv with
  | fn _ _ _ fv cv hl1 hl2 h1 h2 =>
    have hA:Args F w (first++xs.map (aL env)++cap) (fv++args.map a.eval++cv):=eZ (eZ ⟨hl1,h1⟩ hargs) ⟨hl2,h2⟩;have hc:=h.2 F w _ hB st hA;have hrun:(execOp a.eval o).run P w = .ok (.enter g (fv++args.map a.eval++cv)) w:=by
     simp only[execOp,ho,resolve,hvf,Deferred.ofValue,Sem.run_bind,Sem.run_pure,Result.andThen_ok,invoke];exact h.1 _ _
    rw[hrun,Oper.uponIn_enter];exact⟨fun h=>by simp[FW,Fence.wide]at h,CallsIn.mono hc (by rintro e w' ⟨r,v,F',H',rfl,h1,h2,h3,h4⟩;grind)⟩
 ·rename_i l hev
  rw[hev]at hfv;cases hfv with
  | fn _ _ _ fv cv hl1 hl2 h1 h2 =>
    have e1:fv = #[]:=by grind
    have e2:cv = #[]:=by grind
    subst e1 e2;obtain⟨fn,t,x,y,h3,h4⟩:=h F w _ hB st hargs;have hrun:(execOp a.eval o).run P w = .ok (.round l fn t x y) w:=by
     simp only[execOp,ho,resolve,hvf,Deferred.ofValue,Sem.run_bind,Sem.run_pure,Result.andThen_ok,invoke,Array.empty_append];exact h3
    rw[hrun,Oper.uponIn_round];exact⟨fun h=>by simp[FW,Fence.wide]at h,RoundIn.mono h4 (by rintro e w' ⟨r,v,F',H',rfl,h1,h2,h3,h4⟩;grind)⟩
 grind

theorem mE{o:Oper}{op:DOp}(h:bZ P o=some op)(hq:op.isQ=false)(hnc:op.isComm=false) :
 (∃ t pa xa n p x,o.op = .store t pa xa∧kX P t=some n∧co pa=some p∧co xa=some x∧op = .store n p x []) ∨
 (∃ t m k x m' k' x' kt e,(o.op = .mapUpdate t m k x∨o.op = .insert t m k x)∧P.underlying t=some (.map kt e)∧co m=some m'∧co k=some k'∧co x=some x' ∧
  ∃ q,aDq P kt=some q∧op = .mapup q m' k' x') ∨
 (∃ x x',o.op = .next x true∧co x=some x'∧op = .nxts x') ∨
 (∃ c,o.op = .call c∧qI P c=some op):=by
 unfold bZ at h;cases ho:o.op with
 | store t pa xa =>
   grind
 | mapUpdate t m k x =>
   simp only[ho]at h;split at h
   ·rename_i kt e m' k' x' h1 h2 h3 h4
    grind [Option.map_eq_some_iff]
   ·simp at h
 | insert t m k x =>
   simp only[ho]at h;split at h
   ·rename_i kt e m' k' x' h1 h2 h3 h4
    grind [Option.map_eq_some_iff]
   ·simp at h
 | next x s =>
   grind [Option.map_eq_some_iff]
 | call c=>grind
 | unOp u t x=>exfalso;cases u<;>simp[ho]at h<;>(grind [DOp.isQ])
 | slice t x lo hi mx =>
   exfalso;cases mx with
   | some m=>cases lo with
     | some lo=>simp[ho]at h
     | none=>cases hi with
       | none=>simp[ho]at h
       | some k =>
         simp only[ho]at h;split at h<;>(grind [Option.map_eq_some_iff,DOp.isQ])
   | none =>
     simp only[ho]at h;split at h<;>(grind [Option.map_eq_some_iff,DOp.isQ])<;>(grind [DOp.isQ])
 | makeMap t r =>
   exfalso;cases r with
   | some r=>grind
   | none=>simp only[ho,oSI]at h;grind [DOp.isQ]
 | binOp b t x y u =>
   exfalso;simp only[ho]at h;split at h;·split at h<;>(try simp only[A3,oSI,reduceCtorEq]at h)<;>(first|(obtain⟨z,_,rfl⟩:=h;simp[DOp.isQ]at hq;done)|(subst h;simp[DOp.isQ]at hq;done))
   ·simp at h
 | _ =>
   exfalso;simp only[ho]at h
   first
    | (simp at h;done)
    | (simp only[A3]at h;grind [DOp.isQ])
    | ((repeat' split at h)<;>(try simp only[A3,oSI,reduceCtorEq]at h)<;>(first|(obtain⟨z,_,rfl⟩:=h;simp[DOp.isQ]at hq;done)|(subst h;simp[DOp.isQ]at hq;done)))

theorem uN{c:Call}{op:DOp}(h:qI P c=some op)(hq:op.isQ=false) :
 (∃ x y t u x' y' e s,c.callee = .builtin .copy∧c.args = #[x,y]∧c.argTypes = #[t,u]∧P.underlying t=some (.slice e)∧co x=some x'∧co y=some y'∧kX P e=some s∧op = .copy s x' y') ∨
 (∃ f f' xs,c.callee = .value f∧co f=some f'∧coL c.args=some xs∧op = .callf false f' xs []) ∨
 (∃ k name xs,c.callee = .invoke (.tmp k) name∧coL c.args=some xs∧op = .callf false (.meth (aFg P name) k) xs []):=by
 have arr:∀{α:Type}{xs:Array α}{l:List α},xs.toList=l→xs=l.toArray:=fun h=>by rw[←h]
 unfold qI at h;split at h
 ·exfalso
  split at h;·split at h<;>simp only[oSI,reduceCtorEq]at h<;>subst h<;>simp[DOp.isQ]at hq
  ·simp at h
 ·exfalso
  split at h
  ·split at h
   ·split at h
    all_goals grind [DOp.isQ]
   ·simp at h
  ·simp at h
 ·grind [Option.map_eq_some_iff]
 ·exfalso
  split at h
  ·split at h<;>simp only[oSI,reduceCtorEq]at h
   grind [DOp.isQ]
  ·simp at h
 ·exfalso
  split at h
  ·split at h<;>simp only[oSI,reduceCtorEq]at h
   grind [DOp.isQ]
  ·simp at h
 all_goals grind

theorem aHU{t:TypeId}{v:AV}{g:FuncId}{first cap:List AV}:∀{tab:List (TypeId×FuncId)},uK t v tab = .fn (.func g) first cap→(t,g)∈tab∧first=[v]∧cap=[]
 | [],h=>by simp[uK]at h
 | (u,f)::r,h=>by
   simp only[uK]at h;split at h
   ·rename_i hu
    simp only[AV.fn.injEq,Fn.func.injEq]at h;obtain⟨rfl,rfl,rfl⟩:=h;exact⟨by rw[hu];exact J3 ..,rfl,rfl⟩
   ·obtain⟨h1,h2⟩:=aHU h
    exact⟨E7 _ h1,h2⟩
theorem aJe{t:TypeId}{g:FuncId}{name:String}(h:(t,g)∈aFg P name)(c:Value)(n:Nat):(method (n+1) t c name).run P w = .ok (g,c) w:=by
 unfold aFg at h;simp only[List.mem_filterMap,N7]at h;obtain⟨u,_,h⟩:=h;have key:∀ i,P.info? u=some i→((aGB name i.methods).map fun f=>(u,f))=some (t,g)→(∀ d,P.underlying u=some d→(∀ e,d ≠ .pointer e))→(∃ d,P.underlying u=some d)→(method (n+1) t c name).run P w = .ok (g,c) w:=by
  intro i hi hm hd hu;simp only[A3,A7]at hm;obtain⟨f,hf,rfl,rfl⟩:=hm;unfold aGB at hf;split at hf
  ·rename_i m hfind
   split at hf<;>simp only[oSI,reduceCtorEq]at hf
   rename_i hp hfn;subst hf;have hfind':i.methods.find? (fun m=>m.name==name)=some m:=by grind
   obtain⟨d,hd'⟩:=hu;have hti:(typeInfo u).run P w = .ok i w:=by simp[typeInfo,hi]
   simp only[method,Sem.run_bind,hti,Result.andThen_ok,hfind',hp,follow,Sem.run_pure,hfn];have hrc:∀ wr,(receiverAt u (.val c) false wr).run P w = .ok c w:=by
    intro wr;unfold receiverAt;simp only[Sem.run_bind,run_underlying hd',Result.andThen_ok];have:=hd d hd';cases d<;>first|(rename_i e;exact absurd rfl (this e))|(simp only[Place.get,Sem.run_pure])
   rw[hrc];rfl
  ·simp at hf
 split at h;all_goals simp_all
theorem aFD{B:Base}{r:Option Nat}(hB:B.Up F w)(st:St F w H)(re:RE F w env a){o:Oper}{k:Nat}{name:String}{args:Array Operand}{ts:Array TypeId}{xs:List AO}
 (ho:o.op = .call { callee:=.invoke (.tmp k) name,args:=args,argTypes:=ts }) (hx:coL args=some xs) {Q:AV→Hp→Prop}
 (h:CallV B P (aL env (.meth (aFg P name) k)) (xs.map (aL env)) H Q) {next:Act→World→Prop} {Qc:Exit→Act→World→Prop}
 (hn:∀ v c F' w' H',Ext F w H F' w' H'→St F' w' H'→Rv F' w' v c→Q v H'→next (a.put o.dst c) w') :
 o.wpIn (FW r) 0 P a w next Qc:=by
 refine⟨mK r o,?_⟩;rw[Oper.semAt_eq _ _ _ (by grind)];have hfv:=re.rv k;simp only[aL]at h;unfold aDk at h;split at h
 ·rename_i t v hk
  rw[hk]at hfv;obtain⟨vf,hvf⟩:∃ v,a.eval (.tmp k)=v:=⟨_,rfl⟩;have hvf':a.tmps.getD k undef=vf:=hvf;rw[hvf']at hfv;cases hfv with
  | ifc _ _ c hc =>
    have hargs:=aAX re hx;unfold CallV at h;split at h
    ·rename_i g first cap hev
     obtain⟨hin,rfl,rfl⟩:=aHU hev;have hA:Args F w ([v]++xs.map (aL env)++[]) (#[c]++args.map a.eval):=by
      rw[I2];exact eZ ⟨rfl,fun i a' v' h1 h2=>by
       grind⟩ hargs
     have hcl:=h.2 F w _ hB st hA;have hex:(#[Value.iface t c]++args.map a.eval).extract 1 (#[Value.iface t c]++args.map a.eval).size=args.map a.eval:=by
      simp_all
     have h0:(#[Value.iface t c]++args.map a.eval)[0]?=some (.iface t c):=by grind [Array.getElem?_append_left]
     have hrun:(execOp a.eval o).run P w = .ok (.enter g (#[c]++args.map a.eval)) w:=by
      have hp:∀ w,(program:Sem Program).run P w = .ok P w:=fun w=>rfl;simp only[execOp,ho,resolve,Sem.run_bind,Sem.run_pure,Result.andThen_ok,invoke,hvf];rw[h0];simp only[callMethod,hex,Sem.run_bind,hp,Result.andThen_ok];rw[show P.types.size+Made.depth=(P.types.size+99)+1 from rfl,aJe hin];exact h.1 _ _
     rw[hrun,Oper.uponIn_enter];exact⟨fun h=>by simp[FW,Fence.wide]at h,CallsIn.mono hcl (by rintro e w' ⟨r,v,F',H',rfl,h1,h2,h3,h4⟩;grind)⟩
    ·rename_i l hev
     exfalso;have:∀ tab,uK t v tab ≠ .fn (.yield l) [] []:=by
      intro tab;induction tab with
      | nil=>simp[uK]
      | cons p r ih=>obtain⟨u,f⟩:=p;simp only[uK];grind
     grind
    grind
 ·unfold CallV at h
  grind

theorem aFo{ops:Array Oper}{d:DOper}{o:Oper}(re:RE F w env a) (hguard:match o.guard with
 | none=>d.guard=none
 | some (j,w)=>∃ g,(ops[j]?).bind (·.dst)=some g∧d.guard=some (g,w)):∀ b,gd d env=some b→Region.wanted o (yielded ops a.tmps)=b:=by
 intro b hb;unfold gd at hb;unfold Region.wanted;split at hguard;·grind
 ·rename_i j want hg
  rw[hg];obtain⟨g,h1,h2⟩:=hguard;rw[h2]at hb;simp only at hb;split at hb
  ·rename_i t ht
   have hrt:=re.rv g;rw[ht]at hrt;have hy:yielded ops a.tmps j=some t:=by
    unfold yielded;rw[h1];simp only[E5];cases hx:a.tmps[g]? with
    | none =>
      rw[E8,hx]at hrt;cases hrt
    | some x =>
      rw[E8,hx]at hrt;simp only[G7]at hrt;cases hrt;rfl
   simp_all
  ·rename_i vs ht
   have hrt:=re.rv g;rw[ht]at hrt;have hy:yielded ops a.tmps j=none:=by
    unfold yielded;rw[h1];simp only[E5];cases hx:a.tmps[g]? with
    | none=>rfl
    | some x =>
      rw[E8,hx]at hrt;simp only[G7]at hrt;cases hrt;rfl
   grind
  ·simp at hb

theorem aVo{r:Option Nat}{ops:Array Oper}{i N:Nat}{d:DOper}(hr:Reads P ops i d)(hN:∀ k,d.dst=some k→k<N)(hsz:a.tmps.size=N)
 (st:St F w H) (re:RE F w env a) {K:aH→Hp→Prop} (hg:gd d env=some true) {s bts:Nat} {x y:AO} {e1 e2:Eff} (hop:d.op = .app s bts x y) (ha:aED s bts H (aL env x) (aL env y)=some (e1,e2))
 (h1:fJ d.dst e1 K env H) (h2:fJ d.dst e2 K env H) {Kc:Act→World→Prop} {Qc:Exit→Act→World→Prop}
 (hK:∀ a' F' w' env' H',a'.tmps.size=N→a'.defers=a.defers→Ext F w H F' w' H'→St F' w' H'→RE F' w' env' a'→K env' H'→Kc a' w') :
 wpOpIn (FW r) 0 P ops Qc i Kc a w:=by
 obtain⟨o,ho,hdst,hguard,hcp,hdef⟩:=hr.get;unfold wpOpIn;simp only[ho];rw[if_pos (aFo re hguard true hg)];have hc:bZ P o=some d.op:=by
  rcases hcp with h1|⟨n,p,x,l,_,h2⟩|⟨q,f,xs,l,_,h2⟩
  ·unfold xZ at h1
   cases hx:bZ P o with
   | none=>rw[hx]at h1;simp at h1;rw[←h1]at hop;cases hop
   | some y=>grind
  ·rw[h2]at hop;cases hop
  ·rw[h2]at hop;cases hop
 rw[hop]at hc;obtain⟨own,b,f,own',b',f',rfl,rfl,hs⟩:=aRE (P:=P) st re hc ha;rcases hs with ⟨j,c,w',k1,k2,k3,k4,k5⟩|⟨j,c,w',k1,k2,k3,k4,k5⟩
 ·refine⟨mK r o,?_⟩
  rw[Oper.semAt_eq _ _ _ hdef,k2,Oper.uponIn_value];exact hK _ _ w' _ _ (by simp[hsz]) (by simp) k3 k4 (by rw[←hdst];exact(re.up (k3.up st)).put k5 (fun k hk=>by grind)) (h1 j k1)
 ·refine⟨mK r o,?_⟩
  rw[Oper.semAt_eq _ _ _ hdef,k2,Oper.uponIn_value];exact hK _ _ w' _ _ (by simp[hsz]) (by simp) k3 k4 (by rw[←hdst];exact(re.up (k3.up st)).put k5 (fun k hk=>by grind)) (h2 j k1)
theorem aCk{B:Base}{r:Option Nat}{ops:Array Oper}{i N:Nat}{d:DOper}(hr:Reads P ops i d)(hnc:d.op.isComm=false)(hN:∀ k,d.dst=some k→k<N)(hsz:a.tmps.size=N)
 (hB:B.Up F w) (st:St F w H) (re:RE F w env a) {K:aH→Hp→Prop} (h:opW B P d K env H) {Kc:Act→World→Prop} {Qc:Exit→Act→World→Prop}
 (hK:∀ a' F' w' env' H',a'.tmps.size=N→a'.defers=a.defers→Ext F w H F' w' H'→St F' w' H'→RE F' w' env' a'→K env' H'→Kc a' w') :
 wpOpIn (FW r) 0 P ops Qc i Kc a w:=by
 obtain⟨o,ho,hdst,hguard,hop,hdef⟩:=hr.get;unfold wpOpIn;simp only[ho];have hput:∀{F':Nat→Prop}{w':World}{v:AV}{c:Value},RE F' w' env a→Rv F' w' v c→RE F' w' (aX env d.dst v) (a.put o.dst c):=fun h1 h2=>by
  rw[←hdst];exact h1.put h2 (fun k hk=>by grind)
 have hgd:=aFo (ops:=ops) re hguard;unfold opW at h;split at h
 ·rename_i hg
  rw[if_pos (hgd true hg)]
  have val:∀{c:Value}{w':World}{F':Nat→Prop}{H':Hp}{v:AV},(execOp a.eval o).run P w = .ok (.value c) w'→Ext F w H F' w' H'→St F' w' H'→Rv F' w' v c→K (aX env d.dst v) H' →
   o.wpIn (FW r) 0 P a w Kc Qc:=by
   intro c w' F' H' v h1 h2 h3 h4 h5;refine⟨mK r o,?_⟩;rw[Oper.semAt_eq _ _ _ hdef,h1,Oper.uponIn_value];exact hK _ F' w' _ H' (by simp[hsz]) (by simp) h2 h3 (hput (re.up (h2.up st)) h4) h5
  have skip:∀{w':World}{H':Hp},(execOp a.eval o).run P w = .ok .skip w'→Ext F w H F w' H'→St F w' H'→K (aX env d.dst .any) H'→o.wpIn (FW r) 0 P a w Kc Qc:=by
   intro w' H' h1 h2 h3 h5;refine⟨mK r o,?_⟩;rw[Oper.semAt_eq _ _ _ hdef,h1,Oper.uponIn_skip];exact hK _ F w' _ H' (by simp[hsz]) (by simp) h2 h3 (hput (re.up (h2.up st)) (.any _)) h5
  by_cases hq:d.op.isQ=true
  ·rw[rK hq,cZ]at h
   obtain⟨e,he,h⟩:=h;have hc:bZ P o=some d.op:=by
    rcases hop with h1|⟨n,p,x,l,_,h2⟩|⟨q,f,xs,l,_,h2⟩
    ·unfold xZ at h1
     cases hx:bZ P o with
     | none=>rw[hx]at h1;simp at h1;rw[←h1]at he;simp[aD]at he
     | some y=>grind
    ·rw[h2]at hq;simp[DOp.isQ]at hq
    ·rw[h2]at hq;simp[DOp.isQ]at hq
   have hs:=bEH (P:=P) st re hc he;cases e with
   | val v =>
     obtain⟨c,h1,h2⟩:=hs;exact val h1 (Ext.refl _ _ _) st h2 h
   | new own x f =>
     obtain⟨j,c,w',h1,h2,h3,h4,h5⟩:=hs;exact val h2 h3 h4 h5 (h j h1)
  ·have hq':d.op.isQ=false:=by grind
   obtain⟨op0,hc0,hq0,hnc0,hrel⟩:∃ op0,bZ P o=some op0∧op0.isQ=false∧op0.isComm=false∧(op0=d.op∨(∃ n p x l,op0 = .store n p x []∧d.op = .store n p x l)∨(∃ q f xs l,op0 = .callf false f xs []∧d.op = .callf q f xs l)):=by
    unfold xZ at hop;cases hx:bZ P o with
    | none =>
      rw[hx]at hop;simp only[Option.getD_none,reduceCtorEq,false_and,exists_false,AAg]at hop;rw[←hop]at hq';simp[DOp.isQ]at hq'
    | some y =>
      rw[hx]at hop;simp only[G7]at hop;refine⟨y,rfl,?_,?_,hop⟩
      ·rcases hop with h1|⟨n,p,x,l,h1,_⟩|⟨q,f,xs,l,h1,_⟩
       ·grind
       ·rw[h1];rfl
       ·rw[h1];rfl
      rfl
   obtain⟨dst,oo,ty,pos,after,guard⟩:=o;rcases mE hc0 hq0 hnc0 with ⟨t,pa,xa,n,p,x,hoo,g1,g2,g3,rfl⟩|⟨t,m,k,x,m',k',x',kt,e,hoo,g1,g2,g3,g4,g5⟩|⟨x,x',hoo,g2,rfl⟩|⟨c,hoo,hcc⟩
   ·simp only at hoo
    subst hoo;obtain⟨l,hd⟩:∃ l,d.op = .store n p x l:=by
     grind
    rw[hd]at h;simp only[iI,cZ]at h;obtain⟨H',h1,h2⟩:=h;obtain⟨w',k1,k2,k3⟩:=aLO (P:=P) st g1 (bB re g2) (bB re g3) h1;exact skip (by simp only[execOp,Sem.run_bind,k1,Result.andThen_ok,Sem.run_pure]) k2 k3 h2
   ·simp only at hoo
    rcases hoo with hoo|hoo<;>subst hoo
    all_goals
     have key:∀ q,aDq P kt=some q→op0 = .mapup q m' k' x'→Oper.wpIn (FW r) 0 P ⟨dst,_,ty,pos,after,guard⟩ a w Kc Qc:=fun q hk he=>by
      subst he;have hd:d.op = .mapup q m' k' x':=by
       grind
      rw[hd]at h;simp only[iI,cZ]at h;obtain⟨H',h1,h2⟩:=h;obtain⟨w',k1,k2,k3⟩:=aLP (P:=P) st g1 hk (bB re g2) (bB re g3) (bB re g4) h1;exact skip (by simp only[execOp,Sem.run_bind,k1,Result.andThen_ok,Sem.run_pure]) k2 k3 h2
     grind
   ·simp only at hoo
    subst hoo;have hd:d.op = .nxts x':=by
     grind
    rw[hd]at h;simp only[iI,cZ]at h;obtain⟨⟨v,H'⟩,h1,h2⟩:=h;obtain⟨c,w',k1,k2,k3,k4⟩:=aRB (P:=P) (ty:=ty) st (bB re g2) h1;exact val (by simp only[execOp,Sem.run_bind,k1,Result.andThen_ok,Sem.run_pure]) k2 k3 k4 h2
   ·simp only at hoo
    subst hoo;rcases uN hcc hq0 with ⟨x,y,t,u,x',y',e,s,e1,e2,e3,g1,g2,g3,g4,rfl⟩|⟨f,f',xs,e1,g1,g2,rfl⟩|⟨k,name,xs,e1,g2,rfl⟩
    ·obtain⟨callee,args,argTypes⟩:=c
     simp only at e1 e2 e3;subst e1 e2 e3;have hd:d.op = .copy s x' y':=by
      grind
     rw[hd]at h;simp only[iI,cZ]at h;obtain⟨⟨n,H'⟩,h1,h2⟩:=h;obtain⟨w',k1,k2,k3⟩:=aNW (P:=P) (u:=u) (ty:=ty) st g1 g4 (bB re g2) (bB re g3) h1;refine val (c:=.int .i64 (n:Int)) ?_ k2 k3 (.int _ _) h2;simp only[execOp,resolve,Sem.run_bind,Sem.run_pure,Result.andThen_ok,invoke,builtin,List.map_toArray,F8,aG7,k1]
    ·obtain⟨callee,args,argTypes⟩:=c
     simp only at e1;subst e1;obtain⟨q,l,hd⟩:∃ q l,d.op = .callf q f' xs l:=by
      grind
     rw[hd]at h;cases q with
     | false =>
       refine aIE hB st re rfl g1 g2 h ?_;intro v c F' w' H' k1 k2 k3 k4;exact hK _ F' w' _ H' (by simp[hsz]) (by simp) k1 k2 (hput (re.up (k1.up st)) k3) k4
     | true =>
       obtain⟨v,h1,h2⟩:=h;refine aIE hB (aJg st) re rfl g1 g2 h1 ?_;rintro v' c F' w' H' k1 k2 k3 ⟨rfl,rfl⟩;obtain⟨k4,k5⟩:=aAV st k1 k2;exact hK _ F' w' _ H (by simp[hsz]) (by simp) k4 k5 (hput (re.up (k4.up st)) k3) h2
    ·obtain⟨callee,args,argTypes⟩:=c
     simp only at e1;subst e1;obtain⟨q,l,hd⟩:∃ q l,d.op = .callf q (.meth (aFg P name) k) xs l:=by
      grind
     rw[hd]at h;cases q with
     | false =>
       refine aFD hB st re rfl g2 h ?_;intro v c F' w' H' k1 k2 k3 k4;exact hK _ F' w' _ H' (by simp[hsz]) (by simp) k1 k2 (hput (re.up (k1.up st)) k3) k4
     | true =>
       obtain⟨v,h1,h2⟩:=h;refine aFD hB (aJg st) re rfl g2 h1 ?_;rintro v' c F' w' H' k1 k2 k3 ⟨rfl,rfl⟩;obtain⟨k4,k5⟩:=aAV st k1 k2;exact hK _ F' w' _ H (by simp[hsz]) (by simp) k4 k5 (hput (re.up (k4.up st)) k3) h2
 ·rename_i hg
  rw[if_neg (by grind)];exact⟨mK r o,hK _ F w _ H (by simp[hsz]) (by simp) (Ext.refl _ _ _) st (hput re (.tup [] #[] rfl (by simp))) h⟩
 grind

variable{P:Program}{B:Base}

abbrev yP:=Nat→Option Nat
abbrev KL:=aH→Hp→yP→Prop
def noL:yP:=fun _=>none

def eL(ix:Nat)(op:DOp)(env:aH)(L:yP):yP:=match op with
 | .load _ _ x=>fun j=>if j=ix then eH (aL env x) else L j
 | _=>L

def bD(B:Base)(P:Program)(ix:Nat)(d:Option Nat)(op:DOp)(K:KL)(env:aH)(H:Hp)(L:yP):Prop :=
 match op with
 | .store n p x l=>(∀ j∈l,∀ c,L j=some c→eH (aL env p)≠some c)∧mO (oX n H (aL env p) (aL env x)) fun H'=>K (aX env d .any) H' L
 | .callf false f xs l=>CallV B P (aL env f) (xs.map (aL env)) H (fun v H'=>(∀ j∈l,∀ c,L j=some c→H' c=H c)∧K (aX env d v) H' L)
 | op=>iI B P d op (fun e h=>K e h (eL ix op env L)) env H

def aDL(g:Bool)(op:DOp):DOp:=if g then op else .mv (.c (.tup []))
def opD(B:Base)(P:Program)(o:DOper)(K:KL)(env:aH)(H:Hp)(L:yP):Prop :=
 mO (gd o env) fun g=>bD B P o.ix o.dst (aDL g o.op) K env H L

def RD(B:Base)(P:Program):List DOper→(aH→Hp→Prop)→KL
 | [],K=>fun env H _=>K env H
 | o::rest,K=>opD B P o (RD B P rest K)


theorem cE{env:aH}{k:Nat}{v:AV}{x:AO}(h:k∉x.sees):aL (upd env k v) x=aL env x:=by
 cases x with
 | t j=>simp only[AO.sees,C6]at h;exact pK _ _ (fun e=>h e.symm)
 | c v=>rfl
 | meth tab j=>simp only[AO.sees,C6]at h;simp only[aL];grind [pK]

theorem nY{env:aH}{k:Nat}{v:AV}{x:Option AO}{c d:Nat}(h:k∉aHq x):aS c d (upd env k v) x=aS c d env x:=by
 cases x with
 | none=>rfl
 | some x=>simp only[aS,cE (show k∉x.sees from h)]

theorem aAd{env:aH}{k:Nat}{v:AV}{xs:List AO}(h:k∉aHr xs):xs.map (aL (upd env k v))=xs.map (aL env):=by
 refine O5 fun x hx=>cE fun hk=>h ?_
 simp_all [aHr]

theorem aCW{env:aH}{k:Nat}{v:AV}{ps:List (Nat×Nat×AO)}(h:k∉ps.flatMap fun p=>p.2.2.sees) :
 (ps.map fun p=>(p.1,p.2.1,aL (upd env k v) p.2.2))=ps.map fun p=>(p.1,p.2.1,aL env p.2.2):=by
 grind [List.map_congr_left,cE]

theorem aLM{env:aH}{k:Nat}{v:AV}{s:Nat}{lo hi:Option AO}{x:AV}(h1:k∉aHq lo)(h2:k∉aHq hi):lX s (upd env k v) lo hi x=lX s env lo hi x:=by
 unfold lX
 grind [nY]

theorem aFu{env:aH}{k:Nat}{v:AV}{op:DOp}{H:Hp}(h:k∉op.sees):aD op (upd env k v) H=aD op env H:=by
 cases op<;>simp only[DOp.sees,B7,not_or]at h
 case mkf f a c=>simp only[aD,aAd h.1,aAd h.2]
 case build z ps=>simp only[aD,aCW h]
 case bslice s l z ps=>simp only[aD,aCW h]
 case pick c a b=>simp only[aD,cE h.1.1,cE h.1.2,cE h.2]
 case slarr l s x lo hi=>simp only[aD,cE h.1.1,nY h.1.2,nY h.2]
 case slsl s x lo hi=>simp only[aD,cE h.1.1,aLM h.1.2 h.2]
 case clip s x h' m=>simp only[aD,cE h.1,cE h.2.1,cE h.2.2]
 case slstr x lo hi=>simp only[aD,cE h.1.1,nY h.1.2,nY h.2]
 case store n p x l=>rfl
 case copy s x y=>rfl
 case mapup q m k x=>rfl
 case nxts x=>rfl
 case callf q f xs l=>rfl
 case alloc=>rfl
 case mkmap=>rfl
 case allocb=>rfl
 case stuck=>rfl
 all_goals first
  | (simp only[aD,cE h];done)
  | (simp only[aD,cE h.1,cE h.2];done)

theorem aWD{env:aH}{k:Nat}{v:AV}{o:DOper}(h:k∉o.sees):gd o (upd env k v)=gd o env:=by
 unfold gd;unfold DOper.sees at h;split;·rfl
 ·rename_i g want hg
  rw[hg]at h;simp only[B7,C6,not_or]at h
  grind [pK]

theorem aNB{env:aH}{j k:Nat}{u v:AV}(h:j≠k):upd (upd env j u) k v=upd (upd env k v) j u:=by
 funext i;unfold upd
 grind

theorem lG{env:aH}{d:Option Nat}{k:Nat}{u v:AV}(h:d≠some k):aX (upd env k v) d u=upd (aX env d u) k v:=by
 cases d with
 | none=>rfl
 | some d=>exact(aNB (fun e=>h (by rw[e]))).symm

theorem aMj{H:Hp}{b c:Nat}{x y:ABlk}(h:b≠c):hset (hset H b x) c y=hset (hset H c y) b x:=by
 funext i;unfold hset
 grind

theorem aFi{ix:Nat}{op:DOp}{env:aH}{k:Nat}{v:AV}{L:yP}(h:k∉op.sees):eL ix op (upd env k v) L=eL ix op env L:=by
 cases op<;>first|rfl|skip
 case load g n x=>simp only[eL,cE (show k∉x.sees from h)]

theorem cG{ix:Nat}{d:Option Nat}{op:DOp}{K:KL}{env:aH}{H:Hp}{L:yP}(h:op.isQ=true) :
 bD B P ix d op K env H L=mO (aD op env H) fun e=>fJ d e (fun e h=>K e h (eL ix op env L)) env H:=by
 cases op<;>first|rfl|(simp[DOp.isQ]at h)

theorem aQe{d:Option Nat}{e:Eff}{K:aH→Hp→Prop}{env:aH}{H:Hp}{k:Nat}{v:AV}(h:d≠some k) :
 fJ d e K (upd env k v) H=fJ d e (fun e h=>K (upd e k v) h) env H:=by
 cases e<;>simp only[fJ,lG h]

theorem aMC{ix:Nat}{d:Option Nat}{op:DOp}{K:KL}{env:aH}{H:Hp}{L:yP}{k:Nat}{v:AV}(h:k∉op.sees)(hd:d≠some k) :
 bD B P ix d op K (upd env k v) H L=bD B P ix d op (fun e h l=>K (upd e k v) h l) env H L:=by
 cases op
 case store n p x l =>
  simp only[DOp.sees,B7,not_or]at h;simp only[bD,cE h.1,cE h.2,lG hd]
 case copy s x y =>
  simp only[DOp.sees,B7,not_or]at h;simp only[bD,iI,eL,cE h.1,cE h.2,lG hd]
 case mapup q m k x =>
  simp only[DOp.sees,B7,not_or]at h;simp only[bD,iI,eL,cE h.1.1,cE h.1.2,cE h.2,lG hd]
 case nxts c =>
  simp only[DOp.sees]at h;simp only[bD,iI,eL,cE h,lG hd]
 case callf q f xs l =>
  simp only[DOp.sees,B7,not_or]at h;cases q<;>simp only[bD,iI,eL,cE h.1,aAd h.2,lG hd]
 all_goals
  rw[cG rfl,cG rfl,aFu h,aFi h];simp only[aQe hd]

theorem rL{ix:Nat}{d e:Option Nat}{op:DOp}{K:KL}{env:aH}{H:Hp}{L:yP}{v:AV}(h:∀ k,e=some k→k∉op.sees)(hd:∀ k,e=some k→d≠some k) :
 bD B P ix d op K (aX env e v) H L=bD B P ix d op (fun e' h l=>K (aX e' e v) h l) env H L:=by
 cases e with
 | none=>rfl
 | some k=>exact aMC (h k rfl) (hd k rfl)
theorem dF{e:Option Nat}{op:DOp}{env:aH}{H:Hp}{v:AV}(h:∀ k,e=some k→k∉op.sees):aD op (aX env e v) H=aD op env H:=by
 cases e with
 | none=>rfl
 | some k=>exact aFu (h k rfl)
theorem fD{ix:Nat}{e:Option Nat}{op:DOp}{env:aH}{L:yP}{v:AV}(h:∀ k,e=some k→k∉op.sees):eL ix op (aX env e v) L=eL ix op env L:=by
 cases e with
 | none=>rfl
 | some k=>exact aFi (h k rfl)
theorem aKZ{e:Option Nat}{o:DOper}{env:aH}{v:AV}(h:∀ k,e=some k→k∉o.sees):gd o (aX env e v)=gd o env:=by
 cases e with
 | none=>rfl
 | some k=>exact aWD (h k rfl)
theorem fV{env:aH}{d e:Option Nat}{u v:AV}(h:∀ k,e=some k→d≠some k):aX (aX env e v) d u=aX (aX env d u) e v:=by
 cases e with
 | none=>rfl
 | some k=>exact lG (h k rfl)
theorem qZ{i j:Nat}{x y:DOp}{env:aH}{L:yP}(h:i≠j):eL i x env (eL j y env L)=eL j y env (eL i x env L):=by
 cases x<;>cases y<;>first|rfl|skip
 funext k;simp only[eL]
 grind


def rdB(op:DOp)(env:aH):List Nat:=match op with
 | .load _ _ x=>(eH (aL env x)).toList
 | .slarr _ _ x _ _=>(eH (aL env x)).toList
 | .lookup _ _ _ m _ | .lenm m=>(eH (aL env m)).toList
 | .app _ _ x y=>(eH (aL env x)).toList++(eH (aL env y)).toList
 | .strof x=>(eH (aL env x)).toList
 | _=>[]

theorem aHZ{g:Bool}{n:Nat}{H H':Hp}{v:AV}(h:∀ b,eH v=some b→H b=H' b):fG g n H v=fG g n H' v:=by
 cases v<;>first|rfl|skip
 simp_all [fG,eH]

theorem aHX{q:Nat}{H H':Hp}{k v:AV}(h:∀ b,eH v=some b→H b=H' b):mC q H k v=mC q H' k v:=by
 cases v<;>first|rfl|skip
 simp_all [mC,eH]

theorem aCg{s:Nat}{H H':Hp}{v:AV}(h:∀ b,eH v=some b→H b=H' b):eT s H v=eT s H' v:=by
 cases v<;>first|rfl|skip
 simp_all [eT,eH]

theorem aFP{H H':Hp}{v:AV}(h:∀ b,eH v=some b→H b=H' b):jE H v=jE H' v:=by
 unfold jE
 grind [aCg]
theorem aKc{s n:Nat}{H H':Hp}{x y:AV}(h:∀ b,eH x=some b→H b=H' b)(h':∀ b,eH y=some b→H b=H' b):pC s n H x y=pC s n H' x y:=by
 unfold pC;rw[aCg h'];cases x<;>first|rfl|skip
 case sl b o s' l=>cases o<;>simp only[h b rfl]
 case sb b l=>simp only[h b rfl]

theorem mF{op:DOp}{env:aH}{H H':Hp}(h:∀ b∈rdB op env,H b=H' b):aD op env H=aD op env H':=by
 cases op<;>first|rfl|skip
 case load g n x=>simp only[aD,aHZ (v:=aL env x) fun b hb=>h b (by simp[rdB,hb])]
 case slarr l s x lo hi =>
  simp only[aD];cases hx:aL env x<;>first|rfl|skip
  rename_i b o;simp only[h b (by simp[rdB,hx,eH])]
 case lookup q ok z m k=>simp only[aD,aHX (v:=aL env m) fun b hb=>h b (by simp[rdB,hb])]
 case lenm x =>
  simp only[aD];cases hx:aL env x<;>first|rfl|skip
  rename_i b;simp only[aAg,h b (by simp[rdB,hx,eH])]
 case strof x=>simp only[aD,aFP (v:=aL env x) fun b hb=>h b (by simp[rdB,hb])]
 case app s n x y=>simp only[aD,aKc (x:=aL env x) (y:=aL env y) (fun b hb=>h b (by simp[rdB,hb])) (fun b hb=>h b (by simp[rdB,hb]))]

theorem aQd{op:DOp}{env:aH}{H:Hp}{e:Eff}{b:Nat}(h:aD op env H=some e)(hb:b∈rdB op env):H b≠none:=by
 intro hn;cases op<;>simp only[rdB,F9,B7,aC2]at hb
 case load g n x =>
  simp only[aD]at h;cases hx:aL env x<;>rw[hx]at hb h<;>simp only[eH,oSI,reduceCtorEq]at hb<;>subst hb<;>simp[fG,hn]at h
 case slarr l s x lo hi =>
  simp only[aD]at h;cases hx:aL env x<;>rw[hx]at hb h<;>simp only[eH,oSI,reduceCtorEq]at hb<;>subst hb<;>simp[hn]at h
 case lookup q ok z m k =>
  simp only[aD]at h;cases hx:aL env m<;>rw[hx]at hb h<;>simp only[eH,oSI,reduceCtorEq]at hb<;>subst hb<;>simp[mC,hn]at h
 case lenm x =>
  simp only[aD]at h;cases hx:aL env x<;>rw[hx]at hb h<;>simp only[eH,oSI,reduceCtorEq]at hb<;>subst hb<;>simp[aAg,hn]at h
 case strof x =>
  simp only[aD]at h;cases hx:aL env x<;>rw[hx]at hb h<;>simp only[eH,oSI,reduceCtorEq]at hb<;>subst hb<;>simp[jE,nJ,eT,hn]at h
 case app s n x y =>
  simp only[aD,pC]at h;split at h;·simp at h
  ·rename_i k new hs
   rcases hb with hb|hb
   ·cases hx:aL env x<;>rw[hx]at hb h<;>simp only[eH,oSI,reduceCtorEq]at hb<;>subst hb<;>try grind
    all_goals grind
   ·cases hx:aL env y<;>rw[hx]at hb hs<;>simp only[eH,oSI,reduceCtorEq]at hb<;>subst hb<;>simp[eT,hn]at hs

theorem aIv{op:DOp}{env:aH}{H:Hp}{e:Eff}{b:Nat}{x:ABlk}(hb:H b=none)(h:aD op env H=some e):aD op env (hset H b x)=some e:=by
 grind [mF,aO,aQd]

theorem aJt{l:List Nat}{b:Nat}(h:b∈l):b≤l.sum:=by
 induction l with
 | nil=>simp at h
 | cons x r ih =>
   grind

theorem aMx{op:DOp}{env:aH}{H:Hp}{b:Nat}{x:ABlk}(hb:(rdB op env).sum<b):aD op env (hset H b x)=aD op env H :=
 mF fun c hc=>aO _ _ (by have:=aJt hc;omega)

theorem aJl{g:Bool}{n o:Nat}{cs new:List AV}{v:AV}(h:iT g n cs o=some v):iT g n (cs++new) o=some v:=by
 grind [iT]

theorem aJJ{op:DOp}{env:aH}{H:Hp}{e:Eff}{b:Nat}{cs new:List AV}(hb:H b=some (.cells true cs))(hk:op.kind≠3)(h:aD op env H=some e) :
 aD op env (hset H b (.cells true (cs++new)))=some e:=by
 by_cases hm:b∈rdB op env
 ·cases op<;>simp only[rdB,F9,B7,aC2]at hm
  case load g n x =>
   simp only[aD]at h ⊢;cases hx:aL env x<;>rw[hx]at hm h<;>simp only[eH,oSI,reduceCtorEq]at hm<;>subst hm<;>try (simp[fG]at h;done)
   rename_i o;simp only[fG,hb,hset_same]at h ⊢
   grind [aJl]
  case strof x =>
   simp only[aD]at h ⊢;cases hx:aL env x<;>rw[hx]at hm h<;>simp only[eH,oSI,reduceCtorEq]at hm<;>subst hm<;>try (simp[jE,nJ,eT]at h;done)
   rename_i o s' len;simp only[jE,eT,hb,hset_same]at h ⊢;by_cases hc:s'=1∧o+len*1≤cs.length;·grind
   ·rw[if_neg hc]at h;simp[nJ]at h
  case slarr l s x lo hi =>
   simp only[aD]at h ⊢;cases hx:aL env x<;>rw[hx]at hm h<;>simp only[eH,oSI,reduceCtorEq]at hm<;>subst hm<;>try (simp at h;done)
   rename_i o;simp only[hb,hset_same]at h ⊢
   grind
  case lookup q ok z m k =>
   simp only[aD]at h ⊢;cases hx:aL env m<;>rw[hx]at hm h<;>simp only[eH,oSI,reduceCtorEq]at hm<;>subst hm<;>simp[mC,hb]at h
  case lenm x =>
   simp only[aD]at h ⊢;cases hx:aL env x<;>rw[hx]at hm h<;>simp only[eH,oSI,reduceCtorEq]at hm<;>subst hm<;>simp[aAg,hb]at h
  case app=>simp[DOp.kind]at hk
 grind [mF,aO]

theorem qG{op:DOp}{env:aH}{H:Hp}{b:Nat}{x:ABlk}{f:Nat→AV}(h:aD op env H=some (.new (some b) x f)) :
 op.kind=3∧∃ cs new,H b=some (.cells true cs)∧x = .cells true (cs++new):=by
 cases op
 case app s n y z =>
  refine⟨rfl,?_⟩;simp only[aD,pC]at h
  grind
 all_goals
  exfalso;simp only[aD]at h
  first
   | (simp at h;done)
   | (repeat' split at h)<;>simp at h

theorem qF{op:DOp}{env:aH}{H:Hp}{e:Eff}(hk:op.kind≤1)(h:aD op env H=some e):∃ v,e = .val v:=by
 cases op<;>simp only[DOp.kind]at hk<;>try (omega)
 all_goals
  simp only[aD]at h
  first
   | (simp at h;done)
   | (simp only[oSI]at h;grind)
   | (simp only[A3]at h;grind)
   | ((repeat' split at h)<;>first|(simp at h;done)|(simp only[oSI]at h;exact⟨_,h.symm⟩))
   | (rename_i q _ _ _;cases q<;>simp[DOp.kind]at hk;done)

end Go.DL
