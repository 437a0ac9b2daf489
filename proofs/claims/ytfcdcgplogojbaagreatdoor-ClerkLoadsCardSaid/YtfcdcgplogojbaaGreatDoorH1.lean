/- Parts of a proof, joined. No statement of the seed is proved here. -/
import Derived.RangeFuncMany
import Derived.OrdersIn
import Derived.WalkKit
import Derived.Conc.SmallLaws
set_option linter.unusedSimpArgs false
set_option linter.unusedVariables false
set_option linter.unusedSectionVars false
set_option linter.defProp false
def B2:=@Option.map_eq_some_iff
def B3:=@List.mem_of_getElem?
def B4:=@Bool.and_eq_true
def B5:=@Nat.le_refl
def B6:=@List.getElem?_eq_some_iff
def B7:=@List.getElem?_eq_getElem
def B8:=@List.length_map
def B9:=@Prod.mk.injEq
def C3:=@List.getElem?_map
def C4:=@List.mem_cons
def C5:=@Option.isSome_iff_exists
def C6:=@Bool.false_eq_true
def C7:=@List.getD_eq_getElem?_getD
def C8:=@List.mem_append
def C9:=@List.take_of_length_le
def D0:=@List.eq_nil_of_length_eq_zero
def D1:=@Option.map_some
def D2:=@List.mem_singleton
def D4:=@List.nil_append
def D5:=@List.all_eq_true
def D6:=@List.take_add_one
def D7:=@List.length_cons
def D8:=@List.mem_cons_of_mem
def D9:=@Option.bind_some
def E5:=@Nat.lt_of_lt_of_le
def E6:=@List.length_append
def E7:=@List.map_cons
def E8:=@Array.getElem?_eq_getElem
def E9:=@Option.bind_eq_some_iff
def F6:=@List.getElem?_cons_zero
def F7:=@Array.getD_eq_getD_getElem?
def F8:=@List.mem_map
def F9:=@Array.getElem?_eq_some_iff
def G3:=@Nat.mul_le_mul_right
def G4:=@Nat.pow_le_pow_right
def G5:=@Option.getD_some
def G6:=@List.length_set
def G7:=@Array.length_toList
def G8:=@List.getElem?_append
def G9:=@List.getElem?_of_mem
def H6:=@List.not_mem_nil
def H7:=@Int.toNat_natCast
def H8:=@Array.getElem?_setIfInBounds
def H9:=@Nat.le_trans
def I0:=@Array.getElem?_toList
def I1:=@List.getElem?_cons_succ
def I2:=@List.mem_range
def I3:=@List.mem_append_left
def I4:=@List.map_congr_left
def I5:=@List.mem_iff_getElem?
def I6:=@Nat.add_zero
def I7:=@List.ext_getElem?
def I8:=@List.getElem?_append_right
def I9:=@Bool.false_ne_true
def J0:=@ByteArray.size_append
def J1:=@Bool.not_false
def J2:=@Bool.true_and
def J3:=@List.append_nil
def J4:=@List.range_succ
def J5:=@List.set_eq_take_append_cons_drop
def J6:=@Nat.zero_add
def J7:=@Bool.not_eq_true'
def J8:=@List.drop_eq_nil_of_le
def J9:=@List.nodup_cons
def M3:=@List.map_append
def M4:=@Nat.mod_eq_of_lt
def M5:=@List.cons_append
def M6:=@List.flatten_cons
def M7:=@Int.eq_ofNat_of_zero_le
def M8:=@Array.getElem?_map
def M9:=@Option.ne_none_iff_exists'
def N4:=@Bool.false_and
def N5:=@List.mem_append_right
def N6:=@List.drop_eq_getElem_cons
def N7:=@List.getElem?_eq_none_iff
def N8:=@Nat.sub_self
def N9:=@Classical.not_not
def O0:=@Nat.pow_lt_pow_right
def O2:=@List.Sublist.append_left
def O3:=@List.all_cons
def O4:=@List.replicate_succ
def O5:=@List.mem_flatMap
def O6:=@Nat.mul_le_mul
def O7:=@List.sublist_cons_self
def O8:=@Option.map_eq_none_iff
def O9:=@Array.getElem?_append
def aA0:=@List.getElem?_toArray
def aA1:=@List.length_singleton
def aA2:=@List.mapM_cons
def aA3:=@List.range_eq_range'
def aA4:=@Nat.mod_lt
def aA5:=@List.mem_of_mem_take
def aA6:=@List.nodup_nil
def aA7:=@List.flatten_nil
def aA8:=@List.map_nil
def aA9:=@List.range'_succ
def aB0:=@List.map_map
def aB1:=@List.foldl_cons
def aB2:=@List.flatMap_cons
def aB3:=@Option.mem_toList
def aB4:=@List.drop_drop
def aB5:=@List.getElem?_set_self
def aB6:=@Nat.le_of_ble_eq_true
def aB7:=@ByteArray.data_append
def aB8:=@List.sum_cons
def aB9:=@Bool.not_true
def aC0:=@List.pairwise_append
def aC1:=@List.replicate_succ'
def aC2:=@List.all_append
def aC3:=@Option.map_none
def aC4:=@Bool.or_eq_true
def aC5:=@List.mem_filter
def aC6:=@Option.bind_eq_bind
def aC7:=@List.getD_cons_zero
def aC8:=@List.flatten_append
def aC9:=@Int.add_zero
def aD0:=@Nat.add_sub_cancel
def aD1:=@Array.ext_getElem?
def aD2:=@Nat.one_le_two_pow
def aD3:=@List.mem_cons_self
def aD4:=@List.append_of_mem
def aD5:=@Nat.lt_of_le_of_lt
def aD6:=@Nat.eq_zero_or_pos
def aD7:=@List.pairwise_cons
def aD8:=@List.exists_cons_of_ne_nil
def aD9:=@UInt8.toNat_ofNat'
def aE0:=@List.getElem?_append_left
def aE1:=@List.mem_or_eq_of_mem_set
def aE2:=@List.append_assoc
def aE3:=@Nat.mul_one
def aE4:=@Bool.not_eq_false
def aE5:=@Bool.eq_false_iff
def aE6:=@List.getElem?_inj
def aE7:=@List.nodup_append
def aE8:=@Array.getElem?_replicate
def aE9:=@Nat.add_assoc
def aF0:=@List.mem_flatten
def aF1:=@List.length_take
def aF2:=@List.drop_append
def aF3:=@Nat.sub_zero
def aF4:=@Nat.succ_pos
def aF5:=@List.head?_eq_getElem?
def aF6:=@Option.pure_def
def aF7:=@List.length_nil
def aF8:=@List.cons.injEq
def aF9:=@Nat.min_eq_left
def aG0:=@Nat.and_le_left
def aG1:=@Nat.add_mul
def aG2:=@Nat.le_succ
def aG3:=@Bool.and_false
def aG4:=@List.map_take
def aG5:=@Bool.and_self
set_option linter.defProp false
def AAd:=@if_false
def AAe:=@if_true
def AAf:=@decide_eq_true_eq
def AAg:=@decide_eq_true_iff
def AAh:=@or_false
def AAi:=@true_and
def AAj:=@decide_eq_true
def AAk:=@decide_eq_false
def AAl:=@of_eq_true
def AAm:=@of_eq_false
def AAn:=@eq_true
def AAo:=@eq_false
def AAp:=@not_false_eq_true
def AAq:=@dif_pos
def AAr:=@dif_neg
def AAs:=@congrArg
theorem AS{p:Prop}(h:p:=by omega):p:=h
theorem AAa{p:Prop}(h:p:=by omega):p=True:=eq_true h
theorem AAb{p:Prop}(h:¬p:=by omega):p=False:=eq_false h
abbrev AAt:ByteArray:=⟨⟨[102,97,114,109,101,114]⟩⟩
abbrev AAu:ByteArray:=⟨⟨[119,97,103,111,110]⟩⟩
abbrev AAv:ByteArray:=⟨⟨[118,111,105,100]⟩⟩
abbrev AAw:ByteArray:=⟨⟨[99,108,111,115,101]⟩⟩
abbrev AAx:ByteArray:=⟨⟨[109,101,116,101,114]⟩⟩
abbrev AAy:ByteArray:=⟨⟨[112,97,110]⟩⟩
abbrev AAz:ByteArray:=⟨⟨[110,101,116]⟩⟩
abbrev AAA:ByteArray:=⟨⟨[116,111,116,97,108]⟩⟩
abbrev AAB:ByteArray:=⟨⟨[116,105,99,107,101,116]⟩⟩
abbrev AAC:ByteArray:=⟨⟨[117,115,101,100]⟩⟩
abbrev AAD:ByteArray:=⟨⟨[108,111,115,115]⟩⟩
abbrev AAE:ByteArray:=⟨⟨[112,111,119,101,114]⟩⟩
abbrev AAF:ByteArray:=⟨⟨[110,111,32]⟩⟩
abbrev AAG:ByteArray:=⟨⟨[122,97,102,114,97,32,49,52,10]⟩⟩
abbrev AAH:ByteArray:=⟨⟨[119,110,110,102]⟩⟩
abbrev AAI:ByteArray:=⟨⟨[112,110,110]⟩⟩
abbrev AAJ:ByteArray:=⟨⟨[32,118,111,105,100]⟩⟩
namespace Go.DL
theorem oSI.{u} {α:Type u} {a b:α}:(some a=some b)=(a=b):=Option.some.injEq a b
inductive AV where
 | int (k:IntKind) (n:Int)
 | bool (b:Bool)
 | str (s:ByteArray)
 | agg (cs:List AV)
 | tup (vs:List AV)
 | fs (rows:List (List AV))
 | fp (rows:List (List AV)) (i off:Nat)
 | sl (b off s len:Nat)
 | pt (b off:Nat)
 | mp (b:Nat)
 | sb (b n:Nat)
 | bp (b:Nat)
 | nilsl
 | nilpt
 | nilmap
 | fn (f:Fn) (first cap:List AV)
 | nilfn
 | ifc (t:TypeId) (v:AV)
 | nilifc
 | any
deriving Inhabited
inductive ABlk where
 | cells (wr:Bool) (cs:List AV)
 | map (wr:Bool) (es:List (AV×AV))
 | obj (wr:Bool) (o:Obj)
def ABlk.wr:ABlk->Bool
 | .cells p _=>p
 | .map p _=>p
 | .obj p _=>p
def ABlk.ro:ABlk->ABlk
 | .cells _ cs=>.cells false cs
 | .map _ es=>.map false es
 | .obj _ o=>.obj false o
abbrev aJ:=Nat->AV
abbrev Hp:=Nat->Option ABlk
def anyE:aJ:=λ_=>.any
def noH:Hp:=λ_=>none
def upd(e:aJ)(k:Nat)(v:AV):aJ:=λj=>if j=k then v else e j
def bD(e:aJ)(k:Option Nat)(v:AV):aJ:=match k with|some k=>upd e k v|none=>e
def hset(H:Hp)(b:Nat)(x:ABlk):Hp:=λj=>if j=b then some x else H j
def wE(H:Hp)(b:Nat):Bool:=match H b with
 | some x=>x.wr
 | none=>false
def jV(H:Hp):Hp:=λb=>(H b).map ABlk.ro
def pP(H:Hp)(b:Nat):Hp:=λj=>if j=b then none else H j
@[simp] theorem upd_same (e:aJ) (k:Nat) (v:AV):upd e k v k=v:=by simp[upd]
theorem rZ(e:aJ){k j:Nat}(v:AV)(h:j≠k):upd e k v j=e j:=by simp[upd,h]
@[simp] theorem hset_same (H:Hp) (b:Nat) (x:ABlk):hset H b x b=some x:=by simp[hset]
theorem aL(H:Hp){b j:Nat}(x:ABlk)(h:j≠b):hset H b x j=H j:=by simp[hset,h]
def aJy:TypeId:=5
def aUE:TypeId:=77
inductive Rv(F:Nat->Prop)(w:World):AV->Value->Prop where
 | int (k:IntKind) (n:Int):Rv F w (.int k n) (.int k n)
 | bool (b:Bool):Rv F w (.bool b) (.bool b)
 | str (s:ByteArray):Rv F w (.str s) (.string s)
 | agg (cs:List AV) (vs:Array Value) (hl:cs.length=vs.size) (ho:∀(i:Nat)(v:Value),vs[i]?=some v->v.oneCell'=true)
  (h:∀(i:Nat)(c:AV)(v:Value),cs[i]?=some c->vs[i]?=some v->Rv F w c v):Rv F w (.agg cs) (.agg vs)
 | tup (cs:List AV) (vs:Array Value) (hl:cs.length=vs.size)
  (h:∀(i:Nat)(c:AV)(v:Value),cs[i]?=some c->vs[i]?=some v->Rv F w c v):Rv F w (.tup cs) (.tuple vs)
 | fs0 (a:Option Addr) (cap:Nat):Rv F w (.fs []) (.slice a 0 cap)
 | fs (rows:List (List AV)) (blk off s cap:Nat) (g:Nat->Nat->Value) (hcap:rows.length<=cap) (hF:F blk) (hs:∀ r∈rows,r.length=s)
  (hc:∀(i:Nat)(r:List AV)(j:Nat)(c:AV),rows[i]?=some r->r[j]?=some c->w.cell? ⟨blk,off+i*s+j,none⟩=some (g i j))
  (ho:∀(i j:Nat),(g i j).oneCell'=true)
  (h:∀(i:Nat)(r:List AV)(j:Nat)(c:AV),rows[i]?=some r->r[j]?=some c->Rv F w c (g i j)) :
  Rv F w (.fs rows) (.slice (some ⟨blk,off,none⟩) rows.length cap)
 | fp (rows:List (List AV)) (i o:Nat) (blk off s:Nat) (g:Nat->Nat->Value) (hF:F blk) (hs:∀ r∈rows,r.length=s)
  (hc:∀(i:Nat)(r:List AV)(j:Nat)(c:AV),rows[i]?=some r->r[j]?=some c->w.cell? ⟨blk,off+i*s+j,none⟩=some (g i j))
  (ho:∀(i j:Nat),(g i j).oneCell'=true)
  (h:∀(i:Nat)(r:List AV)(j:Nat)(c:AV),rows[i]?=some r->r[j]?=some c->Rv F w c (g i j)) :
  Rv F w (.fp rows i o) (.pointer (some ⟨blk,off+i*s+o,none⟩))
 | sl (b off s len cap:Nat) (c:Array Value) (e:TypeId) (fr:Nat×Nat) (hb:w.heap[b]?=some (.cells c e fr)) (hcap:off+cap*s<=c.size) (hlen:len<=cap) :
  Rv F w (.sl b off s len) (.slice (some ⟨b,off,none⟩) len cap)
 | pt (b off:Nat):Rv F w (.pt b off) (.pointer (some ⟨b,off,none⟩))
 | mp (b:Nat):Rv F w (.mp b) (.map (some b))
 | sb (b n cap:Nat) (c:Array Value) (fr:Nat×Nat) (hb:w.heap[b]?=some (.cells c aJy fr)) (hcap:cap<=c.size) (hlen:n<=cap):Rv F w (.sb b n) (.slice (some ⟨b,0,none⟩) n cap)
 | bp (b:Nat) (c:Array Value) (fr:Nat×Nat) (hb:w.heap[b]?=some (.cells c aUE fr)) (hsz:c.size=2):Rv F w (.bp b) (.pointer (some ⟨b,0,none⟩))
 | nilsl:Rv F w .nilsl (.slice none 0 0)
 | nilpt:Rv F w .nilpt (.pointer none)
 | nilmap:Rv F w .nilmap (.map none)
 | fn (f:Fn) (first cap:List AV) (fv cv:Array Value) (hl1:first.length=fv.size) (hl2:cap.length=cv.size)
  (h1:∀(i:Nat)(c:AV)(v:Value),first[i]?=some c->fv[i]?=some v->Rv F w c v)
  (h2:∀(i:Nat)(c:AV)(v:Value),cap[i]?=some c->cv[i]?=some v->Rv F w c v):Rv F w (.fn f first cap) (.func f fv cv)
 | nilfn:Rv F w .nilfn .nilFunc
 | ifc (t:TypeId) (a:AV) (v:Value) (h:Rv F w a v):Rv F w (.ifc t a) (.iface t v)
 | nilifc:Rv F w .nilifc .nilIface
 | any (v:Value):Rv F w .any v
structure Up(F:Nat->Prop)(w:World)(F':Nat->Prop)(w':World):Prop where
 sub:∀ b,F b->F' b
 same:∀ b,F b->w'.heap[b]?=w.heap[b]?
 size:∀(b:Nat)(c:Array Value)(e:TypeId)(fr:Nat×Nat),w.heap[b]?=some (.cells c e fr) ->
  ∃ c' e' fr',w'.heap[b]?=some (.cells c' e' fr')/\(c'.size,e')=(c.size,e)
 le:w.heap.size<=w'.heap.size
theorem aBv{F F':Nat->Prop}{w w':World}(hu:Up F w F' w'){a:Addr}(hF:F a.block):w'.cell? a=w.cell? a:=by
 unfold World.cell?;rw[hu.same _ hF]
theorem Rv.up{F F':Nat->Prop}{w w':World}(hu:Up F w F' w'){a:AV}{v:Value}(h:Rv F w a v):Rv F' w' a v:=by
 induction h with
 | int k n=>exact .int k n
 | bool b=>exact .bool b
 | str s=>exact .str s
 | agg cs vs hl ho _ ih=>exact .agg cs vs hl ho ih
 | tup cs vs hl _ ih=>exact .tup cs vs hl ih
 | fs0 a cap=>exact .fs0 a cap
 | fs rows blk off s cap g hcap hF hs hc ho _ ih =>
   exact .fs rows blk off s cap g hcap (hu.sub _ hF) hs (λi r j c h1 h2=>by grind [aBv]) ho ih
 | fp rows i o blk off s g hF hs hc ho _ ih =>
   exact .fp rows i o blk off s g (hu.sub _ hF) hs (λi r j c h1 h2=>by grind [aBv]) ho ih
 | sl b off s len cap c e fr hb hcap hlen =>
   obtain⟨c',e',fr',h1,h2⟩:=hu.size b c e fr hb;exact .sl b off s len cap c' e' fr' h1 (by grind) hlen
 | pt b off=>exact .pt b off
 | mp b=>exact .mp b
 | sb b n cap c fr hb hcap hlen =>
   obtain⟨c',e',fr',h1,h2⟩:=hu.size b c _ fr hb;obtain⟨h3,rfl⟩:=Prod.mk.inj h2;exact .sb b n cap c' fr' h1 AS hlen
 | bp b c fr hb hsz =>
   obtain⟨c',e',fr',h1,h2⟩:=hu.size b c _ fr hb;obtain⟨h3,rfl⟩:=Prod.mk.inj h2;exact .bp b c' fr' h1 (h3.trans hsz)
 | nilsl=>exact .nilsl
 | nilpt=>exact .nilpt
 | nilmap=>exact .nilmap
 | fn f first cap fv cv hl1 hl2 _ _ ih1 ih2=>exact .fn f first cap fv cv hl1 hl2 ih1 ih2
 | nilfn=>exact .nilfn
 | ifc t a v _ ih=>exact .ifc t a v ih
 | nilifc=>exact .nilifc
 | any v=>exact .any v
inductive RB(F:Nat->Prop)(w:World):ABlk->Obj->Prop where
 | cells (p:Bool) (cs:List AV) (c:Array Value) (e:TypeId) (fr:Nat×Nat) (hfr:∀ i,i<c.size->(fr.1<=i&&i<fr.2)=false) (hl:cs.length<=c.size) (ho:∀(i:Nat)(v:Value),c[i]?=some v->v.oneCell'=true)
  (h:∀(i:Nat)(a:AV)(v:Value),cs[i]?=some a->c[i]?=some v->Rv F w a v):RB F w (.cells p cs) (.cells c e fr)
 | map (p:Bool) (es:List (AV×AV)) (m:Array MapEntry) (clock:Nat) (hl:es.length=m.size)
  (h:∀(i:Nat)(a:AV×AV)(x:MapEntry),es[i]?=some a->m[i]?=some x->Rv F w a.1 x.key/\Rv F w a.2 x.val):RB F w (.map p es) (.map m clock)
 | obj (p:Bool) (o:Obj):RB F w (.obj p o) o
theorem RB.up{F F':Nat->Prop}{w w':World}(hu:Up F w F' w'){a:ABlk}{o:Obj}(h:RB F w a o):RB F' w' a o:=by
 cases h with
 | cells p cs c e fr hfr hl ho h=>exact .cells p cs c e fr hfr hl ho λi a v h1 h2=>(h i a v h1 h2).up hu
 | map p es m clock hl h=>exact .map p es m clock hl λi a x h1 h2=>⟨(h i a x h1 h2).1.up hu,(h i a x h1 h2).2.up hu⟩
 | obj p o=>exact .obj p o
structure St(F:Nat->Prop)(w:World)(H:Hp):Prop where
 lt:∀ b,F b->b<w.heap.size
 dis:∀ b x,H b=some x->¬F b
 blk:∀ b x,H b=some x->∃ o,w.heap[b]?=some o/\RB F w x o
structure SameIO(w w':World):Prop where
 os:w'.os=w.os
 tape:w'.tape=w.tape
 output:w'.output=w.output
theorem SameIO.refl(w:World):SameIO w w:=⟨rfl,rfl,rfl⟩
theorem SameIO.trans{w w' w'':World}(h:SameIO w w')(k:SameIO w' w''):SameIO w w'':=⟨k.os.trans h.os,k.tape.trans h.tape,k.output.trans h.output⟩
structure Ext(F:Nat->Prop)(w:World)(H:Hp)(F':Nat->Prop)(w':World)(H':Hp):Prop where
 sub:∀ b,F b->F' b
 fnew:∀ b,F' b->F b\/(H b).isSome=true\/w.heap.size<=b
 hdom:∀ b,(H' b).isSome=true->(H b).isSome=true\/w.heap.size<=b
 hnew:∀ b,wE H' b=true->wE H b=true\/w.heap.size<=b
 le:w.heap.size<=w'.heap.size
 same:∀ b,b<w.heap.size->wE H b=false->w'.heap[b]?=w.heap[b]?
 cells:∀(b:Nat)(c:Array Value)(e:TypeId)(fr:Nat×Nat),w.heap[b]?=some (.cells c e fr) ->
  ∃ c' e' fr',w'.heap[b]?=some (.cells c' e' fr')/\(c'.size,e')=(c.size,e)
 io:SameIO w w'
variable{F F' F'':Nat->Prop}{w w' w'':World}{H H' H'':Hp}
theorem St.none_of(h:St F w H){b:Nat}(hF:F b):H b=none:=by
 cases hb:H b with
 | none=>rfl
 | some x=>exact absurd hF (h.dis b x hb)
theorem St.own_lt(h:St F w H){b:Nat}{x:ABlk}(hb:H b=some x):b<w.heap.size:=by
 obtain⟨o,ho,_⟩:=h.blk b x hb
 grind
theorem Ext.refl(F:Nat->Prop)(w:World)(H:Hp):Ext F w H F w H :=
 ⟨λ_ h=>h,λ_ h=>.inl h,λ_ h=>.inl h,λ_ h=>.inl h,B5 _,λ_ _ _=>rfl,λ_ c e fr h=>⟨c,e,fr,h,rfl⟩,SameIO.refl w⟩
theorem Ext.trans(h:Ext F w H F' w' H')(k:Ext F' w' H' F'' w'' H''):Ext F w H F'' w'' H'' where
 sub b hb:=k.sub b (h.sub b hb)
 fnew b hb:=by
  rcases k.fnew b hb with h1|h1|h1;·exact h.fnew b h1
  .exact .inr (h.hdom b h1)
  .exact .inr (.inr (H9 h.le h1))
 hdom b hb:=by
  rcases k.hdom b hb with h1|h1;·exact h.hdom b h1
  .exact .inr (H9 h.le h1)
 hnew b hb:=by
  rcases k.hnew b hb with h1|h1;·exact h.hnew b h1
  .exact .inr (H9 h.le h1)
 le:=H9 h.le k.le
 same b hb hn:=by
  have hn':wE H' b=false:=by
   cases h1:wE H' b with
   | false=>rfl
   | true =>
     rcases h.hnew b h1 with h2|h2;all_goals grind
  rw[k.same b (E5 hb h.le) hn',h.same b hb hn]
 cells b c e fr hb:=by
  obtain⟨c1,e1,f1,h1,h2⟩:=h.cells b c e fr hb;obtain⟨c2,e2,f2,h3,h4⟩:=k.cells b c1 e1 f1 h1
  grind
 io:=h.io.trans k.io
theorem Ext.up(h:Ext F w H F' w' H')(st:St F w H):Up F w F' w' :=
 ⟨h.sub,λb hb=>h.same b (st.lt b hb) (by simp[wE,st.none_of hb]),h.cells,h.le⟩
theorem Ext.forget(h:Ext F w H F' w' H')(h1:∀ b x,H'' b=some x->H' b=some x):Ext F w H F' w' H'' :=
 { h with
   hdom:=λb hb=>by
    cases h2:H'' b with
    | none=>grind
    | some x=>exact h.hdom b (by grind)
   hnew:=λb hb=>by
    cases h2:H'' b with
    | none=>simp[wE,h2]at hb
    | some x=>exact h.hnew b (by simp_all [wE]) }
theorem St.forget(h:St F w H)(h1:∀ b x,H' b=some x->H b=some x):St F w H' :=
 ⟨h.lt,λb x hb=>h.dis b x (h1 b x hb),λb x hb=>h.blk b x (h1 b x hb)⟩
def aBn:Nat->Option (List AV):=λg=>if g=0 then some [.int .u64 1,.int .u64 10,.int .u64 100,.int .u64 1000,.int .u64 10000,.int .u64 100000,.int .u64 1000000,.int .u64 10000000,.int .u64 100000000,.int .u64 1000000000,.int .u64 10000000000,.int .u64 100000000000,.int .u64 1000000000000,.int .u64 10000000000000,.int .u64 100000000000000,.int .u64 1000000000000000,.int .u64 10000000000000000,.int .u64 100000000000000000,.int .u64 1000000000000000000,.int .u64 10000000000000000000] else if g=4 then some [.int .u8 0,.int .u8 1,.int .u8 28,.int .u8 2,.int .u8 29,.int .u8 14,.int .u8 24,.int .u8 3,.int .u8 30,.int .u8 22,.int .u8 20,.int .u8 15,.int .u8 25,.int .u8 17,.int .u8 4,.int .u8 8,.int .u8 31,.int .u8 27,.int .u8 13,.int .u8 23,.int .u8 21,.int .u8 19,.int .u8 16,.int .u8 7,.int .u8 26,.int .u8 12,.int .u8 18,.int .u8 6,.int .u8 11,.int .u8 5,.int .u8 10,.int .u8 9] else if g=5 then some [.int .u8 0,.int .u8 1,.int .u8 56,.int .u8 2,.int .u8 57,.int .u8 49,.int .u8 28,.int .u8 3,.int .u8 61,.int .u8 58,.int .u8 42,.int .u8 50,.int .u8 38,.int .u8 29,.int .u8 17,.int .u8 4,.int .u8 62,.int .u8 47,.int .u8 59,.int .u8 36,.int .u8 45,.int .u8 43,.int .u8 51,.int .u8 22,.int .u8 53,.int .u8 39,.int .u8 33,.int .u8 30,.int .u8 24,.int .u8 18,.int .u8 12,.int .u8 5,.int .u8 63,.int .u8 55,.int .u8 48,.int .u8 27,.int .u8 60,.int .u8 41,.int .u8 37,.int .u8 16,.int .u8 46,.int .u8 35,.int .u8 44,.int .u8 21,.int .u8 52,.int .u8 32,.int .u8 23,.int .u8 11,.int .u8 54,.int .u8 26,.int .u8 40,.int .u8 15,.int .u8 34,.int .u8 20,.int .u8 31,.int .u8 10,.int .u8 25,.int .u8 14,.int .u8 19,.int .u8 9,.int .u8 13,.int .u8 8,.int .u8 7,.int .u8 6] else none
def aEt:List Nat:=[3]
def aEu:List (Nat×List Value):=[(0,(List.range 20).map λi=>Value.int .u64 ((10^i:Nat):Int))]
def aCX:List Nat:=[1,2]
def GI(F:Nat->Prop)(w:World):Prop:=(∀ g row,aBn g=some row->F g/\∃ gv:Nat->Value,(∀ j,(gv j).oneCell'=true)/\∀ j c,row[j]?=some c->w.cell? ⟨g,j,none⟩=some (gv j)/\Rv F w c (gv j)) /\
 (∀ g∈aEt,F g/\∃ n:Int,w.cell? ⟨g,0,none⟩=some (.int .i64 n))/\(∀ p∈aEu,F p.1/\∃ e fr,w.heap[p.1]?=some (.cells p.2.toArray e fr)) /\
 ∀ g∈aCX,F g/\∃ v:Value,w.cell? ⟨g,0,none⟩=some v/\(v = .nilIface\/∃ te pe,v = .iface te pe)
theorem GI.up(hu:Up F w F' w')(h:GI F w):GI F' w':=by
 refine⟨λg row hg=>?_,λg hg=>?_,λp hp=>?_,λg hg=>?_⟩
 .obtain⟨h1,gv,h2,h3⟩:=h.1 g row hg
  refine⟨hu.sub _ h1,gv,h2,λj c hj=>?_⟩;obtain⟨h4,h5⟩:=h3 j c hj;exact⟨by grind [aBv],h5.up hu⟩
 .obtain⟨h1,n,h2⟩:=h.2.1 g hg
  exact⟨hu.sub _ h1,n,by grind [aBv]⟩
 .obtain⟨h1,e,fr,h2⟩:=h.2.2.1 p hp
  exact⟨hu.sub _ h1,e,fr,by rw[hu.same _ h1];exact h2⟩
 .obtain⟨h1,v,h2,h3⟩:=h.2.2.2 g hg
  exact⟨hu.sub _ h1,v,by grind [aBv],h3⟩
structure RT(F:Nat->Prop)(w:World)(env:aJ)(tmps:Array Value):Prop where
 rv:∀ k,Rv F w (env k) (tmps.getD k undef)
 gi:GI F w
def RE(F:Nat->Prop)(w:World)(env:aJ)(a:Act):Prop:=RT F w env a.tmps
theorem RE.rv{env:aJ}{a:Act}(h:RE F w env a):∀ k,Rv F w (env k) (a.tmps.getD k undef):=RT.rv h
theorem RE.gi{env:aJ}{a:Act}(h:RE F w env a):GI F w:=RT.gi h
theorem RE.up{env:aJ}{a:Act}(hu:Up F w F' w')(h:RE F w env a):RE F' w' env a:=⟨λk=>(h.rv k).up hu,h.gi.up hu⟩
theorem RE.put{env:aJ}{a:Act}{v:AV}{c:Value}{d:Option Nat}(h:RE F w env a)(hv:Rv F w v c)(hd:∀ k,d=some k->k<a.tmps.size):RE F w (bD env d v) (a.put d c):=by
 cases d with
 | none=>exact h
 | some d =>
   refine⟨λk=>?_,h.gi⟩;by_cases hk:k=d
   .subst hk
    have:k<a.tmps.size:=hd k rfl;simpa [bD,Act.put,F7,H8,this]using hv
   .have:=h.rv k
    simp only[bD,rZ env v hk,Act.put];simpa [F7,Array.getElem?_setIfInBounds_ne (Ne.symm hk)]using this
@[simp] theorem put_size (a:Act) (d:Option Nat) (v:Value):(a.put d v).tmps.size=a.tmps.size:=by cases d<;>simp[Act.put]
@[simp] theorem put_defers (a:Act) (d:Option Nat) (v:Value):(a.put d v).defers=a.defers:=by cases d<;>rfl
def Le(e e':aJ):Prop:=∀ k,e' k = .any\/e' k=e k
theorem Le.refl(e:aJ):Le e e:=λ_=>.inr rfl
theorem Le.anyE(e:aJ):Le e anyE:=λ_=>.inl rfl
theorem Le.upd{e e':aJ}{k:Nat}{v:AV}(h:Le e e')(hk:e k=v):Le e (upd e' k v):=λj=>by
 by_cases hj:j=k;·simp_all
 .rw[rZ _ _ hj];exact h j
theorem RE.le{env env':aJ}{a:Act}(h:RE F w env a)(hl:Le env env'):RE F w env' a:=⟨λk=>by
 rcases hl k with h1|h1;·rw[h1];exact .any _
 .rw[h1];exact h.rv k,h.gi⟩
theorem oU(st:St F w H){x:ABlk}{o:Obj}(hx:RB F (w.alloc o) x o)(hH:∀ b,H b≠none->b≠w.heap.size) :
 Ext F w H F (w.alloc o) (hset H w.heap.size x)/\St F (w.alloc o) (hset H w.heap.size x):=by
 have hget:∀ b,b<w.heap.size->(w.alloc o).heap[b]?=w.heap[b]?:=λb hb=>by
  show (w.heap.push o)[b]?=_
  grind
 have hE:Ext F w H F (w.alloc o) (hset H w.heap.size x):=by
  refine⟨λ_ h=>h,λ_ h=>.inl h,λb hb=>?_,λb hb=>?_,by simp,λb hb _=>hget b hb,λb c e fr hb=>⟨c,e,fr,?_,rfl⟩,⟨rfl,rfl,rfl⟩⟩;·grind [aL]
  .by_cases h1:b=w.heap.size
   all_goals simp_all [wE,hset]
  grind
 refine⟨hE,?_⟩;have hu:=hE.up st;refine⟨λb hb=>E5 (st.lt b hb) hE.le,λb y hb=>?_,λb y hb=>?_⟩
 .by_cases h1:b=w.heap.size
  .subst h1;intro hF;exact absurd (st.lt _ hF) AS
  .rw[aL _ _ h1]at hb;exact st.dis b y hb
 .by_cases h1:b=w.heap.size
  .subst h1
   simp only[hset_same,oSI]at hb;subst hb;exact⟨o,by show (w.heap.push o)[w.heap.size]?=_;simp,hx⟩
  .rw[aL _ _ h1]at hb
   obtain⟨o',h2,h3⟩:=st.blk b y hb;exact⟨o',by grind,h3.up hu⟩
theorem St.size_none(st:St F w H):∀ b,H b≠none->b≠w.heap.size:=λb hb e=>by
 cases h:H b with
 | none=>exact hb h
 | some x=>exact absurd (st.own_lt h) AS
theorem nE(st:St F w H){b:Nat}{x y:ABlk}{o o':Obj}(hb:H b=some x)(hwr:x.wr=true)(ho:w.heap[b]?=some o)
 (hw:w'.heap=w.heap.setIfInBounds b o') (hio:SameIO w w') (hsz:∀ c e fr,o = .cells c e fr->∃ c' e' fr',o' = .cells c' e' fr'/\(c'.size,e')=(c.size,e))
 (hy:∀ F' w',Up F w F' w'->RB F' w' y o'):Ext F w H F w' (hset H b y)/\St F w' (hset H b y):=by
 have hlt:b<w.heap.size:=(F9.1 ho).1;have hget:∀ j,j≠b->w'.heap[j]?=w.heap[j]?:=λj hj=>by grind
 have hgetb:w'.heap[b]?=some o':=by grind
 have hE:Ext F w H F w' (hset H b y):=by
  refine⟨λ_ h=>h,λ_ h=>.inl h,λj hj=>?_,λj hj=>?_,by grind,λj hj hn=>hget j (λe=>by simp_all [wE]),λj c e fr hj=>?_,hio⟩;·grind [aL]
  .by_cases h1:j=b
   all_goals simp_all [wE,hset]
  grind
 refine⟨hE,?_⟩;have hu:=hE.up st;refine⟨λj hj=>E5 (st.lt j hj) hE.le,λj z hj=>?_,λj z hj=>?_⟩
 .by_cases h1:j=b
  .subst h1;exact st.dis j x hb
  .rw[aL _ _ h1]at hj;exact st.dis j z hj
 .by_cases h1:j=b
  .simp_all
  .rw[aL _ _ h1]at hj
   obtain⟨o1,h2,h3⟩:=st.blk j z hj;exact⟨o1,by grind,h3.up hu⟩
theorem aAE(st:St F w H):St F w.drew H :=
 ⟨st.lt,st.dis,λb x hb=>let ⟨o,h1,h2⟩:=st.blk b x hb
  ⟨o,h1,h2.up (⟨λ_ h=>h,λ_ _=>rfl,λb c e fr h=>⟨c,e,fr,h,rfl⟩,B5 _⟩:Up F w F w.drew)⟩⟩
theorem jE(F:Nat->Prop)(w:World)(H:Hp):Ext F w H F w.drew H :=
 ⟨λ_ h=>h,λ_ h=>.inl h,λ_ h=>.inl h,λ_ h=>.inl h,B5 _,λ_ _ _=>rfl,λ_ c e fr h=>⟨c,e,fr,h,rfl⟩,⟨rfl,rfl,rfl⟩⟩
inductive AO where
 | t (k:Nat)
 | c (v:AV)
 | meth (tab:List (TypeId×FuncId)) (k:Nat)
deriving Inhabited
def xE(t:TypeId)(v:AV):List (TypeId×FuncId)->AV
 | []=>.any
 | (u,f)::r=>if u=t then .fn (.func f) [v] [] else xE t v r
def aEg(tab:List (TypeId×FuncId)):AV->AV
 | .ifc t v=>xE t v tab
 | _=>.any
def aK(e:aJ):AO->AV
 | .t k=>e k
 | .c v=>v
 | .meth tab k=>aEg tab (e k)
def aAh:Value->AV
 | .int k n=>.int k n
 | .bool b=>.bool b
 | .string s=>.str s
 | .pointer none=>.nilpt
 | .slice none 0 0=>.nilsl
 | .map none=>.nilmap
 | .nilFunc=>.nilfn
 | .nilIface=>.nilifc
 | _=>.any
def aBb(cs:Array Value):Bool:=cs.toList.all Value.oneCell'
def aQg:Value->AV
 | .agg cs=>if aBb cs then .agg (cs.toList.map aAh) else .any
 | v=>aAh v
def cellsOf:AV->Option (List AV)
 | .agg cs=>some cs
 | .tup _=>none
 | .any=>none
 | v=>some [v]
def bJ(z:List AV)(off:Nat)(cs:List AV):List AV:=z.take off++cs++z.drop (off+cs.length)
def gU(z:List AV):List (Nat×Nat×AV)->Option (List AV)
 | []=>some z
 | (off,n,v)::rest =>
   match cellsOf v with
   | some cs=>if cs.length=n/\off+n<=z.length then gU (bJ z off cs) rest else none
   | none=>none
def iZ(agg:Bool)(n:Nat)(cs:List AV)(o:Nat):Option AV :=
 if agg then (if o+n<=cs.length then some (.agg ((cs.drop o).take n)) else none) else cs[o]?
def fM(agg:Bool)(n:Nat)(H:Hp):AV->Option AV
 | .pt b o=>match H b with
   | some (.cells _ cs)=>iZ agg n cs o
   | _=>none
 | .fp rows i o=>match rows[i]? with
   | some r=>iZ agg n r o
   | none=>none
 | _=>none
def iV:Bool->AV->AV->Option Bool
 | false,.int k a,.int k' b=>if k=k' then some (a==b) else none
 | true,.str a,.str b=>some (a==b)
 | _,_,_=>none
def aV(q:Bool)(k:AV):List (AV×AV)->Option (Option AV)
 | []=>some none
 | (a,v)::r=>match iV q k a with
   | some true=>some (some v)
   | some false=>aV q k r
   | none=>none
def oG(op:BinOp)(k:IntKind)(x y:Int):Int :=
 let a:=BitVec.ofInt k.bits x
 let b:=BitVec.ofInt k.bits y
 match op with
 | .and=>k.wrap (a&&&b).toNat
 | .or=>k.wrap (a|||b).toNat
 | .xor=>k.wrap (a^^^b).toNat
 | _=>k.wrap (a &&& ~~~b).toNat
def iK(op:BinOp)(k:IntKind)(a:Int)(k':IntKind)(b:Int):Option AV :=
 match op with
 | .shl=>if b<0 then none else some (.int k (k.wrap (a*2^min b.toNat k.bits)))
 | .shr=>if b<0 then none else some (.int k (a.fdiv (2^min b.toNat k.bits)))
 | .add=>if k=k' then some (.int k (k.wrap (a+b))) else none
 | .sub=>if k=k' then some (.int k (k.wrap (a-b))) else none
 | .mul=>if k=k' then some (.int k (k.wrap (a*b))) else none
 | .quo=>if k=k'/\b≠0 then some (.int k (k.wrap (a.tdiv b))) else none
 | .rem=>if k=k'/\b≠0 then some (.int k (a.tmod b)) else none
 | .and=>if k=k' then some (.int k (oG .and k a b)) else none
 | .or=>if k=k' then some (.int k (oG .or k a b)) else none
 | .xor=>if k=k' then some (.int k (oG .xor k a b)) else none
 | .andNot=>if k=k' then some (.int k (oG .andNot k a b)) else none
 | .eql=>if k=k' then some (.bool (a==b)) else none
 | .neq=>if k=k' then some (.bool (a != b)) else none
 | .lss=>if k=k' then some (.bool (decide (a<b))) else none
 | .leq=>if k=k' then some (.bool (decide (a<=b))) else none
 | .gtr=>if k=k' then some (.bool (decide (b<a))) else none
 | .geq=>if k=k' then some (.bool (decide (b<=a))) else none
def aN(op:BinOp)(a b:ByteArray):Option AV :=
 match op with
 | .add=>if ((a.size+b.size:Nat):Int)>IntKind.i64.max then none else some (.str (a++b))
 | .eql=>some (.bool (a.toList==b.toList))
 | .neq=>some (.bool !(a.toList==b.toList))
 | .lss=>some (.bool (Op.bytesLess a.toList b.toList))
 | _=>none
def aER(op:BinOp):AV->AV->Option AV
 | .int k a,.int k' b=>iK op k a k' b
 | .str a,.str b=>aN op a b
 | _,_=>none
def vA:Nat->AV->AV->Option Bool
 | 0,.int k a,.int k' b=>if k=k' then some (a==b) else none
 | 1,.bool a,.bool b=>some (a==b)
 | 2,.str a,.str b=>some (a==b)
 | _,_,_=>none
def dX:List Nat->List AV->List AV->Option Bool
 | [],[],[]=>some true
 | k::ks,a::r,b::s=>match vA k a b,dX ks r s with
   | some x,some y=>some (x&&y)
   | _,_=>none
 | _,_,_=>none
def aBr:Nat->AV->AV->Option Bool
 | 0,.nilsl,.nilsl=>some true
 | 0,.sl ..,.nilsl=>some false
 | 0,.fs (_::_),.nilsl=>some false
 | 1,.nilmap,.nilmap=>some true
 | 1,.mp _,.nilmap=>some false
 | 2,.nilfn,.nilfn=>some true
 | 2,.fn ..,.nilfn=>some false
 | 3,.nilpt,.nilpt=>some true
 | 3,.pt ..,.nilpt=>some false
 | 3,.fp ..,.nilpt=>some false
 | 4,.ifc ..,.nilifc=>some false
 | 5,.ifc ..,.nilifc=>some false
 | 5,.nilifc,.nilifc=>some true
 | _,_,_=>none
inductive DOp where
 | mv (x:AO)
 | pick (c a b:AO)
 | alloc (z:List AV)
 | box (x:AO)
 | build (z:List AV) (parts:List (Nat×Nat×AO))
 | bslice (s len:Nat) (z:List AV) (parts:List (Nat×Nat×AO))
 | load (agg:Bool) (n:Nat) (x:AO)
 | nilck (x:AO)
 | bin (op:BinOp) (x y:AO)
 | binb (neg:Bool) (x y:AO)
 | eqag (neg:Bool) (ks:List Nat) (x y:AO)
 | eqn (kd:Nat) (neg:Bool) (x y:AO)
 | not (x:AO)
 | neg (x:AO)
 | conv (k:IntKind) (x:AO)
 | mkf (f:Fn) (first cap:List AO)
 | fld (off:Nat) (x:AO)
 | idxa (len s:Nat) (x i:AO)
 | idx (s:Nat) (x i:AO)
 | idxv (agg:Bool) (len s:Nat) (x i:AO)
 | idxs (x i:AO)
 | mksl (s bytes:Nat) (z:List AV) (l c:AO)
 | slarr (len s:Nat) (x:AO) (lo hi:Option AO)
 | slsl (s:Nat) (x:AO) (lo hi:Option AO)
 | slstr (x:AO) (lo hi:Option AO)
 | mkmap
 | allocb
 | lookup (q ok:Bool) (z:AV) (m k:AO)
 | ext (x:AO) (i:Nat)
 | len (q:Bool) (x:AO)
 | app (s bytes:Nat) (x y:AO)
 | mm (mx:Bool) (x y:AO)
 | mkifc (t:TypeId) (x:AO)
 | bytes (x:AO)
 | strof (x:AO)
 | rngs (x:AO)
 | stuck
 | store (n:Nat) (p x:AO) (aCc:List Nat)
 | copy (s:Nat) (x y:AO)
 | mapup (q:Bool) (m k x:AO)
 | nxts (x:AO)
 | callf (quiet:Bool) (f:AO) (args:List AO) (aCc:List Nat)
inductive Eff where
 | val (v:AV)
 | new (own:Option Nat) (x:ABlk) (f:Nat->AV)
def aW(cap:Nat)(d:Nat)(e:aJ):Option AO->Option Nat
 | none=>some d
 | some x=>match aK e x with
   | .int _ n=>if 0<=n/\n<=(cap:Int) then some n.toNat else none
   | _=>none
def fX(s:Nat)(H:Hp):AV->Option (Nat×List AV)
 | .nilsl=>some (0,[])
 | .str x=>if s=1 then some (x.size,x.data.toList.map λb=>.int .u8 (b.toNat:Int)) else none
 | .fs rows=>if rows.all (λr=>r.length==s) then some (rows.length,rows.flatten) else none
 | .sl b o s' len=>match H b with
   | some (.cells _ cs)=>if s'=s/\o+len*s<=cs.length then some (len,(cs.drop o).take (len*s)) else none
   | _=>none
 | _=>none
def iL:List AV->Option (List UInt8)
 | []=>some []
 | .int .u8 n::r=>(iL r).map (UInt8.ofNat n.toNat :: ·)
 | _=>none
def oY:Option (Nat×List AV)->Option AV
 | some (_,cs)=>(iL cs).map λl=>.str ⟨⟨l⟩⟩
 | none=>none
def jS(H:Hp):AV->Option AV
 | .str _=>none
 | v=>oY (fX 1 H v)
def tO(s bytes:Nat)(H:Hp)(x y:AV):Option Eff :=
 match fX s H y with
 | none=>none
 | some (n,new) =>
   match x with
   | .nilsl=>if n*bytes<=1099511627776/\n<=1099511627776 then (if n=0 then some (.val .nilsl) else some (.new none (.cells true new) λb=>if bytes=1048577 then .sb b n else .sl b 0 s n)) else none
   | .sb b len=>match H b with
     | some (.cells true cs)=>if bytes=1048577/\s=1/\len=cs.length/\len+n<=1099511627776 then some (.new (some b) (.cells true (cs++new)) λb=>.sb b (len+n)) else none
     | _=>none
   | .sl b 0 s' len=>match H b with
     | some (.cells true cs)=>if s'=s/\len*s=cs.length/\(len+n)*bytes<=1099511627776/\len+n<=1099511627776 then some (.new (some b) (.cells true (cs++new)) λb=>.sl b 0 s (len+n)) else none
     | _=>none
   | _=>none
def mX(s:Nat)(e:aJ)(lo hi:Option AO):AV->Option AV
 | .fs rows=>if rows.all (λr=>r.length==s) then (match aW rows.length rows.length e hi with
   | some h=>match aW h 0 e lo with
     | some l=>some (.fs ((rows.drop l).take (h-l)))
     | none=>none
   | none=>none) else none
 | .sl b o s' len=>if s'=s then (match aW len len e hi with
   | some h=>match aW h 0 e lo with
     | some l=>if l<h then some (.sl b (o+l*s) s (h-l)) else if l=0 then some (.sl b o s 0) else some (.fs [])
     | none=>none
   | none=>none) else none
 | .nilsl=>match aW 0 0 e hi with
   | some h=>match aW h 0 e lo with
     | some _=>some .nilsl
     | none=>none
   | none=>none
 | _=>none
def nA(q:Bool)(H:Hp)(k:AV):AV->Option (Option AV)
 | .mp b=>match H b with
   | some (.map _ es)=>aV q k es
   | _=>none
 | .nilmap=>some none
 | _=>none
def fK(s:ByteArray)(l h:Nat):ByteArray:=⟨⟨(s.data.toList.drop l).take (h-l)⟩⟩
theorem aMa(s:ByteArray)(l h:Nat):s.extract l h=fK s l h:=by
 have e:(s.extract l h).data=(fK s l h).data:=by
  grind [ByteArray.data_extract,Array.toList_extract,fK]
 cases hx:s.extract l h with
 | mk d=>simp_all
def xF(ok:Bool)(z:AV):Option AV->AV
 | some v=>if ok then .tup [v,.bool true] else v
 | none=>if ok then .tup [z,.bool false] else z
def aD(op:DOp)(e:aJ)(H:Hp):Option Eff :=
 match op with
 | .mv x=>some (.val (aK e x))
 | .pick c a b=>match aK e c with
   | .bool t=>some (.val (if t then aK e a else aK e b))
   | _=>none
 | .alloc z=>some (.new none (.cells true z) λb=>.pt b 0)
 | .box x=>match cellsOf (aK e x)with
   | some cs=>some (.new none (.cells true cs) λb=>.pt b 0)
   | none=>none
 | .build z parts=>match gU z (parts.map λp=>(p.1,p.2.1,aK e p.2.2))with
   | some cs=>some (.val (.agg cs))
   | none=>none
 | .bslice s len z parts=>match gU (List.replicate len z).flatten (parts.map λp=>(p.1,p.2.1,aK e p.2.2))with
   | some cs=>some (.new none (.cells true cs) λb=>.sl b 0 s len)
   | none=>none
 | .load agg n x=>match fM agg n H (aK e x)with
   | some v=>some (.val v)
   | none=>none
 | .nilck x=>match aK e x with
   | .pt b o=>some (.val (.pt b o))
   | .bp b=>some (.val (.pt b 0))
   | .fp r i o=>some (.val (.fp r i o))
   | .ifc t v=>some (.val (.ifc t v))
   | _=>none
 | .bin op x y=>match aER op (aK e x) (aK e y)with
   | some v=>some (.val v)
   | none=>none
 | .binb neg x y=>match aK e x,aK e y with
   | .bool a,.bool b=>some (.val (.bool (if neg then a != b else a==b)))
   | _,_=>none
 | .eqag neg ks x y=>match aK e x,aK e y with
   | .agg cs,.agg ds=>match dX ks cs ds with
     | some b=>some (.val (.bool (if neg then !b else b)))
     | none=>none
   | _,_=>none
 | .eqn kd neg x y=>match aBr kd (aK e x) (aK e y)with
   | some b=>some (.val (.bool (if neg then !b else b)))
   | none=>none
 | .not x=>match aK e x with
   | .bool b=>some (.val (.bool !b))
   | _=>none
 | .neg x=>match aK e x with
   | .int k n=>some (.val (.int k (k.wrap (0-n))))
   | _=>none
 | .conv k x=>match aK e x with
   | .int _ n=>some (.val (.int k (k.wrap n)))
   | _=>none
 | .mkf f first cap=>some (.val (.fn f (first.map (aK e)) (cap.map (aK e))))
 | .fld off x=>match aK e x with
   | .pt b o=>some (.val (.pt b (o+off)))
   | .fp r i o=>some (.val (.fp r i (o+off)))
   | _=>none
 | .idxa len s x i=>match aK e x,aK e i with
   | .pt b o,.int _ n=>if 0<=n/\n<(len:Int) then some (.val (.pt b (o+n.toNat*s))) else none
   | .fp r j o,.int _ n=>if 0<=n/\n<(len:Int) then some (.val (.fp r j (o+n.toNat*s))) else none
   | _,_=>none
 | .idx s x i=>match aK e x,aK e i with
   | .sl b o s' len,.int _ n=>if s'=s/\0<=n/\n<(len:Int) then some (.val (.pt b (o+n.toNat*s))) else none
   | .fs rows,.int _ n=>if 0<=n/\n<(rows.length:Int)/\(rows.getD n.toNat []).length=s then some (.val (.fp rows n.toNat 0)) else none
   | _,_=>none
 | .idxv agg len s x i=>match aK e x,aK e i with
   | .agg cs,.int _ n=>if 0<=n/\n<(len:Int) then (match iZ agg s cs (n.toNat*s)with
     | some v=>some (.val v)
     | none=>none) else none
   | _,_=>none
 | .idxs x i=>match aK e x,aK e i with
   | .str s,.int _ n=>if 0<=n/\n<(s.size:Int) then some (.val (.int .u8 ((s.data.toList.getD n.toNat 0).toNat:Int))) else none
   | _,_=>none
 | .mksl s bytes z l c=>match aK e l,aK e c with
   | .int .i64 l,.int .i64 c=>if 0<=l/\l<=c/\(bytes:Int)*c<=281474976710656/\c<=9223372036854775807 then
    some (.new none (.cells true (List.replicate c.toNat z).flatten) λb=>.sl b 0 s l.toNat) else none
   | _,_=>none
 | .slarr len s x lo hi=>match aK e x with
   | .pt b o=>match H b,aW len len e hi with
     | some (.cells _ cs),some h=>match aW h 0 e lo with
       | some l=>if o+len*s<=cs.length/\l<len then some (.val (.sl b (o+l*s) s (h-l))) else none
       | none=>none
     | _,_=>none
   | _=>none
 | .slsl s x lo hi=>match mX s e lo hi (aK e x)with
   | some v=>some (.val v)
   | none=>none
 | .slstr x lo hi=>match aK e x with
   | .str s=>match aW s.size s.size e hi with
     | some h=>match aW h 0 e lo with
       | some l=>some (.val (.str (fK s l h)))
       | none=>none
     | none=>none
   | _=>none
 | .mkmap=>some (.new none (.map true []) λb=>.mp b)
 | .allocb=>some (.new none (.cells true [.nilpt,.nilsl]) λb=>.bp b)
 | .lookup q ok z m k=>match nA q H (aK e k) (aK e m)with
   | some r=>some (.val (xF ok z r))
   | none=>none
 | .ext x i=>match aK e x with
   | .tup vs=>match vs[i]? with
     | some v=>some (.val v)
     | none=>none
   | _=>none
 | .len q x=>match q,aK e x with
   | true,.str s=>some (.val (.int .i64 (s.size:Int)))
   | false,.fs rows=>some (.val (.int .i64 (rows.length:Int)))
   | false,.sl _ _ _ n=>some (.val (.int .i64 (n:Int)))
   | false,.nilsl=>some (.val (.int .i64 0))
   | _,_=>none
 | .app s bytes x y=>tO s bytes H (aK e x) (aK e y)
 | .mm mx x y=>match aK e x,aK e y with
   | .int k a,.int _ b=>some (.val (.int k (if mx then (if b>a then b else a) else (if b<a then b else a))))
   | _,_=>none
 | .mkifc t x=>some (.val (.ifc t (aK e x)))
 | .bytes x=>match aK e x with
   | .str s=>some (.new none (.cells true (s.data.toList.map λb=>.int .u8 (b.toNat:Int))) λb=>.sl b 0 1 s.size)
   | _=>none
 | .strof x=>(jS H (aK e x)).map .val
 | .rngs x=>match aK e x with
   | .str s=>some (.new none (.obj true (.stringIter s 0)) λb=>.pt b 0)
   | _=>none
 | .stuck | .store .. | .copy .. | .mapup .. | .nxts .. | .callf .. => none
def qW(n:Nat)(H:Hp)(p x:AV):Option Hp :=
 match p with
 | .pt b o=>match H b,cellsOf x with
   | some (.cells true cs),some vs=>if vs.length=n/\o+n<=cs.length then some (hset H b (.cells true (bJ cs o vs))) else none
   | _,_=>none
 | _=>none
def fB:AV->Option Nat
 | .pt b _=>some b
 | .sl b _ _ _=>some b
 | .mp b=>some b
 | .sb b _=>some b
 | _=>none
def kU(q:Bool)(k v:AV):List (AV×AV)->Option (List (AV×AV))
 | []=>some [(k,v)]
 | (a,x)::r=>match iV q k a with
   | some true=>some ((a,v)::r)
   | some false=>(kU q k v r).map ((a,x) :: ·)
   | none=>none
def aAj(q:Bool)(H:Hp)(m k x:AV):Option Hp :=
 match m with
 | .mp b=>match H b with
   | some (.map true es)=>(kU q k x es).map λes'=>hset H b (.map true es')
   | _=>none
 | _=>none
def aIL(H:Hp)(x:AV):Option (AV×Hp):=match x with
 | .pt b 0=>match H b with
   | some (.obj true (.stringIter s pos))=>if pos<s.size then some (.tup [.bool true,.int .i64 (pos:Int),.int .i32 (Utf8.decode s pos).1],hset H b (.obj true (.stringIter s (pos+(Utf8.decode s pos).2)))) else some (.tup [.bool false],H)
   | _=>none
 | _=>none
def aEH(s:Nat)(H:Hp)(x y:AV):Option (Nat×Hp) :=
 match x,fX s H y with
 | .sl b o s' len,some (n,new)=>match H b with
   | some (.cells true cs)=>if s'=s/\o+len*s<=cs.length then some (min n len,hset H b (.cells true (bJ cs o (new.take (min n len*s))))) else none
   | _=>none
 | _,_=>none
def co:Operand->Option AO
 | .tmp t=>some (.t t)
 | .const v=>some (.c (aQg v))
 | .func f=>some (.c (.fn (.func f) [] []))
 | .global g=>(aBn g).map λrow=>.c (.fp [row] 0 0)
def coO:Option Operand->Option (Option AO)
 | none=>some none
 | some x=>(co x).map some
def coL(xs:Array Operand):Option (List AO):=xs.toList.mapM co
def eQ(P:Program)(t:TypeId):Option Bool :=
 match P.underlying t with
 | some (.struct _)=>some true
 | some (.array ..)=>some true
 | some _=>some false
 | none=>none
def nH(P:Program)(t:TypeId):Option Nat:=(P.info? t).map (·.size)
def vE(P:Program)(t:TypeId):Option (List AV) :=
 match P.info? t with
 | some i=>match i.zero with
   | some v=>if aBb v.cells then some (v.cells.toList.map aAh) else none
   | none=>none
 | none=>none
def aJD(P:Program)(t:TypeId):Option AV :=
 match P.info? t with
 | some i=>match i.zero with
   | some v=>if v.oneCell' then some (aAh v) else none
   | none=>none
 | none=>none
def aCS(P:Program)(t:TypeId)(i:Nat):Option (Nat×Nat) :=
 match P.underlying t with
 | some (.struct fields)=>match fields[i]? with
   | some f=>(nH P f.type).map λn=>(f.offset,n)
   | none=>none
 | some (.array _ e)=>(nH P e).map λn=>(i*n,n)
 | _=>none
def aHo(place:Nat->Option (Nat×Nat))(ps:Array (Nat×Operand)):Option (List (Nat×Nat×AO)) :=
 ps.toList.mapM λp=>match place p.1,co p.2 with
  | some (off,n),some x=>some (off,n,x)
  | _,_=>none
def aEz(P:Program):Nat->TypeId->Option (List (Nat×Nat))
 | 0,_=>none
 | d+1,t =>
   match P.underlying t with
   | some .bool=>some [(0,1)]
   | some (.int _)=>some [(0,0)]
   | some .string=>some [(0,2)]
   | some (.struct fs)=>if P.stoodInHeld t then none else
     match nH P t, fs.toList.mapM λf=>if f.name = "_" then none else (aEz P d f.type).map λl=>l.map λp=>(f.offset+p.1, p.2)with
     | some n,some ls=>if ls.flatten.all λp=>decide (p.1<n) then some ls.flatten else none
     | _,_=>none
   | some (.array len e) =>
     match nH P t,nH P e,aEz P d e with
     | some n,some s,some l =>
       let ls:=(List.range len).flatMap λi=>l.map λp=>(i*s+p.1,p.2)
       if ls.all λp=>decide (p.1<n) then some ls else none
     | _,_,_=>none
   | _=>none
def pM(P:Program)(t:TypeId):Option (List Nat) :=
 if P.eqGuardType P.depth t then none else
 match eQ P t,aEz P 100 t with
 | some true,some l=>if l.map (·.1)=List.range l.length/\nH P t=some l.length then some (l.map (·.2)) else none
 | _,_=>none
def aHw(name:String)(ms:Array Method):Option FuncId:=match ms.toList.find? λm=>m.name==name with
 | some m=>match m.path.toList,m.func with
   | [],some (f,false)=>some f
   | _,_=>none
 | none=>none
def aFW(P:Program)(name:String):List (TypeId×FuncId):=(List.range P.types.size).filterMap λt=>match P.info? t,P.underlying t with
 | some i,some (.struct _)=>(aHw name i.methods).map λf=>(t,f)
 | some i,some (.slice _)=>(aHw name i.methods).map λf=>(t,f)
 | _,_=>none
def xX(P:Program)(c:Call):Option DOp :=
 match c.callee with
 | .builtin .len=>match c.args.toList,c.argTypes.toList with
   | [x],[t]=>match P.underlying t,co x with
     | some (.array n _),_=>some (.mv (.c (.int .i64 (n:Int))))
     | some .string,some x=>some (.len true x)
     | some (.slice _),some x=>some (.len false x)
     | _,_=>none
   | _,_=>none
 | .builtin .append=>match c.args.toList,c.argTypes.toList with
   | [x,y],[t,u]=>match P.underlying t,co x,co y with
     | some (.slice e),some x,some y=>match P.info? e,P.underlying u,vE P e with
       | some i,some (.slice _),some z=>if z.length=i.size/\i.bytes<=1048576 then some (.app i.size i.bytes x y) else none
       | some i,some .string,some z=>if z.length=i.size/\i.bytes<=1048576 then some (.app i.size (if e=aJy/\i.bytes=1/\i.size=1 then 1048577 else i.bytes) x y) else none
       | _,_,_=>none
     | _,_,_=>none
   | _,_=>none
 | .builtin .copy=>match c.args.toList,c.argTypes.toList with
   | [x,y],[t,_]=>match P.underlying t,co x,co y with
     | some (.slice e),some x,some y=>(nH P e).map λs=>.copy s x y
     | _,_,_=>none
   | _,_=>none
 | .builtin .min=>match c.args.toList with
   | [x,y]=>match co x,co y with
     | some x,some y=>some (.mm false x y)
     | _,_=>none
   | _=>none
 | .builtin .max=>match c.args.toList with
   | [x,y]=>match co x,co y with
     | some x,some y=>some (.mm true x y)
     | _,_=>none
   | _=>none
 | .value f=>match co f,coL c.args with
   | some f,some xs=>some (.callf false f xs [])
   | _,_=>none
 | .invoke (.tmp k) name=>match coL c.args with
   | some xs=>some (.callf false (.meth (aFW P name) k) xs [])
   | none=>none
 | _=>none
def aIX:Operand->Nat
 | .const _=>5
 | _=>4
def dD(P:Program)(o:Oper):Option DOp :=
 match o.op with
 | .move x=>(co x).map .mv
 | .assign x=>(co x).map .mv
 | .pick c a b=>match co c,co a,co b with
   | some c,some a,some b=>some (.pick c a b)
   | _,_,_=>none
 | .alloc t=>match vE P t with
   | some z=>if t=aUE then (if z.length=2 then (match z with | [.nilpt,.nilsl]=>some .allocb|_=>none) else none) else some (.alloc z)
   | none=>none
 | .box _ x=>(co x).map .box
 | .build t parts=>match vE P t,eQ P t,aHo (aCS P t) parts with
   | some z,some true,some ps=>match P.underlying t with
     | some (.struct fields)=>if fields.toList.all λf=>(nH P f.type).isSome then some (.build z ps) else none
     | some (.array _ e)=>if (nH P e).isSome then some (.build z ps) else none
     | _=>none
   | _,_,_=>none
 | .buildSlice t len parts=>match P.underlying t with
   | some (.slice e)=>match nH P e,vE P e with
     | some s,some z=>match aHo (λi=>some (i*s,s)) parts with
       | some ps=>if len*s<=16777216/\z.length=s then some (.bslice s len z ps) else none
       | none=>none
     | _,_=>none
   | _=>none
 | .load t a=>match eQ P t,nH P t,co a with
   | some g,some n,some x=>some (.load g n x)
   | _,_,_=>none
 | .store t a x=>match nH P t,co a,co x with
   | some n,some a,some x=>some (.store n a x [])
   | _,_,_=>none
 | .nilCheck x=>(co x).map .nilck
 | .binOp op t x0 y0 _=>match co x0,co y0 with
   | some x,some y=>match op,P.underlying t with
     | .eql,some .bool=>some (.binb false x y)
     | .neq,some .bool=>some (.binb true x y)
     | .eql,some (.struct _)=>(pM P t).map λks=>.eqag false ks x y
     | .eql,some (.array ..)=>(pM P t).map λks=>.eqag false ks x y
     | .neq,some (.struct _)=>(pM P t).map λks=>.eqag true ks x y
     | .neq,some (.array ..)=>(pM P t).map λks=>.eqag true ks x y
     | .eql,some (.slice _)=>some (.eqn 0 false x y)
     | .neq,some (.slice _)=>some (.eqn 0 true x y)
     | .eql,some (.map ..)=>some (.eqn 1 false x y)
     | .neq,some (.map ..)=>some (.eqn 1 true x y)
     | .eql,some (.func ..)=>some (.eqn 2 false x y)
     | .neq,some (.func ..)=>some (.eqn 2 true x y)
     | .eql,some (.pointer _)=>some (.eqn 3 false x y)
     | .neq,some (.pointer _)=>some (.eqn 3 true x y)
     | .eql,some (.interface _)=>some (.eqn (aIX y0) false x y)
     | .neq,some (.interface _)=>some (.eqn (aIX y0) true x y)
     | op,_=>some (.bin op x y)
   | _,_=>none
 | .unOp .not _ x=>(co x).map .not
 | .unOp .neg _ x=>(co x).map .neg
 | .convert src dst x=>match P.underlying src,P.underlying dst,co x with
   | some (.int _),some (.int k),some x=>some (.conv k x)
   | some .string,some (.slice e),some x=>match P.underlying e with
     | some (.int .u8)=>some (.bytes x)
     | _=>none
   | some (.slice e),some .string,some x=>match P.underlying e with
     | some (.int .u8)=>some (.strof x)
     | _=>none
   | _,_,_=>none
 | .makeFunc fn first cap=>match coL first,coL cap with
   | some f,some c=>some (.mkf fn f c)
   | _,_=>none
 | .fieldAddr s x f=>match P.underlying s,co x with
   | some (.struct fields),some x=>match fields[f]? with
     | some fd=>match nH P fd.type with
       | some (_+1)=>some (.fld fd.offset x)
       | _=>none
     | none=>none
   | _,_=>none
 | .indexAddr t x i=>match P.underlying t,co x,co i with
   | some (.array len e),some x,some i=>(nH P e).map λs=>.idxa len s x i
   | some (.slice e),some x,some i=>(nH P e).map λs=>.idx s x i
   | _,_,_=>none
 | .index t x i=>match P.underlying t,co x,co i with
   | some (.array len e),some x,some i=>match eQ P e,nH P e with
     | some g,some s=>some (.idxv g len s x i)
     | _,_=>none
   | some .string,some x,some i=>some (.idxs x i)
   | _,_,_=>none
 | .makeSlice t l c=>match P.underlying t,co l,co c with
   | some (.slice e),some l,some c=>match P.info? e,vE P e with
     | some i,some z=>if z.length=i.size then some (.mksl i.size i.bytes z l c) else none
     | _,_=>none
   | _,_,_=>none
 | .slice t x lo hi none=>match P.underlying t,co x,coO lo,coO hi with
   | some (.array len e),some x,some lo,some hi=>(nH P e).map λs=>.slarr len s x lo hi
   | some (.slice e),some x,some lo,some hi=>(nH P e).map λs=>.slsl s x lo hi
   | some .string,some x,some lo,some hi=>some (.slstr x lo hi)
   | _,_,_,_=>none
 | .makeMap _ none=>some .mkmap
 | .lookup t m k ok=>match P.underlying t,co m,co k with
   | some (.map kt e),some m,some k=>match aJD P e,P.underlying kt with
     | some z,some (.int _)=>some (.lookup false ok z m k)
     | some z,some .string=>some (.lookup true ok z m k)
     | _,_=>none
   | _,_,_=>none
 | .mapUpdate t m k x=>match P.underlying t,co m,co k,co x with
   | some (.map kt _),some m,some k,some x=>match P.underlying kt with
     | some (.int _)=>some (.mapup false m k x)
     | some .string=>some (.mapup true m k x)
     | _=>none
   | _,_,_,_=>none
 | .insert t m k x=>match P.underlying t,co m,co k,co x with
   | some (.map kt _),some m,some k,some x=>match P.underlying kt with
     | some (.int _)=>some (.mapup false m k x)
     | some .string=>some (.mapup true m k x)
     | _=>none
   | _,_,_,_=>none
 | .range t x=>match P.underlying t,co x with
   | some .string,some x=>some (.rngs x)
   | _,_=>none
 | .next x true=>(co x).map .nxts
 | .extract x i=>(co x).map λx=>.ext x i
 | .makeInterface t x=>match P.underlying t,co x with
   | some (.interface _),_=>none
   | some _,some x=>some (.mkifc t x)
   | _,_=>none
 | .call c=>xX P c
 | _=>none
def aBt(P:Program)(o:Oper):DOp:=(dD P o).getD .stuck
structure DOper where
 ix:Nat
 dst:Option Nat
 op:DOp
 guard:Option (Nat×Bool)
def aGm(P:Program)(ops:Array Oper)(o:Oper):Option DOper :=
 match o.op with
 | .defer _=>none
 | _=>match o.guard with
   | none=>some ⟨0,o.dst,aBt P o,none⟩
   | some (j,w)=>match (ops[j]?).bind (·.dst)with
     | some d=>some ⟨0,o.dst,aBt P o,some (d,w)⟩
     | none=>none
def cT(o:Oper):List Nat:=(o.after.toList.filter λe=>Region.binds .any e).map (·.on)
def aRk(P:Program)(ops:Array Oper):Option (List DOper):=ops.toList.mapM (aGm P ops)
inductive DCode where
 | skip
 | reg (draw:Bool) (ops:List DOper)
 | seq (a b:DCode)
 | cond (c:AO) (a b:DCode)
 | block (id:Nat) (a:DCode)
 | loop (a:DCode)
 | scope (a:DCode)
 | rng (f:AO) (ps:List Nat) (assign body:DCode)
 | exit (id:Nat)
 | ret
def AO.sees:AO->List Nat
 | .t k=>[k]
 | .c _=>[]
 | .meth _ k=>[k]
def aIo:Option AO->List Nat
 | some x=>x.sees
 | none=>[]
def aIp(l:List AO):List Nat:=l.flatMap AO.sees
def DOp.sees:DOp->List Nat
 | .mv x | .box x | .load _ _ x | .nilck x | .not x | .neg x | .conv _ x | .fld _ x | .ext x _ | .len _ x | .mkifc _ x | .bytes x | .strof x | .rngs x | .nxts x=>x.sees
 | .pick c a b=>c.sees++a.sees++b.sees
 | .alloc _ | .mkmap | .allocb | .stuck=>[]
 | .build _ ps | .bslice _ _ _ ps=>ps.flatMap λp=>p.2.2.sees
 | .bin _ x y | .binb _ x y | .eqag _ _ x y | .eqn _ _ x y | .idxa _ _ x y | .idx _ x y | .idxv _ _ _ x y | .idxs x y | .mksl _ _ _ x y | .lookup _ _ _ x y | .app _ _ x y
 | .mm _ x y | .copy _ x y=>x.sees++y.sees
 | .store _ x y _=>x.sees++y.sees
 | .mkf _ f c=>aIp f++aIp c
 | .slarr _ _ x lo hi | .slsl _ x lo hi | .slstr x lo hi=>x.sees++aIo lo++aIo hi
 | .mapup _ m k x=>m.sees++k.sees++x.sees
 | .callf _ f xs _=>f.sees++aIp xs
def DOper.sees(o:DOper):List Nat:=o.op.sees++(match o.guard with|some (g,_)=>[g]|none=>[])
def DOp.kind:DOp->Nat
 | .load .. | .lookup .. | .slarr .. | .strof _=>1
 | .box _ | .bslice .. | .mksl .. | .bytes _ | .rngs _=>2
 | .alloc _ | .mkmap | .allocb=>7
 | .app .. => 3
 | .callf true .. => 4
 | .callf false .. => 6
 | .store .. | .copy .. | .mapup .. | .nxts _=>5
 | _=>0
def mV:Nat->Nat->Bool
 | 0,_=>true
 | 1,k=>k<=4||k==7
 | 2,k=>k<=3||k==7
 | 7,k=>k<=3||k==7
 | 3,k=>k<=2||k==7
 | 4,k=>k<=4||k==7
 | 6,k=>k==7
 | _,k=>k==0
def aRJ(x y:DOper):Bool :=
 (match x.dst with
  | some d => !(y.sees).contains d&&y.dst != some d
  | none=>true) &&
 (match y.dst with
  | some d => !(x.sees).contains d
  | none=>true)
def aYc(x y:DOper):Bool :=
 match x.op,y.op with
 | .load ..,.store _ _ _ l=>l.contains x.ix
 | .load ..,.callf false _ _ l=>l.contains x.ix
 | _,_=>false
def qV(x y:DOper):Bool:=(mV x.op.kind y.op.kind||aYc x y)&&aRJ x y&&(x.op.kind != 6||y.guard.isNone)
def lJ(afs:List (List Nat)):List Nat :=
 afs.foldl (λacc o=>acc++[o.foldl (λs j=>s|||(2^j|||acc.getD j 0)) 0]) []
def aXp(afs:List (List Nat))(ops:List DOper):List Nat :=
 (ops.zip afs).foldl (λacc p =>
  let low:=p.2.foldl (λm j=>max m (acc.getD j 0)) 0
  let high:=acc.foldl max 0
  acc++[match p.1.op.kind with
   | 0|1=>(low+1)/2*2
   | 4|6=>(high+1)/2*2+1
   | _=>(high+1)/2*2]) []
def aMj(lv:List Nat)(ops:List DOper):List DOper :=
 (List.range (lv.foldl max 0+1)).flatMap λh=>ops.filter λo=>lv.getD o.ix 0==h
def aFB(cl:List Nat)(before after:List DOper)(o:DOper):DOper :=
 let c:=cl.getD o.ix 0
 let aCc:=before.filterMap λx=>if c.testBit x.ix then none else match x.op with
  | .load .. => some x.ix
  | _=>none
 match o.op with
 | .store n p x _=>{ o with op:=.store n p x aCc }
 | .callf _ f xs _ =>
   if (after.all λy=>(cl.getD y.ix 0).testBit o.ix||y.op.kind==7)&&(before.all λx=>c.testBit x.ix||x.op.kind != 1||(match x.op with | .load .. => true|_=>false)) then { o with op:=.callf false f xs aCc } else { o with op:=.callf true f xs [] }
 | _=>o
def aOC(cl:List Nat):List DOper->List DOper->List DOper
 | _,[]=>[]
 | before,o::rest=>aFB cl before rest o::aOC cl (before++[o]) rest
def aAY(cl:List Nat):List DOper->Bool
 | []=>true
 | x::rest=>(rest.all λy => !(cl.getD x.ix 0).testBit y.ix&&((cl.getD y.ix 0).testBit x.ix||qV x y))&&aAY cl rest
def aEa(ops:List DOper):List DOper:=ops.zipIdx.map λp=>{ p.1 with ix:=p.2 }
def yY(afs:List (List Nat)):Bool:=(List.range afs.length).all λi=>(afs.getD i []).all (· < i)
def aRf(N:Nat)(ops:List DOper):Bool:=ops.all λo=>match o.dst with
 | some d=>decide (d<N)
 | none=>true
def aEc:List Nat->Bool
 | []=>true
 | x::r => !r.contains x&&aEc r
def DOp.isComm(_:DOp):Bool:=false
def DOp.isQ:DOp->Bool
 | .store .. | .copy .. | .mapup .. | .nxts _ | .callf .. => false
 | _=>true
def xW(P:Program)(N:Nat)(ops:Array Oper)(draw:Bool):Option (List DOper) :=
 match aRk P ops with
 | none=>none
 | some l =>
   if !(aRf N l) then none else
   if draw then
    let afs:=ops.toList.map cT
    let cl:=lJ afs
    let l':=aOC cl [] (aMj (aXp afs l) (aEa l))
    if yY afs&&aAY cl l'&&(l'.map (·.ix)).length==l.length&&aEc (l'.map (·.ix))&&(List.range l.length).all (λi=>(l'.map (·.ix)).contains i) then some l' else none
   else some l
def eS(P:Program)(N:Nat):Code->Option DCode
 | .skip=>some .skip
 | .region _ ops draw=>match xW P N ops draw with
   | some l=>some (.reg draw l)
   | none=>none
 | .seq a b=>match eS P N a,eS P N b with
   | some a,some b=>some (.seq a b)
   | _,_=>none
 | .cond c a b=>match co c,eS P N a,eS P N b with
   | some c,some a,some b=>some (.cond c a b)
   | _,_,_=>none
 | .block id a=>match eS P N a with
   | some a=>some (.block id a)
   | none=>none
 | .loop a=>match eS P N a with
   | some a=>some (.loop a)
   | none=>none
 | .scope a=>match eS P N a with
   | some a=>some (.scope a)
   | none=>none
 | .label _=>some .skip
 | .rangeFunc f ps assign body=>match co f,eS P N assign,eS P N body with
   | some f,some x,some y=>if ps.toList.all (· < N) then some (.rng f ps.toList x y) else none
   | _,_,_=>none
 | .exit id=>some (.exit id)
 | .ret=>some .ret
 | _=>none
def aJq(P:Program)(N:Nat)(c:Code):Option (Option (List DOper×Nat)×DCode):=(eS P N c).map λd=>(none,d)
variable{P:Program}{F F':Nat->Prop}{w w':World}{H:Hp}{env:aJ}{a:Act}
structure RL(F:Nat->Prop)(w:World)(cs:List AV)(vs:Array Value):Prop where
 len:cs.length=vs.size
 one:∀(i:Nat)(v:Value),vs[i]?=some v->v.oneCell'=true
 at_:∀(i:Nat)(c:AV)(v:Value),cs[i]?=some c->vs[i]?=some v->Rv F w c v
theorem RL.up{cs:List AV}{vs:Array Value}(hu:Up F w F' w')(h:RL F w cs vs):RL F' w' cs vs :=
 ⟨h.len,h.one,λi c v h1 h2=>(h.at_ i c v h1 h2).up hu⟩
theorem aBG(v:Value):Rv F w (aAh v) v:=by
 unfold aAh;split<;>constructor
theorem aIB{vs:Array Value}(h:aBb vs=true):RL F w (vs.toList.map aAh) vs:=by
 refine⟨by simp,λi v hv=>?_,λi c v hc hv=>?_⟩;·grind [aBb]
 grind [aBG]
theorem aPn(v:Value):Rv F w (aQg v) v:=by
 unfold aQg;split
 .split
  .rename_i h
   have:=aIB (F:=F) (w:=w) h;exact .agg _ _ this.len this.one this.at_
  .exact .any _
 grind [aBG]
theorem bM(re:RE F w env a){x:Operand}{y:AO}(h:co x=some y):Rv F w (aK env y) (a.eval x):=by
 cases x with
 | tmp t=>simp only[co,oSI]at h;subst h;exact re.rv t
 | const v=>simp only[co,oSI]at h;subst h;exact aPn v
 | func f =>
   simp only[co,oSI]at h;subst h;exact .fn _ _ _ _ _ rfl rfl (λi c v h=>by simp at h) (λi c v h=>by simp at h)
 | global g =>
   simp only[co,B2]at h;obtain⟨row,hr,rfl⟩:=h;obtain⟨h1,gv,h2,h3⟩:=re.gi.1 g row hr;have hz:∀(i:Nat)(r:List AV)(j:Nat)(c:AV),[row][i]?=some r->r[j]?=some c->i=0/\row[j]?=some c:=by
    grind
   have:=Rv.fp (F:=F) (w:=w) [row] 0 0 g 0 row.length (λ_ j=>gv j) h1 (λr hr=>by grind) (λi r j c e1 e2=>by
    grind) (λ_ j=>h2 j) (λi r j c e1 e2=>(h3 j c (hz i r j c e1 e2).2).2)
   have e:a.eval (.global g) = .pointer (some ⟨g,0,none⟩):=rfl;rw[e];simpa [aK]using this
theorem aAd{v:AV}{c:Value}{cs:List AV}(h:Rv F w v c)(hc:cellsOf v=some cs):RL F w cs c.cells:=by
 have single:∀{v:AV}{c:Value},Rv F w v c->c.cells = #[c]->c.oneCell'=true->RL F w [v] c.cells:=by
  intro v c h h1 h2;rw[h1];refine⟨rfl,λi x hx=>?_,λi d x hd hx=>?_⟩;all_goals grind
 cases h with
 | agg cs' vs hl ho h=>simp only[cellsOf,oSI]at hc;subst hc;exact⟨hl,ho,h⟩
 | tup=>grind [cellsOf]
 | any=>grind [cellsOf]
 | int k n=>simp only[cellsOf,oSI]at hc;subst hc;exact single (.int k n) rfl rfl
 | bool b=>simp only[cellsOf,oSI]at hc;subst hc;exact single (.bool b) rfl rfl
 | str s=>simp only[cellsOf,oSI]at hc;subst hc;exact single (.str s) rfl rfl
 | fs0 a cap=>simp only[cellsOf,oSI]at hc;subst hc;exact single (.fs0 a cap) rfl rfl
 | fs rows blk off s cap g hcap hF hs hc' ho h=>simp only[cellsOf,oSI]at hc;subst hc;exact single (.fs rows blk off s cap g hcap hF hs hc' ho h) rfl rfl
 | fp rows i o blk off s g hF hs hc' ho h=>simp only[cellsOf,oSI]at hc;subst hc;exact single (.fp rows i o blk off s g hF hs hc' ho h) rfl rfl
 | sl b off s len cap c e fr hb h1 h2=>simp only[cellsOf,oSI]at hc;subst hc;exact single (.sl b off s len cap c e fr hb h1 h2) rfl rfl
 | pt b off=>simp only[cellsOf,oSI]at hc;subst hc;exact single (.pt b off) rfl rfl
 | mp b=>simp only[cellsOf,oSI]at hc;subst hc;exact single (.mp b) rfl rfl
 | sb b n cap c fr hb h1 h2=>simp only[cellsOf,oSI]at hc;subst hc;exact single (.sb b n cap c fr hb h1 h2) rfl rfl
 | bp b c fr hb h1=>simp only[cellsOf,oSI]at hc;subst hc;exact single (.bp b c fr hb h1) rfl rfl
 | nilsl=>simp only[cellsOf,oSI]at hc;subst hc;exact single .nilsl rfl rfl
 | nilpt=>simp only[cellsOf,oSI]at hc;subst hc;exact single .nilpt rfl rfl
 | nilmap=>simp only[cellsOf,oSI]at hc;subst hc;exact single .nilmap rfl rfl
 | fn f first cap fv cv hl1 hl2 h1 h2=>simp only[cellsOf,oSI]at hc;subst hc;exact single (.fn f first cap fv cv hl1 hl2 h1 h2) rfl rfl
 | nilfn=>simp only[cellsOf,oSI]at hc;subst hc;exact single .nilfn rfl rfl
 | ifc t a v h=>simp only[cellsOf,oSI]at hc;subst hc;exact single (.ifc t a v h) rfl rfl
 | nilifc=>simp only[cellsOf,oSI]at hc;subst hc;exact single .nilifc rfl rfl
def Lies(F:Nat->Prop)(w:World)(cs:List AV)(b o:Nat):Prop :=
 ∀(j:Nat)(c:AV),cs[j]?=some c->∃ v,w.cell? ⟨b,o+j,none⟩=some v/\v.oneCell'=true/\Rv F w c v
theorem uK(st:St F w H){b:Nat}{p:Bool}{cs:List AV}(hb:H b=some (.cells p cs)):Lies F w cs b 0:=by
 obtain⟨o,ho,hr⟩:=st.blk b _ hb;cases hr with
 | cells p cs c e fr hfr hl h1 h2 =>
   intro j x hj;have hlt:j<c.size:=by grind
   refine⟨c[j],?_,h1 j _ (by simp[hlt]),h2 j x _ hj (by simp[hlt])⟩;simp[World.cell?,ho,hlt]
theorem Lies.drop{cs:List AV}{b o:Nat}(h:Lies F w cs b o)(n:Nat):Lies F w (cs.drop n) b (o+n):=λj c hj=>by
 grind [Lies]
theorem Lies.take{cs:List AV}{b o:Nat}(h:Lies F w cs b o)(n:Nat):Lies F w (cs.take n) b o:=λj c hj=>by
 grind [Lies]
theorem gE(b o n:Nat):(⟨b,o,none⟩:Addr).add n=⟨b,o+n,none⟩:=by
 unfold Addr.add
 grind
theorem gM{cs:List AV}{b o:Nat}(h:Lies F w cs b o):∃ vs,(loadCells ⟨b,o,none⟩ cs.length).run P w = .ok vs w/\RL F w cs vs:=by
 have hf:∀ j,∃ v,j<cs.length->w.cell? ⟨b,o+j,none⟩=some v/\v.oneCell'=true/\∀ c,cs[j]?=some c->Rv F w c v:=by
  intro j;by_cases hj:j<cs.length;·simp_all [Lies]
  .exact⟨undef,λh=>absurd h hj⟩
 have ⟨f,hf⟩:=Classical.axiomOfChoice hf;refine⟨_,run_loadCells w ⟨b,o,none⟩ cs.length f (λj hj=>by grind [gE]),?_⟩;have hget:∀ i v,((List.range cs.length).map f).toArray[i]?=some v->i<cs.length/\v=f i:=λi v hv=>by
  grind
 refine⟨by simp,λi v hv=>?_,λi c v hc hv=>?_⟩;all_goals grind
theorem aUa{t:TypeId}{n:Nat}(h:nH P t=some n):∃ i,P.info? t=some i/\i.size=n:=by
 simp_all [nH]
theorem bH{t:TypeId}{n:Nat}(h:nH P t=some n)(w:World):(sizeOf t).run P w = .ok n w:=by
 obtain⟨i,hi,rfl⟩:=aUa h;simp[sizeOf,typeInfo,hi]
theorem uA{t:TypeId}{g:Bool}(h:eQ P t=some g)(w:World):(isAgg t).run P w = .ok g w:=by
 unfold eQ at h;cases hu:P.underlying t with
 | none=>grind
 | some d =>
   simp only[hu]at h;simp only[isAgg,Sem.run_bind,run_underlying hu,Result.andThen_ok];cases d<;>simp_all
theorem sH{t:TypeId}{g:Bool}{n:Nat}{cs:List AV}{b o k:Nat}{v:AV}(hg:eQ P t=some g)(hn:nH P t=some n)
 (h:Lies F w cs b o) (hr:iZ g n cs k=some v):∃ c,(loadVar t ⟨b,o+k,none⟩).run P w = .ok c w/\Rv F w v c:=by
 unfold iZ at hr;cases g with
 | true =>
   simp only[AAe]at hr;split at hr
   .rename_i hle
    simp only[oSI]at hr;subst hr;have h1:=(h.drop k).take n;have hl:((cs.drop k).take n).length=n:=by simp;omega
    obtain⟨vs,h2,h3⟩:=gM (P:=P) h1;rw[hl]at h2;refine⟨.agg vs,?_,.agg _ _ h3.len h3.one h3.at_⟩;simp only[loadVar,Sem.run_bind,uA hg,Result.andThen_ok,AAe,bH hn,h2,Sem.run_pure]
   .simp at hr
 | false =>
   simp only[C6,AAd]at hr;obtain⟨x,h1,_,h3⟩:=h k v hr;refine⟨x,?_,h3⟩;simp only[loadVar,Sem.run_bind,uA hg,Result.andThen_ok,C6,AAd,run_load,h1]
theorem aFK{t:TypeId}{g:Bool}{n:Nat}{p v:AV}{x:Value}(st:St F w H)(hg:eQ P t=some g)(hn:nH P t=some n)
 (hp:Rv F w p x) (hr:fM g n H p=some v):∃ c,(Instr.loadAt t x).run P w = .ok c w/\Rv F w v c:=by
 cases hp with
 | pt b o =>
   simp only[fM]at hr;split at hr
   .rename_i p cs hb
    have:=uK st hb;obtain⟨c,h1,h2⟩:=sH (P:=P) (k:=o) hg hn this hr;rw[J6]at h1;exact⟨c,by simpa [Instr.loadAt,Instr.sureAddr]using h1,h2⟩
   .simp at hr
 | fp rows i o blk off s g' hF hs hc ho h =>
   simp only[fM]at hr;split at hr
   .rename_i r hi
    have hL:Lies F w r blk (off+i*s):=λj c hj=>⟨g' i j,hc i r j c hi hj,ho i j,h i r j c hi hj⟩;obtain⟨c,h1,h2⟩:=sH (P:=P) (k:=o) hg hn hL hr;exact⟨c,by simpa [Instr.loadAt,Instr.sureAddr]using h1,h2⟩
   .simp at hr
 | _=>simp[fM]at hr
theorem xL(off:Nat):∀(l:List Value)(k:Nat)(zs:Array Value),off+k+l.length<=zs.size ->
 ((l.zipIdx k).foldl (λc (p:Value×Nat)=>c.setIfInBounds (off+p.2) p.1) zs).size=zs.size /\
 ∀ i:Nat,((l.zipIdx k).foldl (λc (p:Value×Nat)=>c.setIfInBounds (off+p.2) p.1) zs)[i]?=if off+k<=i/\i<off+k+l.length then l[i-(off+k)]? else zs[i]?
 | [],k,zs,_=>⟨rfl,λi=>by simp;omega⟩
 | x::l,k,zs,h=>by
   simp only[List.zipIdx_cons,aB1,D7]at h ⊢;obtain⟨h1,h2⟩:=xL off l (k+1) (zs.setIfInBounds (off+k) x) (by grind)
   grind
theorem aMR{z:List AV}{zs:Array Value}{off:Nat}{cs:List AV}{vs:Array Value}(hz:RL F w z zs)(hv:RL F w cs vs)(hle:off+cs.length<=z.length) :
 RL F w (bJ z off cs) (vs.zipIdx.foldl (λc (p:Value×Nat)=>c.setIfInBounds (off+p.2) p.1) zs):=by
 have h1:=(xL off vs.toList 0 zs (by have:=hz.len;have:=hv.len;simp;omega)).1;have h2:=(xL off vs.toList 0 zs (by have:=hz.len;have:=hv.len;simp;omega)).2;simp only[I6,G7,I0]at h1 h2;rw[<-Array.foldl_toList,Array.toList_zipIdx];have hlen:=hv.len;have hzl:=hz.len;have hgA:∀ i,(bJ z off cs)[i]?=if off<=i/\i<off+cs.length then cs[i-off]? else z[i]?:=λi=>by
  unfold bJ;rw[aE2,G8,G8]
  grind
 refine⟨?_,λi v hv'=>?_,λi c v hc hv'=>?_⟩;·grind [bJ]
 .rw[h2]at hv'
  split at hv';·exact hv.one _ _ hv'
  .exact hz.one _ _ hv'
 .rw[h2]at hv'
  rw[hgA]at hc;split at hv';·rename_i h3;rw[if_pos AS]at hc;exact hv.at_ _ _ _ hc hv'
  .rename_i h3;rw[if_neg AS]at hc;exact hz.at_ _ _ _ hc hv'
theorem aFX{α β:Type}{f:α->Option β}:∀{l:List α}{r:List β},l.mapM f=some r->r.length=l.length/\∀(i:Nat)(x:α),l[i]?=some x->∃ y,f x=some y/\r[i]?=some y
 | [],r,h=>by grind
 | x::l,r,h=>by
   simp only[aA2,aC6,E9,aF6,oSI]at h;obtain⟨y,hy,s,hs,rfl⟩:=h;obtain⟨h1,h2⟩:=aFX hs;refine⟨by simp[h1],λi z hz=>?_⟩;cases i with
   | zero=>simp at hz;subst hz;exact⟨y,hy,rfl⟩
   | succ i=>simpa using h2 i z (by simpa using hz)
theorem aAP{α β:Type}{f:α->Sem β}{g:α->β}(w:World):∀(l:List α),(∀ x∈l,(f x).run P w = .ok (g x) w)->(l.mapM f).run P w = .ok (l.map g) w
 | [],_=>by simp
 | x::l,h=>by
   simp only[aA2,Sem.run_bind,h x (by simp),Result.andThen_ok,aAP w l (λy hy=>h y (by simp[hy])),Sem.run_pure,E7]
theorem aIu{α β:Type}{f:α->Sem β}{g:α->β}(w:World)(l:Array α)(h:∀ x∈l.toList,(f x).run P w = .ok (g x) w):(l.mapM f).run P w = .ok (l.map g) w:=by
 rw[Array.mapM_eq_mapM_toList,Sem.run_map,aAP w l.toList h];simp only[Result.andThen_ok];congr 1
 grind
theorem aCZ{place place':Nat->Option (Nat×Nat)}(re:RE F w env a):∀{ps:List (Nat×Operand)}{l:List (Nat×Nat×AO)}{z cs:List AV}{zs:Array Value},
 (ps.mapM λp=>match place p.1,co p.2 with
  | some (off,n),some x=>some (off,n,x)
  | _,_=>none)=some l->(∀ i r,place i=some r->place' i=some r) ->
 gU z (l.map λp=>(p.1,p.2.1,aK env p.2.2))=some cs->RL F w z zs ->
 ∃ out,Instr.fill place' zs (ps.map λp=>(p.1,a.eval p.2))=some out/\RL F w cs out
 | [],l,z,cs,zs,hl,hp,hf,hz=>by
   simp at hl;subst hl;simp[gU]at hf;subst hf;exact⟨zs,by rfl,hz⟩
 | p::ps,l,z,cs,zs,hl,hp,hf,hz=>by
   simp only[aA2,aC6,E9,aF6,oSI]at hl;obtain⟨q,hq,s,hs,rfl⟩:=hl;split at hq
   .rename_i off n x h1 h2
    simp only[oSI]at hq;subst hq;simp only[E7,gU]at hf;split at hf
    .rename_i vs hvs
     split at hf
     .rename_i hle
      have hv:=aAd (bM re h2) hvs;have hz':=aMR (off:=off) hz hv AS;obtain⟨out,h3,h4⟩:=aCZ re hs hp hf hz';refine⟨out,?_,h4⟩;have hlen:=hv.len;have hzl:=hz.len;simp only[E7,Instr.fill,hp _ _ h1]
      grind
     .simp at hf
    .simp at hf
   .simp at hq
theorem aAx{t:TypeId}{z:List AV}(h:vE P t=some z):∃ i v,P.info? t=some i/\i.zero=some v/\RL F w z v.cells:=by
 grind [aIB,vE]
theorem kT{t:TypeId}{i:TypeInfo}{v:Value}(hi:P.info? t=some i)(hv:i.zero=some v)(w:World):(zeroValue t).run P w = .ok v w:=by
 simp[zeroValue,typeInfo,hi,hv]
theorem aMM{t:TypeId}{parts:Array (Nat×Operand)}{z:List AV}{l:List (Nat×Nat×AO)}{cs:List AV}(re:RE F w env a)(hz:vE P t=some z)
 (hg:eQ P t=some true) (hl:aHo (aCS P t) parts=some l)
 (hall:∀ fields,P.underlying t=some (.struct fields)->(fields.toList.all λf=>(nH P f.type).isSome)=true)
 (harr:∀ n e,P.underlying t=some (.array n e)->(nH P e).isSome=true)
 (hf:gU z (l.map λp=>(p.1,p.2.1,aK env p.2.2))=some cs) :
 ∃ c,(Instr.build t (parts.map λ(i,x)=>(i,a.eval x))).run P w = .ok c w/\Rv F w (.agg cs) c:=by
 obtain⟨i,v,hi,hv,hzr⟩:=aAx (F:=F) (w:=w) hz;have hmap:(parts.map λ(i,x)=>(i,a.eval x)).toList=parts.toList.map λp=>(p.1,a.eval p.2):=by simp
 unfold eQ at hg;cases hu:P.underlying t with
 | none=>grind
 | some d =>
   cases d with
   | struct fields =>
     have hsz:∀ f∈fields.toList,∃ n,nH P f.type=some n:=λf hf'=>by
      grind [Option.isSome_iff_exists]
     have hrun:=aIu (P:=P) (f:=λf:Field=>do pure (f.offset,<-sizeOf f.type)) (g:=λf:Field=>(f.offset,(nH P f.type).getD 0)) w fields (λf hf'=>by
      obtain⟨n,hn⟩:=hsz f hf';simp[bH hn,hn])
     obtain⟨out,h1,h2⟩:=aCZ (place':=λi=>(fields.map λf:Field=>(f.offset,(nH P f.type).getD 0))[i]?) re hl (λi r hr=>by
      unfold aCS at hr
      grind) hf hzr
     refine⟨.agg out,?_,.agg _ _ h2.len h2.one h2.at_⟩;rw[<-hmap]at h1;simp only[Instr.build,Sem.run_bind,kT hi hv,Result.andThen_ok,run_underlying hu,hrun,h1,Sem.run_pure]
   | array n e =>
     cases hn:nH P e with
     | none=>grind
     | some s =>
       obtain⟨out,h1,h2⟩:=aCZ (place':=λi=>some (i*s,s)) re hl (λi r hr=>by
        unfold aCS at hr
        grind) hf hzr
       refine⟨.agg out,?_,.agg _ _ h2.len h2.one h2.at_⟩;rw[<-hmap]at h1;simp only[Instr.build,Sem.run_bind,kT hi hv,Result.andThen_ok,run_underlying hu,bH hn,h1,Sem.run_pure]
   | _=>simp[hu]at hg
def aJu:Nat->Option Value->Option Value->Option Bool
 | 0,some (.int k a),some (.int k' b)=>if k=k' then some (a==b) else none
 | 1,some (.bool a),some (.bool b)=>some (a==b)
 | 2,some (.string a),some (.string b)=>some (a==b)
 | _,_,_=>none
theorem aRp{k:Nat}{x y:AV}{v u:Value}{b:Bool}(h:vA k x y=some b)(hv:Rv F w x v)(hu:Rv F w y u):aJu k (some v) (some u)=some b:=by
 unfold vA at h;split at h;·cases hv;cases hu;exact h
 .cases hv;cases hu;exact h
 .cases hv;cases hu;exact h
 .simp at h
theorem aEM:∀{ks:List Nat}{cs ds:List AV}{b:Bool},dX ks cs ds=some b->ks.length=cs.length/\ks.length=ds.length /\
 ∃ r:Nat->Bool,(∀(i k:Nat)(x y:AV),ks[i]?=some k->cs[i]?=some x->ds[i]?=some y->vA k x y=some (r i))/\b=(List.range ks.length).all r
 | [],[],[],b,h=>by simp_all [dX]
 | k::ks,x::cs,y::ds,b,h=>by
   simp only[dX]at h;split at h
   .rename_i x' y' h1 h2
    simp only[oSI]at h;obtain⟨e1,e2,r,h3,h4⟩:=aEM h2;refine⟨by simp[e1],by simp[e2],λi=>match i with|0=>x'|i+1=>r i,λi k' x0 y0 hk hx hy=>?_,?_⟩;·grind
    .rw[<-h,h4]
     grind [List.range_succ_eq_map,List.all_map]
   .simp at h
 | [],[],_::_,_,h=>by simp[dX]at h
 | [],_::_,_,_,h=>by simp[dX]at h
 | _::_,[],_,_,h=>by simp[dX]at h
 | _::_,_::_,[],_,h=>by simp[dX]at h
def aDb(d:Nat)(e:TypeId)(n:Nat)(xs ys:Array Value):List Nat->Sem Bool
 | []=>pure true
 | i::is=>do
   let a <-part e xs (i*n)
   let b <-part e ys (i*n)
   let r <-Op.equalIn d e a b
   if (!r)=true then pure false else aDb d e n xs ys is
theorem aAQ(w:World)(d:Nat){t e:TypeId}{len n:Nat}(xs ys:Array Value)(ht:P.underlying t=some (.array len e))(hn:nH P e=some n) :
 (Op.equalIn (d+1) t (.agg xs) (.agg ys)).run P w=(aDb d e n xs ys (List.range len)).run P w:=by
 simp only[Op.equalIn,Sem.run_bind,run_underlying ht,Result.andThen_ok,bH hn];rw[Std.Legacy.Range.forIn_eq_forIn_range'];simp only[Std.Legacy.Range.size,aF3,aD0,Nat.div_one];rw[<-aA3];generalize List.range len=is;clear ht;induction is generalizing w with
 | nil=>rfl
 | cons i is ih =>
   simp only[List.forIn_cons,aDb,Sem.run_bind,Sem.run_ite];generalize (part e xs (i*n)).run P w=r1;cases r1 with
   | ok a w1 =>
     simp only[Result.andThen_ok];generalize (part e ys (i*n)).run P w1=r2;cases r2 with
     | ok b w2 =>
       simp only[Result.andThen_ok];generalize (Op.equalIn d e a b).run P w2=r3;cases r3 with
       | ok r w3 =>
         simp_all
       | halt x w3=>rfl
     | halt x w2=>rfl
   | halt x w1=>rfl
theorem fH{t:TypeId}{xs:Array Value}{o:Nat}{v:Value}(hg:eQ P t=some false)(hv:xs[o]?=some v)(w:World):(part t xs o).run P w = .ok v w:=by
 simp[part,uA hg,hv]
theorem iN{t:TypeId}{xs:Array Value}{o n:Nat}(hg:eQ P t=some true)(hn:nH P t=some n)(w:World):(part t xs o).run P w = .ok (.agg (xs.extract o (o+n))) w:=by
 simp[part,uA hg,bH hn]
theorem aCs{xs:Array Value}{b n o:Nat}(h:o<n):(xs.extract b (b+n))[o]?=xs[b+o]?:=by
 grind
def aUU(P:Program)(w:World)(D:Nat)(t:TypeId)(l:List (Nat×Nat)):Prop :=
 ∀(xs ys:Array Value)(base:Nat)(r:Nat->Bool),(∀ p∈l,aJu p.2 xs[base+p.1]? ys[base+p.1]?=some (r p.1)) ->
   ∃ va vb,(part t xs base).run P w = .ok va w/\(part t ys base).run P w = .ok vb w/\(Op.equalIn D t va vb).run P w = .ok (l.all λp=>r p.1) w
theorem aEy(w:World):∀(d:Nat)(t:TypeId)(l:List (Nat×Nat)),aEz P d t=some l->∀ D,d<=D->aUU P w D t l
 | 0,_,_,h=>by simp[aEz]at h
 | d+1, t, l,h=>by
   intro D hD xs ys base r hr;obtain⟨D,rfl⟩:∃ k,D=k+1:=⟨D-1,by omega⟩;unfold aEz at h;split at h
   .rename_i hu
    simp only[oSI]at h;subst h;have h0:=hr (0,1) (by simp);have hg:eQ P t=some false:=by simp[eQ,hu]
    simp only[I6]at h0;unfold aJu at h0;split at h0<;>simp_all
    rename_i a b e1 e2;exact⟨_,fH hg e1 w,_,fH hg e2 w,by grind [run_equalIn_bool']⟩
   .rename_i k0 hu
    simp only[oSI]at h;subst h;have h0:=hr (0,0) (by simp);have hg:eQ P t=some false:=by simp[eQ,hu]
    simp only[I6]at h0;unfold aJu at h0;split at h0<;>simp_all
    rename_i e1 e2;obtain⟨rfl,h0⟩:=h0;exact⟨_,fH hg e1 w,_,fH hg e2 w,by grind [run_equalIn_int]⟩
   .rename_i hu
    simp only[oSI]at h;subst h;have h0:=hr (0,2) (by simp);have hg:eQ P t=some false:=by simp[eQ,hu]
    simp only[I6]at h0;unfold aJu at h0;split at h0<;>simp_all
    rename_i a b e1 e2;exact⟨_,fH hg e1 w,_,fH hg e2 w,by grind [run_equalIn_string,beq_toListBytes]⟩
   .rename_i fs hu
    split at h;·simp at h
    rename_i hst;split at h
    .rename_i n ls hn hls
     split at h
     .rename_i hall
      simp only[oSI]at h;subst h;have hg:eQ P t=some true:=by simp[eQ,hu]
      refine⟨_,_,iN hg hn w,iN hg hn w,?_⟩;have hfo:P.fieldsOf t=fs:=by simp[Program.fieldsOf,hu]
      rw[run_equalIn_struct w D t _ _ (by grind) (by grind),hfo];have hlt:∀ p∈ls.flatten,p.1<n:=λp hp=>by grind
      clear hall hu hst hfo hg;generalize fs.toList=fl at hls;induction fl generalizing ls with
      | nil=>simp at hls;subst hls;rfl
      | cons f fl ih =>
        simp only[aA2,aC6,E9,aF6,oSI]at hls;obtain⟨l1,h1,ls',h2,rfl⟩:=hls;split at h1;·simp at h1
        rename_i hname;cases hf:aEz P d f.type with
        | none=>grind
        | some l0 =>
          simp only[hf,D1,oSI]at h1;subst h1;obtain⟨va,vb,e1,e2,e3⟩:=aEy w d f.type l0 hf D AS (xs.extract base (base+n)) (ys.extract base (base+n)) f.offset (λo=>r (f.offset+o)) (λp hp=>by
           have hm:(f.offset+p.1,p.2)∈((l0.map λp=>(f.offset+p.1,p.2))::ls').flatten:=by grind
           grind [aCs])
          have ih':=ih ls' (λp hp=>hr p (by grind)) (λp hp=>hlt p (by grind)) h2;simp only[Op.eqFields,ne_eq,hname,AAp,AAe,Sem.run_bind,e1,Result.andThen_ok,e2,e3,Sem.run_ite];simp only[M6,aC2,List.all_map];cases hb:(l0.all λp=>r (f.offset+p.1))with
          | true =>
            grind
          | false =>
            simp only[J1,AAe,Sem.run_pure]
            grind
     .simp at h
    .simp at h
   .rename_i len e hu
    split at h
    .rename_i n s l0 hn hs hl0
     dsimp only at h;split at h
     .rename_i hall
      simp only[oSI]at h;subst h;have hg:eQ P t=some true:=by simp[eQ,hu]
      refine⟨_,_,iN hg hn w,iN hg hn w,?_⟩;rw[aAQ w D _ _ hu hs];have hlt:∀ p∈(List.range len).flatMap (λi=>l0.map λp=>(i*s+p.1,p.2)),p.1<n:=λp hp=>by grind
      clear hall hu hg;generalize List.range len=is at hr hlt;induction is with
      | nil=>rfl
      | cons i is ih =>
        obtain⟨va,vb,e1,e2,e3⟩:=aEy w d e l0 hl0 D AS (xs.extract base (base+n)) (ys.extract base (base+n)) (i*s) (λo=>r (i*s+o)) (λp hp=>by
         have hm:(i*s+p.1,p.2)∈(i::is).flatMap (λi=>l0.map λp=>(i*s+p.1,p.2)):=by grind
         grind [aCs])
        have ih':=ih (λp hp=>hr p (by grind)) (λp hp=>hlt p (by grind));simp only[aDb,Sem.run_bind,e1,Result.andThen_ok,e2,e3,Sem.run_ite];simp only[aB2,aC2,List.all_map];cases hb:(l0.all λp=>r (i*s+p.1))with
        | true =>
          grind
        | false =>
          simp only[J1,AAe,Sem.run_pure]
          grind
     .simp at h
    .simp at h
   .simp at h
theorem aOW{op:BinOp}{neg:Bool}{t:TypeId}{ks:List Nat}{x y:Operand}{cs ds:List AV}{b:Bool}{vx vy:Value}(hk:pM P t=some ks)
 (hx:Rv F w (.agg cs) vx) (hy:Rv F w (.agg ds) vy) (hb:dX ks cs ds=some b) (hop:(op = .eql/\neg=false)\/(op = .neq/\neg=true)) :
 ((do eqGuard op t x y vx vy;binOp op t vx vy):Sem Value).run P w = .ok (.bool (if neg then !b else b)) w:=by
 unfold pM at hk;split at hk;·simp at hk
 rename_i hgd;split at hk
 .rename_i l hg hl
  split at hk
  .rename_i hrange
   obtain⟨hrange,hsz⟩:=hrange;simp only[oSI]at hk;cases hx with
   | agg _ xs hlx hox hax =>
   cases hy with
   | agg _ ys hly hoy hay =>
   obtain⟨e1,e2,r,h1,h2⟩:=aEM hb;have hkl:ks.length=l.length:=by grind
   have hfst:∀(i:Nat)(p:Nat×Nat),l[i]?=some p->p.1=i:=λi p hp=>by
    have:(l.map (·.1))[i]?=some p.1:=by simp[hp]
    grind
   have hall:(l.all λp=>r p.1)=b:=by
    grind
   have hflat:=aEy (P:=P) w 100 t l hl 10000 AS xs ys 0 r (λp hp=>by
    obtain⟨i,hi⟩:=G9 hp;have hpi:=hfst i p hi;have hil:i<l.length:=(B6.1 hi).1;have hki:ks[i]?=some p.2:=by grind
    have hxi:i<cs.length:=AS
    have hyi:i<ds.length:=AS
    have hxs:i<xs.size:=AS
    have hys:i<ys.size:=AS
    rw[J6,hpi,E8 hxs,E8 hys];exact aRp (h1 i p.2 cs[i] ds[i] hki (by simp[hxi]) (by simp[hyi])) (hax i _ _ (by simp[hxi]) (by simp[hxs])) (hay i _ _ (by simp[hyi]) (by simp[hys])))
   have hb':(Op.equalIn 10000 t (.agg xs) (.agg ys)).run P w = .ok b w:=by
    obtain⟨va,vb,f1,f2,f3⟩:=hflat;rw[hall]at f3;rw[iN hg hsz]at f1 f2;have x1:xs.extract 0 (0+l.length)=xs:=by grind
    have x2:ys.extract 0 (0+l.length)=ys:=by grind
    grind
   grind [Sem.run_bind,run_eqGuard_agg,Result.andThen_ok,run_eql_struct,run_neq_struct]
  .simp at hk
 .simp at hk
theorem gG(e:TypeId)(c:Array Value)(w:World):(newRow e c).run P w = .ok ⟨w.heap.size,0,none⟩ (w.alloc (.cells c e)):=by
 rfl
theorem aWP{cs:List AV}{c:Array Value}{e:TypeId}(h:RL F w cs c):RB F w (.cells true cs) (.cells c e (0,0)) :=
 .cells true cs c e (0,0) (λi _=>by simp) (by rw[h.len];omega) h.one h.at_
theorem aMC(st:St F w H)(o:Obj):Up F w F (w.alloc o):=by
 have hget:∀ b,b<w.heap.size->(w.alloc o).heap[b]?=w.heap[b]?:=λb hb=>by
  show (w.heap.push o)[b]?=_
  grind
 exact⟨λ_ h=>h,λb hb=>hget b (st.lt b hb),λb c e fr hb=>⟨c,e,fr,by grind,rfl⟩,by simp⟩
theorem yN(st:St F w H){cs:List AV}{c:Array Value}(e:TypeId)(h:RL F w cs c) :
 H w.heap.size=none/\Ext F w H F (w.alloc (.cells c e)) (hset H w.heap.size (.cells true cs))/\St F (w.alloc (.cells c e)) (hset H w.heap.size (.cells true cs)) /\
 (w.alloc (.cells c e)).heap[w.heap.size]?=some (.cells c e (0,0)):=by
 obtain⟨h1,h2⟩:=oU st (o:=.cells c e) (aWP (e:=e) (h.up (aMC st _))) st.size_none;refine⟨?_,h1,h2,by show (w.heap.push _)[w.heap.size]?=_;simp⟩;cases hb:H w.heap.size with
 | none=>rfl
 | some x=>exact absurd (st.own_lt hb) AS
theorem aFm{z:List AV}{n i:Nat}(hi:i<n*z.length)(hz:0<z.length):(List.replicate n z).flatten[i]?=z[i%z.length]?:=by
 induction n generalizing i with
 | zero=>simp at hi
 | succ n ih =>
   rw[O4,M6,G8];split;all_goals grind [Nat.mod_eq_of_lt,Nat.mod_eq_sub_mod]
theorem aQS{n:Nat}{z:List AV}:(List.replicate n z).flatten.length=n*z.length:=by simp
theorem aDK{z:List AV}{v:Array Value}{n:Nat}(h:RL F w z v) :
 RL F w (List.replicate n z).flatten ((Array.range (n*z.length)).map (v[· % v.size]!)):=by
 have hl:=h.len;have hget:∀ i x,((Array.range (n*z.length)).map (v[· % v.size]!))[i]?=some x->i<n*z.length/\0<z.length/\v[i%v.size]?=some x:=λi x hx=>by
  simp only[M8]at hx;by_cases hi:i<n*z.length
  .have hz:0<z.length:=by
    grind
   grind [Nat.mod_lt]
  grind
 refine⟨by simp,λi x hx=>h.one _ _ (hget i x hx).2.2,λi c x hc hx=>?_⟩;obtain⟨h1,h2,h3⟩:=hget i x hx;rw[aFm h1 h2]at hc;rw[<-hl]at h3;exact h.at_ _ _ _ hc h3
theorem aDL:RL F w [] #[]:=⟨rfl,λi v h=>by simp at h,λi c v h=>by simp at h⟩
theorem aGO{b o:Nat}{c:Array Value}{e:TypeId}{fr:Nat×Nat}(h:w.heap[b]?=some (.cells c e fr))(v:Value) :
 (w.setCell ⟨b,o,none⟩ v).heap=w.heap.setIfInBounds b (.cells (c.setIfInBounds o v) e fr):=by
 have hlt:b<w.heap.size:=(F9.1 h).1;apply aD1;intro i;simp only[World.setCell,Array.getElem?_modify,H8]
 grind
theorem jJ(b off:Nat)(e:TypeId)(fr:Nat×Nat):∀(vs:List Value)(i:Nat)(w:World)(c:Array Value),w.heap[b]?=some (.cells c e fr) ->
 (∀ j,j<c.size->(fr.1<=j&&j<fr.2)=false)->off+i+vs.length<=c.size->(∀ v∈vs,v.oneCell'=true) ->
 ∃ w' c',(storeCells ⟨b,off,none⟩ vs i).run P w = .ok () w'/\(w'.heap=w.heap.setIfInBounds b (.cells c' e fr)/\SameIO w w')/\c'.size=c.size /\
   ∀ k:Nat,c'[k]?=if off+i<=k/\k<off+i+vs.length then vs[k-(off+i)]? else c[k]?
 | [],i,w,c,hb,_,_,_=>by
   refine⟨w,c,by rfl,⟨?_,SameIO.refl w⟩,rfl,λk=>by grind⟩
   grind
 | v::vs,i,w,c,hb,hfr,hle,hone=>by
   simp only[D7]at hle;have hcell:w.cell? ⟨b,off+i,none⟩=some c[off+i]:=by simp[World.cell?,hb,show off+i<c.size by omega]
   have hfz:w.frozen? ⟨b,off+i,none⟩=false:=by
    have:=hfr (off+i) AS;simp only[World.frozen?,hb];exact this
   have hheap:=aGO (o:=off+i) hb v;have hb':(w.setCell ⟨b,off+i,none⟩ v).heap[b]?=some (.cells (c.setIfInBounds (off+i) v) e fr):=by
    grind
   obtain⟨w',c',h1,h2,h3,h4⟩:=jJ b off e fr vs (i+1) (w.setCell ⟨b,off+i,none⟩ v) (c.setIfInBounds (off+i) v) hb'
    (λj hj=>hfr j (by grind)) (by grind) (λx hx=>hone x (by simp[hx]))
   refine⟨w',c',?_,⟨?_,SameIO.trans (w':=w.setCell ⟨b,off+i,none⟩ v) ⟨rfl,rfl,rfl⟩ h2.2⟩,by grind,λk=>?_⟩;·simp only[storeCells,gE,Sem.run_bind,run_store P w _ v _ (hone v (by simp)),hcell,hfz,C6,AAd,Result.andThen_ok,h1]
   .grind
   grind
theorem aFJ(st:St F w H){b off:Nat}{cs vs:List AV}{us:Array Value}(hb:H b=some (.cells true cs))(hv:RL F w vs us)(hle:off+vs.length<=cs.length) :
 ∃ w',(storeCells ⟨b,off,none⟩ us.toList 0).run P w = .ok () w'/\Ext F w H F w' (hset H b (.cells true (bJ cs off vs)))/\St F w' (hset H b (.cells true (bJ cs off vs))):=by
 obtain⟨o,ho,hr⟩:=st.blk b _ hb;cases hr with
 | cells p cs c e fr hfr hl h1 h2 =>
   have hlen:=hv.len;obtain⟨w',c',g1,g2,g3,g4⟩:=jJ (P:=P) b off e fr us.toList 0 w c ho hfr (by simp;omega) (λv hv'=>by
    obtain⟨i,hi⟩:=G9 hv';exact hv.one i v (by grind))
   refine⟨w',g1,?_⟩;refine nE st hb rfl ho g2.1 g2.2 (λc0 e0 fr0 h=>?_) (λF1 w1 hu=>?_);·grind
   .simp only[G7,I0,I6]at g4
    have hgA:∀ i,(bJ cs off vs)[i]?=if off<=i/\i<off+vs.length then vs[i-off]? else cs[i]?:=λi=>by
     unfold bJ;rw[aE2,G8,G8]
     grind
    refine .cells true _ c' e fr (λi hi=>hfr i AS) ?_ (λi v hi=>?_) (λi x v hx hi=>?_);·rw[g3];unfold bJ;simp;omega
    .rw[g4]at hi
     split at hi;·exact hv.one _ _ hi
     grind
    .rw[g4]at hi
     rw[hgA]at hx;split at hi;·rename_i h3;rw[if_pos AS]at hx;exact(hv.at_ _ _ _ hx hi).up hu
     .rename_i h3;rw[if_neg AS]at hx;exact(h2 _ _ _ hx hi).up hu
theorem aMK(st:St F w H){t:TypeId}{n:Nat}{p x:AV}{vp vx:Value}{H':Hp}(hn:nH P t=some n)(hp:Rv F w p vp)(hx:Rv F w x vx)
 (hs:qW n H p x=some H'):∃ w',(Instr.storeAt t vp vx).run P w = .ok () w'/\Ext F w H F w' H'/\St F w' H':=by
 cases hp with
 | pt b o =>
   simp only[qW]at hs;split at hs
   .rename_i cs vs hb hc
    split at hs
    .rename_i hle
     simp only[oSI]at hs;subst hs;have hv:=aAd hx hc;obtain⟨w',h1,h2⟩:=aFJ (P:=P) st hb hv (off:=o) AS;refine⟨w',?_,h2⟩;have:=hv.len;simp only[Instr.storeAt,Instr.sureAddr,storeVar,Sem.run_bind,Sem.run_pure,Result.andThen_ok,bH hn,Sem.run_ite]
     grind
    .simp at hs
   .simp at hs
 | _=>simp[qW]at hs
theorem aHB{rows:List (List AV)}{blk off s:Nat}(h:∀(i:Nat)(r:List AV),rows[i]?=some r->r.length=s/\Lies F w r blk (off+i*s)):Lies F w rows.flatten blk off:=by
 induction rows generalizing off with
 | nil=>simp[Lies]
 | cons r rows ih =>
   intro j c hj;obtain⟨hr,hl⟩:=h 0 r rfl;rw[M6,G8]at hj;split at hj;·grind [Lies]
   .have:=ih (off:=off+s) (λi r' hi=>by
     obtain⟨h1,h2⟩:=h (i+1) r' (by grind)
     grind) (j-r.length) c hj
    grind
theorem aJg{rows:List (List AV)}{s:Nat}(h:∀ r∈rows,r.length=s):rows.flatten.length=rows.length*s:=by
 induction rows with
 | nil=>simp
 | cons r rows ih=>grind
theorem aIC(s:ByteArray)(m:Nat):RL F w ((s.data.toList.map λb=>AV.int .u8 (b.toNat:Int)).take m) ((s.extract 0 m).data.map λb=>Value.int .u8 b.toNat):=by
 have e:(s.extract 0 m).data.toList=s.data.toList.take m:=by
  simp_all
 refine⟨?_,λi v hv=>?_,λi c v hc hv=>?_⟩;·simp_all
 .rw[M8]at hv
  cases hx:(s.extract 0 m).data[i]? with
  | none=>grind
  | some x=>rw[hx]at hv;simp only[D1,oSI]at hv;subst hv;rfl
 .rw[M8,<-I0,e]at hv
  rw[<-aG4,C3]at hc;cases hx:(s.data.toList.take m)[i]? with
  | none=>grind
  | some x =>
    rw[hx]at hv hc;simp only[D1,oSI]at hv hc;subst hv hc;exact .int _ _
theorem aCN(st:St F w H){s:Nat}{y:AV}{vy:Value}{n:Nat}{new:List AV}(hy:Rv F w y vy)(hs:fX s H y=some (n,new)) :
 (Builtin.lenOf vy).run P w = .ok n w/\new.length=n*s/\∃ us,(Builtin.firstCells s n vy).run P w = .ok us w/\RL F w new us /\
  ∀ m,m<=n->∃ us',(Builtin.firstCells s m vy).run P w = .ok us' w/\RL F w (new.take (m*s)) us':=by
 have fin:∀(b o len:Nat)(cap:Nat)(new:List AV),new.length=len*s->Lies F w new b o->∀ m,m<=len ->
  ∃ us',(Builtin.firstCells s m (.slice (some ⟨b,o,none⟩) len cap)).run P w = .ok us' w/\RL F w (new.take (m*s)) us':=by
  intro b o len cap new hl hL m hm;have h1:=hL.take (m*s);obtain⟨us,h2,h3⟩:=gM (P:=P) h1;have e:(new.take (m*s)).length=m*s:=by
   simp_all
  rw[e]at h2;exact⟨us,by simpa [Builtin.firstCells]using h2,h3⟩
 cases hy with
 | nilsl =>
   simp only[fX,oSI,B9]at hs;obtain⟨rfl,rfl⟩:=hs;exact⟨by rfl,by simp,#[],by rfl,aDL,λm hm=>⟨#[],by rfl,by simpa using aDL⟩⟩
 | fs0 a0 cap =>
   simp only[fX,List.all_nil,AAe,oSI,B9,aF7,aA7]at hs;obtain⟨rfl,rfl⟩:=hs;refine⟨by rfl,by simp,#[],?_,aDL,λm hm=>⟨#[],?_,by simpa using aDL⟩⟩;·cases a0<;>simp[Builtin.firstCells,loadCells,loadCellsFrom]
   .obtain rfl:m=0:=AS
    cases a0<;>simp[Builtin.firstCells,loadCells,loadCellsFrom]
 | fs rows blk off s' cap g hcap hF hs' hc ho h =>
   simp only[fX]at hs;split at hs
   .rename_i hall
    simp only[oSI,B9]at hs;obtain⟨rfl,rfl⟩:=hs;have hrow:∀ r∈rows,r.length=s:=λr hr=>by grind
    have hL:Lies F w rows.flatten blk off:=aHB (s:=s) λi r hi=>by
     have hm:=B3 hi;have e:s'=s:=by grind
     simp_all [Lies]
    have hl:=aJg hrow;have f:=fin blk off rows.length cap rows.flatten hl hL;obtain⟨us,h1,h2⟩:=f rows.length (B5 _);exact⟨by rfl,hl,us,h1,by grind,f⟩
   .simp at hs
 | sl b o s' len cap c e fr hb hcap hlen =>
   simp only[fX]at hs;split at hs
   .rename_i p cs hH
    split at hs
    .rename_i hle
     simp only[oSI,B9]at hs;obtain⟨rfl,rfl⟩:=hs;have hL:Lies F w ((cs.drop o).take (len*s)) b o:=by
      have:=((uK st hH).drop o).take (len*s)
      grind
     have hl:((cs.drop o).take (len*s)).length=len*s:=by simp;omega
     have f:=fin b o len cap _ hl hL;obtain⟨us,h1,h2⟩:=f len (B5 _);refine⟨by rfl,hl,us,h1,?_,f⟩
     grind
    .simp at hs
   .simp at hs
 | str x =>
   simp only[fX]at hs;split at hs<;>simp only[oSI,B9,reduceCtorEq]at hs
   rename_i h1;subst h1;obtain⟨rfl,rfl⟩:=hs;have hl:(x.data.toList.map λb=>AV.int .u8 (b.toNat:Int)).length=x.size:=by simp_all
   have h0:=aIC (F:=F) (w:=w) x x.size;rw[C9 AS]at h0;exact⟨by rfl,by omega,_,by rfl,h0,λm hm=>⟨(x.extract 0 m).data.map λb=>Value.int .u8 b.toNat,by rfl,by rw[aE3];exact aIC x m⟩⟩
 | _=>simp[fX]at hs
theorem aGc(n:Nat):∀(r c:Nat),Builtin.growBy n r c<=(c+768)*2^r
 | 0,c=>by simp[Builtin.growBy]
 | r+1,c=>by
   simp only[Builtin.growBy];split
   .have:1<=2^(r+1):=aD2
    calc c<=(c+768)*1:=AS
     _<=(c+768)*2^(r+1):=Nat.mul_le_mul_left _ this
   .refine H9 (aGc n r _) ?_
    rw[Nat.pow_succ,Nat.mul_comm (2^r) 2,<-Nat.mul_assoc];exact G3 _ AS
theorem aKm{n c:Nat}(h:c<n):Builtin.nextslicecap n c<=(n+768)*16:=by
 unfold Builtin.nextslicecap
 grind [aGc]
theorem aDE(need old:Nat)(e:TypeId)(w:World)(hn:need<=1099511627776) :
 ∃ c,need<=c/\(choose (.appendCap need old e)).run P w = .ok c w.drew:=by
 refine⟨(Question.appendCap need old e).cut (w.tape w.drawn (.appendCap need old e)),?_,?_⟩;·exact Nat.le_add_right _ _
 rfl
theorem aFN{cs ds:List AV}{us vs:Array Value}(h:RL F w cs us)(k:RL F w ds vs):RL F w (cs++ds) (us++vs):=by
 have hl:=h.len;refine⟨by simp[h.len,k.len],λi v hv=>?_,λi c v hc hv=>?_⟩
 .rw[O9]at hv
  split at hv;·exact h.one _ _ hv
  .exact k.one _ _ hv
 .rw[O9]at hv
  rw[G8]at hc;split at hv;·rename_i hi;rw[if_pos AS]at hc;exact h.at_ _ _ _ hc hv
  .rename_i hi;rw[if_neg AS,hl]at hc;exact k.at_ _ _ _ hc hv
theorem aHf{z:List AV}{v:Array Value}{n:Nat}(h:RL F w z v):RL F w (List.replicate n z).flatten (Builtin.zeroCells v n):=by
 have:=aDK (n:=n) h;unfold Builtin.zeroCells;rw[h.len]at this;exact this
theorem aCK(F:Nat->Prop)(w:World):Up F w F w.drew:=⟨λ_ h=>h,λ_ _=>rfl,λ_ c e fr h=>⟨c,e,fr,h,rfl⟩,B5 _⟩
theorem aEr(st:St F w H){e:TypeId}{cs new z:List AV}{us vs zv:Array Value}{need newCap s:Nat}(hc:RL F w cs us)(hn:RL F w new vs)(hz:RL F w z zv)
 (hzl:z.length=s) (hlen:cs.length+new.length=need*s) (hcap:need<=newCap) :
 ∃ c w',(newRow e (us++vs++Builtin.zeroCells zv (newCap-need))).run P w.drew = .ok c w'/\c=⟨w.heap.size,0,none⟩/\H w.heap.size=none /\
   Ext F w H F w' (hset H w.heap.size (.cells true (cs++new)))/\St F w' (hset H w.heap.size (.cells true (cs++new))) /\
   Rv F w' (.sl w.heap.size 0 s need) (.slice (some ⟨w.heap.size,0,none⟩) need newCap)/\∃ c0 fr0,w'.heap[w.heap.size]?=some (.cells c0 e fr0)/\newCap*s<=c0.size:=by
 have hz':=aHf (n:=newCap-need) hz;have hall:=(aFN (aFN hc hn) hz').up (aCK F w);obtain⟨h1,h2,h3,h4⟩:=yN (aAE st) e hall;have hext:=(jE F w H).trans h2;have hsz:w.drew.heap.size=w.heap.size:=rfl;rw[hsz]at h1 h2 h3 h4 hext;refine⟨_,_,gG _ _ _,rfl,h1,?_,?_,?_⟩
 .exact⟨hext.sub,λb hb=>.inl hb,λb hb=>hext.hdom b (by
   by_cases h0:b=w.heap.size;all_goals simp_all [hset]),λb hb=>hext.hnew b (by
   by_cases h0:b=w.heap.size;·subst h0;simp[wE,ABlk.wr]
   simp_all [wE,hset]),hext.le,hext.same,hext.cells,hext.io⟩
 .refine⟨h3.lt,λb x hb=>?_,λb x hb=>?_⟩
  .by_cases h0:b=w.heap.size
   .subst h0;exact h3.dis _ _ (hset_same _ _ _)
   .rw[aL _ _ h0]at hb;exact h3.dis b x (by simp_all [hset])
  .by_cases h0:b=w.heap.size
   .subst h0
    simp only[hset_same,oSI]at hb;subst hb;obtain⟨o,ho,hr⟩:=h3.blk w.heap.size _ (hset_same _ _ _);refine⟨o,ho,?_⟩;cases hr with
    | cells p cs0 c e fr hfr hl h1' h2' =>
      refine .cells true _ c e fr hfr (by grind) h1' (λi x v hx hv=>h2' i x v ?_ hv)
      grind
   .rw[aL _ _ h0]at hb
    exact h3.blk b x (by simp_all [hset])
 .have goal:∀ x,0+newCap*s<=x->newCap*s<=x:=λx hx=>by omega
  suffices hroom:_ from ⟨.sl _ 0 s need newCap _ _ _ h4 hroom hcap,_,_,h4,goal _ hroom⟩
  have e1:=hc.len;have e2:=hn.len;have e3:=hz'.len;have e4:(List.replicate (newCap-need) z).flatten.length=(newCap-need)*s:=by simp_all
  simp only[Array.size_append];rw[<-e1,<-e2,<-e3,e4,hlen,J6,Nat.sub_mul];omega
theorem aLm(st:St F w H){t u e e' ty:TypeId}{i:TypeInfo}{z:List AV}{x y:AV}{vx vy:Value}{eff:Eff}(ht:P.underlying t=some (.slice e))
 {d:TypeDesc} (hu:P.underlying u=some d) (hd:d = .slice e'\/d = .string) (hi:P.info? e=some i) (hz:vE P e=some z) (hzl:z.length=i.size) (hby:i.bytes<=1048576)
 (hx:Rv F w x vx) (hy:Rv F w y vy) {bts:Nat} (hbt:bts=i.bytes\/(bts=1048577/\e=aJy/\i.bytes=1/\i.size=1)) (ha:tO i.size bts H x y=some eff) :
 match eff with
 | .val v=>∃ c,(Builtin.append_ #[t,u] ty #[vx,vy]).run P w = .ok c w/\Rv F w v c
 | .new own b f=>∃ j c w',(H j=none\/own=some j)/\(Builtin.append_ #[t,u] ty #[vx,vy]).run P w = .ok c w'/\Ext F w H F w' (hset H j b)/\St F w' (hset H j b)/\Rv F w' (f j) c:=by
 obtain⟨i',v,hi',hv,hzr⟩:=aAx (F:=F) (w:=w) hz;rw[hi]at hi';obtain rfl:i=i':=by grind
 have hsz:nH P e=some i.size:=by simp[nH,hi]
 unfold tO at ha;split at ha;·simp at ha
 rename_i n new hsrc;obtain⟨s1,s2,us,s3,s4,_⟩:=aCN (P:=P) st hy hsrc;obtain⟨_,_,us2,r2,s5,_⟩:=aCN (P:=P) (aAE st) (hy.up (aCK F w)) hsrc;have hti:∀ w',(typeInfo e).run P w' = .ok i w':=λw'=>by simp[typeInfo,hi]
 have fits_some:∀(b o sLen sCap:Nat)(w':World),sLen+n<=sCap->(storeCells ⟨b,o+sLen*i.size,none⟩ us.toList).run P w = .ok () w' ->
  (Builtin.append_ #[t,u] ty #[.slice (some ⟨b,o,none⟩) sLen sCap,vy]).run P w = .ok (.slice (some ⟨b,o,none⟩) (sLen+n) sCap) w':=by
  intro b o sLen sCap w' hle hst;unfold Builtin.append_
  rcases hd with rfl|rfl<;>simp only[aA0,F6,I1,Sem.run_bind,run_underlying ht,Result.andThen_ok,bH hsz,run_underlying hu,Sem.run_pure,
   C6,AAd,s1,J1,AAe,hle,s3,gE,hst]
 have fits_none:∀(sLen sCap:Nat),sLen+n<=sCap ->
  (Builtin.append_ #[t,u] ty #[.slice none sLen sCap,vy]).run P w = .ok (.slice none (sLen+n) sCap) w:=by
  intro sLen sCap hle;unfold Builtin.append_
  rcases hd with rfl|rfl<;>simp only[aA0,F6,I1,Sem.run_bind,run_underlying ht,Result.andThen_ok,bH hsz,run_underlying hu,Sem.run_pure,
   C6,AAd,s1,J1,AAe,hle,s3]
 have grows:∀(base:Option Addr)(sLen sCap:Nat)(old:Array Value),¬sLen+n<=sCap->(sLen+n)*i.bytes<=1099511627776->sLen+n<=1099511627776 ->
  (Builtin.firstCells i.size sLen (.slice base sLen sCap)).run P w.drew = .ok old w.drew ->
  (∀ newCap,sLen+n<=newCap->∃ c w',(newRow e (old++us2++Builtin.zeroCells v.cells (newCap-(sLen+n)))).run P w.drew = .ok c w') ->
  ∃ newCap c w',sLen+n<=newCap/\(newRow e (old++us2++Builtin.zeroCells v.cells (newCap-(sLen+n)))).run P w.drew = .ok c w' /\
    (Builtin.append_ #[t,u] ty #[.slice base sLen sCap,vy]).run P w = .ok (.slice (some c) (sLen+n) newCap) w':=by
  intro base sLen sCap old hle hb1 hb2 r1 hrow;obtain⟨newCap,hcap,hch⟩:=aDE (P:=P) (sLen+n) sCap e w hb2;obtain⟨c,w',hr⟩:=hrow newCap hcap;refine⟨newCap,c,w',hcap,hr,?_⟩;have hn1:¬(((sLen+n:Nat):Int)>IntKind.i64.max/\(False\/i.bytes=0)):=by
   rintro ⟨h1,_⟩;have:IntKind.i64.max=9223372036854775807:=by decide
   omega
  have hn2:¬Builtin.nextslicecap (sLen+n) sCap*i.bytes>2^48:=by
   have h1:=aKm (show sCap<sLen+n by omega);have h2:Builtin.nextslicecap (sLen+n) sCap*i.bytes<=(sLen+n+768)*16*i.bytes:=G3 _ h1
   grind
  unfold Builtin.append_;rcases hd with rfl|rfl <;>
  (simp only[aA0,F6,I1,Sem.run_bind,run_underlying ht,Result.andThen_ok,bH hsz,run_underlying hu,Sem.run_pure,
    C6,AAd,s1,J1,AAe,hle,Sem.run_ite,hti,false_or]at hn1 ⊢
   rw[if_neg hn1];simp only[Sem.run_pure,Result.andThen_ok,hn2,AAd,hch,run_askRoom,r1,r2,kT hi hv,hr])
 cases hx with
 | nilsl =>
   simp only at ha;split at ha
   .rename_i hb
    split at ha
    .rename_i hn0
     simp only[oSI]at ha;subst ha hn0;exact⟨_,fits_none 0 0 AS,.nilsl⟩
    .rename_i hn0
     simp only[oSI]at ha;subst ha;have gr:=λnewCap hcap=>aEr (P:=P) (s:=i.size) st (e:=e) (cs:=[]) (new:=new) (us := #[]) (vs:=us2) (need:=0+n) (newCap:=newCap) (z:=z) aDL (s5.up (show Up F w.drew F w from ⟨λ_ h=>h,λ_ _=>rfl,λ_ c e fr h=>⟨c,e,fr,h,rfl⟩,B5 _⟩)) hzr hzl (by simp[s2]) hcap;obtain⟨newCap,c,w',hcap,hrow,hrun⟩:=grows none 0 0 #[] AS (by
      grind) AS (by rfl) (λnewCap hcap=>by
      grind)
     obtain⟨c2,w2,g1,g2,g3,g4,g5,g6,c0,fr0,g7,g8⟩:=gr newCap hcap;rw[g1]at hrow;simp only[Result.ok.injEq]at hrow;obtain⟨rfl,rfl⟩:=hrow;subst g2;simp only[J6,D4]at hrun g4 g5 g6 hcap;refine⟨w.heap.size,_,_,.inl g3,hrun,g4,g5,?_⟩;split
     .rename_i h0
      rcases hbt with rfl|⟨_,he,_,hs1⟩;·omega
      .subst he
       exact .sb _ n newCap c0 fr0 g7 (by grind) hcap
     .exact g6
   .simp at ha
 | sl b o s' len cap c0 e0 fr0 hb0 hcap0 hlen0 =>
   cases o with
   | succ o=>simp at ha
   | zero =>
   simp only at ha;split at ha
   .rename_i cs hb
    split at ha
    .rename_i hc
     obtain⟨es,hlen,hb1,hb2⟩:=hc;simp only[oSI]at ha;subst ha;subst es;by_cases hfit:len+n<=cap
     ·-- in its own block
      obtain⟨ob,hob,hr⟩:=st.blk b _ hb;cases hr with
      | cells p cs c e1 fr hfr hl h1 h2 =>
        rw[hob]at hb0;simp only[oSI,Obj.cells.injEq]at hb0;obtain⟨rfl,rfl,rfl⟩:=hb0;have hsl:=s4.len;have hroom:len*i.size+n*i.size<=c.size:=by
         have:=G3 i.size hfit
         grind
        obtain⟨w',c',g1,g2,g3,g4⟩:=jJ (P:=P) b (0+len*i.size) e1 fr us.toList 0 w c hob hfr (by simp;omega) (λv hv'=>by
         obtain⟨j,hj⟩:=G9 hv';exact s4.one j v (by grind))
        simp only[G7,I0,I6,J6]at g4;have hET:=nE (w':=w') (y:=.cells true (cs++new)) st hb rfl hob g2.1 g2.2 (λc1 e2 fr1 h=>by grind) (λF1 w1 hu=>by
         refine .cells true _ c' e1 fr (λj hj=>hfr j AS) (by grind) (λj v hj=>?_) (λj x v hx hj=>?_)
         .rw[g4]at hj
          split at hj;·exact s4.one _ _ hj
          grind
         .rw[g4]at hj
          rw[G8]at hx;split at hj
          .rename_i h3
           rw[if_neg AS,<-hlen]at hx;exact(s4.at_ _ _ _ hx hj).up hu
          .rename_i h3
           have hjl:j<(cs++new).length:=by
            grind
           rw[E6]at hjl;rw[if_pos AS]at hx;exact(h2 _ _ _ hx hj).up hu)
        refine⟨b,_,w',.inr rfl,fits_some b 0 len cap w' hfit g1,hET.1,hET.2,?_⟩;obtain⟨c2,e2,f2,k1,k2⟩:=hET.1.cells b c e1 fr hob;have k2:=(Prod.mk.inj k2).1;exact .sl b 0 i.size (len+n) cap c2 e2 f2 k1 AS hfit
     ·-- in a new one
      have hL:Lies F w cs b 0:=uK st hb;obtain⟨old,o1,o2⟩:=gM (P:=P) (w:=w.drew) (cs:=cs) (b:=b) (o:=0) (F:=F) (λj x hj=>by
       obtain⟨v1,q1,q2,q3⟩:=hL j x hj;exact⟨v1,q1,q2,q3.up (aCK F w)⟩)
      have back:Up F w.drew F w:=⟨λ_ h=>h,λ_ _=>rfl,λ_ c e fr h=>⟨c,e,fr,h,rfl⟩,B5 _⟩;have gr:=λnewCap hcap=>aEr (P:=P) (s:=i.size) st (e:=e) (cs:=cs) (new:=new) (us:=old) (vs:=us2) (need:=len+n) (newCap:=newCap) (z:=z) (o2.up back) (s5.up back) hzr hzl (by grind) hcap;obtain⟨newCap,c,w',hcap,hrow,hrun⟩:=grows (some ⟨b,0,none⟩) len cap old hfit (by
       grind) hb2 (by rw[<-hlen]at o1;simpa [Builtin.firstCells]using o1) (λnewCap hcap=>by
       grind)
      obtain⟨c2,w2,g1,g2,g3,g4,g5,g6,_⟩:=gr newCap hcap
      grind
    .simp at ha
   .simp at ha
 | sb b len cap c0 fr0 hb0 hcap0 hlen0 =>
   simp only at ha;split at ha
   .rename_i cs hb
    split at ha
    .rename_i hc
     obtain⟨htag,hs1,hlen,hb2⟩:=hc;simp only[oSI]at ha;subst ha;obtain⟨he,hby1⟩:e=aJy/\i.bytes=1:=by
      grind
     by_cases hfit:len+n<=cap
     ·-- in its own block
      obtain⟨ob,hob,hr⟩:=st.blk b _ hb;cases hr with
      | cells p cs c e1 fr hfr hl h1 h2 =>
        rw[hob]at hb0;simp only[oSI,Obj.cells.injEq]at hb0;obtain⟨rfl,rfl,rfl⟩:=hb0;have hsl:=s4.len;rw[hs1,aE3]at s2;have hroom:len+n<=c.size:=AS
        obtain⟨w',c',g1,g2,g3,g4⟩:=jJ (P:=P) b (0+len*i.size) aJy fr us.toList 0 w c hob hfr (by grind) (λv hv'=>by
         obtain⟨j,hj⟩:=G9 hv';exact s4.one j v (by grind))
        rw[hs1]at g4;simp only[G7,I0,I6,J6,aE3]at g4;have hET:=nE (w':=w') (y:=.cells true (cs++new)) st hb rfl hob g2.1 g2.2 (λc1 e2 fr1 h=>by grind) (λF1 w1 hu=>by
         refine .cells true _ c' _ fr (λj hj=>hfr j AS) (by grind) (λj v hj=>?_) (λj x v hx hj=>?_)
         .rw[g4]at hj
          split at hj;·exact s4.one _ _ hj
          grind
         .rw[g4]at hj
          rw[G8]at hx;split at hj
          .rename_i h3
           rw[if_neg AS,<-hlen]at hx;exact(s4.at_ _ _ _ hx hj).up hu
          .rename_i h3
           have hjl:j<(cs++new).length:=by
            grind
           rw[E6]at hjl;rw[if_pos AS]at hx;exact(h2 _ _ _ hx hj).up hu)
        refine⟨b,_,w',.inr rfl,fits_some b 0 len cap w' hfit g1,hET.1,hET.2,?_⟩;obtain⟨c2,e2,f2,k1,k2⟩:=hET.1.cells b c _ fr hob;obtain⟨k3,rfl⟩:=Prod.mk.inj k2;exact .sb b (len+n) cap c2 f2 k1 AS hfit
     ·-- in a new one
      have hL:Lies F w cs b 0:=uK st hb;obtain⟨old,o1,o2⟩:=gM (P:=P) (w:=w.drew) (cs:=cs) (b:=b) (o:=0) (F:=F) (λj x hj=>by
       obtain⟨v1,q1,q2,q3⟩:=hL j x hj;exact⟨v1,q1,q2,q3.up (aCK F w)⟩)
      have back:Up F w.drew F w:=⟨λ_ h=>h,λ_ _=>rfl,λ_ c e fr h=>⟨c,e,fr,h,rfl⟩,B5 _⟩;have gr:=λnewCap hcap=>aEr (P:=P) (s:=i.size) st (e:=e) (cs:=cs) (new:=new) (us:=old) (vs:=us2) (need:=len+n) (newCap:=newCap) (z:=z) (o2.up back) (s5.up back) hzr hzl (by grind) hcap;obtain⟨newCap,c,w',hcap,hrow,hrun⟩:=grows (some ⟨b,0,none⟩) len cap old hfit (by grind) hb2 (by rw[<-hlen]at o1;simpa [Builtin.firstCells,hs1]using o1) (λnewCap hcap=>by
       grind)
      obtain⟨c2,w2,g1,g2,g3,g4,g5,g6,c0',fr0',g7,g8⟩:=gr newCap hcap;rw[g1]at hrow;simp only[Result.ok.injEq]at hrow;obtain⟨rfl,rfl⟩:=hrow;subst g2;subst he;exact⟨w.heap.size,_,_,.inl g3,hrun,g4,g5,.sb _ _ newCap c0' fr0' g7 (by grind) hcap⟩
    .simp at ha
   .simp at ha
 | _=>simp at ha
theorem aOX(st:St F w H){t u e ty:TypeId}{s n:Nat}{x y:AV}{vx vy:Value}{H':Hp}(ht:P.underlying t=some (.slice e))(hs:nH P e=some s)
 (hx:Rv F w x vx) (hy:Rv F w y vy) (hc:aEH s H x y=some (n,H')) :
 ∃ w',(Builtin.copy_ #[t,u] ty #[vx,vy]).run P w = .ok (.int .i64 (n:Int)) w'/\Ext F w H F w' H'/\St F w' H':=by
 unfold aEH at hc;split at hc
 .rename_i b o s' len m new hsrc
  cases hx with
  | sl _ _ _ _ cap c0 e0 fr0 hb0 hcap0 hlen0 =>
  split at hc
  .rename_i cs hb
   split at hc
   .rename_i hle
    obtain⟨rfl,hle⟩:=hle;simp only[oSI,B9]at hc;obtain⟨rfl,rfl⟩:=hc;obtain⟨s1,s2,_,_,_,s6⟩:=aCN (P:=P) st hy hsrc;obtain⟨us,s7,s8⟩:=s6 (min m len) (Nat.min_le_left _ _);have hlen:(new.take (min m len*s')).length=min m len*s':=by
     simp_all
    have h3:=G3 s' (Nat.min_le_right m len);obtain⟨w',h1,h2⟩:=aFJ (P:=P) st hb s8 (off:=o) AS;refine⟨w',?_,h2⟩;unfold Builtin.copy_;simp only[aA0,F6,I1,Sem.run_bind,run_underlying ht,Result.andThen_ok,bH hs,s1,Sem.run_pure];rw[show Nat.min m len=min m len from rfl,s7];simp only[Result.andThen_ok,Sem.run_bind,h1];rfl
   .simp at hc
  .simp at hc
 .simp at hc
theorem aJR(st:St F w H)(re:RE F w env a){t e:TypeId}{len s:Nat}{parts:Array (Nat×Operand)}{z cs:List AV}{l:List (Nat×Nat×AO)}
 (ht:P.underlying t=some (.slice e)) (hs:nH P e=some s) (hz:vE P e=some z) (hl:aHo (λi=>some (i*s,s)) parts=some l)
 (hle:len*s<=16777216) (hzs:z.length=s) (hf:gU (List.replicate len z).flatten (l.map λp=>(p.1,p.2.1,aK env p.2.2))=some cs) :
 ∃ c w',(Instr.buildSlice t len (parts.map λ(i,x)=>(i,a.eval x))).run P w = .ok c w'/\H w.heap.size=none /\
   Ext F w H F w' (hset H w.heap.size (.cells true cs))/\St F w' (hset H w.heap.size (.cells true cs))/\Rv F w' (.sl w.heap.size 0 s len) c:=by
 obtain⟨i,v,hi,hv,hzr⟩:=aAx (F:=F) (w:=w) hz;have hmap:(parts.map λ(i,x)=>(i,a.eval x)).toList=parts.toList.map λp=>(p.1,a.eval p.2):=by simp
 have hzz:=aDK (n:=len) hzr;rw[hzs]at hzz;obtain⟨out,h1,h2⟩:=aCZ (place:=λi=>some (i*s,s)) (place':=λi=>some (i*s,s)) re hl (λi r hr=>hr) hf hzz;obtain⟨g1,g2,g3,g4⟩:=yN st e h2;refine⟨.slice (some ⟨w.heap.size,0,none⟩) len len,_,?_,g1,g2,g3,?_⟩
 .rw[<-hmap]at h1
  have hv':v.cells.size=s:=by rw[<-hzr.len,hzs]
  simp only[Instr.buildSlice,Sem.run_bind,run_underlying ht,Result.andThen_ok,bH hs,Sem.run_ite];rw[if_neg AS];by_cases h0:len*s=0
  .rw[if_pos h0]
   grind [Sem.run_pure,Result.andThen_ok,Sem.run_bind,gG]
  .rw[if_neg h0]
   simp only[Sem.run_bind,kT hi hv,Sem.run_pure,Result.andThen_ok,h1,gG]
 .refine .sl _ 0 s len len _ _ _ g4 ?_ (B5 _)
  rw[<-h2.len,J6];have hfl:∀(ps:List (Nat×Nat×AV))(z cs:List AV),gU z ps=some cs->cs.length=z.length:=by
   intro ps;induction ps with
   | nil=>intro z cs h;simp[gU]at h;subst h;rfl
   | cons p ps ih =>
     intro z cs h;obtain⟨off,n,v⟩:=p;simp only[gU]at h;split at h
     .split at h
      .rename_i hle
       rw[ih _ _ h];unfold bJ;simp;omega
      .simp at h
     .simp at h
  rw[hfl _ _ _ hf,aQS,hzs];omega
theorem aOV(st:St F w H){t e:TypeId}{i:TypeInfo}{z:List AV}{l c:Int}(ht:P.underlying t=some (.slice e))(hi:P.info? e=some i)(hz:vE P e=some z)
 (hzs:z.length=i.size) (h0:0<=l) (h1:l<=c) (h2:(i.bytes:Int)*c<=281474976710656) (h3:c<=9223372036854775807) :
 ∃ v w',(Instr.makeSlice t (.int .i64 l) (.int .i64 c)).run P w = .ok v w'/\H w.heap.size=none /\
   Ext F w H F w' (hset H w.heap.size (.cells true (List.replicate c.toNat z).flatten))/\St F w' (hset H w.heap.size (.cells true (List.replicate c.toNat z).flatten)) /\
   Rv F w' (.sl w.heap.size 0 i.size l.toNat) v:=by
 obtain⟨i',v,hi',hv,hzr⟩:=aAx (F:=F) (w:=w) hz;rw[hi]at hi';obtain rfl:i=i':=by grind
 have hsz:nH P e=some i.size:=by simp[nH,hi]
 have hzz:=aDK (n:=c.toNat) hzr;rw[hzs]at hzz;obtain⟨g1,g2,g3,g4⟩:=yN st e hzz;have wl:IntKind.i64.wrap l=l:=IntWalk.i64_in l AS;have wc:IntKind.i64.wrap c=c:=IntWalk.i64_in c AS;have hti:(typeInfo e).run P w = .ok i w:=by simp[typeInfo,hi]
 refine⟨.slice (some ⟨w.heap.size,0,none⟩) l.toNat c.toNat,_,?_,g1,g2,g3,?_⟩
 .have c1:(decide (c<0)||decide ((i.bytes:Int)*c>2^48))=false:=by
   grind
  simp only[Instr.makeSlice,Sem.run_bind,run_underlying ht,Result.andThen_ok,asInt,asIntOf,Sem.run_pure,hti,wl,wc,Sem.run_ite];rw[c1];have c2:decide (l<0)=false:=by simp;omega
  have c3:decide (l>c)=false:=by simp;omega
  simp only[c2,c3,Bool.or_self,C6,AAd,Sem.run_pure,Result.andThen_ok,run_askRoom,bH hsz];by_cases hn:c.toNat*i.size=0
  .rw[if_pos hn]
   grind [Result.andThen_ok,gG]
  .rw[if_neg hn]
   simp only[Sem.run_bind,kT hi hv,Sem.run_pure,Result.andThen_ok,gG]
 .refine .sl _ 0 i.size l.toNat c.toNat _ _ _ g4 ?_ AS
  simp
theorem aBH{d cap:Nat}{x:Option Operand}{y:Option AO}{n:Nat}{code:BoundsCode}(re:RE F w env a)(hx:coO x=some y)(h:aW cap d env y=some n) :
 (x=none/\n=d)\/(∃ o,x=some o/\(Instr.sliceBound (a.eval o) cap code).run P w = .ok n w/\n<=cap):=by
 cases x with
 | none=>simp only[coO,oSI]at hx;subst hx;simp_all [aW]
 | some o =>
   simp only[coO]at hx;cases hc:co o with
   | none=>grind
   | some z =>
     simp only[hc,D1,oSI]at hx;subst hx;have hr:=bM re hc;simp only[aW]at h;split at h
     .rename_i k m he
      rw[he]at hr;obtain⟨vo,hvo⟩:∃ vo,a.eval o=vo:=⟨_,rfl⟩;rw[hvo]at hr;cases hr;split at h
      .rename_i hle
       simp only[oSI]at h;subst h;refine .inr ⟨o,rfl,?_,by omega⟩;simp only[Instr.sliceBound,hvo,asIntOf,Sem.run_bind,Sem.run_pure,Result.andThen_ok,Sem.run_ite]
       grind
      .simp at h
     .simp at h
theorem jU{len cap h l:Nat}{lo hi:Option Operand}{lo' hi':Option AO}(isS:Bool)(re:RE F w env a)(hlo:coO lo=some lo')(hhi:coO hi=some hi')
 (h1:aW len len env hi'=some h) (h2:aW h 0 env lo'=some l) (hle:len<=cap) :
 (Instr.sliceBounds isS len cap (lo.map a.eval) (hi.map a.eval) none).run P w = .ok (l,h,cap) w/\l<=h/\h<=len:=by
 have hb:∀{k m n:Nat}{x:Option Operand}{y:Option AO},coO x=some y->aW k m env y=some n->x=none/\n=m\/∃ o z,x=some o/\y=some z/\n<=k:=by
  intro k m n x y hx hn;rcases aBH (P:=P) (code:=.index) re hx hn with h|⟨o,h,_,h'⟩;·exact .inl h
  .subst h
   simp only[coO]at hx;cases hc:co o with
   | none=>grind
   | some z=>grind
 have hup:∀{x:Option AO},aW len len env x=some h->aW cap len env x=some h:=by
  intro x hx;unfold aW at hx ⊢;split;all_goals grind
 have hhle:h<=len:=by
  grind
 have hlle:l<=h:=by
  grind
 refine⟨?_,hlle,hhle⟩;unfold Instr.sliceBounds;rcases aBH (P:=P) (code:=if isS then .sliceAcap else .sliceAlen) re hhi (hup h1)with ⟨rfl,rfl⟩|⟨o,rfl,hr,_⟩ <;>
 rcases aBH (P:=P) (code:=.sliceB) re hlo h2 with ⟨rfl,rfl⟩|⟨o',rfl,hr',_⟩ <;>
 simp only[Sem.run_bind,Sem.run_pure,Result.andThen_ok,aC3,D1,Option.isSome_none,C6,AAd, *]
theorem aOU(re:RE F w env a){t e:TypeId}{s:Nat}{x:AV}{vx:Value}{lo hi:Option Operand}{lo' hi':Option AO}{r:AV}
 (ht:P.underlying t=some (.slice e)) (hs:nH P e=some s) (hlo:coO lo=some lo') (hhi:coO hi=some hi') (hx:Rv F w x vx)
 (hr:mX s env lo' hi' x=some r) :
 ∃ c,(Instr.sliceAt t vx (lo.map a.eval) (hi.map a.eval) none).run P w = .ok c w/\Rv F w r c:=by
 have run:∀(ad:Option Addr)(len cap h l:Nat),len<=cap->aW len len env hi'=some h->aW h 0 env lo'=some l ->
  (Instr.sliceAt t (.slice ad len cap) (lo.map a.eval) (hi.map a.eval) none).run P w = .ok (.slice (if cap=l then ad else ad.map (·.add (l*s))) (h-l) (cap-l)) w:=by
  intro ad len cap h l hle h1 h2;have hb:=(jU (P:=P) true re hlo hhi h1 h2 hle).1;simp only[Instr.sliceAt,Instr.slice,Sem.run_bind,run_underlying ht,Result.andThen_ok,hb,bH hs,Sem.run_pure]
 have two:∀{n:Nat}{K:Nat->Nat->Option AV},(match aW n n env hi' with
  | some h=>match aW h 0 env lo' with
    | some l=>K h l
    | none=>none
  | none=>none)=some r->∃ h l,aW n n env hi'=some h/\aW h 0 env lo'=some l/\K h l=some r:=by
  grind
 unfold mX at hr;cases hx with
 | nilsl =>
   obtain⟨h,l,h1,h2,h3⟩:=two (K:=λ_ _=>some AV.nilsl) hr;simp only[oSI]at h3;subst h3;obtain⟨_,b1,b2⟩:=jU (P:=P) true re hlo hhi h1 h2 (B5 0);refine⟨_,run none 0 0 h l (B5 _) h1 h2,?_⟩;have e1:l=0:=AS
   have e2:h=0:=AS
   subst e1 e2;exact .nilsl
 | fs0 ad cap =>
   simp only[List.all_nil,AAe]at hr;obtain⟨h,l,h1,h2,h3⟩:=two (K:=λh l=>some (AV.fs ((([]:List (List AV)).drop l).take (h-l)))) hr;simp only[oSI]at h3;subst h3;obtain⟨_,b1,b2⟩:=jU (P:=P) (len:=0) (cap:=cap) true re hlo hhi h1 h2 (Nat.zero_le _);have e1:l=0:=AS
   have e2:h=0:=AS
   refine⟨_,run ad 0 cap h l (Nat.zero_le _) h1 h2,?_⟩;subst e1 e2;simpa using Rv.fs0 (F:=F) (w:=w) (if cap=0 then ad else ad.map (·.add (0*s))) cap
 | fs rows blk off s' cap g hcap hF hs' hc ho h0 =>
   simp only at hr;split at hr
   .rename_i hall
    obtain⟨h,l,h1,h2,h3⟩:=two (K:=λh l=>some (AV.fs ((rows.drop l).take (h-l)))) hr;simp only[oSI]at h3;subst h3;obtain⟨_,b1,b2⟩:=jU (P:=P) true re hlo hhi h1 h2 hcap;refine⟨_,run (some ⟨blk,off,none⟩) rows.length cap h l hcap h1 h2,?_⟩;by_cases hlt:l<h
    .rw[if_neg AS]
     simp only[D1,gE];have es:s'=s:=by
      have hm:rows[l]'AS∈rows:=List.getElem_mem _
      grind
     subst es;have hlen:((rows.drop l).take (h-l)).length=h-l:=by simp;omega
     have hget:∀(i:Nat)(r:List AV),((rows.drop l).take (h-l))[i]?=some r->rows[l+i]?=some r:=λi r hi=>by
      grind
     have:=Rv.fs (F:=F) (w:=w) ((rows.drop l).take (h-l)) blk (off+l*s') s' (cap-l) (λi j=>g (l+i) j) AS hF
      (λr hr=>hs' r (List.mem_of_mem_drop (aA5 hr)))
      (λi r j c hi hj=>by
       grind)
      (λi j=>ho _ _) (λi r j c hi hj=>h0 (l+i) r j c (hget i r hi) hj)
     grind
    .have e0:(rows.drop l).take (h-l)=[]:=by grind
     rw[e0,show h-l=0 by omega];exact .fs0 _ _
   .simp at hr
 | sl b o s' len cap c e0 fr hb hcap hlen =>
   simp only at hr;split at hr
   .rename_i es
    obtain⟨h,l,h1,h2,h3⟩:=two (K:=λh l=>if l<h then some (AV.sl b (o+l*s) s (h-l)) else if l=0 then some (.sl b o s 0) else some (.fs [])) hr;obtain⟨_,b1,b2⟩:=jU (P:=P) true re hlo hhi h1 h2 hlen;refine⟨_,run (some ⟨b,o,none⟩) len cap h l hlen h1 h2,?_⟩;split at h3
    .rename_i hlt
     simp only[oSI]at h3;subst h3;rw[if_neg AS];simp only[D1,gE];subst es;refine .sl b (o+l*s') s' (h-l) (cap-l) c e0 fr hb ?_ AS;rw[Nat.sub_mul];have:=G3 s' (show l<=cap by omega);omega
    .rename_i hlt
     split at h3
     .rename_i hl0
      simp only[oSI]at h3;subst h3 hl0 es;rw[show h-0=0 by omega];have ha:(if cap=0 then some (⟨b,o,none⟩:Addr) else (some (⟨b,o,none⟩:Addr)).map (·.add (0*s')))=some ⟨b,o,none⟩:=by
       split;·rfl
       .simp only[D1,gE,Nat.zero_mul,I6]
      rw[ha];exact .sl b o s' 0 (cap-0) c e0 fr hb AS (Nat.zero_le _)
     simp only[oSI]at h3;subst h3;rw[show h-l=0 by omega];exact .fs0 _ _
   .simp at hr
 | _=>simp at hr
def aHU(P:Program)(F:Nat->Prop)(w:World)(H:Hp)(a:Act)(o:Oper):Eff->Prop
 | .val v=>∃ c,(execOp a.eval o).run P w = .ok (.value c) w/\Rv F w v c
 | .new own x f=>∃ j c w',(H j=none\/own=some j)/\(execOp a.eval o).run P w = .ok (.value c) w'/\Ext F w H F w' (hset H j x)/\St F w' (hset H j x)/\Rv F w' (f j) c
theorem aPm{g:Bool}{t:TypeId}{n o:Nat}{cs:List AV}{vs:Array Value}{v:AV}(hg:eQ P t=some g)(hn:nH P t=some n)
 (hl:cs.length=vs.size) (ho:∀(i:Nat)(v:Value),vs[i]?=some v->v.oneCell'=true)
 (h:∀(i:Nat)(c:AV)(v:Value),cs[i]?=some c->vs[i]?=some v->Rv F w c v) (hr:iZ g n cs o=some v) :
 ∃ c,(part t vs o).run P w = .ok c w/\Rv F w v c:=by
 unfold iZ at hr;cases g with
 | true =>
   simp only[AAe]at hr;split at hr
   .rename_i hle
    simp only[oSI]at hr;subst hr;refine⟨_,iN hg hn w,.agg _ _ (by simp;omega) (λi v hv=>?_) (λi c v hc hv=>?_)⟩;all_goals grind [Array.getElem?_extract]
   .simp at hr
 | false =>
   simp only[C6,AAd]at hr;have hlt:o<vs.size:=by grind
   exact⟨vs[o],fH hg (by simp[hlt]) w,h o v _ hr (by simp[hlt])⟩
theorem aJV(re:RE F w env a){xs:Array Operand}{ys:List AO}(h:coL xs=some ys) :
 (ys.map (aK env)).length=(xs.map a.eval).size/\∀(i:Nat)(c:AV)(v:Value),(ys.map (aK env))[i]?=some c->(xs.map a.eval)[i]?=some v->Rv F w c v:=by
 obtain⟨h1,h2⟩:=aFX h;refine⟨by simp[h1],λi c v hc hv=>?_⟩;simp only[M8]at hv;cases hx:xs[i]? with
 | none=>grind
 | some x =>
   simp only[hx,D1,oSI]at hv;obtain⟨y,h3,h4⟩:=h2 i x (by grind)
   grind [bM]
theorem yX(a b:ByteArray):(a==b)=true↔a=b:=by
 obtain⟨⟨x⟩⟩:=a;obtain⟨⟨y⟩⟩:=b;show ((⟨x⟩:Array UInt8)==⟨y⟩)=true↔_;simp
theorem aAI{kd:TypeDesc}{q b:Bool}{k ka:AV}{vk va:Value}(hkd:(q=false/\∃ x,kd = .int x)\/(q=true/\kd = .string))(hk:Rv F w k vk)(ha:Rv F w ka va)
 (h:iV q k ka=some b):Instr.sameNow kd vk va=some b/\(b=true->va=vk/\Instr.sameBits 10000 vk vk=true):=by
 unfold iV at h;split at h
 .cases hk
  cases ha;rcases hkd with ⟨_,y,rfl⟩|⟨h1,_⟩
  .split at h
   .rename_i hkk
    subst hkk;refine⟨by simpa [Instr.sameNow]using h,λhb=>?_⟩;subst hb;simp at h;exact⟨by rw[h],by simp[Instr.sameBits]⟩
   .simp at h
  .simp at h1
 .cases hk
  cases ha;rcases hkd with ⟨h1,_⟩|⟨_,rfl⟩;·simp at h1
  .refine⟨by simpa [Instr.sameNow]using h,λhb=>?_⟩
   subst hb;simp only[oSI,yX]at h;exact⟨by rw[h],by simp only[Instr.sameBits,yX]⟩
 .simp at h
theorem aJj{kd:TypeDesc}{q:Bool}{k:AV}{vk:Value}(hkd:(q=false/\∃ x,kd = .int x)\/(q=true/\kd = .string))(hkv:Rv F w k vk) :
 ∀{es:List (AV×AV)}{l:List MapEntry}{i:Nat}{r:Option AV},es.length=l.length->(∀(i:Nat)(a:AV×AV)(x:MapEntry),es[i]?=some a->l[i]?=some x->Rv F w a.1 x.key/\Rv F w a.2 x.val) ->
   aV q k es=some r->∃ c,Instr.findNow kd vk l i=some c/\(match r with
    | some v=>∃ j y,c=some (j,y)/\Rv F w v y
    | none=>c=none)
 | [],[],i,r,_,_,hf=>by simp[aV]at hf;subst hf;exact⟨none,by rfl,rfl⟩
 | (ka,va)::es,x::l,i,r,hl,h,hf=>by
   obtain⟨hka,hva⟩:=h 0 (ka,va) x rfl rfl;simp only[aV]at hf;split at hf
   .rename_i hb
    simp only[oSI]at hf;subst hf;exact⟨_,by simp only[Instr.findNow,(aAI hkd hkv hka hb).1],i,x.val,rfl,hva⟩
   .rename_i hb
    obtain⟨c,h1,h2⟩:=aJj hkd hkv (i:=i+1) (by simpa using hl) (λj a y ha hy=>h (j+1) a y (by grind) (by grind)) hf;exact⟨c,by simp only[Instr.findNow,(aAI hkd hkv hka hb).1];exact h1,h2⟩
   .simp at hf
 | [],_::_,_,_,hl,_,_=>by simp at hl
 | _::_,[],_,_,hl,_,_=>by simp at hl
theorem aLt{kd:TypeDesc}{q:Bool}{k v:AV}{vk vv:Value}{clock:Nat}(hkd:(q=false/\∃ x,kd = .int x)\/(q=true/\kd = .string))(hkv:Rv F w k vk)(hvv:Rv F w v vv) :
 ∀{es es':List (AV×AV)}{l:List MapEntry}{i:Nat},es.length=l.length->(∀(i:Nat)(a:AV×AV)(x:MapEntry),es[i]?=some a->l[i]?=some x->Rv F w a.1 x.key/\Rv F w a.2 x.val) ->
   kU q k v es=some es'->∃ c,Instr.findNow kd vk l i=some c/\(match c with
    | some (j,_)=>∃ e,i<=j/\l[j-i]?=some e/\(e.key=vk/\Instr.sameBits 10000 vk vk=true)/\es'.length=l.length /\
     ∀(n:Nat)(a:AV×AV)(x:MapEntry),es'[n]?=some a->(if n=j-i then some { e with val:=vv } else l[n]?)=some x->Rv F w a.1 x.key/\Rv F w a.2 x.val
    | none=>es'.length=l.length+1/\∀(n:Nat)(a:AV×AV)(x:MapEntry),es'[n]?=some a->(l++[{ key:=vk,val:=vv,born:=clock }])[n]?=some x->Rv F w a.1 x.key/\Rv F w a.2 x.val)
 | [],es',[],i,_,_,hf=>by
   simp[kU]at hf;subst hf;refine⟨none,by rfl,rfl,λn a x ha hx=>?_⟩
   grind
 | (ka,va)::es,es',x::l,i,hl,h,hf=>by
   obtain⟨hka,hva⟩:=h 0 (ka,va) x rfl rfl;simp only[kU]at hf;split at hf
   .rename_i hb
    simp only[oSI]at hf;subst hf;obtain⟨s1,s2⟩:=aAI hkd hkv hka hb;refine⟨some (i,x.val),by simp only[Instr.findNow,s1],x,B5 _,by simp,s2 rfl,by omega,λn a y ha hy=>?_⟩
    grind
   .rename_i hb
    obtain⟨s1,_⟩:=aAI hkd hkv hka hb;cases hp:kU q k v es with
    | none=>grind
    | some es0 =>
      simp only[hp,D1,oSI]at hf;subst hf;obtain⟨c,h1,h2⟩:=aLt hkd hkv hvv (i:=i+1) (clock:=clock) (by simpa using hl) (λj a y ha hy=>h (j+1) a y (by grind) (by grind)) hp;refine⟨c,by simp only[Instr.findNow,s1];exact h1,?_⟩;cases c with
      | none =>
        grind
      | some c =>
        obtain⟨j,c⟩:=c;simp only at h2 ⊢;obtain⟨e,g1,g2,g3,g4,g5⟩:=h2;refine⟨e,by omega,?_,g3,by simp[g4],λn a y ha hy=>?_⟩;·grind
        grind
   .simp at hf
 | [],_,_::_,_,hl,_,_=>by simp at hl
 | _::_,_,[],_,hl,_,_=>by simp at hl
theorem iP{kd:TypeDesc}{kt:TypeId}{emp:Bool}{v:Value}{n:Nat}(hk:P.underlying kt=some kd)(hkd:(∃ x,kd = .int x)\/kd = .string)(w:World) :
 (Instr.checkKey emp (n+1) kt v).run P w = .ok () w:=by
 rcases hkd with ⟨x,rfl⟩|rfl<;>simp[Instr.checkKey,run_underlying hk]
theorem aLH(st:St F w H){b:Nat}{p:Bool}{es:List (AV×AV)}(hb:H b=some (.map p es))(hne:∀ v r,es≠(.agg [.agg []],v)::r) :
 ∃ m clock,w.heap[b]?=some (.map m clock)/\(getObj b).run P w = .ok (.map m clock) w/\es.length=m.toList.length /\
   ∀(i:Nat)(a:AV×AV)(x:MapEntry),es[i]?=some a->m.toList[i]?=some x->Rv F w a.1 x.key/\Rv F w a.2 x.val:=by
 obtain⟨o,ho,hr⟩:=st.blk b _ hb;cases hr with
 | map p es m clock hl h =>
   refine⟨m,clock,ho,by simp[getObj,Sem.run,ho],by omega,λi a x ha hx=>h i a x ha (by grind)⟩
theorem aQU{q:Bool}{k:AV}{es:List (AV×AV)}{o:Option AV}(h:aV q k es=some o):∀ v r,es≠(.agg [.agg []],v)::r:=by
 rintro v r rfl;simp only[aV]at h
 simp_all [iV]
theorem aTJ{q:Bool}{k x:AV}{es es':List (AV×AV)}(h:kU q k x es=some es'):∀ v r,es≠(.agg [.agg []],v)::r:=by
 rintro v r rfl;simp only[kU]at h
 simp_all [iV]
theorem aML(st:St F w H){t kt e:TypeId}{kd:TypeDesc}{q:Bool}{m k x:AV}{vm vk vx:Value}{H':Hp}(ht:P.underlying t=some (.map kt e))(hk:P.underlying kt=some kd)
 (hkd:(q=false/\∃ x,kd = .int x)\/(q=true/\kd = .string)) (hm:Rv F w m vm) (hkv:Rv F w k vk) (hx:Rv F w x vx) (hs:aAj q H m k x=some H') :
 ∃ w',(Instr.mapUpdate t vm vk vx).run P w = .ok () w'/\Ext F w H F w' H'/\St F w' H':=by
 unfold aAj at hs;split at hs
 .rename_i b
  cases hm;split at hs
  .rename_i es hb
   cases hp:kU q k x es with
   | none=>grind
   | some es' =>
     simp only[hp,D1,oSI]at hs;subst hs;obtain⟨ms,clock,ho,hg,hl,hat⟩:=aLH (P:=P) st hb (aTJ hp);have hkd':(∃ x,kd = .int x)\/kd = .string:=by
      grind
     obtain⟨c,h1,h2⟩:=aLt (clock:=clock) hkd hkv hx (i:=0) hl hat hp;have hsetO:∀(o':Obj)(w0:World),w0.heap[b]?=some (.map ms clock)->(setObj b o').run P w0 = .ok () { w0 with heap:=w0.heap.setIfInBounds b o' }:=λo' w0 h0=>by simp[setObj,Sem.run,h0]
     have fin:∀(m':Array MapEntry)(clock':Nat)(w':World),w'.heap=w.heap.setIfInBounds b (.map m' clock')->SameIO w w'->es'.length=m'.size ->
      (∀(i:Nat)(a:AV×AV)(x:MapEntry),es'[i]?=some a->m'[i]?=some x->Rv F w a.1 x.key/\Rv F w a.2 x.val) ->
      Ext F w H F w' (hset H b (.map true es'))/\St F w' (hset H b (.map true es')):=λm' clock' w' hw hio h3 h4 =>
      nE st hb rfl ho hw hio (λc e fr h=>by cases h) (λF1 w1 hu=>.map true es' m' clock' h3 λi a x ha hx=>⟨(h4 i a x ha hx).1.up hu,(h4 i a x ha hx).2.up hu⟩)
     cases c with
     | none =>
       simp only at h2;refine⟨{ w with heap:=w.heap.setIfInBounds b (.map (ms.push { key:=vk,val:=vx,born:=clock }) (clock+1)) },?_,fin (ms.push { key:=vk,val:=vx,born:=clock }) (clock+1) _ rfl ⟨rfl,rfl,rfl⟩ (by simp[h2.1]) (λi a x ha hx=>h2.2 i a x ha ?_)⟩;·simp only[Instr.mapUpdate,Sem.run_bind,run_underlying ht,Result.andThen_ok,hg,iP hk hkd',Instr.findKey,run_underlying hk,h1,Sem.run_pure,hsetO _ w ho]
       grind
     | some c =>
       obtain⟨j,c⟩:=c;simp only at h2;obtain⟨e0,_,g2,g3,g4,g5⟩:=h2;simp only[aF3]at g2 g5;have hj:ms[j]?=some e0:=by grind
       refine⟨{ w with heap:=w.heap.setIfInBounds b (.map (ms.modify j λe=>{ e with key:=vk,val:=vx }) clock) },?_,fin (ms.modify j λe=>{ e with key:=vk,val:=vx }) clock _ rfl ⟨rfl,rfl,rfl⟩ (by grind) (λi a x ha hx=>g5 i a x ha ?_)⟩
       .have hkeep:∀ w,(Instr.keyThatStays vk vk).run P w = .ok vk w:=λw=>by
         simp[Instr.keyThatStays,g3.2]
        simp only[Instr.mapUpdate,Sem.run_bind,run_underlying ht,Result.andThen_ok,hg,iP hk hkd',Instr.findKey,run_underlying hk,h1,Sem.run_pure,hj,D1,G5,g3.1,hkeep,hsetO _ w ho]
       grind
  .simp at hs
 .simp at hs
theorem aTm(st:St F w H){ty:TypeId}{x r:AV}{vx:Value}{H':Hp}(hx:Rv F w x vx)(hs:aIL H x=some (r,H')) :
 ∃ c w',(Instr.next vx true ty).run P w = .ok c w'/\Ext F w H F w' H'/\St F w' H'/\Rv F w' r c:=by
 have tup3:∀(w':World)(n m:Int),Rv F w' (.tup [.bool true,.int .i64 n,.int .i32 m]) (.tuple #[.bool true,.int .i64 n,.int .i32 m]):=λw' n m=>by
  refine .tup _ _ rfl λi c v hc hv=>?_;match i with
  | 0=>simp at hc hv;subst hc hv;exact .bool _
  | 1=>simp at hc hv;subst hc hv;exact .int _ _
  | 2=>simp at hc hv;subst hc hv;exact .int _ _
  | i+3=>simp at hc
 unfold aIL at hs;split at hs
 .rename_i b
  cases hx;split at hs
  .rename_i s pos hb
   obtain⟨o,ho,hr⟩:=st.blk b _ hb;cases hr;have hg:∀ w0:World,w0.heap[b]?=some (.stringIter s pos)->(getObj b).run P w0 = .ok (.stringIter s pos) w0:=λw0 h0=>by simp[getObj,Sem.run,h0]
   have hsetO:∀(o':Obj)(w0:World),w0.heap[b]?=some (.stringIter s pos)->(setObj b o').run P w0 = .ok () { w0 with heap:=w0.heap.setIfInBounds b o' }:=λo' w0 h0=>by simp[setObj,Sem.run,h0]
   split at hs<;>simp only[oSI,B9]at hs<;>obtain⟨rfl,rfl⟩:=hs
   .rename_i hlt
    have hE:=nE (w':={ w with heap:=w.heap.setIfInBounds b (.stringIter s (pos+(Utf8.decode s pos).2)) }) (y:=.obj true (.stringIter s (pos+(Utf8.decode s pos).2))) st hb rfl ho rfl ⟨rfl,rfl,rfl⟩ (λc e fr h=>by cases h) (λF1 w1 hu=>.obj true _);refine⟨.tuple #[.bool true,.int .i64 (pos:Int),.int .i32 (Utf8.decode s pos).1],_,?_,hE.1,hE.2,tup3 _ _ _⟩;simp only[Instr.next,Sem.run_bind,hg w ho,Result.andThen_ok,hlt,AAe,hsetO _ w ho,Sem.run_pure,goInt]
   .rename_i hlt
    refine⟨.tuple #[.bool false],w,?_,Ext.refl _ _ _,st,.tup _ _ rfl λi c v hc hv=>?_⟩;·simp only[Instr.next,Sem.run_bind,hg w ho,Result.andThen_ok,hlt,AAd,Sem.run_pure]
    .match i with
     | 0=>simp at hc hv;subst hc hv;exact .bool _
     | i+1=>simp at hc
  .simp at hs
 .simp at hs
theorem bX{o:Oper}{v:AV}{c:Value}(h:(execOp a.eval o).run P w = .ok (.value c) w)(hv:Rv F w v c):aHU P F w H a o (.val v):=⟨c,h,hv⟩
theorem aAp{α:Type}{x:Operand}{f:AO->α}{y:α}(h:(co x).map f=some y):∃ z,co x=some z/\y=f z:=by
 cases hc:co x with
 | none=>grind
 | some z=>grind
theorem aTn{op:BinOp}{k k':IntKind}{n m:Int}{v:AV}{t:TypeId}(h:iK op k n k' m=some v) :
 ∃ c,(binOp op t (.int k n) (.int k' m)).run P w = .ok c w/\Rv F w v c:=by
 cases op<;>simp only[iK]at h<;>(try (split at h<;>simp only[oSI,reduceCtorEq]at h))<;>subst h<;>rename_i hc
 all_goals first
  | (obtain⟨rfl,hm⟩:=hc
     refine⟨_,?_,.int _ _⟩;simp only[binOp,ne_eq,not_true_eq_false,AAd,Op.intDiv,hm,Sem.run_pure];done)
  | (subst hc
     refine⟨_,?_,.int _ _⟩;simp only[binOp,ne_eq,not_true_eq_false,AAd,Op.intArith,Op.intBits,oG,Sem.run_pure];done)
  | (subst hc
     refine⟨_,?_,.bool _⟩;simp only[binOp,ne_eq,not_true_eq_false,AAd,Op.intCmp,Sem.run_pure];try rfl
     done)
  | (refine⟨_,?_,.int _ _⟩
     simp only[binOp,Op.shift,hc,AAd,Sem.run_pure];done)
theorem aTl{op:BinOp}{s t:ByteArray}{v:AV}{ty:TypeId}(h:aN op s t=some v):∃ c,(binOp op ty (.string s) (.string t)).run P w = .ok c w/\Rv F w v c:=by
 cases op<;>simp only[aN]at h<;>(try (split at h))<;>simp only[oSI,reduceCtorEq]at h<;>subst h
 .rename_i hc
  refine⟨_,?_,.str _⟩;simp only[binOp,Op.stringOp,hc,AAd,Sem.run_pure]
 all_goals
  refine⟨_,?_,.bool _⟩;rfl
theorem aNh{op:BinOp}{t:TypeId}{x y:Operand}{k k':IntKind}{n m:Int}(w:World):(eqGuard op t x y (.int k n) (.int k' m)).run P w = .ok () w:=by
 unfold eqGuard;simp_all
theorem aNg{op:BinOp}{t:TypeId}{x y:Operand}{s u:ByteArray}(w:World):(eqGuard op t x y (.string s) (.string u)).run P w = .ok () w:=by
 unfold eqGuard;simp_all
theorem aKr{op:BinOp}{t:TypeId}{x y:Operand}{s u:Bool}(w:World):(eqGuard op t x y (.bool s) (.bool u)).run P w = .ok () w:=by
 unfold eqGuard;simp_all
theorem aOZ{op:BinOp}{t:TypeId}{x y:Operand}{u v r:AV}{vu vv:Value}(hu:Rv F w u vu)(hv:Rv F w v vv)(h:aER op u v=some r) :
 ∃ c,((do eqGuard op t x y vu vv;binOp op t vu vv):Sem Value).run P w = .ok c w/\Rv F w r c:=by
 unfold aER at h;split at h
 .cases hu;cases hv
  obtain⟨c,h1,h2⟩:=aTn (P:=P) (F:=F) (w:=w) (t:=t) h
  grind [Sem.run_bind,aNh,Result.andThen_ok]
 .cases hu;cases hv
  obtain⟨c,h1,h2⟩:=aTl (P:=P) (F:=F) (w:=w) (ty:=t) h
  grind [Sem.run_bind,aNg,Result.andThen_ok]
 .simp at h
theorem aOY{t:TypeId}{x y:Operand}{neg p q:Bool}(hu:P.underlying t=some .bool){op:BinOp}(hop:(op = .eql/\neg=false)\/(op = .neq/\neg=true)) :
 ((do eqGuard op t x y (.bool p) (.bool q);binOp op t (.bool p) (.bool q)):Sem Value).run P w = .ok (.bool (if neg then p != q else p==q)) w:=by
 rcases hop with ⟨rfl,rfl⟩|⟨rfl,rfl⟩ <;>
 simp only[Sem.run_bind,aKr,Result.andThen_ok,binOp,Op.equal,Op.maxDepth,run_equalIn_bool' w 9999 t p q hu,Sem.run_pure]<;>simp[bne]
def aYj(P:Program)(t:TypeId):Nat->Prop
 | 0=>∃ e,P.underlying t=some (.slice e)
 | 1=>∃ k e,P.underlying t=some (.map k e)
 | 2=>∃ a b c,P.underlying t=some (.func a b c)
 | 3=>∃ e,P.underlying t=some (.pointer e)
 | _=>∃ ms,P.underlying t=some (.interface ms)
theorem aTo{t:TypeId}{x y:Operand}{u v:AV}{vx vy:Value}{kd:Nat}{neg b:Bool}(hx:Rv F w u vx)(hy:Rv F w v vy)(hb:aBr kd u v=some b)
 (hu:aYj P t kd) (hk:kd=5->∃ c,y = .const c)
 {op:BinOp} (hop:(op = .eql/\neg=false)\/(op = .neq/\neg=true)) :
 ((do eqGuard op t x y vx vy;binOp op t vx vy):Sem Value).run P w = .ok (.bool (if neg then !b else b)) w:=by
 have key:∀{vx vy:Value}{b:Bool},(∀ w,(eqGuard op t x y vx vy).run P w = .ok () w)->(binOp .eql t vx vy=do pure (.bool (<-Op.equal t vx vy)))->(binOp .neq t vx vy=do pure (.bool !(<-Op.equal t vx vy)))->(∀ d,(Op.equalIn (d+1) t vx vy).run P w = .ok b w) ->
  ((do eqGuard op t x y vx vy;binOp op t vx vy):Sem Value).run P w = .ok (.bool (if neg then !b else b)) w:=by
  intro vx vy b h1 h2 h3 h5;have h4:(Op.equal t vx vy).run P w = .ok b w:=h5 9999;rcases hop with ⟨rfl,rfl⟩|⟨rfl,rfl⟩;·simp only[Sem.run_bind,h1,Result.andThen_ok,h2,h4,Sem.run_pure];rfl
  .simp only[Sem.run_bind,h1,Result.andThen_ok,h3,h4,Sem.run_pure];rfl
 unfold aBr at hb;split at hb<;>simp only[oSI,reduceCtorEq]at hb<;>subst hb<;>cases hy<;>simp only[aYj]at hu
 all_goals
  first
   | (obtain⟨_,hu⟩:=hu;obtain⟨c0,rfl⟩:=hk rfl;cases hx;refine key (λw=>by rcases hop with ⟨rfl,_⟩|⟨rfl,_⟩<;>simp[eqGuard,Sem.run_pure]) rfl rfl (λd=>?_);simp[Op.equalIn,run_underlying hu];done)
   | (obtain⟨_,_,_,hu⟩:=hu;cases hx<;>refine key (λw=>by cases op<;>rfl) rfl rfl (λd=>?_)<;>simp[Op.equalIn,run_underlying hu])
   | (obtain⟨_,_,hu⟩:=hu;cases hx<;>refine key (λw=>by cases op<;>rfl) rfl rfl (λd=>?_)<;>simp[Op.equalIn,run_underlying hu])
   | (obtain⟨_,hu⟩:=hu;cases hx<;>refine key (λw=>by cases op<;>rfl) rfl rfl (λd=>?_)<;>simp[Op.equalIn,run_underlying hu])
theorem xN{b o:Nat}{f:Field}{n:Nat}(hn:nH P f.type=some (n+1))(w:World):(fieldPlace ⟨b,o,none⟩ f).run P w = .ok ⟨b,o+f.offset,none⟩ w:=by
 simp[fieldPlace,bH hn,gE]
theorem xK{b n:Nat}{c:Array Value}{e:TypeId}(h:w.heap[b]?=some (.cells c e (0,0))) :
 (w.freeze ⟨b,n,none⟩ 1).heap=w.heap.setIfInBounds b (.cells c e (n,n+1)):=by
 have hlt:b<w.heap.size:=(F9.1 h).1;have hg:w.heap[b] = .cells c e (0,0):=(F9.1 h).2;unfold World.freeze
 grind
theorem aGt{us:Array Value}:∀{cs:List AV}{l:List UInt8}{vs:List Value},iL cs=some l->cs.length=vs.length->(∀(i:Nat)(c:AV)(v:Value),cs[i]?=some c->vs[i]?=some v->Rv F w c v)->∃ ns:List Int,vs=ns.map (Value.int .u8)/\l=ns.map λn=>UInt8.ofNat n.toNat
 | [],l,vs,h,hl,_=>by
   simp only[iL,oSI]at h;have:vs=[]:=by grind
   simp_all
 | c::cs,l,vs,h,hl,hr=>by
   cases vs with
   | nil=>simp at hl
   | cons v vs =>
     unfold iL at h;split at h;·simp at *
     .rename_i n r he
      simp only[aF8]at he;obtain⟨rfl,rfl⟩:=he;simp only[B2]at h;obtain⟨l',h1,rfl⟩:=h;obtain⟨ns,e1,e2⟩:=aGt (us:=us) h1 (by simpa using hl) λi c v hc hv=>hr (i+1) c v (by grind) (by grind);have hv:=hr 0 _ v rfl rfl;cases hv;exact⟨n::ns,by rw[e1];rfl,by rw[e2];rfl⟩
     .simp at h
theorem aEx:∀(ns:List Int)(s:ByteArray),ns.foldl (λr n=>r.push (UInt8.ofNat n.toNat)) s=⟨s.data++(ns.map λn=>UInt8.ofNat n.toNat).toArray⟩
 | [],s=>by simp
 | n::ns,s=>by
   rw[aB1,aEx ns];simp[ByteArray.push]
theorem aMN(st:St F w H){v r:AV}{x:Value}(hv:Rv F w v x)(h:oY (fX 1 H v)=some r)(hs:∀ s,v ≠ .str s):∃ c,(Conv.bytesToString x).run P w = .ok c w/\Rv F w r c:=by
 unfold oY at h;split at h
 .rename_i n cs hsrc
  simp only[B2]at h;obtain⟨l,h1,rfl⟩:=h;obtain⟨s1,s2,us,s3,s4,_⟩:=aCN (P:=P) st hv hsrc;obtain⟨ns,e1,e2⟩:=aGt (us:=us) (vs:=us.toList) h1 (by rw[s4.len,G7]) λi c v hc hv=>s4.at_ i c v hc (by grind);have go:∀(ad:Addr)(len cap:Nat),(loadCells ad len).run P w = .ok us w->∃ c,(Conv.bytesToString (.slice (some ad) len cap)).run P w = .ok c w/\Rv F w (.str ⟨⟨l⟩⟩) c:=by
   intro ad len cap hl;refine⟨_,run_bytesToString w ad len cap ns (by rw[hl,<-e1]),?_⟩;rw[aEx,<-e2];have:(⟨ByteArray.empty.data++l.toArray⟩:ByteArray)=⟨⟨l⟩⟩:=by
    simp_all
   rw[this];exact .str _
  have nil:cs=[]->∃ c,(Conv.bytesToString (.slice none 0 0)).run P w = .ok c w/\Rv F w (.str ⟨⟨l⟩⟩) c:=by
   intro hc;subst hc;simp only[iL,oSI]at h1;subst h1;exact⟨.string ⟨⟨[]⟩⟩,by rfl,.str _⟩
  cases hv with
  | nilsl =>
    simp_all [fX]
  | fs0 a0 cap =>
    simp only[fX,List.all_nil,AAe,oSI,B9,aF7,aA7]at hsrc;obtain⟨rfl,rfl⟩:=hsrc;cases a0 with
    | none =>
      simp only[iL,oSI]at h1;subst h1;exact⟨.string ⟨⟨[]⟩⟩,by rfl,.str _⟩
    | some ad=>exact go ad 0 cap (by simpa [Builtin.firstCells]using s3)
  | fs rows blk off s' cap g hcap hF hs' hc ho hh =>
    have:n=rows.length:=by
     simp_all [fX]
    subst this;exact go _ _ _ (by simpa [Builtin.firstCells]using s3)
  | sl b o s' len cap c e fr hb hcap hlen =>
    have:n=len:=by
     simp only[fX]at hsrc
     grind
    subst this;exact go _ _ _ (by simpa [Builtin.firstCells]using s3)
  | str s=>grind
  | _=>simp[fX]at hsrc
 .simp at h
theorem aMO(st:St F w H){s:ByteArray}{e:TypeId} :
 ∃ c w',(Conv.stringToBytes e s).run P w = .ok c w'/\H w.heap.size=none /\
   Ext F w H F w' (hset H w.heap.size (.cells true (s.data.toList.map λb=>.int .u8 (b.toNat:Int)))) /\
   St F w' (hset H w.heap.size (.cells true (s.data.toList.map λb=>.int .u8 (b.toNat:Int))))/\Rv F w' (.sl w.heap.size 0 1 s.size) c:=by
 obtain⟨cap,hcap⟩:∃ cap,(Question.appendCap s.size 0 e).cut (w.tape w.drawn (.appendCap s.size 0 e))=cap:=⟨_,rfl⟩;have hle:s.size<=cap:=by rw[<-hcap];exact Nat.le_add_right _ _
 obtain⟨row,hrow⟩:∃ row:Array Value,(s.data.map λb=>Value.int .u8 b.toNat)++Array.replicate (cap-s.size) (.int .u8 0)=row:=⟨_,rfl⟩;have hsize:row.size=cap:=by rw[<-hrow];simp;omega
 have hone:∀(i:Nat)(v:Value),row[i]?=some v->v.oneCell'=true:=λi v hv=>by
  rw[<-hrow,O9]at hv;split at hv
  .simp only[M8]at hv
   cases hx:s.data[i]? with
   | none=>grind
   | some x=>simp[hx]at hv;subst hv;rfl
  .rw[aE8]at hv
   split at hv;·simp at hv;subst hv;rfl
   .simp at hv
 have hrl:∀ F w,RL F w ((s.data.toList.map λb=>AV.int .u8 (b.toNat:Int))++List.replicate (cap-s.size) (.int .u8 0)) row:=λF w=>by
  refine⟨by grind,hone,λi c v hc hv=>?_⟩;rw[<-hrow,O9]at hv;rw[G8]at hc;simp only[B8,G7,Array.size_map]at hc hv;split at hv
  .rename_i hi
   rw[if_pos hi]at hc;simp only[C3,I0,M8,E8 hi,D1,oSI]at hc hv;subst hc hv;exact .int _ _
  .rename_i hi
   rw[if_neg hi]at hc;rw[aE8]at hv;rw[List.getElem?_replicate]at hc;split at hv
   .rename_i hlt
    rw[if_pos hlt]at hc;simp at hc hv;subst hc hv;exact .int _ _
   .simp at hv
 obtain⟨g1,g2,g3,g4⟩:=yN (aAE st) e (hrl F w.drew);have hsz:w.drew.heap.size=w.heap.size:=rfl;rw[hsz]at g1 g2 g3 g4;obtain⟨w1,hw1⟩:∃ w1,w.drew.alloc (.cells row e)=w1:=⟨_,rfl⟩;rw[hw1]at g2 g3 g4;have hfh:=xK (n:=row.size) g4
 have ht:=nE (y:=.cells true (s.data.toList.map λb=>.int .u8 (b.toNat:Int))) g3 (hset_same _ _ _) rfl g4 hfh (by unfold World.freeze;exact⟨rfl,rfl,rfl⟩) (λc e fr h=>by grind)
  (λF1 w1 hu=>.cells true _ row e _ (λi hi=>by simp;omega) (by grind) hone (λi c v hc hv =>
   (hrl F1 w1).at_ i c v (by grind) hv))
 have hh:hset (hset H w.heap.size (.cells true ((s.data.toList.map λb=>AV.int .u8 (b.toNat:Int))++List.replicate (cap-s.size) (.int .u8 0)))) w.heap.size (.cells true (s.data.toList.map λb=>.int .u8 (b.toNat:Int))) =
  hset H w.heap.size (.cells true (s.data.toList.map λb=>.int .u8 (b.toNat:Int))):=by
  funext j;simp_all [hset]
 rw[hh]at ht;have hext:=((jE F w H).trans g2).trans ht.1;refine⟨.slice (some ⟨w.heap.size,0,none⟩) s.size cap,_,?_,g1,hext,ht.2,?_⟩
 .have hshape:w1.shape? w.heap.size=some (e,row.size):=by simp[World.shape?,g4]
  unfold Conv.stringToBytes;have hchoose:(choose (.appendCap s.size 0 e)).run P w = .ok cap w.drew:=by
   simp only[run_choose,Question.forced,C6,AAd,hcap,World.drew_eq]
  simp only[Sem.run_bind,hchoose,Result.andThen_ok,hrow,gG,markStringish,run_shape,hsz,hw1,hshape,run_freeze,Sem.run_pure]
 .refine .sl _ 0 1 s.size cap row e (row.size,row.size+1) ?_ AS hle
  grind
theorem bCA(st:St F w H)(re:RE F w env a){o:Oper}{op:DOp}{e:Eff}(hc:dD P o=some op)(hq:aD op env H=some e):aHU P F w H a o e:=by
 obtain⟨dst,oo,ty,pos,after,guard⟩:=o;cases oo with
 | move x =>
   obtain⟨y,hy,rfl⟩:=aAp hc;simp only[aD,oSI]at hq;subst hq;exact bX (c:=a.eval x) (by rfl) (bM re hy)
 | assign x =>
   obtain⟨y,hy,rfl⟩:=aAp hc;simp only[aD,oSI]at hq;subst hq;exact bX (c:=a.eval x) (by rfl) (bM re hy)
 | pick c x y =>
   simp only[dD]at hc;split at hc<;>simp only[oSI,reduceCtorEq]at hc
   rename_i c' x' y' h1 h2 h3;subst hc;simp only[aD]at hq;split at hq<;>simp only[oSI,reduceCtorEq]at hq
   rename_i t ht;subst hq;have hcv:=bM re h1;rw[ht]at hcv;obtain⟨vc,hvc⟩:∃ v,a.eval c=v:=⟨_,rfl⟩;rw[hvc]at hcv;cases hcv;refine bX (c:=if t then a.eval x else a.eval y) ?_ ?_;·simp only[execOp,hvc,asBool,Sem.run_bind,Sem.run_pure,Result.andThen_ok]
   grind [bM]
 | alloc t =>
   simp only[dD]at hc;cases hz:vE P t with
   | none=>grind
   | some z =>
     simp only[hz]at hc;obtain⟨i,v,hi,hv,hzr⟩:=aAx (F:=F) (w:=w) hz;obtain⟨g1,g2,g3,g4⟩:=yN st t hzr;split at hc
     .rename_i ht
      split at hc
      .rename_i hl2
       split at hc<;>simp only[oSI,reduceCtorEq]at hc
       subst hc;simp only[aD,oSI]at hq;subst hq;have hlen:=hzr.len;refine⟨w.heap.size,.pointer (some ⟨w.heap.size,0,none⟩),_,.inl g1,?_,g2,g3,?_⟩;·simp only[execOp,Instr.alloc,newVar,Sem.run_bind,kT hi hv,Result.andThen_ok,gG,Sem.run_pure]
       .subst ht
        exact .bp _ _ _ g4 AS
      .simp at hc
     .simp only[oSI]at hc
      subst hc;simp only[aD,oSI]at hq;subst hq;refine⟨w.heap.size,.pointer (some ⟨w.heap.size,0,none⟩),_,.inl g1,?_,g2,g3,.pt _ _⟩;simp only[execOp,Instr.alloc,newVar,Sem.run_bind,kT hi hv,Result.andThen_ok,gG,Sem.run_pure]
 | box t x =>
   obtain⟨y,hy,rfl⟩:=aAp hc;simp only[aD]at hq;split at hq<;>simp only[oSI,reduceCtorEq]at hq
   rename_i cs hcs;subst hq;obtain⟨g1,g2,g3,g4⟩:=yN st t (aAd (bM re hy) hcs);refine⟨w.heap.size,.pointer (some ⟨w.heap.size,0,none⟩),_,.inl g1,?_,g2,g3,.pt _ _⟩;rfl
 | build t parts =>
   simp only[dD]at hc;split at hc
   .rename_i z ps hz hg hps
    have key:DOp.build z ps=op/\(∀ fields,P.underlying t=some (.struct fields)->(fields.toList.all λf=>(nH P f.type).isSome)=true) /\
     (∀ n e,P.underlying t=some (.array n e)->(nH P e).isSome=true):=by
     grind
    obtain⟨rfl,k1,k2⟩:=key;simp only[aD]at hq;split at hq<;>simp only[oSI,reduceCtorEq]at hq
    rename_i cs hcs;subst hq;obtain⟨c,h1,h2⟩:=aMM (P:=P) (w:=w) re hz hg hps k1 k2 hcs;refine bX (c:=c) ?_ h2;simp only[execOp,Sem.run_bind,h1,Result.andThen_ok,Sem.run_pure]
   .simp at hc
 | buildSlice t len parts =>
   simp only[dD]at hc;split at hc
   .rename_i e0 hu
    split at hc
    .rename_i s z hs hz
     split at hc
     .rename_i ps hps
      split at hc<;>simp only[oSI,reduceCtorEq]at hc
      rename_i hle;subst hc;simp only[aD]at hq;split at hq<;>simp only[oSI,reduceCtorEq]at hq
      rename_i cs hcs;subst hq;obtain⟨c,w',h1,h2,h3,h4,h5⟩:=aJR (P:=P) st re hu hs hz hps hle.1 hle.2 hcs;refine⟨w.heap.size,c,w',.inl h2,?_,h3,h4,h5⟩;simp only[execOp,Sem.run_bind,h1,Result.andThen_ok,Sem.run_pure]
     .simp at hc
    .simp at hc
   .simp at hc
 | load t x =>
   simp only[dD]at hc;split at hc<;>simp only[oSI,reduceCtorEq]at hc
   rename_i g n y hg hn hy;subst hc;simp only[aD]at hq;split at hq<;>simp only[oSI,reduceCtorEq]at hq
   rename_i v hv;subst hq;obtain⟨c,h1,h2⟩:=aFK (P:=P) st hg hn (bM re hy) hv;refine bX (c:=c) ?_ h2;simp only[execOp,Sem.run_bind,h1,Result.andThen_ok,Sem.run_pure]
 | nilCheck x =>
   obtain⟨y,hy,rfl⟩:=aAp hc;have hxv:=bM re hy;obtain⟨vx,hvx⟩:∃ v,a.eval x=v:=⟨_,rfl⟩;rw[hvx]at hxv;simp only[aD]at hq;split at hq<;>simp only[oSI,reduceCtorEq]at hq
   .rename_i b o ht
    subst hq;rw[ht]at hxv;have hxv':=hxv;cases hxv;exact bX (by simp only[execOp,hvx,Sem.run_pure]) hxv'
   .rename_i b ht
    subst hq;rw[ht]at hxv;cases hxv;exact bX (by simp only[execOp,hvx,Sem.run_pure]) (.pt _ _)
   .rename_i r i o ht
    subst hq;rw[ht]at hxv;have hxv':=hxv;cases hxv;exact bX (by simp only[execOp,hvx,Sem.run_pure]) hxv'
   .rename_i t v ht
    subst hq;rw[ht]at hxv;have hxv':=hxv;cases hxv;exact bX (by simp only[execOp,hvx,Sem.run_pure]) hxv'
 | binOp bop t x y yt =>
   simp only[dD]at hc;split at hc
   .rename_i x' y' hx hy
    have hxv:=bM re hx;have hyv:=bM re hy
    have plain:∀{x' y':AO}{r:AV},aER bop (aK env x') (aK env y')=some r->Rv F w (aK env x') (a.eval x)->Rv F w (aK env y') (a.eval y) ->
     aHU P F w H a ⟨dst,.binOp bop t x y yt,ty,pos,after,guard⟩ (.val r):=by
     intro x' y' r h hxv hyv;obtain⟨c,h1,h2⟩:=aOZ (P:=P) (t:=t) (x:=x) (y:=y) hxv hyv h;refine bX (c:=c) ?_ h2;simp only[execOp];rw[Sem.run_bind,h1];rfl
    have boolc:∀(neg:Bool){e:Eff},P.underlying t=some .bool->((bop = .eql/\neg=false)\/(bop = .neq/\neg=true))->aD (.binb neg x' y') env H=some e ->
     aHU P F w H a ⟨dst,.binOp bop t x y yt,ty,pos,after,guard⟩ e:=by
     intro neg e hu hop he;simp only[aD]at he;split at he<;>simp only[oSI,reduceCtorEq]at he
     rename_i p q h1 h2;subst he;rw[h1]at hxv;rw[h2]at hyv;obtain⟨vx,hvx⟩:∃ v,a.eval x=v:=⟨_,rfl⟩;obtain⟨vy,hvy⟩:∃ v,a.eval y=v:=⟨_,rfl⟩;rw[hvx]at hxv;rw[hvy]at hyv;cases hxv;cases hyv;refine bX ?_ (.bool _);have:=aOY (P:=P) (w:=w) (x:=x) (y:=y) (p:=p) (q:=q) hu hop;simp only[execOp,hvx,hvy];rw[Sem.run_bind,this];rfl
    have aggc:∀(neg:Bool){ks:List Nat}{e:Eff},pM P t=some ks->((bop = .eql/\neg=false)\/(bop = .neq/\neg=true))->aD (.eqag neg ks x' y') env H=some e ->
     aHU P F w H a ⟨dst,.binOp bop t x y yt,ty,pos,after,guard⟩ e:=by
     intro neg ks e hk hop he;simp only[aD]at he;split at he
     .rename_i cs ds h1 h2
      split at he<;>simp only[oSI,reduceCtorEq]at he
      rename_i b hb;subst he;rw[h1]at hxv;rw[h2]at hyv;refine bX ?_ (.bool _);have:=aOW (P:=P) (x:=x) (y:=y) hk hxv hyv hb hop;simp only[execOp];rw[Sem.run_bind,this];rfl
     .simp at he
    have nilc:∀(kd:Nat)(neg:Bool){e:Eff},aYj P t kd->(kd=5->∃ c,y = .const c) ->
     ((bop = .eql/\neg=false)\/(bop = .neq/\neg=true))->aD (.eqn kd neg x' y') env H=some e->aHU P F w H a ⟨dst,.binOp bop t x y yt,ty,pos,after,guard⟩ e:=by
     intro kd neg e hu hk hop he;simp only[aD]at he;split at he<;>simp only[oSI,reduceCtorEq]at he
     rename_i b hb;subst he;refine bX ?_ (.bool _);have:=aTo (P:=P) (x:=x) (y:=y) hxv hyv hb hu hk hop;simp only[execOp];rw[Sem.run_bind,this];rfl
    split at hc;·grind
    .grind
    .cases hk:pM P t with
     | none=>grind
     | some ks=>grind
    .cases hk:pM P t with
     | none=>grind
     | some ks=>grind
    .cases hk:pM P t with
     | none=>grind
     | some ks=>grind
    .cases hk:pM P t with
     | none=>grind
     | some ks=>grind
    .rename_i hu;simp only[oSI]at hc;subst hc;exact nilc 0 false (by exact⟨_,hu⟩) (by simp) (.inl ⟨rfl,rfl⟩) hq
    .rename_i hu;simp only[oSI]at hc;subst hc;exact nilc 0 true (by exact⟨_,hu⟩) (by simp) (.inr ⟨rfl,rfl⟩) hq
    .rename_i hu;simp only[oSI]at hc;subst hc;exact nilc 1 false (by exact⟨_,_,hu⟩) (by simp) (.inl ⟨rfl,rfl⟩) hq
    .rename_i hu;simp only[oSI]at hc;subst hc;exact nilc 1 true (by exact⟨_,_,hu⟩) (by simp) (.inr ⟨rfl,rfl⟩) hq
    .rename_i hu;simp only[oSI]at hc;subst hc;exact nilc 2 false (by exact⟨_,_,_,hu⟩) (by simp) (.inl ⟨rfl,rfl⟩) hq
    .rename_i hu;simp only[oSI]at hc;subst hc;exact nilc 2 true (by exact⟨_,_,_,hu⟩) (by simp) (.inr ⟨rfl,rfl⟩) hq
    .rename_i hu;simp only[oSI]at hc;subst hc;exact nilc 3 false (by exact⟨_,hu⟩) (by simp) (.inl ⟨rfl,rfl⟩) hq
    .rename_i hu;simp only[oSI]at hc;subst hc;exact nilc 3 true (by exact⟨_,hu⟩) (by simp) (.inr ⟨rfl,rfl⟩) hq
    .rename_i hu;simp only[oSI]at hc;subst hc;exact nilc (aIX y) false (by unfold aIX;split<;>exact⟨_,hu⟩) (λh=>by cases y<;>simp[aIX]at h;grind) (.inl ⟨rfl,rfl⟩) hq
    .rename_i hu;simp only[oSI]at hc;subst hc;exact nilc (aIX y) true (by unfold aIX;split<;>exact⟨_,hu⟩) (λh=>by cases y<;>simp[aIX]at h;grind) (.inr ⟨rfl,rfl⟩) hq
    .simp only[oSI]at hc
     subst hc;simp only[aD]at hq
     grind
   .simp at hc
 | unOp uop t x =>
   cases uop with
   | not =>
     obtain⟨y,hy,rfl⟩:=aAp hc;have hxv:=bM re hy;obtain⟨vx,hvx⟩:∃ v,a.eval x=v:=⟨_,rfl⟩;rw[hvx]at hxv;simp only[aD]at hq;split at hq<;>simp only[oSI,reduceCtorEq]at hq
     rename_i b ht;subst hq;rw[ht]at hxv;cases hxv;exact bX (by simp only[execOp,hvx,Op.unary,Sem.run_bind,Sem.run_pure,Result.andThen_ok]) (.bool _)
   | neg =>
     obtain⟨y,hy,rfl⟩:=aAp hc;have hxv:=bM re hy;obtain⟨vx,hvx⟩:∃ v,a.eval x=v:=⟨_,rfl⟩;rw[hvx]at hxv;simp only[aD]at hq;split at hq<;>simp only[oSI,reduceCtorEq]at hq
     rename_i k n ht;subst hq;rw[ht]at hxv;cases hxv;exact bX (by simp only[execOp,hvx,Op.unary,Op.intArith,Sem.run_bind,Sem.run_pure,Result.andThen_ok]) (.int _ _)
   | _=>simp[dD]at hc
 | convert src dt x =>
   simp only[dD]at hc;split at hc
   .rename_i k0 k x' h1 h2 h3
    simp only[oSI]at hc;subst hc;have hxv:=bM re h3;obtain⟨vx,hvx⟩:∃ v,a.eval x=v:=⟨_,rfl⟩;rw[hvx]at hxv;simp only[aD]at hq;split at hq<;>simp only[oSI,reduceCtorEq]at hq
    rename_i k1 n ht;subst hq;rw[ht]at hxv;cases hxv;exact bX (by simp only[execOp,hvx,convert,Sem.run_bind,run_underlying h1,run_underlying h2,Conv.intToInt,Sem.run_pure,Result.andThen_ok]) (.int _ _)
   .rename_i e0 x' h1 h2 h3
    split at hc
    .rename_i h4
     simp only[oSI]at hc;subst hc;have hxv:=bM re h3;obtain⟨vx,hvx⟩:∃ v,a.eval x=v:=⟨_,rfl⟩;rw[hvx]at hxv;simp only[aD]at hq;split at hq<;>simp only[oSI,reduceCtorEq]at hq
     rename_i s ht;subst hq;rw[ht]at hxv;cases hxv;obtain⟨c,w',g1,g2,g3,g4,g5⟩:=aMO (P:=P) (e:=e0) (s:=s) st;refine⟨w.heap.size,c,w',.inl g2,?_,g3,g4,g5⟩;simp only[execOp,hvx,convert,Sem.run_bind,run_underlying h1,run_underlying h2,run_underlying h4,g1,Sem.run_pure,Result.andThen_ok]
    .simp at hc
   .rename_i e0 x' h1 h2 h3
    split at hc
    .rename_i h4
     simp only[oSI]at hc;subst hc;have hxv:=bM re h3;obtain⟨vx,hvx⟩:∃ v,a.eval x=v:=⟨_,rfl⟩;rw[hvx]at hxv;simp only[aD,B2]at hq;obtain⟨r,hq,rfl⟩:=hq;unfold jS at hq;split at hq;·simp at hq
     .rename_i hne
      obtain⟨c,g1,g2⟩:=aMN (P:=P) st hxv hq hne;have hsl:∃ ad l cp,vx = .slice ad l cp:=by
       generalize aK env x'=v at hxv hq hne;cases hxv with
       | nilsl=>grind
       | fs0 a0 cap=>grind
       | fs=>grind
       | sl=>grind
       | str s=>grind
       | _=>simp[fX,oY]at hq
      obtain⟨ad,l,cp,rfl⟩:=hsl;refine bX (c:=c) ?_ g2;simp only[execOp,hvx,Sem.run_bind,run_convert_bytes_string w src dt e0 ad l cp h1 h4 h2,g1,Sem.run_pure,Result.andThen_ok]
    .simp at hc
   .simp at hc
 | range t x =>
   simp only[dD]at hc;split at hc<;>simp only[oSI,reduceCtorEq]at hc
   rename_i x' h1 h2;subst hc;have hxv:=bM re h2;obtain⟨vx,hvx⟩:∃ v,a.eval x=v:=⟨_,rfl⟩;rw[hvx]at hxv;simp only[aD]at hq;split at hq<;>simp only[oSI,reduceCtorEq]at hq
   rename_i s ht;subst hq;rw[ht]at hxv;cases hxv;obtain⟨g1,g2⟩:=oU st (x:=.obj true (.stringIter s 0)) (o:=.stringIter s 0) (.obj true _) st.size_none;have hn:H w.heap.size=none:=by
    cases hb:H w.heap.size with
    | none=>rfl
    | some x=>exact absurd (st.own_lt hb) AS
   refine⟨w.heap.size,.pointer (some ⟨w.heap.size,0,none⟩),_,.inl hn,?_,g1,g2,.pt _ _⟩;simp only[execOp,hvx,Instr.range,Sem.run_bind,run_underlying h1,Sem.run_pure,Result.andThen_ok,run_newObj,World.alloc_eq]
 | insert t m k x =>
   simp only[dD]at hc;split at hc;·split at hc<;>simp only[oSI,reduceCtorEq]at hc<;>subst hc<;>simp[aD]at hq
   .simp at hc
 | next x s =>
   cases s with
   | true=>simp only[dD,B2]at hc;obtain⟨y,_,rfl⟩:=hc;simp[aD]at hq
   | false=>simp[dD]at hc
 | makeFunc fn first cap =>
   simp only[dD]at hc;split at hc<;>simp only[oSI,reduceCtorEq]at hc
   rename_i f c h1 h2;subst hc;simp only[aD,oSI]at hq;subst hq;obtain⟨g1,g2⟩:=aJV re h1;obtain⟨g3,g4⟩:=aJV re h2;exact bX (by rfl) (.fn fn _ _ _ _ g1 g3 g2 g4)
 | fieldAddr s x fd =>
   simp only[dD]at hc;split at hc
   .rename_i fields x' h1 h2
    split at hc
    .rename_i f hf
     split at hc<;>simp only[oSI,reduceCtorEq]at hc
     rename_i n hn;subst hc;have hxv:=bM re h2;obtain⟨vx,hvx⟩:∃ v,a.eval x=v:=⟨_,rfl⟩;rw[hvx]at hxv;simp only[aD]at hq;split at hq<;>simp only[oSI,reduceCtorEq]at hq
     .rename_i b o ht
      subst hq;rw[ht]at hxv;cases hxv;exact bX (by simp only[execOp,hvx,Instr.fieldAt,Sem.run_bind,run_underlying h1,hf,Instr.sureAddr,xN hn,Sem.run_pure,Result.andThen_ok]) (.pt _ _)
     .rename_i r i o ht
      subst hq;rw[ht]at hxv;cases hxv with
      | fp _ _ _ blk off s' g hF hs hcc ho h =>
        refine bX (c:=.pointer (some ⟨blk,off+i*s'+(o+f.offset),none⟩)) (by simp only[execOp,hvx,Instr.fieldAt,Sem.run_bind,run_underlying h1,hf,Instr.sureAddr,xN hn,Sem.run_pure,Result.andThen_ok,aE9]) ?_;exact .fp r i (o+f.offset) blk off s' g hF hs hcc ho h
    .simp at hc
   .simp at hc
 | indexAddr t x i =>
   have idx:∀{b o len s:Nat}{k:IntKind}{n:Int}{e0:TypeId},nH P e0=some s->0<=n->((⟨b,o,none⟩:Addr).add (n.toNat*s))=⟨b,o+n.toNat*s,none⟩:=λ_ _=>gE _ _ _;simp only[dD]at hc;split at hc
   .rename_i len e0 x' i' h1 h2 h3
    cases hs:nH P e0 with
    | none=>grind
    | some s =>
      simp only[hs,D1,oSI]at hc;subst hc;have hxv:=bM re h2;have hiv:=bM re h3;obtain⟨vx,hvx⟩:∃ v,a.eval x=v:=⟨_,rfl⟩;obtain⟨vi,hvi⟩:∃ v,a.eval i=v:=⟨_,rfl⟩;rw[hvx]at hxv;rw[hvi]at hiv;simp only[aD]at hq;split at hq
      .rename_i b o k n hx hi
       split at hq<;>simp only[oSI,reduceCtorEq]at hq
       rename_i hle;subst hq;rw[hx]at hxv;rw[hi]at hiv;cases hxv;cases hiv;refine bX ?_ (.pt _ _);simp only[execOp,hvx,hvi,Instr.indexAt,asIntOf,Sem.run_bind,run_underlying h1,Instr.sureAddr,Sem.run_pure,Result.andThen_ok,Sem.run_ite];rw[if_pos hle];simp only[Sem.run_bind,bH hs,Sem.run_pure,Result.andThen_ok,gE]
      .rename_i r j o k n hx hi
       split at hq<;>simp only[oSI,reduceCtorEq]at hq
       rename_i hle;subst hq;rw[hx]at hxv;rw[hi]at hiv;cases hiv;cases hxv with
       | fp _ _ _ blk off s' g hF hs' hcc ho h =>
         refine bX (c:=.pointer (some ⟨blk,off+j*s'+(o+n.toNat*s),none⟩)) ?_ (.fp r j (o+n.toNat*s) blk off s' g hF hs' hcc ho h);simp only[execOp,hvx,hvi,Instr.indexAt,asIntOf,Sem.run_bind,run_underlying h1,Instr.sureAddr,Sem.run_pure,Result.andThen_ok,Sem.run_ite];rw[if_pos hle];simp only[Sem.run_bind,bH hs,Sem.run_pure,Result.andThen_ok,gE,aE9]
      .simp at hq
   .rename_i e0 x' i' h1 h2 h3
    cases hs:nH P e0 with
    | none=>grind
    | some s =>
      simp only[hs,D1,oSI]at hc;subst hc;have hxv:=bM re h2;have hiv:=bM re h3;obtain⟨vx,hvx⟩:∃ v,a.eval x=v:=⟨_,rfl⟩;obtain⟨vi,hvi⟩:∃ v,a.eval i=v:=⟨_,rfl⟩;rw[hvx]at hxv;rw[hvi]at hiv;simp only[aD]at hq;split at hq
      .rename_i b o s' len k n hx hi
       split at hq<;>simp only[oSI,reduceCtorEq]at hq
       rename_i hle;obtain⟨rfl,hle⟩:=hle;subst hq;rw[hx]at hxv;rw[hi]at hiv;cases hxv;cases hiv;refine bX ?_ (.pt _ _);simp only[execOp,hvx,hvi,Instr.indexAt,asIntOf,Sem.run_bind,run_underlying h1,Sem.run_pure,Result.andThen_ok,Sem.run_ite];rw[if_pos hle];simp only[Sem.run_bind,bH hs,Sem.run_pure,Result.andThen_ok,gE]
      .rename_i rows k n hx hi
       split at hq<;>simp only[oSI,reduceCtorEq]at hq
       rename_i hle;obtain⟨hle1,hle2,hle3⟩:=hle;subst hq;rw[hx]at hxv;rw[hi]at hiv;cases hiv;cases hxv with
       | fs0 ad cap=>grind
       | fs _ blk off s' cap g hcap hF hs' hcc ho h =>
         have hlt:n.toNat<rows.length:=AS
         have es:s'=s:=by
          grind
         subst es;refine bX (c:=.pointer (some ⟨blk,off+n.toNat*s'+0,none⟩)) ?_ (.fp rows n.toNat 0 blk off s' g hF hs' hcc ho h);simp only[execOp,hvx,hvi,Instr.indexAt,asIntOf,Sem.run_bind,run_underlying h1,Sem.run_pure,Result.andThen_ok,Sem.run_ite];rw[if_pos ⟨hle1,hle2⟩];simp only[Sem.run_bind,bH hs,Sem.run_pure,Result.andThen_ok,gE,I6]
      .simp at hq
   .simp at hc
 | index t x i =>
   simp only[dD]at hc;split at hc
   .rename_i len e0 x' i' h1 h2 h3
    split at hc<;>simp only[oSI,reduceCtorEq]at hc
    rename_i g s hg hs;subst hc;have hxv:=bM re h2;have hiv:=bM re h3;obtain⟨vx,hvx⟩:∃ v,a.eval x=v:=⟨_,rfl⟩;obtain⟨vi,hvi⟩:∃ v,a.eval i=v:=⟨_,rfl⟩;rw[hvx]at hxv;rw[hvi]at hiv;simp only[aD]at hq;split at hq
    .rename_i cs k n hx hi
     split at hq
     .rename_i hle
      split at hq<;>simp only[oSI,reduceCtorEq]at hq
      rename_i v hv;subst hq;rw[hx]at hxv;rw[hi]at hiv;cases hiv;cases hxv with
      | agg _ vs hl ho h =>
        obtain⟨c,g1,g2⟩:=aPm (P:=P) hg hs hl ho h hv;refine bX (c:=c) ?_ g2;simp only[execOp,hvx,hvi,Instr.index,asIntOf,Sem.run_bind,run_underlying h1,Sem.run_pure,Result.andThen_ok,Sem.run_ite];rw[if_pos hle];simp only[Sem.run_bind,bH hs,Result.andThen_ok,g1,Sem.run_pure]
     .simp at hq
    .simp at hq
   .rename_i x' i' h1 h2 h3
    simp only[oSI]at hc;subst hc;have hxv:=bM re h2;have hiv:=bM re h3;obtain⟨vx,hvx⟩:∃ v,a.eval x=v:=⟨_,rfl⟩;obtain⟨vi,hvi⟩:∃ v,a.eval i=v:=⟨_,rfl⟩;rw[hvx]at hxv;rw[hvi]at hiv;simp only[aD]at hq;split at hq
    .rename_i s k n hx hi
     split at hq<;>simp only[oSI,reduceCtorEq]at hq
     rename_i hle;subst hq;rw[hx]at hxv;rw[hi]at hiv;cases hiv;cases hxv;have hlt:n.toNat<s.size:=AS
     have hget:s[n.toNat]?=some (s.data.toList.getD n.toNat 0):=by
      rw[C7,I0];have:s[n.toNat]?=some s[n.toNat]:=by simp[hlt]
      rw[this];have h2:n.toNat<s.data.size:=hlt;rw[E8 h2];rfl
     refine bX (c:=.int .u8 ((s.data.toList.getD n.toNat 0).toNat:Int)) ?_ (.int _ _);simp only[execOp,hvx,hvi,Instr.index,asIntOf,Sem.run_bind,run_underlying h1,Sem.run_pure,Result.andThen_ok]
     simp_all
    .simp at hq
   .simp at hc
 | makeSlice t l c =>
   simp only[dD]at hc;split at hc
   .rename_i e0 l' c' h1 h2 h3
    split at hc
    .rename_i i z hi hz
     split at hc<;>simp only[oSI,reduceCtorEq]at hc
     rename_i hzs;subst hc;have hlv:=bM re h2;have hcv:=bM re h3;obtain⟨vl,hvl⟩:∃ v,a.eval l=v:=⟨_,rfl⟩;obtain⟨vc,hvc⟩:∃ v,a.eval c=v:=⟨_,rfl⟩;rw[hvl]at hlv;rw[hvc]at hcv;simp only[aD]at hq;split at hq
     .rename_i l0 c0 hl hcc
      split at hq<;>simp only[oSI,reduceCtorEq]at hq
      rename_i hle;subst hq;rw[hl]at hlv;rw[hcc]at hcv;cases hlv;cases hcv;obtain⟨v,w',g1,g2,g3,g4,g5⟩:=aOV (P:=P) st h1 hi hz hzs hle.1 hle.2.1 hle.2.2.1 hle.2.2.2;refine⟨w.heap.size,v,w',.inl g2,?_,g3,g4,g5⟩;simp only[execOp,hvl,hvc,Sem.run_bind,g1,Result.andThen_ok,Sem.run_pure]
     .simp at hq
    .simp at hc
   .simp at hc
 | slice t x lo hi mx =>
   cases mx with
   | some m=>simp[dD]at hc
   | none =>
   simp only[dD]at hc;split at hc
   .rename_i len e0 x' lo' hi' h1 h2 h3 h4
    cases hs:nH P e0 with
    | none=>grind
    | some s =>
      simp only[hs,D1,oSI]at hc;subst hc;have hxv:=bM re h2;obtain⟨vx,hvx⟩:∃ v,a.eval x=v:=⟨_,rfl⟩;rw[hvx]at hxv;simp only[aD]at hq;split at hq
      .rename_i b o hx
       split at hq
       .rename_i p cs h hb hh
        split at hq
        .rename_i l hl
         split at hq<;>simp only[oSI,reduceCtorEq]at hq
         rename_i hle;subst hq;rw[hx]at hxv;cases hxv;obtain⟨b1,b2,b3⟩:=jU (P:=P) (w:=w) (len:=len) (cap:=len) false re h3 h4 hh hl (B5 _);obtain⟨ob,hob,hr⟩:=st.blk b _ hb;cases hr with
         | cells _ _ c e1 fr hfr hcl ho hcc =>
           refine bX (c:=.slice (some ⟨b,o+l*s,none⟩) (h-l) (len-l)) ?_ (.sl b (o+l*s) s (h-l) (len-l) c e1 fr hob ?_ (Nat.sub_le_sub_right b3 l))
           .simp only[execOp,hvx,Instr.sliceAt,Instr.sureAddr,aC3,Sem.run_bind,run_underlying h1,b1,bH hs,Sem.run_pure,Result.andThen_ok]
            rw[if_neg AS,gE]
           .rw[Nat.sub_mul]
            have:=G3 s (show l<=len by omega);omega
        .simp at hq
       .simp at hq
      .simp at hq
   .rename_i e0 x' lo' hi' h1 h2 h3 h4
    cases hs:nH P e0 with
    | none=>grind
    | some s =>
      simp only[hs,D1,oSI]at hc;subst hc;have hxv:=bM re h2;simp only[aD]at hq;split at hq<;>simp only[oSI,reduceCtorEq]at hq
      rename_i r hr;subst hq;obtain⟨c,g1,g2⟩:=aOU (P:=P) re h1 hs h3 h4 hxv hr;exact bX (by simp only[execOp,aC3,Sem.run_bind,g1,Result.andThen_ok,Sem.run_pure]) g2
   .rename_i x' lo' hi' h1 h2 h3 h4
    simp only[oSI]at hc;subst hc;have hxv:=bM re h2;obtain⟨vx,hvx⟩:∃ v,a.eval x=v:=⟨_,rfl⟩;rw[hvx]at hxv;simp only[aD]at hq;split at hq
    .rename_i s hx
     split at hq
     .rename_i h hh
      split at hq<;>simp only[oSI,reduceCtorEq]at hq
      rename_i l hl;subst hq;rw[hx]at hxv;cases hxv;obtain⟨b1,b2,b3⟩:=jU (P:=P) (w:=w) (len:=s.size) (cap:=s.size) false re h3 h4 hh hl (B5 _);rw[<-aMa];refine bX ?_ (.str _);simp only[execOp,hvx,Instr.sliceAt,Instr.slice,Sem.run_bind,run_underlying h1,aC3,Option.isSome_none,C6,AAd,Sem.run_ite,b1,Sem.run_pure,Result.andThen_ok]
     .simp at hq
    .simp at hq
   .simp at hc
 | makeMap t r =>
   cases r with
   | some r=>simp[dD]at hc
   | none =>
     simp only[dD,oSI]at hc;subst hc;simp only[aD,oSI]at hq;subst hq;obtain⟨h1,h2⟩:=oU st (x:=.map true []) (o:=.map #[] 0) (.map true [] #[] 0 rfl (λi a x ha hx=>by simp at ha)) st.size_none;have hn:H w.heap.size=none:=by
      cases hb:H w.heap.size with
      | none=>rfl
      | some x=>exact absurd (st.own_lt hb) AS
     refine⟨w.heap.size,.map (some w.heap.size),_,.inl hn,?_,h1,h2,.mp _⟩;rfl
 | lookup t m k ok =>
   simp only[dD]at hc;split at hc
   .rename_i kt e0 m' k' h1 h2 h3
    have key:∀(q:Bool)(kd:TypeDesc)(z:AV),P.underlying kt=some kd->((q=false/\∃ x,kd = .int x)\/(q=true/\kd = .string))->aJD P e0=some z ->
     aD (.lookup q ok z m' k') env H=some e->aHU P F w H a ⟨dst,.lookup t m k ok,ty,pos,after,guard⟩ e:=by
     intro q kd z hk hkd hz he;have hmv:=bM re h2;have hkv:=bM re h3;obtain⟨vm,hvm⟩:∃ v,a.eval m=v:=⟨_,rfl⟩;rw[hvm]at hmv;obtain⟨i,zv,hi,hzv,hzone⟩:∃ i zv,P.info? e0=some i/\i.zero=some zv/\Rv F w z zv:=by
      unfold aJD at hz
      grind [aBG]
     have hkd':(∃ x,kd = .int x)\/kd = .string:=by
      grind
     have tupR:∀{v:AV}{y:Value}{b:Bool},Rv F w v y->Rv F w (.tup [v,.bool b]) (.tuple #[y,.bool b]):=λ{v y b} h=>.tup _ _ rfl (λi c v hc hv=>by
      match i with
      | 0=>grind
      | 1=>simp at hc hv;subst hc hv;exact .bool b
      | i+2=>simp at hc)
     have run:∀(es:Array MapEntry)(c:Option (Nat×Value)),(vm = .map none/\es = #[]\/∃ b clock,vm = .map (some b)/\(getObj b).run P w = .ok (.map es clock) w) ->
      Instr.findNow kd (a.eval k) es.toList 0=some c->(Instr.lookup t vm (a.eval k) ok).run P w=(match c with
       | some (_,v)=>.ok (if ok then .tuple #[v,.bool true] else v) w
       | none=>.ok (if ok then .tuple #[zv,.bool false] else zv) w):=by
      intro es c hm hf;rcases hm with ⟨rfl,rfl⟩|⟨b,clock,rfl,hg⟩
      .cases c with
       | none=>simp only[Instr.lookup,Sem.run_bind,run_underlying h1,Result.andThen_ok,Sem.run_pure,iP hk hkd',Instr.findKey,run_underlying hk,hf,kT hi hzv]
       | some c=>obtain⟨j,v⟩:=c;simp only[Instr.lookup,Sem.run_bind,run_underlying h1,Result.andThen_ok,Sem.run_pure,iP hk hkd',Instr.findKey,run_underlying hk,hf]
      .cases c with
       | none=>simp only[Instr.lookup,Sem.run_bind,run_underlying h1,Result.andThen_ok,Sem.run_pure,hg,iP hk hkd',Instr.findKey,run_underlying hk,hf,kT hi hzv]
       | some c=>obtain⟨j,v⟩:=c;simp only[Instr.lookup,Sem.run_bind,run_underlying h1,Result.andThen_ok,Sem.run_pure,hg,iP hk hkd',Instr.findKey,run_underlying hk,hf]
     simp only[aD]at he;split at he<;>simp only[oSI,reduceCtorEq]at he
     rename_i r hr;subst he;obtain⟨y,hy⟩:∃ y,aK env m'=y:=⟨_,rfl⟩;rw[hy]at hr hmv
     have fin:∀(es:Array MapEntry)(c:Option (Nat×Value)),(vm = .map none/\es = #[]\/∃ b clock,vm = .map (some b)/\(getObj b).run P w = .ok (.map es clock) w) ->
      Instr.findNow kd (a.eval k) es.toList 0=some c->(∀ v,r=some v->∃ j y,c=some (j,y)/\Rv F w v y)->(r=none->c=none) ->
      aHU P F w H a ⟨dst,.lookup t m k ok,ty,pos,after,guard⟩ (.val (xF ok z r)):=by
      intro es c f1 f2 f3 f4;have f5:=run es c f1 f2;cases r with
      | none =>
        rw[f4 rfl]at f5;exact bX (c:=if ok then .tuple #[zv,.bool false] else zv) (by simp only[execOp,hvm,Sem.run_bind,f5,Result.andThen_ok,Sem.run_pure]) (by
         cases ok;·exact hzone
         .exact tupR hzone)
      | some v =>
        obtain⟨j,y,rfl,hy⟩:=f3 v rfl;exact bX (c:=if ok then .tuple #[y,.bool true] else y) (by simp only[execOp,hvm,Sem.run_bind,f5,Result.andThen_ok,Sem.run_pure]) (by
         cases ok;·exact hy
         .exact tupR hy)
     cases hmv with
     | mp b =>
       simp only[nA]at hr;split at hr
       .rename_i p es hH
        obtain⟨ms,clock,ho,hg',hl,hat⟩:=aLH (P:=P) st hH (aQU hr);obtain⟨c,g1,g2⟩:=aJj hkd hkv (i:=0) hl hat hr;exact fin ms c (.inr ⟨b,clock,rfl,hg'⟩) g1 (λv hv=>by grind) (λhv=>by grind)
       .simp at hr
     | nilmap =>
       simp only[nA,oSI]at hr;subst hr;exact fin #[] none (.inl ⟨rfl,rfl⟩) rfl (λv hv=>by simp at hv) (λ_=>rfl)
     | _=>simp[nA]at hr
    grind
   .simp at hc
 | extract x i =>
   obtain⟨y,hy,rfl⟩:=aAp hc;have hxv:=bM re hy;obtain⟨vx,hvx⟩:∃ v,a.eval x=v:=⟨_,rfl⟩;rw[hvx]at hxv;simp only[aD]at hq;split at hq
   .rename_i vs ht
    split at hq<;>simp only[oSI,reduceCtorEq]at hq
    rename_i v hv;subst hq;rw[ht]at hxv;cases hxv with
    | tup _ us hl h =>
      have hlt:i<us.size:=by grind
      exact bX (c:=us[i]) (by simp[execOp,hvx,Instr.extract,hlt]) (h i v _ hv (by simp[hlt]))
   .simp at hq
 | makeInterface t x =>
   simp only[dD]at hc;split at hc;·simp at hc
   .rename_i d x' hne h1 h2
    simp only[oSI]at hc;subst hc;simp only[aD,oSI]at hq;subst hq;refine bX (c:=.iface t (a.eval x)) ?_ (.ifc t _ _ (bM re h2));simp only[execOp,Instr.makeInterface,Sem.run_bind,run_underlying h1,Result.andThen_ok];rfl
   .simp at hc
 | call c =>
   simp only[dD]at hc;unfold xX at hc;obtain⟨callee,args,argTypes⟩:=c
   have res:∀(b:Builtin)(vs:Array Value)(r:Sem Value)(cv:Value)(w':World),callee = .builtin b->args.map a.eval=vs ->
    (∀ cs,builtin b argTypes ty cs vs=do pure (.value (<-r)))->r.run P w = .ok cv w' ->
    (execOp a.eval ⟨dst,.call { callee:=callee,args:=args,argTypes:=argTypes },ty,pos,after,guard⟩).run P w = .ok (.value cv) w':=by
    intro b vs r cv w' hb hvs hbu hr;subst hb;simp only[execOp,resolve,Sem.run_bind,Sem.run_pure,Result.andThen_ok,invoke,hvs,hbu,hr]
   have arr:∀{α:Type}{xs:Array α}{l:List α},xs.toList=l->xs=l.toArray:=λh=>by rw[<-h]
   split at hc
   .rename_i hcal
    simp only at hcal hc;split at hc
    .rename_i x t hx ht
     have e1:=arr hx;have e2:=arr ht;subst e1 e2;split at hc<;>simp only[oSI,reduceCtorEq]at hc
     .rename_i n e0 hu
      subst hc;simp only[aD,aK,oSI]at hq;subst hq;refine bX (res .len #[a.eval x] _ _ w hcal (by simp) (λcs=>rfl) ?_) (.int .i64 (n:Int));simp[Builtin.len_,run_underlying hu,goInt]
     .rename_i x' hu hxx
      subst hc;have hxv:=bM re hxx;obtain⟨vx,hvx⟩:∃ v,a.eval x=v:=⟨_,rfl⟩;rw[hvx]at hxv;simp only[aD]at hq;split at hq<;>simp only[oSI,reduceCtorEq]at hq
      .rename_i s _ hh
       subst hq;rw[hh]at hxv;cases hxv;refine bX (res .len #[.string s] _ _ w hcal (by simp[hvx]) (λcs=>rfl) ?_) (.int .i64 (s.size:Int));simp[Builtin.len_,run_underlying hu,goInt]
      all_goals grind
     .rename_i e0 x' hu hxx
      subst hc;have hxv:=bM re hxx;obtain⟨vx,hvx⟩:∃ v,a.eval x=v:=⟨_,rfl⟩;rw[hvx]at hxv;have key:∀(ad:Option Addr)(n cap:Nat),vx = .slice ad n cap->aHU P F w H a ⟨dst,.call { callee:=callee,args:=[x].toArray,argTypes:=[t].toArray },ty,pos,after,guard⟩ (.val (.int .i64 (n:Int))):=by
       intro ad n cap hv;subst hv;refine bX (res .len #[.slice ad n cap] _ _ w hcal (by simp[hvx]) (λcs=>rfl) ?_) (.int .i64 (n:Int));simp[Builtin.len_,run_underlying hu,goInt]
      simp only[aD]at hq;split at hq<;>simp only[oSI,reduceCtorEq]at hq
      .simp_all
      .rename_i rows hh
       subst hq;rw[hh]at hxv;cases hxv;all_goals grind
      .rename_i hh
       subst hq;rw[hh]at hxv;cases hxv
       grind
      .rename_i hh
       subst hq;rw[hh]at hxv;cases hxv
       grind
    .simp at hc
   .rename_i hcal
    simp only at hcal hc;split at hc
    .rename_i x y t u hx ht
     have e1:=arr hx;have e2:=arr ht;subst e1 e2;split at hc
     .rename_i e0 x' y' hu hxx hyy
      split at hc
      .rename_i i e1 z hi hu2 hz
       split at hc<;>simp only[oSI,reduceCtorEq]at hc
       rename_i hzl;subst hc;simp only[aD]at hq;have hs:=aLm (P:=P) (ty:=ty) st hu hu2 (.inl rfl) hi hz hzl.1 hzl.2 (bM re hxx) (bM re hyy) (.inl rfl) hq;cases e with
       | val v =>
         obtain⟨c,h1,h2⟩:=hs;exact bX (res .append #[a.eval x,a.eval y] _ _ w hcal (by simp) (λcs=>rfl) h1) h2
       | new own b f =>
         obtain⟨j,c,w',h1,h2,h3⟩:=hs;exact⟨j,c,w',h1,res .append #[a.eval x,a.eval y] _ _ w' hcal (by simp) (λcs=>rfl) h2,h3⟩
      .rename_i i e1 z hi hu2 hz
       split at hc<;>simp only[oSI,reduceCtorEq]at hc
       rename_i hzl;subst hc;simp only[aD]at hq;have hs:=aLm (P:=P) (ty:=ty) (e':=0) st hu hu2 (.inr rfl) hi hz hzl.1 hzl.2 (bM re hxx) (bM re hyy) (by
        grind) hq
       cases e with
       | val v =>
         obtain⟨c,h1,h2⟩:=hs;exact bX (res .append #[a.eval x,a.eval y] _ _ w hcal (by simp) (λcs=>rfl) h1) h2
       | new own b f =>
         obtain⟨j,c,w',h1,h2,h3⟩:=hs;exact⟨j,c,w',h1,res .append #[a.eval x,a.eval y] _ _ w' hcal (by simp) (λcs=>rfl) h2,h3⟩
      .simp at hc
     .simp at hc
    .simp at hc
   .split at hc
    .split at hc
     .rename_i e0 x' y' hu hxx hyy
      cases hs:nH P e0 with
      | none=>grind
      | some s=>simp only[hs,D1,oSI]at hc;subst hc;simp[aD]at hq
     .simp at hc
    .simp at hc
   .rename_i hcal
    simp only at hcal hc;split at hc
    .rename_i x y hx
     have e1:=arr hx;subst e1;split at hc<;>simp only[oSI,reduceCtorEq]at hc
     rename_i x' y' hxx hyy;subst hc;have hxv:=bM re hxx;have hyv:=bM re hyy;obtain⟨vx,hvx⟩:∃ v,a.eval x=v:=⟨_,rfl⟩;obtain⟨vy,hvy⟩:∃ v,a.eval y=v:=⟨_,rfl⟩;rw[hvx]at hxv;rw[hvy]at hyv;simp only[aD]at hq;split at hq<;>simp only[oSI,reduceCtorEq]at hq
     rename_i k n k' m h1 h2;subst hq;rw[h1]at hxv;rw[h2]at hyv;cases hxv;cases hyv;refine bX (res .min #[.int k n,.int k' m] _ _ w hcal (by grind) (λcs=>rfl) ?_) (.int _ _);rfl
    .simp at hc
   .rename_i hcal
    simp only at hcal hc;split at hc
    .rename_i x y hx
     have e1:=arr hx;subst e1;split at hc<;>simp only[oSI,reduceCtorEq]at hc
     rename_i x' y' hxx hyy;subst hc;have hxv:=bM re hxx;have hyv:=bM re hyy;obtain⟨vx,hvx⟩:∃ v,a.eval x=v:=⟨_,rfl⟩;obtain⟨vy,hvy⟩:∃ v,a.eval y=v:=⟨_,rfl⟩;rw[hvx]at hxv;rw[hvy]at hyv;simp only[aD]at hq;split at hq<;>simp only[oSI,reduceCtorEq]at hq
     rename_i k n k' m h1 h2;subst hq;rw[h1]at hxv;rw[h2]at hyv;cases hxv;cases hyv;refine bX (res .max #[.int k n,.int k' m] _ _ w hcal (by grind) (λcs=>rfl) ?_) (.int _ _);rfl
    .simp at hc
   .split at hc<;>simp only[oSI,reduceCtorEq]at hc
    subst hc;simp[aD]at hq
   .split at hc<;>simp only[oSI,reduceCtorEq]at hc
    subst hc;simp[aD]at hq
   .simp at hc
 | store t x y =>
   simp only[dD]at hc;split at hc<;>simp only[oSI,reduceCtorEq]at hc
   subst hc;simp[aD]at hq
 | mapUpdate t m k x =>
   simp only[dD]at hc;split at hc;·split at hc<;>simp only[oSI,reduceCtorEq]at hc<;>subst hc<;>simp[aD]at hq
   .simp at hc
 | _=>simp[dD]at hc
structure Base where
 F:Nat->Prop
 w:World
 gi:GI F w
def Base.Up(B:Base)(F:Nat->Prop)(w:World):Prop:=Go.DL.Up B.F B.w F w
theorem Up.trans{F'':Nat->Prop}{w'':World}(h:Up F w F' w')(k:Up F' w' F'' w''):Up F w F'' w'' :=
 ⟨λb hb=>k.sub b (h.sub b hb),λb hb=>by rw[k.same b (h.sub b hb),h.same b hb],λb c e fr hb=>by
  obtain⟨c1,e1,f1,h1,h2⟩:=h.size b c e fr hb;obtain⟨c2,e2,f2,h3,h4⟩:=k.size b c1 e1 f1 h1
  grind,H9 h.le k.le⟩
theorem Up.refl(F:Nat->Prop)(w:World):Up F w F w:=⟨λ_ h=>h,λ_ _=>rfl,λ_ c e fr h=>⟨c,e,fr,h,rfl⟩,B5 _⟩
def Args(F:Nat->Prop)(w:World)(as:List AV)(vs:Array Value):Prop :=
 as.length=vs.size/\∀(i:Nat)(a:AV)(v:Value),as[i]?=some a->vs[i]?=some v->Rv F w a v
def yD(F:Nat->Prop)(w:World)(H:Hp)(Q:AV->Hp->Prop):Ending->World->Prop:=λe w' =>
 ∃ r v F' H',e = .returned r/\Ext F w H F' w' H'/\St F' w' H'/\Rv F' w' v r/\Q v H'
def FnW(B:Base)(P:Program)(f:FuncId)(as:List AV)(H:Hp)(Q:AV->Hp->Prop):Prop :=
 (∀(vs:Array Value)(w:World),(callFunc f vs).run P w = .ok (.enter f vs) w)/\∀(F:Nat->Prop)(w:World)(vs:Array Value),B.Up F w->St F w H->Args F w as vs->CallsIn Fence.wide 0 P f vs w (yD F w H Q)
def YW(B:Base)(P:Program)(l:Nat)(as:List AV)(H:Hp)(Q:AV->Hp->Prop):Prop :=
 ∀(F:Nat->Prop)(w:World)(vs:Array Value),B.Up F w->St F w H->Args F w as vs->YieldAt Fence.wide 0 P l vs w (yD F w H Q)
def CallV(B:Base)(P:Program)(fv:AV)(as:List AV)(H:Hp)(Q:AV->Hp->Prop):Prop :=
 match fv with
 | .fn (.func g) first cap=>FnW B P g (first++as++cap) H Q
 | .fn (.yield l) [] []=>YW B P l as H Q
 | _=>False
def nL{α:Type}(o:Option α)(k:α->Prop):Prop :=
 match o with
 | some x=>k x
 | none=>False
@[simp] theorem optW_some {α:Type} (x:α) (k:α->Prop):nL (some x) k=k x:=rfl
@[simp] theorem optW_none {α:Type} (k:α->Prop):nL none k=False:=rfl
theorem dB{α:Type}{o:Option α}{k k':α->Prop}(h:∀ x,k x->k' x)(ho:nL o k):nL o k':=by
 cases o with
 | none=>exact ho
 | some x=>exact h x ho
theorem dN{α:Type}{o:Option α}{k:α->Prop}:nL o k↔∃ x,o=some x/\k x:=by
 cases o<;>simp
def gY(d:Option Nat)(e:Eff)(K:aJ->Hp->Prop)(env:aJ)(H:Hp):Prop :=
 match e with
 | .val v=>K (bD env d v) H
 | .new own x f=>∀ b,(H b=none\/own=some b)->K (bD env d (f b)) (hset H b x)
def gd(o:DOper)(env:aJ):Option Bool :=
 match o.guard with
 | none=>some true
 | some (g,want)=>match env g with
   | .bool t=>some (t==want)
   | .tup _=>some false
   | _=>none
def iR(B:Base)(P:Program)(d:Option Nat)(op:DOp)(K:aJ->Hp->Prop)(env:aJ)(H:Hp):Prop :=
 match op with
 | .store n p x _=>nL (qW n H (aK env p) (aK env x)) λH'=>K (bD env d .any) H'
 | .copy s x y=>nL (aEH s H (aK env x) (aK env y)) λr=>K (bD env d (.int .i64 (r.1:Int))) r.2
 | .mapup q m k x=>nL (aAj q H (aK env m) (aK env k) (aK env x)) λH'=>K (bD env d .any) H'
 | .nxts x=>nL (aIL H (aK env x)) λr=>K (bD env d r.1) r.2
 | .callf true f xs _=>∃ v,CallV B P (aK env f) (xs.map (aK env)) (jV H) (λv' H'=>v'=v/\H'=jV H)/\K (bD env d v) H
 | .callf false f xs _=>CallV B P (aK env f) (xs.map (aK env)) H (λv H'=>K (bD env d v) H')
 | op=>nL (aD op env H) λe=>gY d e K env H
def opW(B:Base)(P:Program)(o:DOper)(K:aJ->Hp->Prop)(env:aJ)(H:Hp):Prop :=
 match gd o env with
 | some true=>iR B P o.dst o.op K env H
 | some false=>K (bD env o.dst (.tup [])) H
 | none=>False
def RS(B:Base)(P:Program):List DOper->(aJ->Hp->Prop)->aJ->Hp->Prop
 | [],K,env,H=>K env H
 | o::rest,K,env,H=>opW B P o (RS B P rest K) env H
theorem CallV.mono{B:Base}{fv:AV}{as:List AV}{Q Q':AV->Hp->Prop}(h:CallV B P fv as H Q)(hq:∀ v H',Q v H'->Q' v H'):CallV B P fv as H Q':=by
 have post:∀(F:Nat->Prop)(w:World)(e:Ending)(w':World),yD F w H Q e w'->yD F w H Q' e w':=λF w e w' ⟨r,v,F',H',h1,h2,h3,h4,h5⟩=>⟨r,v,F',H',h1,h2,h3,h4,hq _ _ h5⟩;unfold CallV at *;split at h;·exact⟨h.1,λF w vs h1 h2 h3=>(h.2 F w vs h1 h2 h3).mono (post F w)⟩
 .exact λF w vs h1 h2 h3=>let ⟨fn,t,x,y,h4,h5⟩:=h F w vs h1 h2 h3; ⟨fn,t,x,y,h4,h5.mono (post F w)⟩
 .exact h.elim
theorem aGk{d:Option Nat}{e:Eff}{K K':aJ->Hp->Prop}(hk:∀ env H,K env H->K' env H)(h:gY d e K env H):gY d e K' env H:=by
 unfold gY at *
 grind
theorem uX{B:Base}{d:Option Nat}{op:DOp}{K:aJ->Hp->Prop}(h:op.isQ=true):iR B P d op K env H=nL (aD op env H) λe=>gY d e K env H:=by
 cases op<;>first|rfl|(simp[DOp.isQ]at h)
theorem aKL{B:Base}{d:Option Nat}{op:DOp}{K K':aJ->Hp->Prop}(hk:∀ env H,K env H->K' env H)(h:iR B P d op K env H):iR B P d op K' env H:=by
 cases op with
 | store n p x l=>exact dB (λ_=>hk _ _) h
 | copy s x y=>exact dB (λ_=>hk _ _) h
 | mapup q m k x=>exact dB (λ_=>hk _ _) h
 | nxts x=>exact dB (λ_=>hk _ _) h
 | callf q f xs l =>
   cases q with
   | true=>obtain⟨v,h1,h2⟩:=h;exact⟨v,h1,hk _ _ h2⟩
   | false=>exact CallV.mono h λv H'=>hk _ _
 | _ =>
   rw[uX rfl]at h ⊢;exact dB (λ_=>aGk hk) h
theorem aQa{B:Base}{o:DOper}{K K':aJ->Hp->Prop}(hk:∀ env H,K env H->K' env H)(h:opW B P o K env H):opW B P o K' env H:=by
 unfold opW at *
 grind [aKL]
def FW(r:Option Nat):Fence:={ Fence.wide with round:=r }
theorem tP(r:Option Nat)(o:Oper):∀ f,o.about P w a.eval=some f->(FW r).fn f:=λ_ _=>trivial
structure Reads(P:Program)(ops:Array Oper)(i:Nat)(d:DOper):Prop where
 get:∃ o,ops[i]?=some o/\d.dst=o.dst /\
  (match o.guard with
   | none=>d.guard=none
   | some (j,w)=>∃ g,(ops[j]?).bind (·.dst)=some g/\d.guard=some (g,w)) /\
  (aBt P o=d.op\/(∃ n p x l,aBt P o = .store n p x []/\d.op = .store n p x l)\/(∃ q f xs l,aBt P o = .callf false f xs []/\d.op = .callf q f xs l)) /\
  (∀ c,o.op ≠ .defer c)
theorem aJY(st:St F w H):St F w (jV H):=by
 refine⟨st.lt,λb x hb=>?_,λb x hb=>?_⟩
 .unfold jV at hb
  cases h:H b with
  | none=>grind
  | some y=>exact st.dis b y h
 .unfold jV at hb
  cases h:H b with
  | none=>grind
  | some y =>
    simp only[h,D1,oSI]at hb;obtain⟨o,h1,h2⟩:=st.blk b y h;refine⟨o,h1,?_⟩;subst hb;cases h2 with
    | cells p cs c e fr hfr hl ho hc=>exact .cells false cs c e fr hfr hl ho hc
    | map p es m clock hl hm=>exact .map false es m clock hl hm
    | obj p o=>exact .obj false o
theorem aJI(H:Hp)(b:Nat):wE (jV H) b=false:=by
 unfold wE jV;cases H b with
 | none=>rfl
 | some x=>cases x<;>rfl
theorem aBX(st:St F w H)(h:Ext F w (jV H) F' w' (jV H))(st':St F' w' (jV H)):Ext F w H F' w' H/\St F' w' H:=by
 have hsame:∀ b,b<w.heap.size->w'.heap[b]?=w.heap[b]?:=λb hb=>h.same b hb (aJI H b);have hd:∀ b,(jV H b).isSome=(H b).isSome:=λb=>by simp[jV]
 have hE:Ext F w H F' w' H:=by
  refine⟨h.sub,λb hb=>?_,λb hb=>.inl hb,λb hb=>.inl hb,h.le,λb hb _=>hsame b hb,h.cells,h.io⟩;have:=h.fnew b hb
  grind
 refine⟨hE,λb hb=>st'.lt b hb,λb x hb=>?_,λb x hb=>?_⟩;·exact st'.dis b x.ro (by unfold jV;rw[hb];rfl)
 .obtain⟨o,h1,h2⟩:=st.blk b x hb
  exact⟨o,by grind,h2.up (hE.up st)⟩
theorem aBZ(re:RE F w env a){xs:Array Operand}{ys:List AO}(h:coL xs=some ys):Args F w (ys.map (aK env)) (xs.map a.eval):=aJV re h
theorem fE{as bs:List AV}{vs us:Array Value}(h:Args F w as vs)(k:Args F w bs us):Args F w (as++bs) (vs++us):=by
 grind [Args]
theorem aJw{B:Base}{r:Option Nat}(hB:B.Up F w)(st:St F w H)(re:RE F w env a){o:Oper}{f:Operand}{args:Array Operand}{ts:Array TypeId}{f':AO}{xs:List AO}
 (ho:o.op = .call { callee:=.value f,args:=args,argTypes:=ts }) (hf:co f=some f') (hx:coL args=some xs) {Q:AV->Hp->Prop}
 (h:CallV B P (aK env f') (xs.map (aK env)) H Q) {next:Act->World->Prop} {Qc:Exit->Act->World->Prop}
 (hn:∀ v c F' w' H',Ext F w H F' w' H'->St F' w' H'->Rv F' w' v c->Q v H'->next (a.put o.dst c) w') :
 o.wpIn (FW r) 0 P a w next Qc:=by
 refine⟨tP r o,?_⟩;rw[Oper.semAt_eq _ _ _ (by grind)];have hfv:=bM re hf;obtain⟨vf,hvf⟩:∃ v,a.eval f=v:=⟨_,rfl⟩;rw[hvf]at hfv;have hargs:=aBZ re hx;unfold CallV at h;split at h
 .rename_i g first cap hev
  rw[hev]at hfv;cases hfv with
  | fn _ _ _ fv cv hl1 hl2 h1 h2 =>
    have hA:Args F w (first++xs.map (aK env)++cap) (fv++args.map a.eval++cv):=fE (fE ⟨hl1,h1⟩ hargs) ⟨hl2,h2⟩;have hc:=h.2 F w _ hB st hA;have hrun:(execOp a.eval o).run P w = .ok (.enter g (fv++args.map a.eval++cv)) w:=by
     simp only[execOp,ho,resolve,hvf,Deferred.ofValue,Sem.run_bind,Sem.run_pure,Result.andThen_ok,invoke];exact h.1 _ _
    rw[hrun,Oper.uponIn_enter];exact⟨λh=>by simp[FW,Fence.wide]at h,CallsIn.mono hc (by rintro e w' ⟨r,v,F',H',rfl,h1,h2,h3,h4⟩;grind)⟩
 .rename_i l hev
  rw[hev]at hfv;cases hfv with
  | fn _ _ _ fv cv hl1 hl2 h1 h2 =>
    have e1:fv = #[]:=by grind
    have e2:cv = #[]:=by grind
    subst e1 e2;obtain⟨fn,t,x,y,h3,h4⟩:=h F w _ hB st hargs;have hrun:(execOp a.eval o).run P w = .ok (.round l fn t x y) w:=by
     simp only[execOp,ho,resolve,hvf,Deferred.ofValue,Sem.run_bind,Sem.run_pure,Result.andThen_ok,invoke,Array.empty_append];exact h3
    rw[hrun,Oper.uponIn_round];exact⟨λh=>by simp[FW,Fence.wide]at h,RoundIn.mono h4 (by rintro e w' ⟨r,v,F',H',rfl,h1,h2,h3,h4⟩;grind)⟩
 grind
theorem nD{o:Oper}{op:DOp}(h:dD P o=some op)(hq:op.isQ=false)(hnc:op.isComm=false) :
 (∃ t pa xa n p x,o.op = .store t pa xa/\nH P t=some n/\co pa=some p/\co xa=some x/\op = .store n p x []) \/
 (∃ t m k x m' k' x' kt e,(o.op = .mapUpdate t m k x\/o.op = .insert t m k x)/\P.underlying t=some (.map kt e)/\co m=some m'/\co k=some k'/\co x=some x' /\
  ((∃ y,P.underlying kt=some (.int y)/\op = .mapup false m' k' x')\/(P.underlying kt=some .string/\op = .mapup true m' k' x'))) \/
 (∃ x x',o.op = .next x true/\co x=some x'/\op = .nxts x') \/
 (∃ c,o.op = .call c/\xX P c=some op):=by
 unfold dD at h;cases ho:o.op with
 | store t pa xa =>
   grind
 | mapUpdate t m k x =>
   simp only[ho]at h;split at h
   .rename_i kt e m' k' x' h1 h2 h3 h4
    split at h<;>simp only[oSI,reduceCtorEq]at h
    all_goals grind
   .simp at h
 | insert t m k x =>
   simp only[ho]at h;split at h
   .rename_i kt e m' k' x' h1 h2 h3 h4
    split at h<;>simp only[oSI,reduceCtorEq]at h
    all_goals grind
   .simp at h
 | next x s =>
   grind [Option.map_eq_some_iff]
 | call c=>grind
 | unOp u t x=>exfalso;cases u<;>simp[ho]at h<;>(grind [DOp.isQ])
 | slice t x lo hi mx =>
   exfalso;cases mx with
   | some m=>grind
   | none =>
     simp only[ho]at h;split at h<;>(grind [Option.map_eq_some_iff,DOp.isQ])<;>(grind [DOp.isQ])
 | makeMap t r =>
   exfalso;cases r with
   | some r=>grind
   | none=>simp only[ho,oSI]at h;grind [DOp.isQ]
 | binOp b t x y u =>
   exfalso;simp only[ho]at h;split at h;·split at h<;>(try simp only[B2,oSI,reduceCtorEq]at h)<;>(first|(obtain⟨z,_,rfl⟩:=h;simp[DOp.isQ]at hq;done)|(subst h;simp[DOp.isQ]at hq;done))
   .simp at h
 | _ =>
   exfalso;simp only[ho]at h
   first
    | (simp at h;done)
    | (simp only[B2]at h;grind [DOp.isQ])
    | ((repeat' split at h)<;>(try simp only[B2,oSI,reduceCtorEq]at h)<;>(first|(obtain⟨z,_,rfl⟩:=h;simp[DOp.isQ]at hq;done)|(subst h;simp[DOp.isQ]at hq;done)))
theorem xH{c:Call}{op:DOp}(h:xX P c=some op)(hq:op.isQ=false) :
 (∃ x y t u x' y' e s,c.callee = .builtin .copy/\c.args = #[x,y]/\c.argTypes = #[t,u]/\P.underlying t=some (.slice e)/\co x=some x'/\co y=some y'/\nH P e=some s/\op = .copy s x' y') \/
 (∃ f f' xs,c.callee = .value f/\co f=some f'/\coL c.args=some xs/\op = .callf false f' xs []) \/
 (∃ k name xs,c.callee = .invoke (.tmp k) name/\coL c.args=some xs/\op = .callf false (.meth (aFW P name) k) xs []):=by
 have arr:∀{α:Type}{xs:Array α}{l:List α},xs.toList=l->xs=l.toArray:=λh=>by rw[<-h]
 unfold xX at h;split at h
 .exfalso
  split at h;·split at h<;>simp only[oSI,reduceCtorEq]at h<;>subst h<;>simp[DOp.isQ]at hq
  .simp at h
 .exfalso
  split at h
  .split at h
   .split at h
    all_goals grind [DOp.isQ]
   .simp at h
  .simp at h
 .grind [Option.map_eq_some_iff]
 .exfalso
  split at h
  .split at h<;>simp only[oSI,reduceCtorEq]at h
   grind [DOp.isQ]
  .simp at h
 .exfalso
  split at h
  .split at h<;>simp only[oSI,reduceCtorEq]at h
   grind [DOp.isQ]
  .simp at h
 all_goals grind
theorem aIP{t:TypeId}{v:AV}{g:FuncId}{first cap:List AV}:∀{tab:List (TypeId×FuncId)},xE t v tab = .fn (.func g) first cap->(t,g)∈tab/\first=[v]/\cap=[]
 | [],h=>by simp[xE]at h
 | (u,f)::r,h=>by
   simp only[xE]at h;split at h
   .rename_i hu
    simp only[AV.fn.injEq,Fn.func.injEq]at h;obtain⟨rfl,rfl,rfl⟩:=h;exact⟨by rw[hu];exact aD3 ..,rfl,rfl⟩
   .obtain⟨h1,h2⟩:=aIP h
    exact⟨D8 _ h1,h2⟩
theorem aJW{t:TypeId}{g:FuncId}{name:String}(h:(t,g)∈aFW P name)(c:Value)(n:Nat):(method (n+1) t c name).run P w = .ok (g,c) w:=by
 unfold aFW at h;simp only[List.mem_filterMap,I2]at h;obtain⟨u,_,h⟩:=h;have key:∀ i,P.info? u=some i->((aHw name i.methods).map λf=>(u,f))=some (t,g)->(∀ d,P.underlying u=some d->(∀ e,d ≠ .pointer e))->(∃ d,P.underlying u=some d)->(method (n+1) t c name).run P w = .ok (g,c) w:=by
  intro i hi hm hd hu;simp only[B2,B9]at hm;obtain⟨f,hf,rfl,rfl⟩:=hm;unfold aHw at hf;split at hf
  .rename_i m hfind
   split at hf<;>simp only[oSI,reduceCtorEq]at hf
   rename_i hp hfn;subst hf;have hfind':i.methods.find? (λm=>m.name==name)=some m:=by grind
   obtain⟨d,hd'⟩:=hu;have hti:(typeInfo u).run P w = .ok i w:=by simp[typeInfo,hi]
   simp only[method,Sem.run_bind,hti,Result.andThen_ok,hfind',hp,follow,Sem.run_pure,hfn];have hrc:∀ wr,(receiverAt u (.val c) false wr).run P w = .ok c w:=by
    intro wr;unfold receiverAt;simp only[Sem.run_bind,run_underlying hd',Result.andThen_ok];have:=hd d hd';cases d<;>first|(rename_i e;exact absurd rfl (this e))|(simp only[Place.get,Sem.run_pure])
   rw[hrc];rfl
  .simp at hf
 split at h;all_goals simp_all
theorem aGr{B:Base}{r:Option Nat}(hB:B.Up F w)(st:St F w H)(re:RE F w env a){o:Oper}{k:Nat}{name:String}{args:Array Operand}{ts:Array TypeId}{xs:List AO}
 (ho:o.op = .call { callee:=.invoke (.tmp k) name,args:=args,argTypes:=ts }) (hx:coL args=some xs) {Q:AV->Hp->Prop}
 (h:CallV B P (aK env (.meth (aFW P name) k)) (xs.map (aK env)) H Q) {next:Act->World->Prop} {Qc:Exit->Act->World->Prop}
 (hn:∀ v c F' w' H',Ext F w H F' w' H'->St F' w' H'->Rv F' w' v c->Q v H'->next (a.put o.dst c) w') :
 o.wpIn (FW r) 0 P a w next Qc:=by
 refine⟨tP r o,?_⟩;rw[Oper.semAt_eq _ _ _ (by grind)];have hfv:=re.rv k;simp only[aK]at h;unfold aEg at h;split at h
 .rename_i t v hk
  rw[hk]at hfv;obtain⟨vf,hvf⟩:∃ v,a.eval (.tmp k)=v:=⟨_,rfl⟩;have hvf':a.tmps.getD k undef=vf:=hvf;rw[hvf']at hfv;cases hfv with
  | ifc _ _ c hc =>
    have hargs:=aBZ re hx;unfold CallV at h;split at h
    .rename_i g first cap hev
     obtain⟨hin,rfl,rfl⟩:=aIP hev;have hA:Args F w ([v]++xs.map (aK env)++[]) (#[c]++args.map a.eval):=by
      rw[J3];exact fE ⟨rfl,λi a' v' h1 h2=>by
       grind⟩ hargs
     have hcl:=h.2 F w _ hB st hA;have hex:(#[Value.iface t c]++args.map a.eval).extract 1 (#[Value.iface t c]++args.map a.eval).size=args.map a.eval:=by
      simp_all
     have h0:(#[Value.iface t c]++args.map a.eval)[0]?=some (.iface t c):=by grind [Array.getElem?_append_left]
     have hrun:(execOp a.eval o).run P w = .ok (.enter g (#[c]++args.map a.eval)) w:=by
      have hp:∀ w,(program:Sem Program).run P w = .ok P w:=λw=>rfl;simp only[execOp,ho,resolve,Sem.run_bind,Sem.run_pure,Result.andThen_ok,invoke,hvf];rw[h0];simp only[callMethod,hex,Sem.run_bind,hp,Result.andThen_ok];rw[show P.types.size+Made.depth=(P.types.size+99)+1 from rfl,aJW hin];exact h.1 _ _
     rw[hrun,Oper.uponIn_enter];exact⟨λh=>by simp[FW,Fence.wide]at h,CallsIn.mono hcl (by rintro e w' ⟨r,v,F',H',rfl,h1,h2,h3,h4⟩;grind)⟩
    .rename_i l hev
     exfalso;have:∀ tab,xE t v tab ≠ .fn (.yield l) [] []:=by
      intro tab;induction tab with
      | nil=>simp[xE]
      | cons p r ih=>obtain⟨u,f⟩:=p;simp only[xE];grind
     grind
    grind
 .unfold CallV at h
  grind
theorem aDo{B:Base}{r:Option Nat}{ops:Array Oper}{i N:Nat}{d:DOper}(hr:Reads P ops i d)(hnc:d.op.isComm=false)(hN:∀ k,d.dst=some k->k<N)(hsz:a.tmps.size=N)
 (hB:B.Up F w) (st:St F w H) (re:RE F w env a) {K:aJ->Hp->Prop} (h:opW B P d K env H) {Kc:Act->World->Prop} {Qc:Exit->Act->World->Prop}
 (hK:∀ a' F' w' env' H',a'.tmps.size=N->a'.defers=a.defers->Ext F w H F' w' H'->St F' w' H'->RE F' w' env' a'->K env' H'->Kc a' w') :
 wpOpIn (FW r) 0 P ops Qc i Kc a w:=by
 obtain⟨o,ho,hdst,hguard,hop,hdef⟩:=hr.get;unfold wpOpIn;simp only[ho];have hput:∀{F':Nat->Prop}{w':World}{v:AV}{c:Value},RE F' w' env a->Rv F' w' v c->RE F' w' (bD env d.dst v) (a.put o.dst c):=λh1 h2=>by
  rw[<-hdst];exact h1.put h2 (λk hk=>by grind)
 have hgd:∀ b,gd d env=some b->Region.wanted o (yielded ops a.tmps)=b:=by
  intro b hb;unfold gd at hb;unfold Region.wanted;split at hguard;·grind
  .rename_i j want hg
   rw[hg];obtain⟨g,h1,h2⟩:=hguard;rw[h2]at hb;simp only at hb;split at hb
   .rename_i t ht
    have hrt:=re.rv g;rw[ht]at hrt;have hy:yielded ops a.tmps j=some t:=by
     unfold yielded;rw[h1];simp only[D9];cases hx:a.tmps[g]? with
     | none =>
       rw[F7,hx]at hrt;cases hrt
     | some x =>
       rw[F7,hx]at hrt;simp only[G5]at hrt;cases hrt;rfl
    simp_all
   .rename_i vs ht
    have hrt:=re.rv g;rw[ht]at hrt;have hy:yielded ops a.tmps j=none:=by
     unfold yielded;rw[h1];simp only[D9];cases hx:a.tmps[g]? with
     | none=>rfl
     | some x =>
       rw[F7,hx]at hrt;simp only[G5]at hrt;cases hrt;rfl
    grind
   .simp at hb
 unfold opW at h;split at h
 .rename_i hg
  rw[if_pos (hgd true hg)]
  have val:∀{c:Value}{w':World}{F':Nat->Prop}{H':Hp}{v:AV},(execOp a.eval o).run P w = .ok (.value c) w'->Ext F w H F' w' H'->St F' w' H'->Rv F' w' v c->K (bD env d.dst v) H' ->
   o.wpIn (FW r) 0 P a w Kc Qc:=by
   intro c w' F' H' v h1 h2 h3 h4 h5;refine⟨tP r o,?_⟩;rw[Oper.semAt_eq _ _ _ hdef,h1,Oper.uponIn_value];exact hK _ F' w' _ H' (by simp[hsz]) (by simp) h2 h3 (hput (re.up (h2.up st)) h4) h5
  have skip:∀{w':World}{H':Hp},(execOp a.eval o).run P w = .ok .skip w'->Ext F w H F w' H'->St F w' H'->K (bD env d.dst .any) H'->o.wpIn (FW r) 0 P a w Kc Qc:=by
   intro w' H' h1 h2 h3 h5;refine⟨tP r o,?_⟩;rw[Oper.semAt_eq _ _ _ hdef,h1,Oper.uponIn_skip];exact hK _ F w' _ H' (by simp[hsz]) (by simp) h2 h3 (hput (re.up (h2.up st)) (.any _)) h5
  by_cases hq:d.op.isQ=true
  .rw[uX hq,dN]at h
   obtain⟨e,he,h⟩:=h;have hc:dD P o=some d.op:=by
    rcases hop with h1|⟨n,p,x,l,_,h2⟩|⟨q,f,xs,l,_,h2⟩
    .unfold aBt at h1
     cases hx:dD P o with
     | none=>rw[hx]at h1;simp at h1;rw[<-h1]at he;simp[aD]at he
     | some y=>grind
    .rw[h2]at hq;simp[DOp.isQ]at hq
    .rw[h2]at hq;simp[DOp.isQ]at hq
   have hs:=bCA (P:=P) st re hc he;cases e with
   | val v =>
     obtain⟨c,h1,h2⟩:=hs;exact val h1 (Ext.refl _ _ _) st h2 h
   | new own x f =>
     obtain⟨j,c,w',h1,h2,h3,h4,h5⟩:=hs;exact val h2 h3 h4 h5 (h j h1)
  .have hq':d.op.isQ=false:=by grind
   obtain⟨op0,hc0,hq0,hnc0,hrel⟩:∃ op0,dD P o=some op0/\op0.isQ=false/\op0.isComm=false/\(op0=d.op\/(∃ n p x l,op0 = .store n p x []/\d.op = .store n p x l)\/(∃ q f xs l,op0 = .callf false f xs []/\d.op = .callf q f xs l)):=by
    unfold aBt at hop;cases hx:dD P o with
    | none =>
      rw[hx]at hop;simp only[Option.getD_none,reduceCtorEq,false_and,exists_false,AAh]at hop;rw[<-hop]at hq';simp[DOp.isQ]at hq'
    | some y =>
      rw[hx]at hop;simp only[G5]at hop;refine⟨y,rfl,?_,?_,hop⟩
      .rcases hop with h1|⟨n,p,x,l,h1,_⟩|⟨q,f,xs,l,h1,_⟩
       .grind
       .rw[h1];rfl
       .rw[h1];rfl
      rfl
   obtain⟨dst,oo,ty,pos,after,guard⟩:=o;rcases nD hc0 hq0 hnc0 with ⟨t,pa,xa,n,p,x,hoo,g1,g2,g3,rfl⟩|⟨t,m,k,x,m',k',x',kt,e,hoo,g1,g2,g3,g4,g5⟩|⟨x,x',hoo,g2,rfl⟩|⟨c,hoo,hcc⟩
   .simp only at hoo
    subst hoo;obtain⟨l,hd⟩:∃ l,d.op = .store n p x l:=by
     grind
    rw[hd]at h;simp only[iR,dN]at h;obtain⟨H',h1,h2⟩:=h;obtain⟨w',k1,k2,k3⟩:=aMK (P:=P) st g1 (bM re g2) (bM re g3) h1;exact skip (by simp only[execOp,Sem.run_bind,k1,Result.andThen_ok,Sem.run_pure]) k2 k3 h2
   .simp only at hoo
    rcases hoo with hoo|hoo<;>subst hoo
    all_goals
     have key:∀ q kd,P.underlying kt=some kd->((q=false/\∃ x,kd = .int x)\/(q=true/\kd = .string))->op0 = .mapup q m' k' x'->Oper.wpIn (FW r) 0 P ⟨dst,_,ty,pos,after,guard⟩ a w Kc Qc:=λq kd hk hkd he=>by
      subst he;have hd:d.op = .mapup q m' k' x':=by
       grind
      rw[hd]at h;simp only[iR,dN]at h;obtain⟨H',h1,h2⟩:=h;obtain⟨w',k1,k2,k3⟩:=aML (P:=P) st g1 hk hkd (bM re g2) (bM re g3) (bM re g4) h1;exact skip (by simp only[execOp,Sem.run_bind,k1,Result.andThen_ok,Sem.run_pure]) k2 k3 h2
     grind
   .simp only at hoo
    subst hoo;have hd:d.op = .nxts x':=by
     grind
    rw[hd]at h;simp only[iR,dN]at h;obtain⟨⟨v,H'⟩,h1,h2⟩:=h;obtain⟨c,w',k1,k2,k3,k4⟩:=aTm (P:=P) (ty:=ty) st (bM re g2) h1;exact val (by simp only[execOp,Sem.run_bind,k1,Result.andThen_ok,Sem.run_pure]) k2 k3 k4 h2
   .simp only at hoo
    subst hoo;rcases xH hcc hq0 with ⟨x,y,t,u,x',y',e,s,e1,e2,e3,g1,g2,g3,g4,rfl⟩|⟨f,f',xs,e1,g1,g2,rfl⟩|⟨k,name,xs,e1,g2,rfl⟩
    .obtain⟨callee,args,argTypes⟩:=c
     simp only at e1 e2 e3;subst e1 e2 e3;have hd:d.op = .copy s x' y':=by
      grind
     rw[hd]at h;simp only[iR,dN]at h;obtain⟨⟨n,H'⟩,h1,h2⟩:=h;obtain⟨w',k1,k2,k3⟩:=aOX (P:=P) (u:=u) (ty:=ty) st g1 g4 (bM re g2) (bM re g3) h1;refine val (c:=.int .i64 (n:Int)) ?_ k2 k3 (.int _ _) h2;simp only[execOp,resolve,Sem.run_bind,Sem.run_pure,Result.andThen_ok,invoke,builtin,List.map_toArray,E7,aA8,k1]
    .obtain⟨callee,args,argTypes⟩:=c
     simp only at e1;subst e1;obtain⟨q,l,hd⟩:∃ q l,d.op = .callf q f' xs l:=by
      grind
     rw[hd]at h;cases q with
     | false =>
       refine aJw hB st re rfl g1 g2 h ?_;intro v c F' w' H' k1 k2 k3 k4;exact hK _ F' w' _ H' (by simp[hsz]) (by simp) k1 k2 (hput (re.up (k1.up st)) k3) k4
     | true =>
       obtain⟨v,h1,h2⟩:=h;refine aJw hB (aJY st) re rfl g1 g2 h1 ?_;rintro v' c F' w' H' k1 k2 k3 ⟨rfl,rfl⟩;obtain⟨k4,k5⟩:=aBX st k1 k2;exact hK _ F' w' _ H (by simp[hsz]) (by simp) k4 k5 (hput (re.up (k4.up st)) k3) h2
    .obtain⟨callee,args,argTypes⟩:=c
     simp only at e1;subst e1;obtain⟨q,l,hd⟩:∃ q l,d.op = .callf q (.meth (aFW P name) k) xs l:=by
      grind
     rw[hd]at h;cases q with
     | false =>
       refine aGr hB st re rfl g2 h ?_;intro v c F' w' H' k1 k2 k3 k4;exact hK _ F' w' _ H' (by simp[hsz]) (by simp) k1 k2 (hput (re.up (k1.up st)) k3) k4
     | true =>
       obtain⟨v,h1,h2⟩:=h;refine aGr hB (aJY st) re rfl g2 h1 ?_;rintro v' c F' w' H' k1 k2 k3 ⟨rfl,rfl⟩;obtain⟨k4,k5⟩:=aBX st k1 k2;exact hK _ F' w' _ H (by simp[hsz]) (by simp) k4 k5 (hput (re.up (k4.up st)) k3) h2
 .rename_i hg
  rw[if_neg (by grind)];exact⟨tP r o,hK _ F w _ H (by simp[hsz]) (by simp) (Ext.refl _ _ _) st (hput re (.tup [] #[] rfl (by simp))) h⟩
 grind
variable{P:Program}{B:Base}
abbrev Log:=Nat->Option Nat
abbrev KL:=aJ->Hp->Log->Prop
def noL:Log:=λ_=>none
def eV(ix:Nat)(op:DOp)(env:aJ)(L:Log):Log:=match op with
 | .load _ _ x=>λj=>if j=ix then fB (aK env x) else L j
 | _=>L
def bE(B:Base)(P:Program)(ix:Nat)(d:Option Nat)(op:DOp)(K:KL)(env:aJ)(H:Hp)(L:Log):Prop :=
 match op with
 | .store n p x l=>(∀ j∈l,∀ c,L j=some c->fB (aK env p)≠some c)/\nL (qW n H (aK env p) (aK env x)) λH'=>K (bD env d .any) H' L
 | .callf false f xs l=>CallV B P (aK env f) (xs.map (aK env)) H (λv H'=>(∀ j∈l,∀ c,L j=some c->H' c=H c)/\K (bD env d v) H' L)
 | op=>iR B P d op (λe h=>K e h (eV ix op env L)) env H
def aEF(g:Bool)(op:DOp):DOp:=if g then op else .mv (.c (.tup []))
def opD(B:Base)(P:Program)(o:DOper)(K:KL)(env:aJ)(H:Hp)(L:Log):Prop :=
 nL (gd o env) λg=>bE B P o.ix o.dst (aEF g o.op) K env H L
def RD(B:Base)(P:Program):List DOper->(aJ->Hp->Prop)->KL
 | [],K=>λenv H _=>K env H
 | o::rest,K=>opD B P o (RD B P rest K)
theorem dI{env:aJ}{k:Nat}{v:AV}{x:AO}(h:k∉x.sees):aK (upd env k v) x=aK env x:=by
 cases x with
 | t j=>simp only[AO.sees,D2]at h;exact rZ _ _ (λe=>h e.symm)
 | c v=>rfl
 | meth tab j=>simp only[AO.sees,D2]at h;simp only[aK];grind [rZ]
theorem qD{env:aJ}{k:Nat}{v:AV}{x:Option AO}{c d:Nat}(h:k∉aIo x):aW c d (upd env k v) x=aW c d env x:=by
 cases x with
 | none=>rfl
 | some x=>simp only[aW,dI (show k∉x.sees from h)]
theorem aBh{env:aJ}{k:Nat}{v:AV}{xs:List AO}(h:k∉aIp xs):xs.map (aK (upd env k v))=xs.map (aK env):=by
 refine I4 λx hx=>dI λhk=>h ?_
 simp_all [aIp]
theorem aDY{env:aJ}{k:Nat}{v:AV}{ps:List (Nat×Nat×AO)}(h:k∉ps.flatMap λp=>p.2.2.sees) :
 (ps.map λp=>(p.1,p.2.1,aK (upd env k v) p.2.2))=ps.map λp=>(p.1,p.2.1,aK env p.2.2):=by
 grind [List.map_congr_left,dI]
theorem aMI{env:aJ}{k:Nat}{v:AV}{s:Nat}{lo hi:Option AO}{x:AV}(h1:k∉aIo lo)(h2:k∉aIo hi):mX s (upd env k v) lo hi x=mX s env lo hi x:=by
 unfold mX
 grind [qD]
theorem aGj{env:aJ}{k:Nat}{v:AV}{op:DOp}{H:Hp}(h:k∉op.sees):aD op (upd env k v) H=aD op env H:=by
 cases op<;>simp only[DOp.sees,C8,not_or]at h
 case mkf f a c=>simp only[aD,aBh h.1,aBh h.2]
 case build z ps=>simp only[aD,aDY h]
 case bslice s l z ps=>simp only[aD,aDY h]
 case pick c a b=>simp only[aD,dI h.1.1,dI h.1.2,dI h.2]
 case slarr l s x lo hi=>simp only[aD,dI h.1.1,qD h.1.2,qD h.2]
 case slsl s x lo hi=>simp only[aD,dI h.1.1,aMI h.1.2 h.2]
 case slstr x lo hi=>simp only[aD,dI h.1.1,qD h.1.2,qD h.2]
 case store n p x l=>rfl
 case copy s x y=>rfl
 case mapup q m k x=>rfl
 case nxts x=>rfl
 case callf q f xs l=>rfl
 case alloc=>rfl
 case mkmap=>rfl
 case allocb=>rfl
 case stuck=>rfl
 all_goals first
  | (simp only[aD,dI h];done)
  | (simp only[aD,dI h.1,dI h.2];done)
theorem aXv{env:aJ}{k:Nat}{v:AV}{o:DOper}(h:k∉o.sees):gd o (upd env k v)=gd o env:=by
 unfold gd;unfold DOper.sees at h;split;·rfl
 .rename_i g want hg
  rw[hg]at h;simp only[C8,D2,not_or]at h
  grind [rZ]
theorem aOx{env:aJ}{j k:Nat}{u v:AV}(h:j≠k):upd (upd env j u) k v=upd (upd env k v) j u:=by
 funext i;unfold upd
 grind
theorem lX{env:aJ}{d:Option Nat}{k:Nat}{u v:AV}(h:d≠some k):bD (upd env k v) d u=upd (bD env d u) k v:=by
 cases d with
 | none=>rfl
 | some d=>exact(aOx (λe=>h (by rw[e]))).symm
theorem aNc{H:Hp}{b c:Nat}{x y:ABlk}(h:b≠c):hset (hset H b x) c y=hset (hset H c y) b x:=by
 funext i;unfold hset
 grind
theorem aFY{ix:Nat}{op:DOp}{env:aJ}{k:Nat}{v:AV}{L:Log}(h:k∉op.sees):eV ix op (upd env k v) L=eV ix op env L:=by
 cases op<;>first|rfl|skip
 case load g n x=>simp only[eV,dI (show k∉x.sees from h)]
theorem cS{ix:Nat}{d:Option Nat}{op:DOp}{K:KL}{env:aJ}{H:Hp}{L:Log}(h:op.isQ=true) :
 bE B P ix d op K env H L=nL (aD op env H) λe=>gY d e (λe h=>K e h (eV ix op env L)) env H:=by
 cases op<;>first|rfl|(simp[DOp.isQ]at h)
theorem aRc{d:Option Nat}{e:Eff}{K:aJ->Hp->Prop}{env:aJ}{H:Hp}{k:Nat}{v:AV}(h:d≠some k) :
 gY d e K (upd env k v) H=gY d e (λe h=>K (upd e k v) h) env H:=by
 cases e<;>simp only[gY,lX h]
theorem aNr{ix:Nat}{d:Option Nat}{op:DOp}{K:KL}{env:aJ}{H:Hp}{L:Log}{k:Nat}{v:AV}(h:k∉op.sees)(hd:d≠some k) :
 bE B P ix d op K (upd env k v) H L=bE B P ix d op (λe h l=>K (upd e k v) h l) env H L:=by
 cases op
 case store n p x l =>
  simp only[DOp.sees,C8,not_or]at h;simp only[bE,dI h.1,dI h.2,lX hd]
 case copy s x y =>
  simp only[DOp.sees,C8,not_or]at h;simp only[bE,iR,eV,dI h.1,dI h.2,lX hd]
 case mapup q m k x =>
  simp only[DOp.sees,C8,not_or]at h;simp only[bE,iR,eV,dI h.1.1,dI h.1.2,dI h.2,lX hd]
 case nxts c =>
  simp only[DOp.sees]at h;simp only[bE,iR,eV,dI h,lX hd]
 case callf q f xs l =>
  simp only[DOp.sees,C8,not_or]at h;cases q<;>simp only[bE,iR,eV,dI h.1,aBh h.2,lX hd]
 all_goals
  rw[cS rfl,cS rfl,aGj h,aFY h];simp only[aRc hd]
theorem uY{ix:Nat}{d e:Option Nat}{op:DOp}{K:KL}{env:aJ}{H:Hp}{L:Log}{v:AV}(h:∀ k,e=some k->k∉op.sees)(hd:∀ k,e=some k->d≠some k) :
 bE B P ix d op K (bD env e v) H L=bE B P ix d op (λe' h l=>K (bD e' e v) h l) env H L:=by
 cases e with
 | none=>rfl
 | some k=>exact aNr (h k rfl) (hd k rfl)
theorem dQ{e:Option Nat}{op:DOp}{env:aJ}{H:Hp}{v:AV}(h:∀ k,e=some k->k∉op.sees):aD op (bD env e v) H=aD op env H:=by
 cases e with
 | none=>rfl
 | some k=>exact aGj (h k rfl)
theorem fI{ix:Nat}{e:Option Nat}{op:DOp}{env:aJ}{L:Log}{v:AV}(h:∀ k,e=some k->k∉op.sees):eV ix op (bD env e v) L=eV ix op env L:=by
 cases e with
 | none=>rfl
 | some k=>exact aFY (h k rfl)
theorem aLQ{e:Option Nat}{o:DOper}{env:aJ}{v:AV}(h:∀ k,e=some k->k∉o.sees):gd o (bD env e v)=gd o env:=by
 cases e with
 | none=>rfl
 | some k=>exact aXv (h k rfl)
theorem gL{env:aJ}{d e:Option Nat}{u v:AV}(h:∀ k,e=some k->d≠some k):bD (bD env e v) d u=bD (bD env d u) e v:=by
 cases e with
 | none=>rfl
 | some k=>exact lX (h k rfl)
theorem uJ{i j:Nat}{x y:DOp}{env:aJ}{L:Log}(h:i≠j):eV i x env (eV j y env L)=eV j y env (eV i x env L):=by
 cases x<;>cases y<;>first|rfl|skip
 funext k;simp only[eV]
 grind
def rdB(op:DOp)(env:aJ):List Nat:=match op with
 | .load _ _ x=>(fB (aK env x)).toList
 | .slarr _ _ x _ _=>(fB (aK env x)).toList
 | .lookup _ _ _ m _=>(fB (aK env m)).toList
 | .app _ _ x y=>(fB (aK env x)).toList++(fB (aK env y)).toList
 | .strof x=>(fB (aK env x)).toList
 | _=>[]
theorem aIU{g:Bool}{n:Nat}{H H':Hp}{v:AV}(h:∀ b,fB v=some b->H b=H' b):fM g n H v=fM g n H' v:=by
 cases v<;>first|rfl|skip
 simp_all [fM,fB]
theorem aIS{q:Bool}{H H':Hp}{k v:AV}(h:∀ b,fB v=some b->H b=H' b):nA q H k v=nA q H' k v:=by
 cases v<;>first|rfl|skip
 simp_all [nA,fB]
theorem aDm{s:Nat}{H H':Hp}{v:AV}(h:∀ b,fB v=some b->H b=H' b):fX s H v=fX s H' v:=by
 cases v<;>first|rfl|skip
 simp_all [fX,fB]
theorem aGM{H H':Hp}{v:AV}(h:∀ b,fB v=some b->H b=H' b):jS H v=jS H' v:=by
 unfold jS
 grind [aDm]
theorem aKW{s n:Nat}{H H':Hp}{x y:AV}(h:∀ b,fB x=some b->H b=H' b)(h':∀ b,fB y=some b->H b=H' b):tO s n H x y=tO s n H' x y:=by
 unfold tO;rw[aDm h'];cases x<;>first|rfl|skip
 case sl b o s' l=>cases o<;>simp only[h b rfl]
 case sb b l=>simp only[h b rfl]
theorem nG{op:DOp}{env:aJ}{H H':Hp}(h:∀ b∈rdB op env,H b=H' b):aD op env H=aD op env H':=by
 cases op<;>first|rfl|skip
 case load g n x=>simp only[aD,aIU (v:=aK env x) λb hb=>h b (by simp[rdB,hb])]
 case slarr l s x lo hi =>
  simp only[aD];cases hx:aK env x<;>first|rfl|skip
  rename_i b o;simp only[h b (by simp[rdB,hx,fB])]
 case lookup q ok z m k=>simp only[aD,aIS (v:=aK env m) λb hb=>h b (by simp[rdB,hb])]
 case strof x=>simp only[aD,aGM (v:=aK env x) λb hb=>h b (by simp[rdB,hb])]
 case app s n x y=>simp only[aD,aKW (x:=aK env x) (y:=aK env y) (λb hb=>h b (by simp[rdB,hb])) (λb hb=>h b (by simp[rdB,hb]))]
theorem aRa{op:DOp}{env:aJ}{H:Hp}{e:Eff}{b:Nat}(h:aD op env H=some e)(hb:b∈rdB op env):H b≠none:=by
 intro hn;cases op<;>simp only[rdB,H6,C8,aB3]at hb
 case load g n x =>
  simp only[aD]at h;cases hx:aK env x<;>rw[hx]at hb h<;>simp only[fB,oSI,reduceCtorEq]at hb<;>subst hb<;>simp[fM,hn]at h
 case slarr l s x lo hi =>
  simp only[aD]at h;cases hx:aK env x<;>rw[hx]at hb h<;>simp only[fB,oSI,reduceCtorEq]at hb<;>subst hb<;>simp[hn]at h
 case lookup q ok z m k =>
  simp only[aD]at h;cases hx:aK env m<;>rw[hx]at hb h<;>simp only[fB,oSI,reduceCtorEq]at hb<;>subst hb<;>simp[nA,hn]at h
 case strof x =>
  simp only[aD]at h;cases hx:aK env x<;>rw[hx]at hb h<;>simp only[fB,oSI,reduceCtorEq]at hb<;>subst hb<;>simp[jS,oY,fX,hn]at h
 case app s n x y =>
  simp only[aD,tO]at h;split at h;·simp at h
  .rename_i k new hs
   rcases hb with hb|hb
   .cases hx:aK env x<;>rw[hx]at hb h<;>simp only[fB,oSI,reduceCtorEq]at hb<;>subst hb<;>try grind
    all_goals grind
   .cases hx:aK env y<;>rw[hx]at hb hs<;>simp only[fB,oSI,reduceCtorEq]at hb<;>subst hb<;>simp[fX,hn]at hs
theorem aJo{op:DOp}{env:aJ}{H:Hp}{e:Eff}{b:Nat}{x:ABlk}(hb:H b=none)(h:aD op env H=some e):aD op env (hset H b x)=some e:=by
 grind [nG,aL,aRa]
theorem aKn{l:List Nat}{b:Nat}(h:b∈l):b<=l.sum:=by
 induction l with
 | nil=>simp at h
 | cons x r ih =>
   grind
theorem aNn{op:DOp}{env:aJ}{H:Hp}{b:Nat}{x:ABlk}(hb:(rdB op env).sum<b):aD op env (hset H b x)=aD op env H :=
 nG λc hc=>aL _ _ (by have:=aKn hc;omega)
theorem aKd{g:Bool}{n o:Nat}{cs new:List AV}{v:AV}(h:iZ g n cs o=some v):iZ g n (cs++new) o=some v:=by
 grind [iZ]
theorem aKE{op:DOp}{env:aJ}{H:Hp}{e:Eff}{b:Nat}{cs new:List AV}(hb:H b=some (.cells true cs))(hk:op.kind≠3)(h:aD op env H=some e) :
 aD op env (hset H b (.cells true (cs++new)))=some e:=by
 by_cases hm:b∈rdB op env
 .cases op<;>simp only[rdB,H6,C8,aB3]at hm
  case load g n x =>
   simp only[aD]at h ⊢;cases hx:aK env x<;>rw[hx]at hm h<;>simp only[fB,oSI,reduceCtorEq]at hm<;>subst hm<;>try (simp[fM]at h;done)
   rename_i o;simp only[fM,hb,hset_same]at h ⊢
   grind [aKd]
  case strof x =>
   simp only[aD]at h ⊢;cases hx:aK env x<;>rw[hx]at hm h<;>simp only[fB,oSI,reduceCtorEq]at hm<;>subst hm<;>try (simp[jS,oY,fX]at h;done)
   rename_i o s' len;simp only[jS,fX,hb,hset_same]at h ⊢;by_cases hc:s'=1/\o+len*1<=cs.length;·grind
   .rw[if_neg hc]at h;simp[oY]at h
  case slarr l s x lo hi =>
   simp only[aD]at h ⊢;cases hx:aK env x<;>rw[hx]at hm h<;>simp only[fB,oSI,reduceCtorEq]at hm<;>subst hm<;>try (simp at h;done)
   rename_i o;simp only[hb,hset_same]at h ⊢
   grind
  case lookup q ok z m k =>
   simp only[aD]at h ⊢;cases hx:aK env m<;>rw[hx]at hm h<;>simp only[fB,oSI,reduceCtorEq]at hm<;>subst hm<;>simp[nA,hb]at h
  case app=>simp[DOp.kind]at hk
 grind [nG,aL]
theorem tJ{op:DOp}{env:aJ}{H:Hp}{b:Nat}{x:ABlk}{f:Nat->AV}(h:aD op env H=some (.new (some b) x f)) :
 op.kind=3/\∃ cs new,H b=some (.cells true cs)/\x = .cells true (cs++new):=by
 cases op
 case app s n y z =>
  refine⟨rfl,?_⟩;simp only[aD,tO]at h
  grind
 all_goals
  exfalso;simp only[aD]at h
  first
   | (simp at h;done)
   | (repeat' split at h)<;>simp at h
theorem tI{op:DOp}{env:aJ}{H:Hp}{e:Eff}(hk:op.kind<=1)(h:aD op env H=some e):∃ v,e = .val v:=by
 cases op<;>simp only[DOp.kind]at hk<;>try (omega)
 all_goals
  simp only[aD]at h
  first
   | (simp at h;done)
   | (simp only[oSI]at h;grind)
   | (simp only[B2]at h;grind)
   | ((repeat' split at h)<;>first|(simp at h;done)|(simp only[oSI]at h;exact⟨_,h.symm⟩))
   | (rename_i q _ _ _;cases q<;>simp[DOp.kind]at hk;done)
def FinH(H:Hp):Prop:=∃ N,∀ b,N<=b->H b=none
theorem St.fin{F:Nat->Prop}{w:World}{H:Hp}(h:St F w H):FinH H:=⟨w.heap.size,λb hb=>by
 cases hx:H b with
 | none=>rfl
 | some x=>exact absurd (h.own_lt hx) AS⟩
theorem FinH.hset{H:Hp}{b:Nat}{x:ABlk}(h:FinH H):FinH (hset H b x):=by
 obtain⟨N,h⟩:=h;exact⟨max N (b+1),λc hc=>by grind [aL]⟩
theorem CallV.conv{fv:AV}{as:List AV}{H1 H2:Hp}{Q1 Q2:AV->Hp->Prop}(h:CallV B P fv as H1 Q1)
 (hc:∀ F w,St F w H2->St F w H1/\∀ e w',yD F w H1 Q1 e w'->yD F w H2 Q2 e w'):CallV B P fv as H2 Q2:=by
 unfold CallV at *;split at h;·exact⟨h.1,λF w vs h1 h2 h3=>(h.2 F w vs h1 (hc F w h2).1 h3).mono (hc F w h2).2⟩
 .exact λF w vs h1 h2 h3=>let ⟨fn,t,x,y,h4,h5⟩:=h F w vs h1 (hc F w h2).1 h3; ⟨fn,t,x,y,h4,h5.mono (hc F w h2).2⟩
 omega
theorem CallV.monoF{fv:AV}{as:List AV}{H:Hp}{Q Q':AV->Hp->Prop}(h:CallV B P fv as H Q)(hq:∀ v H',FinH H'->Q v H'->Q' v H'):CallV B P fv as H Q' :=
 h.conv λF w st=>⟨st,λe w' ⟨r,v,F',H',h1,h2,h3,h4,h5⟩=>⟨r,v,F',H',h1,h2,h3,h4,hq _ _ h3.fin h5⟩⟩
theorem CallV.frame{fv:AV}{as:List AV}{H:Hp}{Q:AV->Hp->Prop}{b:Nat}{z:ABlk}(h:CallV B P fv as H Q)(hb:H b=none) :
 CallV B P fv as (hset H b z) λv H''=>∃ H',Q v H'/\H' b=none/\H''=hset H' b z:=by
 refine h.conv λF w st=>?_;have st1:St F w H:=st.forget λc x hc=>by grind [aL]
 refine⟨st1,?_⟩;rintro e w' ⟨r,v,F',H',rfl,h2,h3,h4,h5⟩;have hlt:b<w.heap.size:=st.own_lt (hset_same H b z);have hn:H' b=none:=by
  cases hx:H' b with
  | none=>rfl
  | some x =>
    rcases h2.hdom b (by simp[hx])with h6|h6;all_goals grind
 have hsame:w'.heap[b]?=w.heap[b]?:=h2.same b hlt (by simp[wE,hb]);have hnF:¬F' b:=λhF=>by
  rcases h2.fnew b hF with h6|h6|h6;·exact st.dis b z (hset_same H b z) h6
  all_goals grind
 refine⟨r,v,F',hset H' b z,rfl,?_,?_,h4,H',h5,hn,rfl⟩
 .refine⟨h2.sub,λc hc=>?_,λc hc=>?_,λc hc=>?_,h2.le,λc hc hw=>?_,h2.cells,h2.io⟩
  .rcases h2.fnew c hc with h6|h6|h6
   all_goals grind [aL]
  .by_cases h6:c=b
   .simp_all
   .rw[aL _ _ h6]at hc ⊢;exact h2.hdom c hc
  .by_cases h6:c=b
   .simp_all [wE]
   .simp only[wE,aL _ _ h6]at hc ⊢;exact h2.hnew c hc
  .by_cases h6:c=b
   .grind
   .exact h2.same c hc (by simp_all [wE,hset])
 .refine⟨h3.lt,λc x hc=>?_,λc x hc=>?_⟩
  .by_cases h6:c=b
   .grind
   .rw[aL _ _ h6]at hc;exact h3.dis c x hc
  .by_cases h6:c=b
   .subst h6
    simp only[hset_same,oSI]at hc;subst hc;obtain⟨o,h7,h8⟩:=st.blk c z (hset_same H c z);exact⟨o,by grind,h8.up (h2.up st1)⟩
   .rw[aL _ _ h6]at hc;exact h3.blk c x hc
theorem aDH(H:Hp)(b:Nat)(z:ABlk):jV (hset H b z)=hset (jV H) b z.ro:=by
 funext c;by_cases h:c=b;all_goals simp_all [jV,hset]
theorem CallV.quiet{fv:AV}{as:List AV}{H H2:Hp}{v:AV}(h:CallV B P fv as (jV H) λv' H'=>v'=v/\H'=jV H)
 (hd:∀ b,(jV H b).isSome=true->(H2 b).isSome=true) (hs:∀ F w,St F w (jV H2)->St F w (jV H)):CallV B P fv as (jV H2) λv' H'=>v'=v/\H'=jV H2:=by
 refine h.conv λF w st=>⟨hs F w st,?_⟩;rintro e w' ⟨r,v,F',H',rfl,h2,h3,h4,rfl,rfl⟩;have hsame:∀ b,b<w.heap.size->w'.heap[b]?=w.heap[b]?:=λb hb=>h2.same b hb (aJI H b);have hd2:∀ b,(jV H2 b).isSome=(H2 b).isSome:=λb=>by unfold jV;grind
 refine⟨r,_,F',jV H2,rfl,?_,?_,h4,rfl,rfl⟩
 .refine⟨h2.sub,λb hb=>?_,λb hb=>.inl hb,λb hb=>.inl hb,h2.le,λb hb _=>hsame b hb,h2.cells,h2.io⟩
  rcases h2.fnew b hb with h6|h6|h6;all_goals grind
 .refine⟨h3.lt,λb x hb hF=>?_,λb x hb=>?_⟩
  .rcases h2.fnew b hF with h6|h6|h6
   .exact st.dis b x hb h6
   .obtain⟨y,hy⟩:=C5.1 h6
    exact h3.dis b y hy hF
   .exact absurd (st.own_lt hb) AS
  .obtain⟨o,h7,h8⟩:=st.blk b x hb
   exact⟨o,by grind,h8.up (h2.up (hs F w st))⟩
theorem CallV.quiet_fresh{fv:AV}{as:List AV}{H:Hp}{v:AV}{b:Nat}{z:ABlk}(h:CallV B P fv as (jV H) λv' H'=>v'=v/\H'=jV H)(hb:H b=none) :
 CallV B P fv as (jV (hset H b z)) λv' H'=>v'=v/\H'=jV (hset H b z):=by
 have hne:∀ c,(jV H c).isSome=true->c≠b:=λc hc e=>by subst e;simp[jV,hb]at hc
 refine h.quiet (λc hc=>?_) λF w st=>st.forget λc x hc=>?_;·simp_all [hset,jV]
 .rw[aDH,aL _ _ (hne c (by simp[hc]))];exact hc
theorem CallV.quiet_grow{fv:AV}{as:List AV}{H:Hp}{v:AV}{b:Nat}{cs new:List AV}(h:CallV B P fv as (jV H) λv' H'=>v'=v/\H'=jV H)(hb:H b=some (.cells true cs)) :
 CallV B P fv as (jV (hset H b (.cells true (cs++new)))) λv' H'=>v'=v/\H'=jV (hset H b (.cells true (cs++new))):=by
 refine h.quiet (λc hc=>?_) λF w st=>⟨st.lt,λc x hc=>?_,λc x hc=>?_⟩
 .by_cases h1:c=b
  all_goals simp_all [hset,jV]
 .rw[aDH]at st
  by_cases h1:c=b;·subst h1;exact st.dis c _ (hset_same _ _ _)
  .exact st.dis c x (by grind [aL])
 .rw[aDH]at st
  by_cases h1:c=b
  .subst h1
   obtain⟨o,h2,h3⟩:=st.blk c _ (hset_same _ _ _);simp only[jV,hb,D1,ABlk.ro,oSI]at hc;subst hc;refine⟨o,h2,?_⟩;cases h3 with
   | cells p ds c e fr hfr hl ho hr =>
     refine .cells _ _ _ _ _ hfr (by grind) ho λi a v hi hv=>hr i a v ?_ hv
     grind
  .exact st.blk c x (by grind [aL])
theorem aKF{d:Option Nat}{e:Eff}{K K':aJ->Hp->Prop}{env:aJ}{H:Hp}(hf:FinH H)(hk:∀ u H',FinH H'->K (bD env d u) H'->K' (bD env d u) H')(h:gY d e K env H):gY d e K' env H:=by
 cases e with
 | val v=>exact hk _ _ hf h
 | new own x f=>exact λb hb=>hk _ _ hf.hset (h b hb)
theorem qL{ix j:Nat}{op:DOp}{env:aJ}{L:Log}(h:j≠ix):eV ix op env L j=L j:=by
 cases op<;>first|rfl|simp[eV,h]
theorem aJP{n:Nat}{H H':Hp}{p x:AV}(hf:FinH H)(h:qW n H p x=some H'):FinH H':=by
 unfold qW at h;split at h
 .split at h
  .split at h<;>simp at h;subst h;exact hf.hset
  .simp at h
 .simp at h
theorem aKo{q:Bool}{H H':Hp}{m k x:AV}(hf:FinH H)(h:aAj q H m k x=some H'):FinH H':=by
 unfold aAj at h;split at h
 .split at h
  .simp only[B2]at h;obtain⟨_,_,rfl⟩:=h;exact hf.hset
  .simp at h
 .simp at h
theorem aQh{H:Hp}{x:AV}{r:AV×Hp}(hf:FinH H)(h:aIL H x=some r):FinH r.2:=by
 unfold aIL at h;split at h
 .split at h
  .split at h<;>simp at h<;>subst h
   .exact hf.hset
   .exact hf
  .simp at h
 .simp at h
theorem aNs{s:Nat}{H:Hp}{x y:AV}{r:Nat×Hp}(hf:FinH H)(h:aEH s H x y=some r):FinH r.2:=by
 unfold aEH at h;split at h
 .split at h
  .split at h<;>simp at h;subst h;exact hf.hset
  .simp at h
 .simp at h
theorem pI{α:Type}{o:Option α}{k k':α->Prop}(h:∀ x,o=some x->k x->k' x)(ho:nL o k):nL o k':=by
 cases o with
 | none=>exact ho
 | some x=>exact h x rfl ho
theorem mL{ix:Nat}{d:Option Nat}{op:DOp}{K K':KL}{env:aJ}{H:Hp}{L:Log}(hf:FinH H)
 (hk:∀ u H' L',FinH H'->(∀ j,j≠ix->L' j=L j)->K (bD env d u) H' L'->K' (bD env d u) H' L') (h:bE B P ix d op K env H L):bE B P ix d op K' env H L:=by
 cases op
 case store n p x l=>exact⟨h.1,pI (λH' he=>hk _ _ _ (aJP hf he) λ_ _=>rfl) h.2⟩
 case copy s x y=>exact pI (λr he=>hk _ _ _ (aNs hf he) λ_ _=>rfl) h
 case mapup q m k x=>exact pI (λH' he=>hk _ _ _ (aKo hf he) λ_ _=>rfl) h
 case nxts x=>exact pI (λr he=>hk _ _ _ (aQh hf he) λ_ _=>rfl) h
 case callf q f xs l =>
  cases q with
  | true=>obtain⟨v,h1,h2⟩:=h;exact⟨v,h1,hk _ _ _ hf (λ_ _=>rfl) h2⟩
  | false=>exact CallV.monoF h λv H' hf' hq=>⟨hq.1,hk _ _ _ hf' (λ_ _=>rfl) hq.2⟩
 all_goals
  rw[cS rfl]at h ⊢;exact dB (λe=>aKF hf λu H' hf'=>hk _ _ _ hf' λj hj=>qL hj) h
theorem aQd{o:DOper}{K K':KL}{env:aJ}{H:Hp}{L:Log}(hf:FinH H)
 (hk:∀ e H' L',FinH H'->(∀ j,j≠o.ix->L' j=L j)->K e H' L'->K' e H' L') (h:opD B P o K env H L):opD B P o K' env H L :=
 dB (λg=>mL hf λu H' L'=>hk _ _ _) h
def aCW(op:DOp):Bool:=match op with
 | .callf false .. => true
 | _=>false
theorem aCu{ix:Nat}{d:Option Nat}{op:DOp}{env:aJ}{H:Hp}{L:Log}(hf:FinH H)(hc:aCW op=false)(h:bE B P ix d op (λ_ _ _=>False) env H L):False:=by
 have ow:∀{α:Type}{o:Option α},nL o (λ_=>False)->False:=λ{α o} h=>by cases o<;>exact h
 cases op
 case store n p x l=>exact ow h.2
 case copy s x y=>exact ow h
 case mapup q m k x=>exact ow h
 case nxts x=>exact ow h
 case callf q f xs l =>
  cases q with
  | true=>obtain⟨v,h1,h2⟩:=h;exact h2
  | false=>simp[aCW]at hc
 all_goals
  rw[cS rfl,dN]at h;obtain⟨e,_,h⟩:=h;cases e with
  | val v=>exact h
  | new own x f=>obtain⟨N,hf⟩:=hf;exact h N (.inl (hf N (B5 _)))
section
variable{ix iy:Nat}{dx dy:Option Nat}{opx opy:DOp}{K:KL}{env:aJ}{H:Hp}{L:Log}
theorem uO{op:DOp}{b:Nat}{own:Option Nat}{x:ABlk}{f:Nat->AV}{e:Eff}{op':DOp}(hn:aD op' env H=some (.new own x f))(h3:¬(op.kind=3/\op'.kind=3))
 (hb:H b=none\/own=some b) (h:aD op env H=some e):aD op env (hset H b x)=some e:=by
 grind [aJo,tJ,aKE]
theorem aWx(hf:FinH H)(hqx:opx.isQ=true)(hqy:opy.isQ=true)(h3:¬(opy.kind=3/\opx.kind=3))(hne:ix≠iy)
 (a1:∀ k,dx=some k->k∉opy.sees) (a2:∀ k,dy=some k->k∉opx.sees) (a3:∀ k,dx=some k->dy≠some k)
 (h:bE B P ix dx opx (bE B P iy dy opy K) env H L):bE B P iy dy opy (bE B P ix dx opx K) env H L:=by
 have key:∀(e:aJ)(h':Hp)(L':Log),bE B P iy dy opy K e h' L'=nL (aD opy e h') λe'=>gY dy e' (λe'' h=>K e'' h (eV iy opy e L')) e h':=λe h' L'=>cS hqy;have key':∀(e:aJ)(h':Hp)(L':Log),bE B P ix dx opx K e h' L'=nL (aD opx e h') λe'=>gY dx e' (λe'' h=>K e'' h (eV ix opx e L')) e h':=λe h' L'=>cS hqx;rw[cS hqx,dN]at h;obtain⟨ex,hex,h⟩:=h;rw[cS hqy];cases ex with
 | val v =>
   simp only[gY,key,dQ a1,fI a1]at h;rw[dN]at h;obtain⟨ey,hey,h⟩:=h;rw[hey,optW_some];cases ey with
   | val u =>
     simp only[gY,key',dQ a2,fI a2,hex,optW_some]at h ⊢
     grind [gL,uJ]
   | new own z f =>
     simp only[gY,key',dQ a2,fI a2]at h ⊢;intro b hb;rw[uO hey (λh=>h3 ⟨h.2,h.1⟩) hb hex,optW_some];have:=h b hb;rw[gL a3,uJ (Ne.symm hne)]at this;exact this
 | new own z f =>
   simp only[gY,key,dQ a1,fI a1]at h;obtain⟨ey,hey⟩:∃ ey,aD opy env H=some ey:=by
    obtain⟨N,hN⟩:=hf;have h1:=h (N+(rdB opy env).sum+1) (.inl (hN _ AS))
    grind [aNn,dN]
   rw[hey,optW_some];have h':∀ b,(H b=none\/own=some b)->gY dy ey (λe'' h=>K e'' h (eV iy opy env (eV ix opx env L))) (bD env dx (f b)) (hset H b z):=λb hb=>by
    have:=h b hb;rwa [uO hex h3 hb hey,optW_some]at this
   cases ey with
   | val u =>
     simp only[gY,key',dQ a2,fI a2,hex,optW_some]at h' ⊢;intro b hb;have:=h' b hb;rw[gL a3,uJ (Ne.symm hne)]at this;exact this
   | new own' z' f' =>
     simp only[gY,key',dQ a2,fI a2]at h' ⊢;intro c hc;rw[uO hey (λh=>h3 ⟨h.2,h.1⟩) hc hex,optW_some];intro b hb;have hown:∀ j,own=some j->H j≠none:=λj hj=>by
      grind [tJ]
     have hown':∀ j,own'=some j->H j≠none:=λj hj=>by
      grind [tJ]
     have hbc:b≠c:=by
      rintro rfl;rcases hb with hb|hb;·simp at hb
      grind [tJ]
     have hb':H b=none\/own=some b:=by grind [aL]
     have:=h' b hb' c (by rwa [aL _ _ (Ne.symm hbc)]);rw[gL a3,uJ (Ne.symm hne),aNc hbc]at this;exact this
theorem uI{op:DOp}{e:aJ}(h:op.kind≠1):eV ix op e L=L:=by
 cases op<;>first|rfl|simp[DOp.kind]at h
theorem nC{op:DOp}(h:op.kind<=3\/op.kind=7):op.isQ=true:=by
 cases op<;>first|rfl|skip
 case callf q f xs l=>cases q<;>simp[DOp.kind]at h
 all_goals grind [DOp.kind]
theorem xP{op:DOp}{H':Hp}(h:op.kind=0):aD op env H=aD op env H':=by
 cases op<;>first|rfl|simp[DOp.kind]at h
theorem aCt{op:DOp}(h:op.kind=7):∃ z f,∀ env H,aD op env H=some (.new none z f):=by
 cases op<;>simp[DOp.kind]at h
 case alloc z=>simp[aD]
 case mkmap=>simp[aD]
 case allocb=>simp[aD]
 grind
theorem aYX(hf:FinH H)(hk:opx.kind=0)
 (a1:∀ k,dx=some k->k∉opy.sees) (a2:∀ k,dy=some k->k∉opx.sees) (a3:∀ k,dx=some k->dy≠some k)
 (h:bE B P ix dx opx (bE B P iy dy opy K) env H L):bE B P iy dy opy (bE B P ix dx opx K) env H L:=by
 have hq:=nC (op:=opx) AS;rw[cS hq,dN]at h;obtain⟨ex,hex,h⟩:=h;obtain⟨v,rfl⟩:=tI AS hex;simp only[gY,uI (op:=opx) (by omega:opx.kind≠1)]at h;rw[uY a1 (λk hk'=>a3 k hk')]at h;refine mL hf (λu H' L' _ _ hK=>?_) h;rw[cS hq,dQ a2,xP (H':=H) hk,hex,optW_some];simp only[gY,uI (op:=opx) (by omega:opx.kind≠1)];exact hK
theorem aWy(hf:FinH H)(hk:opy.kind=0)(hc:aCW opx=false)
 (a1:∀ k,dx=some k->k∉opy.sees) (a2:∀ k,dy=some k->k∉opx.sees) (a3:∀ k,dx=some k->dy≠some k)
 (h:bE B P ix dx opx (bE B P iy dy opy K) env H L):bE B P iy dy opy (bE B P ix dx opx K) env H L:=by
 have hq:=nC (op:=opy) AS;have hl:∀ e,eV iy opy e=id:=λe=>by grind [uI]
 cases hey:aD opy env H with
 | none =>
   refine(aCu (L:=L) hf hc (mL hf (λu H' L' _ _ hK=>?_) h)).elim;rw[cS hq,dQ a1,xP (H':=H) hk,hey]at hK;exact hK
 | some ey =>
   obtain⟨v,rfl⟩:=tI AS hey;rw[cS hq,hey,optW_some];simp only[gY,hl,id];rw[uY a2 (λk hk' e=>a3 k e hk')];refine mL hf (λu H' L' _ _ hK=>?_) h;rw[cS hq,dQ a1,xP (H':=H) hk,hey,optW_some]at hK;simp only[gY,hl,id]at hK;exact hK
theorem kB{f:AO}{xs:List AO}{l:List Nat}:bE B P ix dx (.callf true f xs l) K env H L =
 ∃ v,CallV B P (aK env f) (xs.map (aK env)) (jV H) (λv' H'=>v'=v/\H'=jV H)/\K (bD env dx v) H L:=rfl
theorem eI{k:Option Nat}{v:AV}{q:Bool}{f:AO}{xs:List AO}{l:List Nat}(h:∀ j,k=some j->j∉(DOp.callf q f xs l).sees) :
 aK (bD env k v) f=aK env f/\xs.map (aK (bD env k v))=xs.map (aK env):=by
 cases k with
 | none=>exact⟨rfl,rfl⟩
 | some j =>
   have:=h j rfl;simp only[DOp.sees,C8,not_or]at this;exact⟨dI this.1,aBh this.2⟩
theorem aJL{f:AO}{xs:List AO}{l:List Nat}(hqy:opy.isQ=true)
 (a1:∀ k,dx=some k->k∉opy.sees) (a2:∀ k,dy=some k->k∉(DOp.callf true f xs l).sees) (a3:∀ k,dx=some k->dy≠some k)
 (h:bE B P ix dx (.callf true f xs l) (bE B P iy dy opy K) env H L):bE B P iy dy opy (bE B P ix dx (.callf true f xs l) K) env H L:=by
 rw[kB]at h;obtain⟨v,h1,h⟩:=h;rw[cS hqy,dQ a1,fI a1,dN]at h;obtain⟨ey,hey,h⟩:=h;rw[cS hqy,hey,optW_some];cases ey with
 | val u =>
   simp only[gY,kB,(eI a2).1,(eI a2).2]at h ⊢
   grind [gL]
 | new own z g =>
   simp only[gY,kB,(eI a2).1,(eI a2).2]at h ⊢;intro b hb;refine⟨v,?_,by grind [gL]⟩;rcases hb with hb|rfl;·exact h1.quiet_fresh hb
   .obtain⟨_,cs,new,h2,rfl⟩:=tJ hey
    exact h1.quiet_grow h2
theorem aJM{f:AO}{xs:List AO}{l:List Nat}(hk:opx.kind=1)
 (a1:∀ k,dx=some k->k∉(DOp.callf true f xs l).sees) (a2:∀ k,dy=some k->k∉opx.sees) (a3:∀ k,dx=some k->dy≠some k)
 (h:bE B P ix dx opx (bE B P iy dy (.callf true f xs l) K) env H L):bE B P iy dy (.callf true f xs l) (bE B P ix dx opx K) env H L:=by
 have hq:=nC (op:=opx) AS;rw[cS hq,dN]at h;obtain⟨ex,hex,h⟩:=h;obtain⟨v,rfl⟩:=tI AS hex;simp only[gY,kB,(eI a1).1,(eI a1).2]at h;obtain⟨u,h1,h⟩:=h;rw[kB];refine⟨u,h1,?_⟩;rw[cS hq,dQ a2,fI a2,hex,optW_some];simp only[gY]
 grind [gL]
theorem aDj{f g:AO}{xs ys:List AO}{l m:List Nat}
 (a1:∀ k,dx=some k->k∉(DOp.callf true g ys m).sees) (a2:∀ k,dy=some k->k∉(DOp.callf true f xs l).sees) (a3:∀ k,dx=some k->dy≠some k)
 (h:bE B P ix dx (.callf true f xs l) (bE B P iy dy (.callf true g ys m) K) env H L):bE B P iy dy (.callf true g ys m) (bE B P ix dx (.callf true f xs l) K) env H L:=by
 simp only[kB,(eI a1).1,(eI a1).2,(eI a2).1,(eI a2).2]at h ⊢
 grind [gL]
theorem aMD{f:AO}{xs:List AO}{l:List Nat}(hk:opy.kind=7)
 (a2:∀ k,dy=some k->k∉(DOp.callf false f xs l).sees) (a3:∀ k,dx=some k->dy≠some k)
 (h:bE B P ix dx (.callf false f xs l) (bE B P iy dy opy K) env H L):bE B P iy dy opy (bE B P ix dx (.callf false f xs l) K) env H L:=by
 have hq:=nC (op:=opy) AS;have hl:∀ e,eV iy opy e=id:=λe=>by grind [uI]
 obtain⟨z,g,hg⟩:=aCt hk;rw[cS hq,hg,optW_some];simp only[gY,hl,id,AAh,reduceCtorEq];intro b hb;show CallV B P (aK (bD env dy (g b)) f) (xs.map (aK (bD env dy (g b)))) (hset H b z) _;rw[(eI a2).1,(eI a2).2];refine CallV.mono (CallV.frame h hb) ?_;rintro v H'' ⟨H',⟨h1,h2⟩,hn,rfl⟩;refine⟨λj hj c hc=>?_,?_⟩
 .by_cases h5:c=b
  .subst h5;simp
  grind [aL]
 .rw[cS hq,hg,optW_some]at h2
  simp only[gY,hl,id,AAh,reduceCtorEq]at h2
  grind [gL]
theorem aEY{g:Bool}{n m:Nat}{a p x:AO}{l:List Nat}(hl:ix∈l)(hL:L ix=none)
 (a1:∀ k,dx=some k->k∉(DOp.store m p x l).sees) (a2:∀ k,dy=some k->k∉(DOp.load g n a).sees) (a3:∀ k,dx=some k->dy≠some k)
 (h:bE B P ix dx (.load g n a) (bE B P iy dy (.store m p x l) K) env H L):bE B P iy dy (.store m p x l) (bE B P ix dx (.load g n a) K) env H L:=by
 rw[cS rfl,dN]at h;obtain⟨ex,hex,h⟩:=h;obtain⟨v,rfl⟩:=tI (by simp[DOp.kind]) hex;simp only[gY]at h;rw[uY a1 (λk hk=>a3 k hk)]at h;obtain⟨h1,h2⟩:=h;refine⟨λj hj c hc=>h1 j hj c ?_,pI (λH' he hK=>?_) h2⟩;·grind [qL]
 .show bE B P ix dx (.load g n a) K (bD env dy .any) H' L
  rw[cS rfl,dQ a2,fI a2];have:aD (.load g n a) env H'=aD (.load g n a) env H:=by
   refine nG λb hb=>?_;simp only[rdB,aB3]at hb;have hb2:=h1 ix hl b (by simp[eV,hb]);unfold qW at he;split at he
   .rename_i c o hp
    split at he
    .split at he
     .simp only[oSI]at he
      subst he;refine aL _ _ λe=>hb2 ?_;rw[hp,e];rfl
     .simp at he
    .simp at he
   .simp at he
  rw[this,hex,optW_some];simp only[gY];exact hK
theorem aGK{g:Bool}{n:Nat}{a f:AO}{xs:List AO}{l:List Nat}(hl:ix∈l)(hL:L ix=none)
 (a1:∀ k,dx=some k->k∉(DOp.callf false f xs l).sees) (a2:∀ k,dy=some k->k∉(DOp.load g n a).sees) (a3:∀ k,dx=some k->dy≠some k)
 (h:bE B P ix dx (.load g n a) (bE B P iy dy (.callf false f xs l) K) env H L):bE B P iy dy (.callf false f xs l) (bE B P ix dx (.load g n a) K) env H L:=by
 rw[cS rfl,dN]at h;obtain⟨ex,hex,h⟩:=h;obtain⟨v,rfl⟩:=tI (by simp[DOp.kind]) hex;simp only[gY]at h;rw[uY a1 (λk hk=>a3 k hk)]at h;refine CallV.mono h λu H' ⟨h1,hK⟩=>⟨λj hj c hc=>h1 j hj c ?_,?_⟩;·grind [qL]
 .show bE B P ix dx (.load g n a) K (bD env dy u) H' L
  rw[cS rfl,dQ a2,fI a2];have:aD (.load g n a) env H'=aD (.load g n a) env H:=by
   refine nG λb hb=>?_;simp only[rdB,aB3]at hb;exact h1 ix hl b (by simp[eV,hb])
  rw[this,hex,optW_some];simp only[gY];exact hK
end
section
variable{ix iy:Nat}{dx dy:Option Nat}{opx opy:DOp}{K:KL}{env:aJ}{H:Hp}{L:Log}
def aCc(ix:Nat)(x y:DOp):Bool :=
 match x,y with
 | .load ..,.store _ _ _ l=>l.contains ix
 | .load ..,.callf false _ _ l=>l.contains ix
 | _,_=>false
theorem aEj(op:DOp):op.kind<=7:=by
 cases op<;>simp[DOp.kind]
 grind
theorem aQy{op:DOp}(h:op.kind=4):∃ f xs l,op = .callf true f xs l:=by
 cases op<;>simp[DOp.kind]at h
 grind
theorem bAf{op:DOp}(h:op.kind=6):∃ f xs l,op = .callf false f xs l:=by
 cases op<;>simp[DOp.kind]at h
 grind
theorem aEP{op:DOp}(h:op.kind≠6):aCW op=false:=by
 cases op<;>first|rfl|skip
 case callf q f xs l=>cases q<;>first|rfl|simp[DOp.kind]at h
theorem aOH(hf:FinH H)(hok:(mV opx.kind opy.kind||aCc ix opx opy)=true)(hL:L ix=none)(hne:ix≠iy)
 (a1:∀ k,dx=some k->k∉opy.sees) (a2:∀ k,dy=some k->k∉opx.sees) (a3:∀ k,dx=some k->dy≠some k)
 (h:bE B P ix dx opx (bE B P iy dy opy K) env H L):bE B P iy dy opy (bE B P ix dx opx K) env H L:=by
 by_cases hx0:opx.kind=0;·grind [aYX]
 by_cases hk:mV opx.kind opy.kind=true
 .have l1:=aEj opx
  have l2:=aEj opy
  have qq:(opx.kind<=3\/opx.kind=7)->(opy.kind<=3\/opy.kind=7)->¬(opy.kind=3/\opx.kind=3)->bE B P iy dy opy (bE B P ix dx opx K) env H L :=
   λh1 h2 h3=>aWx hf (nC h1) (nC h2) h3 hne a1 a2 a3 h
  by_cases hx6:opx.kind=6
  .obtain⟨f,xs,l,rfl⟩:=bAf hx6
   have hy:opy.kind=7:=by simpa [hx6,mV]using hk
   grind [aMD]
  by_cases hx5:opx.kind=5
  .have hy:opy.kind=0:=by simpa [hx5,mV]using hk
   grind [aWy,aEP]
  by_cases hx4:opx.kind=4
  .obtain⟨f,xs,l,rfl⟩:=aQy hx4
   have hy:opy.kind<=4\/opy.kind=7:=by simpa [hx4,mV]using hk
   grind [aQy,aDj,aJL,nC]
  by_cases hx1:opx.kind=1
  .have hy:opy.kind<=4\/opy.kind=7:=by simpa [hx1,mV]using hk
   grind [aQy,aJM]
  by_cases hx3:opx.kind=3
  .have hy:opy.kind<=2\/opy.kind=7:=by simpa [hx3,mV]using hk
   grind
  .have hy:opy.kind<=3\/opy.kind=7:=by
    have:opx.kind=2\/opx.kind=7:=AS
    rcases this with h1|h1<;>simpa [h1,mV]using hk
   grind
 .have ha:aCc ix opx opy=true:=by grind
  unfold aCc at ha
  grind [aEY,aGK]
end
theorem aEE{g:Bool}{op:DOp}{k:Nat}(h:k∉op.sees):k∉(aEF g op).sees:=by
 cases g with
 | true=>exact h
 | false=>exact H6
theorem aKG{g:Bool}{op:DOp}:(aEF g op).kind=if g then op.kind else 0:=by cases g<;>rfl
theorem aYW{x y:DOper}{K:KL}{env:aJ}{H:Hp}{L:Log}(hf:FinH H)(hok:qV x y=true)(hL:L x.ix=none)(hne:x.ix≠y.ix)
 (h:opD B P x (opD B P y K) env H L):opD B P y (opD B P x K) env H L:=by
 unfold qV aRJ at hok;simp only[B4]at hok;obtain⟨⟨hk,hA1,hA2⟩,h6⟩:=hok;have b1:∀ k,x.dst=some k->k∉y.sees/\y.dst≠some k:=λk hk=>by
  grind
 have b2:∀ k,y.dst=some k->k∉x.sees:=λk hk=>by
  grind
 have s1:∀(o:DOper) k,k∉o.sees->k∉o.op.sees:=λo k h hk=>h (I3 _ hk);unfold opD at h ⊢;rw[dN]at h;obtain⟨gx,hgx,h⟩:=h
 have h':bE B P x.ix x.dst (aEF gx x.op) (λe h l=>nL (gd y env) λg=>bE B P y.ix y.dst (aEF g y.op) K e h l) env H L :=
  mL hf (λu H' L' _ _ hK=>by grind [aLQ]) h
 cases hgy:gd y env with
 | none =>
   simp only[hgy,optW_none]at h';refine(aCu hf ?_ h').elim;cases gx with
   | false=>rfl
   | true =>
     refine aEP λh7=>?_;have hy:y.guard=none:=by simpa [show x.op.kind=6 from h7]using h6
     simp[gd,hy]at hgy
 | some gy =>
   simp only[hgy,optW_some]at h' ⊢;refine mL hf (λu H' L' _ _ hK=>?_) (aOH hf ?_ hL hne (λk hk=>aEE (s1 _ _ (b1 k hk).1)) (λk hk=>aEE (s1 _ _ (b2 k hk))) (λk hk=>(b1 k hk).2) h');·grind [aLQ,optW_some]
   .cases gx with
    | false=>rfl
    | true =>
      cases gy with
      | true=>exact hk
      | false =>
        have l1:=aEj x.op;have:x.op.kind≠6:=λh7=>by
         have hy:y.guard=none:=by simp_all
         simp[gd,hy]at hgy
        simp only[aKG,AAe,aC4];left;have:x.op.kind=0\/x.op.kind=1\/x.op.kind=2\/x.op.kind=3\/x.op.kind=4\/x.op.kind=5\/x.op.kind=7:=AS
        rcases this with h|h|h|h|h|h|h<;>simp[h,mV]
theorem aZt{y:DOper}{post:List DOper}{K:aJ->Hp->Prop}:∀(pre:List DOper)(env:aJ)(H:Hp)(L:Log),FinH H->(∀ x∈pre,qV x y=true) ->
 ((pre++y::post).map (·.ix)).Nodup->(∀ o∈pre++y::post,L o.ix=none)->RD B P (pre++y::post) K env H L->opD B P y (RD B P (pre++post) K) env H L:=by
 intro pre;induction pre with
 | nil=>intro env H L _ _ _ _ h;exact h
 | cons x pre ih =>
   intro env H L hf hs hnd hL h;simp only[M5,E7,J9]at hnd;refine aYW hf (hs x (by simp)) (hL x (by simp)) (λe=>hnd.1 (by simp[e])) ?_;refine aQd hf (λe H' L' hf' hl hK=>ih e H' L' hf' (λz hz=>hs z (by simp[hz])) hnd.2 (λo ho=>?_) hK) h
   grind
theorem aLz{o:DOper}{K:KL}{env:aJ}{H:Hp}{L:Log}(h:opD B P o K env H L):opW B P o (λe h=>∃ L',(∀ j,j≠o.ix->L' j=L j)/\K e h L') env H:=by
 unfold opD at h;rw[dN]at h;obtain⟨g,hg,h⟩:=h;unfold opW;rw[hg];cases g with
 | false =>
   simp only;have:bE B P o.ix o.dst (.mv (.c (.tup []))) K env H L:=h;rw[cS rfl]at this;exact⟨L,λ_ _=>rfl,this⟩
 | true =>
   simp only;have h:bE B P o.ix o.dst o.op K env H L:=h;revert h;generalize o.op=op;intro h;cases op
   case store n p x l=>exact dB (λH' hK=>⟨L,λ_ _=>rfl,hK⟩) h.2
   case copy s x y=>exact dB (λr hK=>⟨L,λ_ _=>rfl,hK⟩) h
   case mapup q m k x=>exact dB (λr hK=>⟨L,λ_ _=>rfl,hK⟩) h
   case nxts x=>exact dB (λr hK=>⟨L,λ_ _=>rfl,hK⟩) h
   case callf q f xs l =>
    cases q with
    | true=>obtain⟨v,h1,h2⟩:=h;exact⟨v,h1,L,λ_ _=>rfl,h2⟩
    | false=>exact CallV.mono h λv H' hq=>⟨L,λ_ _=>rfl,hq.2⟩
   all_goals
    rw[cS rfl]at h;rw[uX rfl];exact dB (λe=>aGk λe' h' hK=>⟨_,λj hj=>qL hj,hK⟩) h
end Go.DL
