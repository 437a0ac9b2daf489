/- The abstract values of the calls' own memory, and how they lie in the model's world: definitions and their laws of monotonicity. No statement of the seed is proved here. -/
import Derived.RangeFuncMany
import Derived.RangeFuncLeaves
import Derived.OrdersIn
import Derived.WalkKit
namespace Go.DL

/-- Abstract values. 'fs': a slice whose elements nobody writes any more (rows of cells); 'fp': a pointer into one; 'sl', 'pt', 'mp': into a block of the call's own; 'any': nothing is known. -/
inductive AV where
  | int (k : IntKind) (n : Int)
  | bool (b : Bool)
  | str (s : ByteArray)
  | agg (cs : List AV)
  | tup (vs : List AV)
  | fs (rows : List (List AV))
  | fp (rows : List (List AV)) (i off : Nat)
  | sl (b off s len : Nat)
  | pt (b off : Nat)
  | mp (b : Nat)
  | nilsl
  | nilpt
  | nilmap
  | fn (f : Fn) (first cap : List AV)
  | nilfn
  | ifc (t : TypeId) (v : AV)
  | nilifc
  | any
deriving Inhabited

/-- A block of the call's own: may it be written? and what it holds. -/
inductive ABlk where
  | cells (wr : Bool) (cs : List AV)
  | map (wr : Bool) (es : List (AV × AV))
  | obj (wr : Bool) (o : Obj)
def ABlk.wr : ABlk → Bool
  | .cells p _ => p
  | .map p _ => p
  | .obj p _ => p
def ABlk.ro : ABlk → ABlk
  | .cells _ cs => .cells false cs
  | .map _ es => .map false es
  | .obj _ o => .obj false o

abbrev Env := Nat → AV
abbrev Hp := Nat → Option ABlk
def anyE : Env := fun _ => .any
def noH : Hp := fun _ => none
def upd (e : Env) (k : Nat) (v : AV) : Env := fun j => if j = k then v else e j
def updo (e : Env) (k : Option Nat) (v : AV) : Env := match k with | some k => upd e k v | none => e
def hset (H : Hp) (b : Nat) (x : ABlk) : Hp := fun j => if j = b then some x else H j
def wrH (H : Hp) (b : Nat) : Bool := match H b with
  | some x => x.wr
  | none => false
def roH (H : Hp) : Hp := fun b => (H b).map ABlk.ro
def hdel (H : Hp) (b : Nat) : Hp := fun j => if j = b then none else H j

@[simp] theorem upd_same (e : Env) (k : Nat) (v : AV) : upd e k v k = v := by simp [upd]
theorem upd_other (e : Env) {k j : Nat} (v : AV) (h : j ≠ k) : upd e k v j = e j := by simp [upd, h]
@[simp] theorem hset_same (H : Hp) (b : Nat) (x : ABlk) : hset H b x b = some x := by simp [hset]
theorem hset_other (H : Hp) {b j : Nat} (x : ABlk) (h : j ≠ b) : hset H b x j = H j := by simp [hset, h]

/-- An abstract value and a value of the model's, in a world; F: the blocks that nobody writes any more. -/
inductive Rv (F : Nat → Prop) (w : World) : AV → Value → Prop where
  | int (k : IntKind) (n : Int) : Rv F w (.int k n) (.int k n)
  | bool (b : Bool) : Rv F w (.bool b) (.bool b)
  | str (s : ByteArray) : Rv F w (.str s) (.string s)
  | agg (cs : List AV) (vs : Array Value) (hl : cs.length = vs.size) (ho : ∀ (i : Nat) (v : Value), vs[i]? = some v → v.oneCell' = true)
      (h : ∀ (i : Nat) (c : AV) (v : Value), cs[i]? = some c → vs[i]? = some v → Rv F w c v) : Rv F w (.agg cs) (.agg vs)
  | tup (cs : List AV) (vs : Array Value) (hl : cs.length = vs.size)
      (h : ∀ (i : Nat) (c : AV) (v : Value), cs[i]? = some c → vs[i]? = some v → Rv F w c v) : Rv F w (.tup cs) (.tuple vs)
  | fs0 (a : Option Addr) (cap : Nat) : Rv F w (.fs []) (.slice a 0 cap)
  | fs (rows : List (List AV)) (blk off s cap : Nat) (g : Nat → Nat → Value) (hcap : rows.length ≤ cap) (hF : F blk) (hs : ∀ r ∈ rows, r.length = s)
      (hc : ∀ (i : Nat) (r : List AV) (j : Nat) (c : AV), rows[i]? = some r → r[j]? = some c → w.cell? ⟨blk, off + i * s + j, none⟩ = some (g i j))
      (ho : ∀ (i j : Nat), (g i j).oneCell' = true)
      (h : ∀ (i : Nat) (r : List AV) (j : Nat) (c : AV), rows[i]? = some r → r[j]? = some c → Rv F w c (g i j)) :
      Rv F w (.fs rows) (.slice (some ⟨blk, off, none⟩) rows.length cap)
  | fp (rows : List (List AV)) (i o : Nat) (blk off s : Nat) (g : Nat → Nat → Value) (hF : F blk) (hs : ∀ r ∈ rows, r.length = s)
      (hc : ∀ (i : Nat) (r : List AV) (j : Nat) (c : AV), rows[i]? = some r → r[j]? = some c → w.cell? ⟨blk, off + i * s + j, none⟩ = some (g i j))
      (ho : ∀ (i j : Nat), (g i j).oneCell' = true)
      (h : ∀ (i : Nat) (r : List AV) (j : Nat) (c : AV), rows[i]? = some r → r[j]? = some c → Rv F w c (g i j)) :
      Rv F w (.fp rows i o) (.pointer (some ⟨blk, off + i * s + o, none⟩))
  | sl (b off s len cap : Nat) (c : Array Value) (e : TypeId) (fr : Nat × Nat) (hb : w.heap[b]? = some (.cells c e fr)) (hcap : off + cap * s ≤ c.size) (hlen : len ≤ cap) :
      Rv F w (.sl b off s len) (.slice (some ⟨b, off, none⟩) len cap)
  | pt (b off : Nat) : Rv F w (.pt b off) (.pointer (some ⟨b, off, none⟩))
  | mp (b : Nat) : Rv F w (.mp b) (.map (some b))
  | nilsl : Rv F w .nilsl (.slice none 0 0)
  | nilpt : Rv F w .nilpt (.pointer none)
  | nilmap : Rv F w .nilmap (.map none)
  | fn (f : Fn) (first cap : List AV) (fv cv : Array Value) (hl1 : first.length = fv.size) (hl2 : cap.length = cv.size)
      (h1 : ∀ (i : Nat) (c : AV) (v : Value), first[i]? = some c → fv[i]? = some v → Rv F w c v)
      (h2 : ∀ (i : Nat) (c : AV) (v : Value), cap[i]? = some c → cv[i]? = some v → Rv F w c v) : Rv F w (.fn f first cap) (.func f fv cv)
  | nilfn : Rv F w .nilfn .nilFunc
  | ifc (t : TypeId) (a : AV) (v : Value) (h : Rv F w a v) : Rv F w (.ifc t a) (.iface t v)
  | nilifc : Rv F w .nilifc .nilIface
  | any (v : Value) : Rv F w .any v

/-- What a later world keeps. -/
structure Up (F : Nat → Prop) (w : World) (F' : Nat → Prop) (w' : World) : Prop where
  sub : ∀ b, F b → F' b
  same : ∀ b, F b → w'.heap[b]? = w.heap[b]?
  size : ∀ (b : Nat) (c : Array Value) (e : TypeId) (fr : Nat × Nat), w.heap[b]? = some (.cells c e fr) →
    ∃ c' e' fr', w'.heap[b]? = some (.cells c' e' fr') ∧ c'.size = c.size
  le : w.heap.size ≤ w'.heap.size

theorem cell_up {F F' : Nat → Prop} {w w' : World} (hu : Up F w F' w') {a : Addr} (hF : F a.block) : w'.cell? a = w.cell? a := by
  unfold World.cell?
  rw [hu.same _ hF]

theorem Rv.up {F F' : Nat → Prop} {w w' : World} (hu : Up F w F' w') {a : AV} {v : Value} (h : Rv F w a v) : Rv F' w' a v := by
  induction h with
  | int k n => exact .int k n
  | bool b => exact .bool b
  | str s => exact .str s
  | agg cs vs hl ho _ ih => exact .agg cs vs hl ho ih
  | tup cs vs hl _ ih => exact .tup cs vs hl ih
  | fs0 a cap => exact .fs0 a cap
  | fs rows blk off s cap g hcap hF hs hc ho _ ih =>
    exact .fs rows blk off s cap g hcap (hu.sub _ hF) hs (fun i r j c h1 h2 => by rw [cell_up hu (a := ⟨blk, off + i * s + j, none⟩) hF]; exact hc i r j c h1 h2) ho ih
  | fp rows i o blk off s g hF hs hc ho _ ih =>
    exact .fp rows i o blk off s g (hu.sub _ hF) hs (fun i r j c h1 h2 => by rw [cell_up hu (a := ⟨blk, off + i * s + j, none⟩) hF]; exact hc i r j c h1 h2) ho ih
  | sl b off s len cap c e fr hb hcap hlen =>
    obtain ⟨c', e', fr', h1, h2⟩ := hu.size b c e fr hb
    exact .sl b off s len cap c' e' fr' h1 (by omega) hlen
  | pt b off => exact .pt b off
  | mp b => exact .mp b
  | nilsl => exact .nilsl
  | nilpt => exact .nilpt
  | nilmap => exact .nilmap
  | fn f first cap fv cv hl1 hl2 _ _ ih1 ih2 => exact .fn f first cap fv cv hl1 hl2 ih1 ih2
  | nilfn => exact .nilfn
  | ifc t a v _ ih => exact .ifc t a v ih
  | nilifc => exact .nilifc
  | any v => exact .any v

/-- A block of the call's own, as it lies. -/
inductive RB (F : Nat → Prop) (w : World) : ABlk → Obj → Prop where
  | cells (p : Bool) (cs : List AV) (c : Array Value) (e : TypeId) (fr : Nat × Nat) (hfr : ∀ i, i < c.size → (fr.1 ≤ i && i < fr.2) = false) (hl : cs.length ≤ c.size) (ho : ∀ (i : Nat) (v : Value), c[i]? = some v → v.oneCell' = true)
      (h : ∀ (i : Nat) (a : AV) (v : Value), cs[i]? = some a → c[i]? = some v → Rv F w a v) : RB F w (.cells p cs) (.cells c e fr)
  | map (p : Bool) (es : List (AV × AV)) (m : Array MapEntry) (clock : Nat) (hl : es.length = m.size)
      (h : ∀ (i : Nat) (a : AV × AV) (x : MapEntry), es[i]? = some a → m[i]? = some x → Rv F w a.1 x.key ∧ Rv F w a.2 x.val) : RB F w (.map p es) (.map m clock)
  | obj (p : Bool) (o : Obj) : RB F w (.obj p o) o

theorem RB.up {F F' : Nat → Prop} {w w' : World} (hu : Up F w F' w') {a : ABlk} {o : Obj} (h : RB F w a o) : RB F' w' a o := by
  cases h with
  | cells p cs c e fr hfr hl ho h => exact .cells p cs c e fr hfr hl ho fun i a v h1 h2 => (h i a v h1 h2).up hu
  | map p es m clock hl h => exact .map p es m clock hl fun i a x h1 h2 => ⟨(h i a x h1 h2).1.up hu, (h i a x h1 h2).2.up hu⟩
  | obj p o => exact .obj p o

/-- The world as the abstract heap has it. -/
structure St (F : Nat → Prop) (w : World) (H : Hp) : Prop where
  lt : ∀ b, F b → b < w.heap.size
  dis : ∀ b x, H b = some x → ¬ F b
  blk : ∀ b x, H b = some x → ∃ o, w.heap[b]? = some o ∧ RB F w x o

/-- The outside world as it was. -/
structure SameIO (w w' : World) : Prop where
  os : w'.os = w.os
  tape : w'.tape = w.tape
  output : w'.output = w.output
theorem SameIO.refl (w : World) : SameIO w w := ⟨rfl, rfl, rfl⟩
theorem SameIO.trans {w w' w'' : World} (h : SameIO w w') (k : SameIO w' w'') : SameIO w w'' := ⟨k.os.trans h.os, k.tape.trans h.tape, k.output.trans h.output⟩

/-- From one state of the call to a later one. -/
structure Ext (F : Nat → Prop) (w : World) (H : Hp) (F' : Nat → Prop) (w' : World) (H' : Hp) : Prop where
  sub : ∀ b, F b → F' b
  fnew : ∀ b, F' b → F b ∨ (H b).isSome = true ∨ w.heap.size ≤ b
  hdom : ∀ b, (H' b).isSome = true → (H b).isSome = true ∨ w.heap.size ≤ b
  hnew : ∀ b, wrH H' b = true → wrH H b = true ∨ w.heap.size ≤ b
  le : w.heap.size ≤ w'.heap.size
  same : ∀ b, b < w.heap.size → wrH H b = false → w'.heap[b]? = w.heap[b]?
  cells : ∀ (b : Nat) (c : Array Value) (e : TypeId) (fr : Nat × Nat), w.heap[b]? = some (.cells c e fr) →
    ∃ c' e' fr', w'.heap[b]? = some (.cells c' e' fr') ∧ c'.size = c.size
  io : SameIO w w'

variable {F F' F'' : Nat → Prop} {w w' w'' : World} {H H' H'' : Hp}

theorem St.none_of (h : St F w H) {b : Nat} (hF : F b) : H b = none := by
  cases hb : H b with
  | none => rfl
  | some x => exact absurd hF (h.dis b x hb)
theorem St.own_lt (h : St F w H) {b : Nat} {x : ABlk} (hb : H b = some x) : b < w.heap.size := by
  obtain ⟨o, ho, _⟩ := h.blk b x hb
  exact (Array.getElem?_eq_some_iff.1 ho).1

theorem Ext.refl (F : Nat → Prop) (w : World) (H : Hp) : Ext F w H F w H :=
  ⟨fun _ h => h, fun _ h => .inl h, fun _ h => .inl h, fun _ h => .inl h, Nat.le_refl _, fun _ _ _ => rfl, fun _ c e fr h => ⟨c, e, fr, h, rfl⟩, SameIO.refl w⟩

theorem Ext.trans (h : Ext F w H F' w' H') (k : Ext F' w' H' F'' w'' H'') : Ext F w H F'' w'' H'' where
  sub b hb := k.sub b (h.sub b hb)
  fnew b hb := by
    rcases k.fnew b hb with h1 | h1 | h1
    · exact h.fnew b h1
    · exact .inr (h.hdom b h1)
    · exact .inr (.inr (Nat.le_trans h.le h1))
  hdom b hb := by
    rcases k.hdom b hb with h1 | h1
    · exact h.hdom b h1
    · exact .inr (Nat.le_trans h.le h1)
  hnew b hb := by
    rcases k.hnew b hb with h1 | h1
    · exact h.hnew b h1
    · exact .inr (Nat.le_trans h.le h1)
  le := Nat.le_trans h.le k.le
  same b hb hn := by
    have hn' : wrH H' b = false := by
      cases h1 : wrH H' b with
      | false => rfl
      | true =>
        rcases h.hnew b h1 with h2 | h2
        · simp [hn] at h2
        · omega
    rw [k.same b (Nat.lt_of_lt_of_le hb h.le) hn', h.same b hb hn]
  cells b c e fr hb := by
    obtain ⟨c1, e1, f1, h1, h2⟩ := h.cells b c e fr hb
    obtain ⟨c2, e2, f2, h3, h4⟩ := k.cells b c1 e1 f1 h1
    exact ⟨c2, e2, f2, h3, by omega⟩
  io := h.io.trans k.io

theorem Ext.up (h : Ext F w H F' w' H') (st : St F w H) : Up F w F' w' :=
  ⟨h.sub, fun b hb => h.same b (st.lt b hb) (by simp [wrH, st.none_of hb]), h.cells, h.le⟩

/-- The abstract heap may forget. -/
theorem Ext.forget (h : Ext F w H F' w' H') (h1 : ∀ b x, H'' b = some x → H' b = some x) : Ext F w H F' w' H'' :=
  { h with
    hdom := fun b hb => by
      cases h2 : H'' b with
      | none => simp [h2] at hb
      | some x => exact h.hdom b (by simp [h1 b x h2])
    hnew := fun b hb => by
      cases h2 : H'' b with
      | none => simp [wrH, h2] at hb
      | some x => exact h.hnew b (by simpa [wrH, h2, h1 b x h2] using hb) }
theorem St.forget (h : St F w H) (h1 : ∀ b x, H' b = some x → H b = some x) : St F w H' :=
  ⟨h.lt, fun b x hb => h.dis b x (h1 b x hb), fun b x hb => h.blk b x (h1 b x hb)⟩

/-- The frame of a body, as the abstract one has it. -/
def RE (F : Nat → Prop) (w : World) (env : Env) (a : Act) : Prop := ∀ k, Rv F w (env k) (a.tmps.getD k undef)

theorem RE.up {env : Env} {a : Act} (hu : Up F w F' w') (h : RE F w env a) : RE F' w' env a := fun k => (h k).up hu

theorem RE.put {env : Env} {a : Act} {v : AV} {c : Value} {d : Option Nat} (h : RE F w env a) (hv : Rv F w v c) (hd : ∀ k, d = some k → k < a.tmps.size) : RE F w (updo env d v) (a.put d c) := by
  cases d with
  | none => exact h
  | some d =>
    intro k
    by_cases hk : k = d
    · subst hk
      have : k < a.tmps.size := hd k rfl
      simpa [updo, Act.put, Array.getD_eq_getD_getElem?, Array.getElem?_setIfInBounds, this] using hv
    · have := h k
      simp only [updo, upd_other env v hk, Act.put]
      simpa [Array.getD_eq_getD_getElem?, Array.getElem?_setIfInBounds_ne (Ne.symm hk)] using this

theorem RE.putAny {env : Env} {a : Act} {c : Value} {d : Option Nat} (h : RE F w env a) (hd : ∀ k, d = some k → k < a.tmps.size) : RE F w (updo env d .any) (a.put d c) :=
  h.put (.any c) hd

@[simp] theorem put_size (a : Act) (d : Option Nat) (v : Value) : (a.put d v).tmps.size = a.tmps.size := by cases d <;> simp [Act.put]
@[simp] theorem put_defers (a : Act) (d : Option Nat) (v : Value) : (a.put d v).defers = a.defers := by cases d <;> rfl

/-- A frame of which less is known. -/
def Le (e e' : Env) : Prop := ∀ k, e' k = .any ∨ e' k = e k
theorem Le.refl (e : Env) : Le e e := fun _ => .inr rfl
theorem Le.anyE (e : Env) : Le e anyE := fun _ => .inl rfl
theorem Le.upd {e e' : Env} {k : Nat} {v : AV} (h : Le e e') (hk : e k = v) : Le e (upd e' k v) := fun j => by
  by_cases hj : j = k
  · subst hj; right; simp [hk]
  · rw [upd_other _ _ hj]; exact h j
theorem RE.le {env env' : Env} {a : Act} (h : RE F w env a) (hl : Le env env') : RE F w env' a := fun k => by
  rcases hl k with h1 | h1
  · rw [h1]; exact .any _
  · rw [h1]; exact h k

/-- How a new block turns the state. -/
theorem ext_alloc (st : St F w H) {x : ABlk} {o : Obj} (hx : RB F (w.alloc o) x o) (hH : ∀ b, H b ≠ none → b ≠ w.heap.size) :
    Ext F w H F (w.alloc o) (hset H w.heap.size x) ∧ St F (w.alloc o) (hset H w.heap.size x) := by
  have hget : ∀ b, b < w.heap.size → (w.alloc o).heap[b]? = w.heap[b]? := fun b hb => by
    show (w.heap.push o)[b]? = _
    rw [Array.getElem?_push]
    simp [Nat.ne_of_lt hb]
  have hE : Ext F w H F (w.alloc o) (hset H w.heap.size x) := by
    refine ⟨fun _ h => h, fun _ h => .inl h, fun b hb => ?_, fun b hb => ?_, by simp, fun b hb _ => hget b hb, fun b c e fr hb => ⟨c, e, fr, ?_, rfl⟩, ⟨rfl, rfl, rfl⟩⟩
    · by_cases h1 : b = w.heap.size
      · right; omega
      · left; rwa [hset_other _ _ h1] at hb
    · by_cases h1 : b = w.heap.size
      · right; omega
      · left; simpa only [wrH, hset_other _ _ h1] using hb
    · rw [hget b (Array.getElem?_eq_some_iff.1 hb).1]; exact hb
  refine ⟨hE, ?_⟩
  have hu := hE.up st
  refine ⟨fun b hb => Nat.lt_of_lt_of_le (st.lt b hb) hE.le, fun b y hb => ?_, fun b y hb => ?_⟩
  · by_cases h1 : b = w.heap.size
    · subst h1; intro hF; exact absurd (st.lt _ hF) (by omega)
    · rw [hset_other _ _ h1] at hb; exact st.dis b y hb
  · by_cases h1 : b = w.heap.size
    · subst h1
      simp only [hset_same, Option.some.injEq] at hb
      subst hb
      exact ⟨o, by show (w.heap.push o)[w.heap.size]? = _; simp, hx⟩
    · rw [hset_other _ _ h1] at hb
      obtain ⟨o', h2, h3⟩ := st.blk b y hb
      exact ⟨o', by rw [hget b (Array.getElem?_eq_some_iff.1 h2).1]; exact h2, h3.up hu⟩

theorem St.size_none (st : St F w H) : ∀ b, H b ≠ none → b ≠ w.heap.size := fun b hb e => by
  cases h : H b with
  | none => exact hb h
  | some x => exact absurd (st.own_lt h) (by omega)

/-- How a block of the call's own is turned. -/
theorem ext_turn (st : St F w H) {b : Nat} {x y : ABlk} {o o' : Obj} (hb : H b = some x) (hwr : x.wr = true) (ho : w.heap[b]? = some o)
    (hw : w'.heap = w.heap.setIfInBounds b o') (hio : SameIO w w') (hsz : ∀ c e fr, o = .cells c e fr → ∃ c' e' fr', o' = .cells c' e' fr' ∧ c'.size = c.size)
    (hy : ∀ F' w', Up F w F' w' → RB F' w' y o') : Ext F w H F w' (hset H b y) ∧ St F w' (hset H b y) := by
  have hlt : b < w.heap.size := (Array.getElem?_eq_some_iff.1 ho).1
  have hget : ∀ j, j ≠ b → w'.heap[j]? = w.heap[j]? := fun j hj => by rw [hw, Array.getElem?_setIfInBounds_ne (Ne.symm hj)]
  have hgetb : w'.heap[b]? = some o' := by rw [hw]; simp [hlt]
  have hE : Ext F w H F w' (hset H b y) := by
    refine ⟨fun _ h => h, fun _ h => .inl h, fun j hj => ?_, fun j hj => ?_, by rw [hw]; simp, fun j hj hn => hget j (fun e => by subst e; simp [wrH, hb, hwr] at hn), fun j c e fr hj => ?_, hio⟩
    · by_cases h1 : j = b
      · left; subst h1; simp [hb]
      · left; rwa [hset_other _ _ h1] at hj
    · by_cases h1 : j = b
      · left; subst h1; simp [wrH, hb, hwr]
      · left; simpa only [wrH, hset_other _ _ h1] using hj
    · by_cases h1 : j = b
      · subst h1
        rw [ho] at hj
        obtain ⟨c', e', fr', h2, h3⟩ := hsz c e fr (by simpa using hj)
        exact ⟨c', e', fr', by rw [hgetb, h2], h3⟩
      · exact ⟨c, e, fr, by rw [hget j h1]; exact hj, rfl⟩
  refine ⟨hE, ?_⟩
  have hu := hE.up st
  refine ⟨fun j hj => Nat.lt_of_lt_of_le (st.lt j hj) hE.le, fun j z hj => ?_, fun j z hj => ?_⟩
  · by_cases h1 : j = b
    · subst h1; exact st.dis j x hb
    · rw [hset_other _ _ h1] at hj; exact st.dis j z hj
  · by_cases h1 : j = b
    · subst h1
      simp only [hset_same, Option.some.injEq] at hj
      subst hj
      exact ⟨o', hgetb, hy _ _ hu⟩
    · rw [hset_other _ _ h1] at hj
      obtain ⟨o1, h2, h3⟩ := st.blk j z hj
      exact ⟨o1, by rw [hget j h1]; exact h2, h3.up hu⟩

/-- A draw turns nothing. -/
theorem st_drew (st : St F w H) : St F w.drew H :=
  ⟨st.lt, st.dis, fun b x hb => let ⟨o, h1, h2⟩ := st.blk b x hb
    ⟨o, h1, h2.up (⟨fun _ h => h, fun _ _ => rfl, fun b c e fr h => ⟨c, e, fr, h, rfl⟩, Nat.le_refl _⟩ : Up F w F w.drew)⟩⟩
theorem ext_drew (F : Nat → Prop) (w : World) (H : Hp) : Ext F w H F w.drew H :=
  ⟨fun _ h => h, fun _ h => .inl h, fun _ h => .inl h, fun _ h => .inl h, Nat.le_refl _, fun _ _ _ => rfl, fun _ c e fr h => ⟨c, e, fr, h, rfl⟩, ⟨rfl, rfl, rfl⟩⟩

end Go.DL
