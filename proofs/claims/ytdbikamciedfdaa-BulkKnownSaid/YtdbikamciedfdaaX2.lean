/- Two states that differ by the names of their blocks: values, and what operations make of them. No statement of the seed is proved here. -/
import Derived.Test.YtdbikamciedfdaaX1
namespace Go.DL

/-- What is known of a loop over a function that is under way. -/
structure YI where
  K : Nat
  site : Nat
  env : Env
  oR : Obj
  oB : Obj
  oD : Code → Obj

/-- Values without names, all known. -/
inductive Gd : AV → Prop where
  | int (k : IntKind) (n : Int) : Gd (.int k n)
  | bool (b : Bool) : Gd (.bool b)
  | str (s : ByteArray) : Gd (.str s)
  | agg (cs : List AV) (h : ∀ c ∈ cs, Gd c) : Gd (.agg cs)
  | tup (cs : List AV) (h : ∀ c ∈ cs, Gd c) : Gd (.tup cs)
  | fs (rows : List (List AV)) (h : ∀ r ∈ rows, ∀ c ∈ r, Gd c) : Gd (.fs rows)
  | fp (rows : List (List AV)) (i o : Nat) (h : ∀ r ∈ rows, ∀ c ∈ r, Gd c) : Gd (.fp rows i o)
  | nilsl : Gd .nilsl
  | nilpt : Gd .nilpt
  | nilmap : Gd .nilmap
  | nilfn : Gd .nilfn
  | nilifc : Gd .nilifc
  | fn (f : Fn) (first cap : List AV) (hf : ∀ l, f ≠ .yield l) (h1 : ∀ c ∈ first, Gd c) (h2 : ∀ c ∈ cap, Gd c) : Gd (.fn f first cap)
  | ifc (t : TypeId) (v : AV) (h : Gd v) : Gd (.ifc t v)

/-- The value of the one state, the value of the other. -/
inductive Rn (D : Nat → Option XFn) (Y : Nat → Option YI) (r : Nat → Option Nat) : AV → AV → Prop where
  | any (v : AV) : Rn D Y r .any v
  | int (k : IntKind) (n : Int) : Rn D Y r (.int k n) (.int k n)
  | bool (b : Bool) : Rn D Y r (.bool b) (.bool b)
  | str (s : ByteArray) : Rn D Y r (.str s) (.str s)
  | agg (xs ys : List AV) (hl : xs.length = ys.length) (h : ∀ (i : Nat) (x y : AV), xs[i]? = some x → ys[i]? = some y → Rn D Y r x y) : Rn D Y r (.agg xs) (.agg ys)
  | tup (xs ys : List AV) (hl : xs.length = ys.length) (h : ∀ (i : Nat) (x y : AV), xs[i]? = some x → ys[i]? = some y → Rn D Y r x y) : Rn D Y r (.tup xs) (.tup ys)
  | fs (rows : List (List AV)) (h : ∀ r ∈ rows, ∀ c ∈ r, Gd c) : Rn D Y r (.fs rows) (.fs rows)
  | fp (rows : List (List AV)) (i o : Nat) (h : ∀ r ∈ rows, ∀ c ∈ r, Gd c) : Rn D Y r (.fp rows i o) (.fp rows i o)
  | sl (b c o s n : Nat) (hr : r b = some c) : Rn D Y r (.sl b o s n) (.sl c o s n)
  | pt (b c o : Nat) (hr : r b = some c) : Rn D Y r (.pt b o) (.pt c o)
  | mp (b c : Nat) (hr : r b = some c) : Rn D Y r (.mp b) (.mp c)
  | nilsl : Rn D Y r .nilsl .nilsl
  | nilpt : Rn D Y r .nilpt .nilpt
  | nilmap : Rn D Y r .nilmap .nilmap
  | nilfn : Rn D Y r .nilfn .nilfn
  | nilifc : Rn D Y r .nilifc .nilifc
  | fn (f : Fn) (xs ys us vs : List AV) (hf : ∀ l, f ≠ .yield l) (hl1 : xs.length = ys.length) (h1 : ∀ (i : Nat) (x y : AV), xs[i]? = some x → ys[i]? = some y → Rn D Y r x y)
      (hl2 : us.length = vs.length) (h2 : ∀ (i : Nat) (x y : AV), us[i]? = some x → vs[i]? = some y → Rn D Y r x y) : Rn D Y r (.fn f xs us) (.fn f ys vs)
  | yield (l c : Nat) (hr : r l = some c) : Rn D Y r (.fn (.yield l) [] []) (.fn (.yield c) [] [])
  | ifc (t : TypeId) (x y : AV) (h : Rn D Y r x y) : Rn D Y r (.ifc t x) (.ifc t y)

def RnL (D : Nat → Option XFn) (Y : Nat → Option YI) (r : Nat → Option Nat) (xs ys : List AV) : Prop := xs.length = ys.length ∧ ∀ (i : Nat) (x y : AV), xs[i]? = some x → ys[i]? = some y → Rn D Y r x y

section
variable {D : Nat → Option XFn} {Y : Nat → Option YI} {r : Nat → Option Nat}

theorem RnL.nil : RnL D Y r [] [] := ⟨rfl, by simp⟩
theorem RnL.cons {x y : AV} {xs ys : List AV} (h : Rn D Y r x y) (hs : RnL D Y r xs ys) : RnL D Y r (x :: xs) (y :: ys) := ⟨by simp [hs.1], fun i a b ha hb => by
  cases i with
  | zero => simp at ha hb; subst ha hb; exact h
  | succ i => exact hs.2 i a b (by simpa using ha) (by simpa using hb)⟩
theorem RnL.inv {x : AV} {xs ys : List AV} (h : RnL D Y r (x :: xs) ys) : ∃ y ys', ys = y :: ys' ∧ Rn D Y r x y ∧ RnL D Y r xs ys' := by
  cases ys with
  | nil => have := h.1; simp at this
  | cons y ys' => exact ⟨y, ys', rfl, h.2 0 x y rfl rfl, by have := h.1; simpa using this, fun i a b ha hb => h.2 (i + 1) a b (by simpa using ha) (by simpa using hb)⟩
theorem RnL.nil_inv {ys : List AV} (h : RnL D Y r [] ys) : ys = [] := List.eq_nil_of_length_eq_zero (by have := h.1; simpa using this.symm)
theorem RnL.append {xs ys xs' ys' : List AV} (h : RnL D Y r xs ys) (h' : RnL D Y r xs' ys') : RnL D Y r (xs ++ xs') (ys ++ ys') := ⟨by simp [h.1, h'.1], fun i a b ha hb => by
  rw [List.getElem?_append] at ha hb
  rw [← h.1] at hb
  split at ha
  · rw [if_pos ‹_›] at hb; exact h.2 i a b ha hb
  · rw [if_neg ‹_›] at hb; exact h'.2 _ a b ha hb⟩
theorem RnL.take {xs ys : List AV} (h : RnL D Y r xs ys) (n : Nat) : RnL D Y r (xs.take n) (ys.take n) := ⟨by simp [h.1], fun i a b ha hb => by
  rw [List.getElem?_take] at ha hb
  split at ha
  · rw [if_pos ‹_›] at hb; exact h.2 i a b ha hb
  · simp at ha⟩
theorem RnL.drop {xs ys : List AV} (h : RnL D Y r xs ys) (n : Nat) : RnL D Y r (xs.drop n) (ys.drop n) := ⟨by simp [h.1], fun i a b ha hb => by
  rw [List.getElem?_drop] at ha hb
  exact h.2 _ a b ha hb⟩
theorem RnL.map {α : Type} {f g : α → AV} {l : List α} (h : ∀ x ∈ l, Rn D Y r (f x) (g x)) : RnL D Y r (l.map f) (l.map g) := by
  induction l with
  | nil => exact RnL.nil
  | cons x l ih => exact RnL.cons (h x (by simp)) (ih fun y hy => h y (by simp [hy]))
theorem RnL.get {xs ys : List AV} (h : RnL D Y r xs ys) {i : Nat} {x : AV} (hx : xs[i]? = some x) : ∃ y, ys[i]? = some y ∧ Rn D Y r x y := by
  have hlt : i < ys.length := by rw [← h.1]; exact (List.getElem?_eq_some_iff.1 hx).1
  exact ⟨ys[i], List.getElem?_eq_getElem hlt, h.2 i x _ hx (List.getElem?_eq_getElem hlt)⟩
theorem RnL.self {xs : List AV} (h : ∀ x ∈ xs, Rn D Y r x x) : RnL D Y r xs xs := ⟨rfl, fun i x y hx hy => by
  rw [hx] at hy; simp at hy; subst hy; exact h x (List.mem_of_getElem? hx)⟩

theorem Gd.rn {v : AV} (h : Gd v) : Rn D Y r v v := by
  induction h with
  | int k n => exact .int k n
  | bool b => exact .bool b
  | str s => exact .str s
  | agg cs _ ih => exact .agg cs cs rfl (RnL.self ih).2
  | tup cs _ ih => exact .tup cs cs rfl (RnL.self ih).2
  | fs rows h _ => exact .fs rows h
  | fp rows i o h _ => exact .fp rows i o h
  | nilsl => exact .nilsl
  | nilpt => exact .nilpt
  | nilmap => exact .nilmap
  | nilfn => exact .nilfn
  | nilifc => exact .nilifc
  | fn f first cap hf _ _ ih1 ih2 => exact .fn f first first cap cap hf rfl (RnL.self ih1).2 rfl (RnL.self ih2).2
  | ifc t v _ ih => exact .ifc t v v ih

theorem grL_mem : ∀ {l : List AV}, grL l = true → ∀ x ∈ l, grA x = true
  | [], _, x, hx => by simp at hx
  | v :: l, h, x, hx => by
    simp only [grL, Bool.and_eq_true] at h
    rcases List.mem_cons.1 hx with rfl | hx
    · exact h.1
    · exact grL_mem h.2 x hx
theorem grL_of : ∀ {l : List AV}, (∀ x ∈ l, grA x = true) → grL l = true
  | [], _ => rfl
  | v :: l, h => by simp [grL, h v (by simp), grL_of (l := l) fun x hx => h x (by simp [hx])]

theorem list_same {xs ys : List AV} (hl : xs.length = ys.length) (h : ∀ (i : Nat) (x y : AV), xs[i]? = some x → ys[i]? = some y → y = x ∧ Gd x) : ys = xs ∧ ∀ x ∈ xs, Gd x := by
  have h1 : ∀ i : Nat, ys[i]? = xs[i]? := fun i => by
    cases hx : xs[i]? with
    | none => rw [List.getElem?_eq_none_iff] at hx ⊢; omega
    | some x =>
      have hlt : i < ys.length := by rw [← hl]; exact (List.getElem?_eq_some_iff.1 hx).1
      rw [List.getElem?_eq_getElem hlt, (h i x _ hx (List.getElem?_eq_getElem hlt)).1]
  have h2 : ys = xs := List.ext_getElem? h1
  refine ⟨h2, fun x hx => ?_⟩
  obtain ⟨i, hi⟩ := List.mem_iff_getElem?.1 hx
  exact (h i x x hi (by rw [h1]; exact hi)).2

/-- Where no name stands and all is known, both are one. -/
theorem Rn.same {v v' : AV} (h : Rn D Y r v v') : grA v = true → v' = v ∧ Gd v := by
  induction h with
  | any v => intro h; simp [grA] at h
  | int k n => exact fun _ => ⟨rfl, .int k n⟩
  | bool b => exact fun _ => ⟨rfl, .bool b⟩
  | str s => exact fun _ => ⟨rfl, .str s⟩
  | agg xs ys hl _ ih =>
    intro h
    simp only [grA] at h
    obtain ⟨rfl, h2⟩ := list_same hl fun i x y hx hy => ih i x y hx hy (grL_mem h x (List.mem_of_getElem? hx))
    exact ⟨rfl, .agg _ h2⟩
  | tup xs ys hl _ ih =>
    intro h
    simp only [grA] at h
    obtain ⟨rfl, h2⟩ := list_same hl fun i x y hx hy => ih i x y hx hy (grL_mem h x (List.mem_of_getElem? hx))
    exact ⟨rfl, .tup _ h2⟩
  | fs rows h => exact fun _ => ⟨rfl, .fs rows h⟩
  | fp rows i o h => exact fun _ => ⟨rfl, .fp rows i o h⟩
  | sl => intro h; simp [grA] at h
  | pt => intro h; simp [grA] at h
  | mp => intro h; simp [grA] at h
  | nilsl => exact fun _ => ⟨rfl, .nilsl⟩
  | nilpt => exact fun _ => ⟨rfl, .nilpt⟩
  | nilmap => exact fun _ => ⟨rfl, .nilmap⟩
  | nilfn => exact fun _ => ⟨rfl, .nilfn⟩
  | nilifc => exact fun _ => ⟨rfl, .nilifc⟩
  | fn f xs ys us vs hf hl1 _ hl2 _ ih1 ih2 =>
    intro h
    have h : grL xs = true ∧ grL us = true := by
      cases f <;> simp only [grA, Bool.and_eq_true] at h <;> first | exact h.2 | (exact absurd rfl (hf _))
    obtain ⟨rfl, h2⟩ := list_same hl1 fun i x y hx hy => ih1 i x y hx hy (grL_mem h.1 x (List.mem_of_getElem? hx))
    obtain ⟨rfl, h3⟩ := list_same hl2 fun i x y hx hy => ih2 i x y hx hy (grL_mem h.2 x (List.mem_of_getElem? hx))
    exact ⟨rfl, .fn f _ _ hf h2 h3⟩
  | yield => intro h; simp [grA] at h
  | ifc t x y _ ih =>
    intro h
    simp only [grA] at h
    obtain ⟨rfl, h2⟩ := ih h
    exact ⟨rfl, .ifc t _ h2⟩
theorem RnL.same {xs ys : List AV} (h : RnL D Y r xs ys) (hg : grL xs = true) : ys = xs ∧ ∀ x ∈ xs, Gd x :=
  list_same h.1 fun i x y hx hy => (h.2 i x y hx hy).same (grL_mem hg x (List.mem_of_getElem? hx))

mutual
theorem gdA_gd : ∀ v : AV, gdA v = true → Gd v
  | .agg cs, h => .agg cs (gdL_gd cs (by simpa [gdA] using h))
  | .tup cs, h => .tup cs (gdL_gd cs (by simpa [gdA] using h))
  | .fs rows, h => .fs rows (gdR_gd rows (by simpa [gdA] using h))
  | .fp rows i o, h => .fp rows i o (gdR_gd rows (by simpa [gdA] using h))
  | .sl .., h => by simp [gdA] at h
  | .pt .., h => by simp [gdA] at h
  | .mp _, h => by simp [gdA] at h
  | .any, h => by simp [gdA] at h
  | .fn f first cap, h => by
    simp only [gdA, Bool.and_eq_true] at h
    exact .fn f first cap (fun l e => by subst e; simp at h) (gdL_gd first h.2.1) (gdL_gd cap h.2.2)
  | .ifc t v, h => .ifc t v (gdA_gd v (by simpa [gdA] using h))
  | .int k n, _ => .int k n
  | .bool b, _ => .bool b
  | .str s, _ => .str s
  | .nilsl, _ => .nilsl
  | .nilpt, _ => .nilpt
  | .nilmap, _ => .nilmap
  | .nilfn, _ => .nilfn
  | .nilifc, _ => .nilifc
theorem gdL_gd : ∀ l : List AV, gdL l = true → ∀ c ∈ l, Gd c
  | [], _ => by simp
  | v :: l, h => by
    have h1 := gdA_gd v (by simp only [gdL, Bool.and_eq_true] at h; exact h.1)
    have h2 := gdL_gd l (by simp only [gdL, Bool.and_eq_true] at h; exact h.2)
    intro c hc
    rcases List.mem_cons.1 hc with rfl | hc
    · exact h1
    · exact h2 c hc
theorem gdR_gd : ∀ l : List (List AV), gdR l = true → ∀ r ∈ l, ∀ c ∈ r, Gd c
  | [], _ => by simp
  | v :: l, h => by
    have h1 := gdL_gd v (by simp only [gdR, Bool.and_eq_true] at h; exact h.1)
    have h2 := gdR_gd l (by simp only [gdR, Bool.and_eq_true] at h; exact h.2)
    intro c hc
    rcases List.mem_cons.1 hc with rfl | hc
    · exact h1
    · exact h2 c hc
end
theorem Gd.gr {v : AV} (hv : Gd v) : grA v = true := by
  induction hv with
  | agg cs _ ih => simp only [grA]; exact grL_of ih
  | tup cs _ ih => simp only [grA]; exact grL_of ih
  | fn f first cap hf _ _ ih1 ih2 => cases f <;> simp only [grA, grL_of ih1, grL_of ih2, Bool.and_self] <;> exact absurd rfl (hf _)
  | ifc t v _ ih => simpa [grA] using ih
  | _ => rfl

/-! ### Other names -/
theorem rnL_map (s : Nat → Option Nat) : ∀ l : List AV, rnL s l = l.map (rnA s)
  | [] => rfl
  | v :: l => by simp [rnL, rnL_map s l]
theorem nmL_flat : ∀ l : List AV, nmL l = l.flatMap nmA
  | [] => rfl
  | v :: l => by simp [nmL, nmL_flat l]

theorem Gd.rnA {v : AV} (h : Gd v) (s : Nat → Option Nat) : rnA s v = v := by
  have ls : ∀ {cs : List AV}, (∀ c ∈ cs, Go.DL.rnA s c = c) → rnL s cs = cs := fun {cs} h => by
    rw [rnL_map]
    induction cs with
    | nil => rfl
    | cons c cs ih => simp only [List.map_cons, h c (by simp), ih fun x hx => h x (by simp [hx])]
  induction h with
  | agg cs _ ih => simp only [Go.DL.rnA, ls ih]
  | tup cs _ ih => simp only [Go.DL.rnA, ls ih]
  | fn f first cap hf _ _ ih1 ih2 => cases f <;> simp only [Go.DL.rnA, ls ih1, ls ih2] <;> exact absurd rfl (hf _)
  | ifc t v _ ih => simp only [Go.DL.rnA, ih]
  | _ => rfl

/-- Values under other names: those that have none are not known. -/
theorem Rn.renum {r' : Nat → Option Nat} {s : Nat → Option Nat} (hs : ∀ b c d, s b = some c → r b = some d → r' c = some d) {v v' : AV} (h : Rn D Y r v v') : Rn D Y r' (rnA s v) v' := by
  have ls : ∀ {xs ys : List AV}, xs.length = ys.length → (∀ (i : Nat) (x y : AV), xs[i]? = some x → ys[i]? = some y → Rn D Y r' (Go.DL.rnA s x) y) → RnL D Y r' (rnL s xs) ys := fun {xs ys} hl h => by
    rw [rnL_map]
    refine ⟨by simpa using hl, fun i x y hx hy => ?_⟩
    rw [List.getElem?_map, Option.map_eq_some_iff] at hx
    obtain ⟨z, hz, rfl⟩ := hx
    exact h i z y hz hy
  induction h with
  | any v => exact .any v
  | int k n => exact .int k n
  | bool b => exact .bool b
  | str t => exact .str t
  | agg xs ys hl _ ih => exact .agg _ _ (ls hl ih).1 (ls hl ih).2
  | tup xs ys hl _ ih => exact .tup _ _ (ls hl ih).1 (ls hl ih).2
  | fs rows h => exact .fs rows h
  | fp rows i o h => exact .fp rows i o h
  | sl b d o z n hr =>
    simp only [rnA]
    split
    · rename_i c hc; exact .sl c d o z n (hs b c d hc hr)
    · exact .any _
  | pt b d o hr =>
    simp only [rnA]
    split
    · rename_i c hc; exact .pt c d o (hs b c d hc hr)
    · exact .any _
  | mp b d hr =>
    simp only [rnA]
    split
    · rename_i c hc; exact .mp c d (hs b c d hc hr)
    · exact .any _
  | nilsl => exact .nilsl
  | nilpt => exact .nilpt
  | nilmap => exact .nilmap
  | nilfn => exact .nilfn
  | nilifc => exact .nilifc
  | fn f xs ys us vs hf hl1 _ hl2 _ ih1 ih2 =>
    cases f with
    | yield l => exact absurd rfl (hf l)
    | _ => exact .fn _ _ _ _ _ hf (ls hl1 ih1).1 (ls hl1 ih1).2 (ls hl2 ih2).1 (ls hl2 ih2).2
  | yield l c0 hr =>
    simp only [rnA]
    split
    · rename_i c hc; exact .yield c c0 (hs l c c0 hc hr)
    · exact .any _
  | ifc t x y _ ih => exact .ifc t _ _ ih
theorem RnL.renum {r' : Nat → Option Nat} {s : Nat → Option Nat} (hs : ∀ b c d, s b = some c → r b = some d → r' c = some d) {xs ys : List AV} (h : RnL D Y r xs ys) : RnL D Y r' (rnL s xs) ys := by
  rw [rnL_map]
  refine ⟨by simpa using h.1, fun i x y hx hy => ?_⟩
  rw [List.getElem?_map, Option.map_eq_some_iff] at hx
  obtain ⟨z, hz, rfl⟩ := hx
  exact (h.2 i z y hz hy).renum hs

/-- More names. -/
theorem Rn.mono {r' : Nat → Option Nat} {Y' : Nat → Option YI} (hr : ∀ b c, r b = some c → r' b = some c) {v v' : AV} (h : Rn D Y r v v') : Rn D Y' r' v v' := by
  induction h with
  | any v => exact .any v
  | int k n => exact .int k n
  | bool b => exact .bool b
  | str t => exact .str t
  | agg xs ys hl _ ih => exact .agg _ _ hl ih
  | tup xs ys hl _ ih => exact .tup _ _ hl ih
  | fs rows h => exact .fs rows h
  | fp rows i o h => exact .fp rows i o h
  | sl b c o z n h => exact .sl b c o z n (hr _ _ h)
  | pt b c o h => exact .pt b c o (hr _ _ h)
  | mp b c h => exact .mp b c (hr _ _ h)
  | nilsl => exact .nilsl
  | nilpt => exact .nilpt
  | nilmap => exact .nilmap
  | nilfn => exact .nilfn
  | nilifc => exact .nilifc
  | fn f xs ys us vs hf hl1 _ hl2 _ ih1 ih2 => exact .fn f _ _ _ _ hf hl1 ih1 hl2 ih2
  | yield l c h1 => exact .yield l c (hr _ _ h1)
  | ifc t x y _ ih => exact .ifc t _ _ ih
theorem RnL.mono {r' : Nat → Option Nat} {Y' : Nat → Option YI} (hr : ∀ b c, r b = some c → r' b = some c) {xs ys : List AV} (h : RnL D Y r xs ys) : RnL D Y' r' xs ys :=
  ⟨h.1, fun i x y hx hy => (h.2 i x y hx hy).mono hr⟩

/-! ### Constants -/
mutual
def okA : AV → Bool
  | .agg cs => okL cs
  | .tup vs => okL vs
  | .sl .. | .pt .. | .mp _ | .fp .. => false
  | .fs rows => rows.isEmpty
  | .fn f first cap => (match f with | .yield _ => false | _ => true) && (okL first && okL cap)
  | .ifc _ v => okA v
  | _ => true
def okL : List AV → Bool
  | [] => true
  | v :: r => okA v && okL r
end

mutual
theorem okA_rn : ∀ v : AV, okA v = true → Rn D Y r v v
  | .agg cs, h => .agg cs cs rfl (okL_rn cs (by simpa [okA] using h)).2
  | .tup cs, h => .tup cs cs rfl (okL_rn cs (by simpa [okA] using h)).2
  | .sl .., h => by simp [okA] at h
  | .pt .., h => by simp [okA] at h
  | .mp _, h => by simp [okA] at h
  | .fp .., h => by simp [okA] at h
  | .fs rows, h => by
    simp only [okA, List.isEmpty_iff] at h
    subst h; exact .fs [] (by simp)
  | .fn f first cap, h => by
    simp only [okA, Bool.and_eq_true] at h
    exact .fn f first first cap cap (fun l e => by subst e; simp at h) rfl (okL_rn first h.2.1).2 rfl (okL_rn cap h.2.2).2
  | .ifc t v, h => .ifc t v v (okA_rn v (by simpa [okA] using h))
  | .int k n, _ => .int k n
  | .bool b, _ => .bool b
  | .str s, _ => .str s
  | .nilsl, _ => .nilsl
  | .nilpt, _ => .nilpt
  | .nilmap, _ => .nilmap
  | .nilfn, _ => .nilfn
  | .nilifc, _ => .nilifc
  | .any, _ => .any _
theorem okL_rn : ∀ l : List AV, okL l = true → RnL D Y r l l
  | [], _ => RnL.nil
  | v :: l, h => by
    simp only [okL, Bool.and_eq_true] at h
    exact RnL.cons (okA_rn v h.1) (okL_rn l h.2)
end

end
end Go.DL
