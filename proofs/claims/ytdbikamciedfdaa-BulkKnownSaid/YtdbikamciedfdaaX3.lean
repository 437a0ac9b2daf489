/- Operations on two states that differ by names. No statement of the seed is proved here. -/
import Derived.Test.YtdbikamciedfdaaX2
namespace Go.DL
section
variable {D : Nat → Option XFn} {Y : Nat → Option YI} {r : Nat → Option Nat} {e env : Env} {h : XH} {H : Hp}

def LoopO (i : YI) : LSt → Obj → Prop
  | .ready, o => o = i.oR
  | .busy, o => o = i.oB
  | .done (.exit id), o => o = i.oD (.exit id)
  | .done .ret, o => o = i.oD .ret
  | .done .normal, _ => False

def RnP (D : Nat → Option XFn) (Y : Nat → Option YI) (r : Nat → Option Nat) (xs ys : List (AV × AV)) : Prop :=
  xs.length = ys.length ∧ ∀ (i : Nat) (x y : AV × AV), xs[i]? = some x → ys[i]? = some y → Rn D Y r x.1 y.1 ∧ Rn D Y r x.2 y.2

inductive RnB (D : Nat → Option XFn) (Y : Nat → Option YI) (r : Nat → Option Nat) : Nat → XB → ABlk → Prop where
  | cells (c : Nat) (g w : Bool) (xs ys : List AV) (h : RnL D Y r xs ys) (hg : g = true → grL xs = true) : RnB D Y r c (.blk g (.cells w xs)) (.cells w ys)
  | map (c : Nat) (g w : Bool) (xs ys : List (AV × AV)) (h : RnP D Y r xs ys) (hg : g = true → ∀ p ∈ xs, grA p.1 = true ∧ grA p.2 = true) : RnB D Y r c (.blk g (.map w xs)) (.map w ys)
  | loop (c : Nat) (i : YI) (vs : List AV) (s : LSt) (o : Obj) (d : XFn) (L ps : List Nat) (a b : XCode) (hY : Y c = some i) (h : LoopO i s o) (hD : D i.K = some d) (hs : siteX d.body i.site = some (L, ps, a, b))
      (hv : RnL D Y r vs (L.map i.env)) : RnB D Y r c (.loop i.K i.site vs s) (.obj true o)

/-- The heap of the one state, that of the other. -/
structure SH (D : Nat → Option XFn) (Y : Nat → Option YI) (r : Nat → Option Nat) (h : XH) (H : Hp) : Prop where
  dom : ∀ b c, r b = some c → b < h.length
  inj : ∀ b b' c x y, hat h b = some x → hat h b' = some y → r b = some c → r b' = some c → b = b'
  blk : ∀ b x, hat h b = some x → ∃ c y, r b = some c ∧ H c = some y ∧ RnB D Y r c x y

theorem SH.cells (sh : SH D Y r h H) {b c : Nat} (hr : r b = some c) {w : Bool} {cs : List AV} (hb : hpOf h b = some (.cells w cs)) : ∃ g cs', hat h b = some (.blk g (.cells w cs)) ∧ H c = some (.cells w cs') ∧ RnL D Y r cs cs' ∧ (g = true → grL cs = true) := by
  unfold hpOf at hb
  split at hb <;> simp only [Option.some.injEq, reduceCtorEq] at hb
  rename_i g x hx
  subst hb
  obtain ⟨c', y, h0, h1, h2⟩ := sh.blk b _ hx
  rw [hr] at h0
  simp only [Option.some.injEq] at h0
  subst h0
  cases h2 with
  | cells _ _ _ ys h3 h4 => exact ⟨g, ys, hx, h1, h3, h4⟩
theorem SH.map (sh : SH D Y r h H) {b c : Nat} (hr : r b = some c) {w : Bool} {es : List (AV × AV)} (hb : hpOf h b = some (.map w es)) : ∃ g es', hat h b = some (.blk g (.map w es)) ∧ H c = some (.map w es') ∧ RnP D Y r es es' ∧ (g = true → ∀ p ∈ es, grA p.1 = true ∧ grA p.2 = true) := by
  unfold hpOf at hb
  split at hb <;> simp only [Option.some.injEq, reduceCtorEq] at hb
  rename_i g x hx
  subst hb
  obtain ⟨c', y, h0, h1, h2⟩ := sh.blk b _ hx
  rw [hr] at h0
  simp only [Option.some.injEq] at h0
  subst h0
  cases h2 with
  | map _ _ _ ys h3 h4 => exact ⟨g, ys, hx, h1, h3, h4⟩

/-! ### What a value is -/
theorem rn_int {k : IntKind} {n : Int} {v : AV} (h : Rn D Y r (.int k n) v) : v = .int k n := by cases h; rfl
theorem rn_bool {b : Bool} {v : AV} (h : Rn D Y r (.bool b) v) : v = .bool b := by cases h; rfl
theorem rn_str {s : ByteArray} {v : AV} (h : Rn D Y r (.str s) v) : v = .str s := by cases h; rfl
theorem rn_pt {b o : Nat} {v : AV} (h : Rn D Y r (.pt b o) v) : ∃ c, v = .pt c o ∧ r b = some c := by cases h; exact ⟨_, rfl, ‹_›⟩
theorem rn_sl {b o s n : Nat} {v : AV} (h : Rn D Y r (.sl b o s n) v) : ∃ c, v = .sl c o s n ∧ r b = some c := by cases h; exact ⟨_, rfl, ‹_›⟩
theorem rn_mp {b : Nat} {v : AV} (h : Rn D Y r (.mp b) v) : ∃ c, v = .mp c ∧ r b = some c := by cases h; exact ⟨_, rfl, ‹_›⟩
theorem rn_fs {rows : List (List AV)} {v : AV} (h : Rn D Y r (.fs rows) v) : v = .fs rows ∧ ∀ r ∈ rows, ∀ c ∈ r, Gd c := by cases h; exact ⟨rfl, ‹_›⟩
theorem rn_fp {rows : List (List AV)} {i o : Nat} {v : AV} (h : Rn D Y r (.fp rows i o) v) : v = .fp rows i o ∧ ∀ r ∈ rows, ∀ c ∈ r, Gd c := by cases h; exact ⟨rfl, ‹_›⟩
theorem rn_agg {xs : List AV} {v : AV} (h : Rn D Y r (.agg xs) v) : ∃ ys, v = .agg ys ∧ RnL D Y r xs ys := by cases h; exact ⟨_, rfl, ‹_›, ‹_›⟩
theorem rn_tup {xs : List AV} {v : AV} (h : Rn D Y r (.tup xs) v) : ∃ ys, v = .tup ys ∧ RnL D Y r xs ys := by cases h; exact ⟨_, rfl, ‹_›, ‹_›⟩
theorem rn_nilsl {v : AV} (h : Rn D Y r .nilsl v) : v = .nilsl := by cases h; rfl
theorem rn_nilpt {v : AV} (h : Rn D Y r .nilpt v) : v = .nilpt := by cases h; rfl
theorem rn_nilmap {v : AV} (h : Rn D Y r .nilmap v) : v = .nilmap := by cases h; rfl
theorem rn_nilfn {v : AV} (h : Rn D Y r .nilfn v) : v = .nilfn := by cases h; rfl
theorem rn_nilifc {v : AV} (h : Rn D Y r .nilifc v) : v = .nilifc := by cases h; rfl

def okO : AO → Bool
  | .t _ => true
  | .c v => okA v
def okOO : Option AO → Bool
  | some x => okO x
  | none => true
theorem rn_evA (re : ∀ j, Rn D Y r (e j) (env j)) {x : AO} (hx : okO x = true) : Rn D Y r (evA e x) (evA env x) := by
  cases x with
  | t k => exact re k
  | c v => exact okA_rn v hx
theorem rn_args (re : ∀ j, Rn D Y r (e j) (env j)) {xs : List AO} (hx : xs.all okO = true) : RnL D Y r (xs.map (evA e)) (xs.map (evA env)) :=
  RnL.map fun x hm => rn_evA re (List.all_eq_true.1 hx x hm)

theorem cellsOf_rn {v v' : AV} {cs : List AV} (h : Rn D Y r v v') (hc : cellsOf v = some cs) : ∃ cs', cellsOf v' = some cs' ∧ RnL D Y r cs cs' := by
  have one : ∀ {v v' : AV}, Rn D Y r v v' → RnL D Y r [v] [v'] := fun h => RnL.cons h RnL.nil
  cases h <;> simp only [cellsOf, Option.some.injEq, reduceCtorEq] at hc
  case agg xs ys hl h => subst hc; exact ⟨ys, rfl, hl, h⟩
  all_goals
    subst hc
    exact ⟨_, rfl, one (by first | constructor <;> assumption | exact Rn.yield _ _ ‹_›)⟩

theorem splice_rn {z z' cs cs' : List AV} {o : Nat} (hz : RnL D Y r z z') (hc : RnL D Y r cs cs') : RnL D Y r (splice z o cs) (splice z' o cs') := by
  unfold splice
  rw [← hc.1]
  exact ((hz.take o).append hc).append (hz.drop _)

theorem fillA_rn {parts : List (Nat × Nat × AO)} (re : ∀ j, Rn D Y r (e j) (env j)) : ∀ (ps : List (Nat × Nat × AO)) (z z' cs : List AV), (ps.all fun p => okO p.2.2) = true → RnL D Y r z z' → fillA z (ps.map fun p => (p.1, p.2.1, evA e p.2.2)) = some cs →
    ∃ cs', fillA z' (ps.map fun p => (p.1, p.2.1, evA env p.2.2)) = some cs' ∧ RnL D Y r cs cs' := by
  intro ps
  induction ps with
  | nil => intro z z' cs _ hz hf; simp [fillA] at hf; subst hf; exact ⟨z', rfl, hz⟩
  | cons p ps ih =>
    intro z z' cs hok hz hf
    simp only [List.all_cons, Bool.and_eq_true] at hok
    simp only [List.map_cons, fillA] at hf ⊢
    split at hf
    · rename_i vs hvs
      obtain ⟨vs', h1, h2⟩ := cellsOf_rn (rn_evA re hok.1) hvs
      rw [h1]
      simp only
      split at hf
      · rename_i hc
        rw [if_pos (by rw [← h2.1, ← hz.1]; exact hc)]
        exact ih _ _ _ hok.2 (splice_rn hz h2) hf
      · simp at hf
    · simp at hf

theorem readA_rn {g : Bool} {n o : Nat} {cs cs' : List AV} {v : AV} (hc : RnL D Y r cs cs') (hv : readA g n cs o = some v) : ∃ v', readA g n cs' o = some v' ∧ Rn D Y r v v' := by
  unfold readA at hv ⊢
  split at hv
  · split at hv
    · rename_i hg hle
      simp only [Option.some.injEq] at hv
      subst hv
      rw [if_pos hg, if_pos (by rw [← hc.1]; exact hle)]
      have := (hc.drop o).take n
      exact ⟨_, rfl, .agg _ _ this.1 this.2⟩
    · simp at hv
  · rename_i hg
    rw [if_neg hg]
    exact hc.get hv

theorem gd_self {rows : List (List AV)} (hr : ∀ r ∈ rows, ∀ c ∈ r, Gd c) {i : Nat} {row : List AV} (h : rows[i]? = some row) : RnL D Y r row row := RnL.self fun c hc => (hr row (List.mem_of_getElem? h) c hc).rn

theorem loadA_rn (sh : SH D Y r h H) {g : Bool} {n : Nat} {p p' v : AV} (hp : Rn D Y r p p') (hv : loadA g n (hpOf h) p = some v) : ∃ v', loadA g n H p' = some v' ∧ Rn D Y r v v' := by
  unfold loadA at hv
  split at hv
  · rename_i b o
    split at hv
    · rename_i w cs hb
      obtain ⟨c, rfl, hr⟩ := rn_pt hp
      obtain ⟨g', cs', _, h1, h2, _⟩ := sh.cells hr hb
      simp only [loadA, h1]
      exact readA_rn h2 hv
    · simp at hv
  · rename_i rows i o
    obtain ⟨rfl, hg⟩ := rn_fp hp
    split at hv
    · rename_i row hrow
      simp only [loadA, hrow]
      exact readA_rn (gd_self hg hrow) hv
    · simp at hv
  · simp at hv

theorem keyEqA_rn {q b : Bool} {x x' y y' : AV} (hx : Rn D Y r x x') (hy : Rn D Y r y y') (hb : keyEqA q x y = some b) : keyEqA q x' y' = some b := by
  unfold keyEqA at hb
  split at hb
  · rw [rn_int hx, rn_int hy]; exact hb
  · rw [rn_str hx, rn_str hy]; exact hb
  · simp at hb
def RnOp (D : Nat → Option XFn) (Y : Nat → Option YI) (r : Nat → Option Nat) : Option AV → Option AV → Prop
  | some v, some v' => Rn D Y r v v'
  | none, none => True
  | _, _ => False
theorem findA_rn {q : Bool} {k k' : AV} (hk : Rn D Y r k k') : ∀ (es es' : List (AV × AV)) (o : Option AV), RnP D Y r es es' → findA q k es = some o → ∃ o', findA q k' es' = some o' ∧ RnOp D Y r o o' := by
  intro es
  induction es with
  | nil =>
    intro es' o hp hf
    have : es' = [] := List.eq_nil_of_length_eq_zero (by have := hp.1; simpa using this.symm)
    subst this
    simp [findA] at hf; subst hf
    exact ⟨none, rfl, trivial⟩
  | cons p es ih =>
    intro es' o hp hf
    cases es' with
    | nil => have := hp.1; simp at this
    | cons p' es' =>
      obtain ⟨h1, h2⟩ := hp.2 0 p p' rfl rfl
      obtain ⟨a, v⟩ := p
      obtain ⟨a', v'⟩ := p'
      simp only [findA] at hf ⊢
      split at hf
      · rename_i hb
        rw [keyEqA_rn hk h1 hb]
        simp only [Option.some.injEq] at hf; subst hf
        exact ⟨some v', rfl, h2⟩
      · rename_i hb
        rw [keyEqA_rn hk h1 hb]
        exact ih es' o ⟨by have := hp.1; simpa using this, fun i x y hx hy => hp.2 (i + 1) x y (by simpa using hx) (by simpa using hy)⟩ hf
      · simp at hf

theorem boundA_rn (re : ∀ j, Rn D Y r (e j) (env j)) {c d n : Nat} {x : Option AO} (hx : okOO x = true) (hb : boundA c d e x = some n) : boundA c d env x = some n := by
  cases x with
  | none => exact hb
  | some x =>
    simp only [boundA] at hb ⊢
    have hr := rn_evA re (x := x) hx
    split at hb
    · rename_i k m hm
      rw [hm] at hr
      rw [rn_int hr]; exact hb
    · simp at hb

theorem cellEq_rn {k : Nat} {x x' y y' : AV} {b : Bool} (hx : Rn D Y r x x') (hy : Rn D Y r y y') (hb : cellEq k x y = some b) : cellEq k x' y' = some b := by
  unfold cellEq at hb
  split at hb
  · rw [rn_int hx, rn_int hy]; exact hb
  · rw [rn_bool hx, rn_bool hy]; exact hb
  · rw [rn_str hx, rn_str hy]; exact hb
  · simp at hb
theorem cellsEq_rn : ∀ (ks : List Nat) (xs xs' ys ys' : List AV) (b : Bool), RnL D Y r xs xs' → RnL D Y r ys ys' → cellsEq ks xs ys = some b → cellsEq ks xs' ys' = some b := by
  intro ks
  induction ks with
  | nil =>
    intro xs xs' ys ys' b hx hy hb
    cases xs <;> cases ys <;> simp only [cellsEq, reduceCtorEq] at hb
    rw [hx.nil_inv, hy.nil_inv]; exact hb
  | cons k ks ih =>
    intro xs xs' ys ys' b hx hy hb
    cases xs with
    | nil => simp [cellsEq] at hb
    | cons x xs => cases ys with
      | nil => simp [cellsEq] at hb
      | cons y ys =>
        obtain ⟨x', xs2, rfl, hx1, hx2⟩ := hx.inv
        obtain ⟨y', ys2, rfl, hy1, hy2⟩ := hy.inv
        simp only [cellsEq] at hb ⊢
        split at hb
        · rename_i p q hp hq
          rw [cellEq_rn hx1 hy1 hp, ih _ _ _ _ _ hx2 hy2 hq]; exact hb
        · simp at hb

theorem srcA_rn (sh : SH D Y r h H) {s n : Nat} {v v' : AV} {new : List AV} (hv : Rn D Y r v v') (hs : srcA s (hpOf h) v = some (n, new)) : ∃ new', srcA s H v' = some (n, new') ∧ RnL D Y r new new' ∧ (flagH h v = true → grL new = true) := by
  unfold srcA at hs
  split at hs
  · simp only [Option.some.injEq, Prod.mk.injEq] at hs
    obtain ⟨rfl, rfl⟩ := hs
    rw [rn_nilsl hv]; exact ⟨[], rfl, RnL.nil, fun _ => rfl⟩
  · rename_i rows
    obtain ⟨rfl, hg⟩ := rn_fs hv
    split at hs
    · rename_i hall
      simp only [Option.some.injEq, Prod.mk.injEq] at hs
      obtain ⟨rfl, rfl⟩ := hs
      have hgd : ∀ x ∈ rows.flatten, Gd x := fun x hx => by
        obtain ⟨row, h1, h2⟩ := List.mem_flatten.1 hx
        exact hg row h1 x h2
      refine ⟨rows.flatten, by simp only [srcA, hall, if_true], RnL.self fun x hx => (hgd x hx).rn, fun _ => grL_of fun x hx => ?_⟩
      have : ∀ v, Gd v → grA v = true := fun v hv => by
        induction hv with
        | agg cs _ ih => simp only [grA]; exact grL_of ih
        | tup cs _ ih => simp only [grA]; exact grL_of ih
        | fn f first cap hf _ _ ih1 ih2 => cases f <;> simp only [grA, grL_of ih1, grL_of ih2, Bool.and_self] <;> exact absurd rfl (hf _)
        | ifc t v _ ih => simpa [grA] using ih
        | _ => rfl
      exact this x (hgd x hx)
    · simp at hs
  · rename_i b o s' len
    split at hs
    · rename_i w cs hb
      obtain ⟨c, rfl, hr⟩ := rn_sl hv
      obtain ⟨g, cs', h0, h1, h2, h3⟩ := sh.cells hr hb
      split at hs
      · rename_i hc
        simp only [Option.some.injEq, Prod.mk.injEq] at hs
        obtain ⟨rfl, rfl⟩ := hs
        refine ⟨(cs'.drop o).take (len * s), by simp only [srcA, h1]; rw [if_pos (by rw [← h2.1]; exact hc)], (h2.drop o).take _, fun hf => ?_⟩
        simp only [flagH, h0] at hf
        exact grL_of fun x hx => grL_mem (h3 hf) x (List.mem_of_mem_drop (List.mem_of_mem_take hx))
      · simp at hs
    · simp at hs
  · simp at hs

theorem slslA_rn (re : ∀ j, Rn D Y r (e j) (env j)) {s : Nat} {lo hi : Option AO} (h1 : okOO lo = true) (h2 : okOO hi = true) {v v' u : AV} (hv : Rn D Y r v v') (hs : slslA s e lo hi v = some u) : ∃ u', slslA s env lo hi v' = some u' ∧ Rn D Y r u u' := by
  unfold slslA at hs
  split at hs
  · rename_i rows
    obtain ⟨rfl, hg⟩ := rn_fs hv
    split at hs
    · rename_i hall
      split at hs
      · rename_i m hm
        split at hs
        · rename_i l hl
          simp only [Option.some.injEq] at hs; subst hs
          refine ⟨_, by simp only [slslA, hall, if_true, boundA_rn re h2 hm, boundA_rn re h1 hl], .fs _ fun row hrow => ?_⟩
          exact hg row (List.mem_of_mem_drop (List.mem_of_mem_take hrow))
        · simp at hs
      · simp at hs
    · simp at hs
  · rename_i b o s' len
    obtain ⟨c, rfl, hr⟩ := rn_sl hv
    split at hs
    · rename_i hc
      split at hs
      · rename_i m hm
        split at hs
        · rename_i l hl
          split at hs <;> simp only [Option.some.injEq] at hs <;> subst hs
          · rename_i hlt
            exact ⟨_, by simp only [slslA, hc, if_true, boundA_rn re h2 hm, boundA_rn re h1 hl, hlt], .sl _ _ _ _ _ hr⟩
          · rename_i hlt
            exact ⟨_, by simp only [slslA, hc, if_true, boundA_rn re h2 hm, boundA_rn re h1 hl, hlt, if_false], .fs [] (by simp)⟩
        · simp at hs
      · simp at hs
    · simp at hs
  · rw [rn_nilsl hv]
    split at hs
    · rename_i m hm
      split at hs
      · rename_i l hl
        simp only [Option.some.injEq] at hs; subst hs
        exact ⟨_, by simp only [slslA, boundA_rn re h2 hm, boundA_rn re h1 hl], .nilsl⟩
      · simp at hs
    · simp at hs
  · simp at hs

theorem binA_rn {op : BinOp} {x x' y y' v : AV} (hx : Rn D Y r x x') (hy : Rn D Y r y y') (hb : binA op x y = some v) : binA op x' y' = some v ∧ Rn D Y r v v := by
  unfold binA at hb
  split at hb
  · rw [rn_int hx, rn_int hy]
    refine ⟨hb, ?_⟩
    cases op <;> simp only [intA] at hb <;> (try split at hb) <;> simp only [Option.some.injEq, reduceCtorEq] at hb <;> subst hb <;> constructor
  · rw [rn_str hx, rn_str hy]
    refine ⟨hb, ?_⟩
    cases op <;> simp only [strA, reduceCtorEq] at hb <;> (try split at hb) <;> simp only [Option.some.injEq, reduceCtorEq] at hb <;> subst hb <;> constructor
  · simp at hb

theorem eqnA_rn {k : Nat} {x x' y y' : AV} {b : Bool} (hx : Rn D Y r x x') (hy : Rn D Y r y y') (hb : eqnA k x y = some b) : eqnA k x' y' = some b := by
  unfold eqnA at hb
  split at hb
  all_goals first
    | (simp only [reduceCtorEq] at hb; done)
    | (cases hx <;> cases hy <;> exact hb)

/-- What the one state's operation yields, and the other's. -/
inductive RnE (D : Nat → Option XFn) (Y : Nat → Option YI) (r : Nat → Option Nat) (h : XH) (g : Bool) : Eff → Eff → Prop where
  | val (v v' : AV) (hv : Rn D Y r v v') : RnE D Y r h g (.val v) (.val v')
  | new (own : Option Nat) (cs cs' : List AV) (f : Nat → AV) (hf : ∀ (q : Nat → Option Nat) (b c : Nat), q b = some c → Rn D Y q (f b) (f c)) (hc : RnL D Y r cs cs') (hg : g = true → grL cs = true)
      (ho : ∀ b, own = some b → ∃ c g' cs0, r b = some c ∧ hat h b = some (.blk g' (.cells true cs0))) : RnE D Y r h g (.new own (.cells true cs) f) (.new (own.bind r) (.cells true cs') f)
  | newMap (f : Nat → AV) (hf : ∀ (q : Nat → Option Nat) (b c : Nat), q b = some c → Rn D Y q (f b) (f c)) : RnE D Y r h g (.new none (.map true []) f) (.new none (.map true []) f)

def okOp : DOp → Bool
  | .mv x | .box x | .load _ _ x | .nilck x | .not x | .neg x | .conv _ x | .fld _ x | .fldv _ _ _ x | .ext x _ | .len _ x | .mkifc _ x | .bytes x => okO x
  | .pick c a b => okO c && okO a && okO b
  | .alloc z => okL z
  | .mkmap | .stuck => true
  | .build z ps | .bslice _ _ z ps => okL z && ps.all fun p => okO p.2.2
  | .bin _ x y | .binb _ x y | .eqag _ _ x y | .eqn _ _ x y | .idxa _ _ x y | .idx _ x y | .idxv _ _ _ x y | .idxs x y | .app _ _ x y | .mm _ x y | .copy _ x y => okO x && okO y
  | .mksl _ _ z x y => okL z && (okO x && okO y)
  | .lookup _ _ z x y => okA z && (okO x && okO y)
  | .store _ x y _ => okO x && okO y
  | .mkf f c1 c2 => (match f with | .yield _ => false | _ => true) && (c1.all okO && c2.all okO)
  | .slarr _ _ x lo hi | .slsl _ x lo hi | .slstr x lo hi => okO x && (okOO lo && okOO hi)
  | .mapup _ m k x => okO m && okO k && okO x
  | .callf _ f xs _ => okO f && xs.all okO
end
end Go.DL
