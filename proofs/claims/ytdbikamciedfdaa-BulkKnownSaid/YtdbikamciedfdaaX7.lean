/- Operations and regions on two states that differ by names. No statement of the seed is proved here. -/
import Derived.Test.YtdbikamciedfdaaX6
namespace Go.DL
section
variable {P : Program} {B : Base} {D : Nat → Option XFn} {Y : Nat → Option YI} {r : Nat → Option Nat} {e env : Env} {h : XH} {H : Hp}

/-! ### Calls that turn nothing -/
theorem SH.ro (sh : SH D Y r h H) : SH D Y r (h.map roX) (roH H) := by
  have live : ∀ b x, hat (h.map roX) b = some x → ∃ g y, hat h b = some (.blk g y) ∧ x = .blk g y.ro := fun b x hx => by
    rw [hat_map _ rfl] at hx
    cases hb : hat h b with
    | none => rw [hb] at hx; simp [roX] at hx
    | some y =>
      rw [hb] at hx
      cases y with
      | blk g y => simp only [roX, Option.some.injEq] at hx; exact ⟨g, y, rfl, hx.symm⟩
      | loop _ _ _ s => simp [roX] at hx
  refine ⟨fun b c hb => by simpa using sh.dom b c hb, fun b b' c x x' hx hx' h1 h2 => ?_, fun b x hx => ?_⟩
  · obtain ⟨g, y, k1, _⟩ := live b x hx
    obtain ⟨g', y', k2, _⟩ := live b' x' hx'
    exact sh.inj b b' c _ _ k1 k2 h1 h2
  · obtain ⟨g, y, k1, rfl⟩ := live b x hx
    obtain ⟨c, z, k2, k3, k4⟩ := sh.blk b _ k1
    refine ⟨c, z.ro, k2, by simp [roH, k3], ?_⟩
    cases k4 with
    | cells g w xs ys h hg => exact .cells c _ false _ _ h hg
    | map g w xs ys h hg => exact .map c _ false _ _ h hg

theorem CallV.quietOf {fv : AV} {as : List AV} {v : AV} (h : CallV B P fv as (roH H) fun v' H' => v' = v ∧ ∀ c, (roH H c).isSome = true → (H' c).isSome = true) :
    CallV B P fv as (roH H) fun v' H' => v' = v ∧ H' = roH H := by
  refine h.conv fun F w st => ⟨st, ?_⟩
  rintro e w' ⟨q, v', F', H', rfl, h2, h3, h4, rfl, h5⟩
  have hE : Ext F w (roH H) F' w' (roH H) := ⟨h2.sub, h2.fnew, fun b hb => .inl hb, fun b hb => .inl hb, h2.le, h2.same, h2.cells, h2.io⟩
  refine ⟨q, v', F', roH H, rfl, hE, ⟨h3.lt, fun b x hb => ?_, fun b x hb => ?_⟩, h4, rfl, rfl⟩
  · obtain ⟨y, hy⟩ := Option.isSome_iff_exists.1 (h5 b (by simp [hb]))
    exact h3.dis b y hy
  · obtain ⟨o, k1, k2⟩ := st.blk b x hb
    exact ⟨o, by rw [h2.same b (st.own_lt hb) (wrH_ro H b)]; exact k1, k2.up (h2.up st)⟩

theorem keptB_get : ∀ (xs ys : XH), keptB xs ys = true → ∀ i x, hat xs i = some x → ∃ y, hat ys i = some y
  | [], ys, _, i, x, hx => by simp [hat] at hx
  | x0 :: xs, [], hk, i, x, hx => by simp [keptB] at hk
  | x0 :: xs, y0 :: ys, hk, i, x, hx => by
    simp only [keptB, Bool.and_eq_true, Bool.or_eq_true] at hk
    cases i with
    | zero =>
      simp only [hat, List.getD_cons_zero] at hx ⊢
      subst hx
      rcases hk.1 with h1 | h1
      · simp at h1
      · exact Option.isSome_iff_exists.1 h1
    | succ i =>
      have := keptB_get xs ys hk.2 i x (by simpa [hat] using hx)
      simpa [hat] using this

theorem callQ_sound {run : XRun} (hf : FnS P B D Y run) (sh : SH D Y r h H) {fv fv' : AV} {as as' : List AV} (h1 : Rn D Y r fv fv') (h2 : RnL D Y r as as') {v : AV}
    (hx : callQ run fv as h = some v) : Gd v ∧ CallV B P fv' as' (roH H) fun v' H' => v' = v ∧ H' = roH H := by
  classical
  obtain ⟨hn, hlive⟩ := passedOf_ok fv as h
  unfold callQ at hx
  split at hx
  · rename_i g first cap
    simp only at hx
    split at hx
    · rename_i v0 hl hrun
      split at hx
      · rename_i hcond
        simp only [Bool.and_eq_true] at hcond
        simp only [Option.some.injEq] at hx
        subst hx
        cases h1 with
        | fn _ _ ys _ vs hf0 hl1 k1 hl2 k2 =>
          obtain ⟨acc, hacc⟩ : ∃ acc, acc = passedOf (.fn (.func g) first cap) as h := ⟨_, rfl⟩
          rw [← hacc] at hn hlive hrun hcond
          obtain ⟨g1, g2, g3⟩ := local_sound sh hn hlive (fun c => ∃ b ∈ acc, r b = some c) (fun c => Iff.rfl)
          have hfn := hf _ _ _ g _ (ys ++ as' ++ vs) v0 hl g1.ro (g3 _ _ (RnL.append (RnL.append ⟨hl1, k1⟩ h2) ⟨hl2, k2⟩)) hrun
          have hgd : Gd v0 := gdA_gd _ hcond.1
          refine ⟨hgd, ?_⟩
          refine CallV.quietOf ?_
          have hro : (roH fun c => if ∃ b ∈ acc, r b = some c then H c else none) = fun c => if ∃ b ∈ acc, r b = some c then roH H c else none := by
            funext c
            by_cases hc : ∃ b ∈ acc, r b = some c
            · simp only [roH, hc, if_true]
            · simp only [roH, hc, if_false]; rfl
          rw [hro] at hfn
          refine CallV.mono (CallV.frameS (fv := .fn (.func g) ys vs) (fun c => ∃ b ∈ acc, r b = some c) hfn) ?_
          rintro v' H'' ⟨H', ⟨rl, m1, m2, m3⟩, e1, e2⟩
          refine ⟨(m3.same hgd.gr).1, fun c hc => ?_⟩
          obtain ⟨x, hx⟩ := Option.isSome_iff_exists.1 hc
          by_cases hS : ∃ b ∈ acc, r b = some c
          · rw [e1 c (.inl hS)]
            obtain ⟨b, hb, hrb⟩ := hS
            obtain ⟨i, hi⟩ := List.mem_iff_getElem?.1 hb
            obtain ⟨y, hy⟩ := Option.isSome_iff_exists.1 (hlive b hb)
            have hloc : ∃ z, hat (localH acc h) i = some z := by
              unfold localH
              rw [hat_local _ _ _ rfl, hi]
              simp only [hy]
              exact ⟨_, rfl⟩
            obtain ⟨z, hz⟩ := hloc
            obtain ⟨z', hz'⟩ := keptB_get _ _ hcond.2 i z hz
            obtain ⟨c', y', n1, n2, _⟩ := m2.blk i z' hz'
            have := m1 i c (by simp only [locR, hi, Option.bind_some, hrb])
            rw [n1] at this
            simp only [Option.some.injEq] at this
            subst this
            simp [n2]
          · simp [(e2 c hS x hx).1]
      · simp at hx
    · simp at hx
  · simp at hx

/-! ### The heap turned -/
theorem SH.turn (sh : SH D Y r h H) {b c : Nat} {x0 x : XB} {y : ABlk} (hb : hat h b = some x0) (hr : r b = some c) (hx : RnB D Y r c x y) : SH D Y r (h.set b (some x)) (hset H c y) := by
  have live : ∀ b' z, hat (h.set b (some x)) b' = some z → (b' = b ∧ z = x) ∨ (b' ≠ b ∧ hat h b' = some z) := fun b' z hz => by
    rw [hat_set] at hz
    split at hz
    · rename_i hc; simp only [Option.some.injEq] at hz; exact .inl ⟨hc.1, hz.symm⟩
    · rename_i hc; exact .inr ⟨fun e => hc ⟨e, hat_lt hb⟩, hz⟩
  have liv : ∀ b' z, hat (h.set b (some x)) b' = some z → ∃ z', hat h b' = some z' := fun b' z hz => by
    rcases live b' z hz with ⟨rfl, _⟩ | ⟨_, h2⟩
    · exact ⟨_, hb⟩
    · exact ⟨_, h2⟩
  refine ⟨fun b c hb => by simpa using sh.dom b c hb, fun b1 b2 c' x1 x2 h1 h2 k1 k2 => ?_, fun b' z hz => ?_⟩
  · obtain ⟨z1, h1⟩ := liv _ _ h1
    obtain ⟨z2, h2⟩ := liv _ _ h2
    exact sh.inj b1 b2 c' z1 z2 h1 h2 k1 k2
  · rcases live b' z hz with ⟨rfl, rfl⟩ | ⟨h1, h2⟩
    · exact ⟨c, y, hr, hset_same _ _ _, hx⟩
    · obtain ⟨c', y', k1, k2, k3⟩ := sh.blk b' z h2
      refine ⟨c', y', k1, ?_, k3⟩
      rw [hset_other _ _ (fun e => ?_)]
      · exact k2
      · subst e; exact h1 (sh.inj b' b c' _ _ h2 hb k1 hr)

theorem xStore_rn (sh : SH D Y r h H) {n : Nat} {p p' x x' : AV} (hp : Rn D Y r p p') (hx : Rn D Y r x x') {h' : XH} (hs : xStore n h p x = some h') : ∃ H', storeA n H p' x' = some H' ∧ SH D Y r h' H' ∧ ∃ b x0, blkA p = some b ∧ hat h b = some x0 := by
  unfold xStore at hs
  split at hs
  · rename_i b o
    split at hs
    · rename_i g cs vs hb hv
      split at hs
      · rename_i hc
        simp only [Option.some.injEq] at hs
        subst hs
        obtain ⟨c, rfl, hr⟩ := rn_pt hp
        obtain ⟨vs', k1, k2⟩ := cellsOf_rn hx hv
        obtain ⟨g', cs', k3, k4, k5, k6⟩ := sh.cells hr (w := true) (cs := cs) (by unfold hpOf; rw [hb])
        rw [hb] at k3
        simp only [Option.some.injEq, XB.blk.injEq, ABlk.cells.injEq, true_and, and_true] at k3
        subst k3
        refine ⟨_, by simp only [storeA, k4, k1]; rw [if_pos (by rw [← k2.1, ← k5.1]; exact hc)], sh.turn hb hr (.cells c _ true _ _ (splice_rn k5 k2) fun hg => ?_), b, _, rfl, hb⟩
        simp only [Bool.and_eq_true] at hg
        exact grL_splice (k6 hg.1) hg.2
      · simp at hs
    · simp at hs
  · simp at hs

theorem putA_rn {q : Bool} {k k' v v' : AV} (hk : Rn D Y r k k') (hv : Rn D Y r v v') : ∀ (es es' es2 : List (AV × AV)), RnP D Y r es es' → putA q k v es = some es2 → ∃ es2', putA q k' v' es' = some es2' ∧ RnP D Y r es2 es2' := by
  have cons : ∀ {p p' : AV × AV} {es es' : List (AV × AV)}, Rn D Y r p.1 p'.1 → Rn D Y r p.2 p'.2 → RnP D Y r es es' → RnP D Y r (p :: es) (p' :: es') := fun h1 h2 h3 => ⟨by simp [h3.1], fun i x y hx hy => by
    cases i with
    | zero => simp at hx hy; subst hx hy; exact ⟨h1, h2⟩
    | succ i => exact h3.2 i x y (by simpa using hx) (by simpa using hy)⟩
  intro es
  induction es with
  | nil =>
    intro es' es2 hp hf
    have : es' = [] := List.eq_nil_of_length_eq_zero (by have := hp.1; simpa using this.symm)
    subst this
    simp only [putA, Option.some.injEq] at hf; subst hf
    exact ⟨_, rfl, cons (p := (k, v)) (p' := (k', v')) hk hv ⟨rfl, by simp⟩⟩
  | cons p es ih =>
    intro es' es2 hp hf
    cases es' with
    | nil => have := hp.1; simp at this
    | cons p' es' =>
      obtain ⟨h1, h2⟩ := hp.2 0 p p' rfl rfl
      have hrest : RnP D Y r es es' := ⟨by have := hp.1; simpa using this, fun i x y hx hy => hp.2 (i + 1) x y (by simpa using hx) (by simpa using hy)⟩
      obtain ⟨a, u⟩ := p
      obtain ⟨a', u'⟩ := p'
      simp only [putA] at hf ⊢
      split at hf
      · rename_i hb
        rw [keyEqA_rn hk h1 hb]
        simp only [Option.some.injEq] at hf; subst hf
        exact ⟨_, rfl, cons (p := (a, v)) (p' := (a', v')) h1 hv hrest⟩
      · rename_i hb
        rw [keyEqA_rn hk h1 hb]
        simp only [Option.map_eq_some_iff] at hf
        obtain ⟨es3, h3, rfl⟩ := hf
        obtain ⟨es3', h4, h5⟩ := ih es' es3 hrest h3
        exact ⟨(a', u') :: es3', by simp only [h4, Option.map_some], cons (p := (a, u)) (p' := (a', u')) h1 h2 h5⟩
      · simp at hf
theorem putA_mem {q : Bool} {k v : AV} : ∀ (es es2 : List (AV × AV)), putA q k v es = some es2 → ∀ p ∈ es2, (p.1 = k ∨ ∃ p0 ∈ es, p.1 = p0.1) ∧ (p.2 = v ∨ ∃ p0 ∈ es, p.2 = p0.2) := by
  intro es
  induction es with
  | nil => intro es2 hf p hp; simp only [putA, Option.some.injEq] at hf; subst hf; simp at hp; subst hp; exact ⟨.inl rfl, .inl rfl⟩
  | cons p0 es ih =>
    intro es2 hf p hp
    obtain ⟨a, u⟩ := p0
    simp only [putA] at hf
    split at hf
    · simp only [Option.some.injEq] at hf; subst hf
      rcases List.mem_cons.1 hp with rfl | hp
      · exact ⟨.inr ⟨(a, u), by simp, rfl⟩, .inl rfl⟩
      · exact ⟨.inr ⟨p, by simp [hp], rfl⟩, .inr ⟨p, by simp [hp], rfl⟩⟩
    · simp only [Option.map_eq_some_iff] at hf
      obtain ⟨es3, h3, rfl⟩ := hf
      rcases List.mem_cons.1 hp with rfl | hp
      · exact ⟨.inr ⟨(a, u), by simp, rfl⟩, .inr ⟨(a, u), by simp, rfl⟩⟩
      · obtain ⟨h4, h5⟩ := ih es3 h3 p hp
        exact ⟨h4.imp id fun ⟨q, h6, h7⟩ => ⟨q, by simp [h6], h7⟩, h5.imp id fun ⟨q, h6, h7⟩ => ⟨q, by simp [h6], h7⟩⟩
    · simp at hf

theorem xMapup_rn (sh : SH D Y r h H) {q : Bool} {m m' k k' x x' : AV} (hm : Rn D Y r m m') (hk : Rn D Y r k k') (hx : Rn D Y r x x') {h' : XH} (hs : xMapup q h m k x = some h') : ∃ H', mapupA q H m' k' x' = some H' ∧ SH D Y r h' H' := by
  unfold xMapup at hs
  split at hs
  · rename_i b
    split at hs
    · rename_i g es hb
      simp only [Option.map_eq_some_iff] at hs
      obtain ⟨es2, h2, rfl⟩ := hs
      obtain ⟨c, rfl, hr⟩ := rn_mp hm
      obtain ⟨g', es', k3, k4, k5, k6⟩ := sh.map hr (w := true) (es := es) (by unfold hpOf; rw [hb])
      rw [hb] at k3
      simp only [Option.some.injEq, XB.blk.injEq, ABlk.map.injEq, true_and, and_true] at k3
      subst k3
      obtain ⟨es2', k7, k8⟩ := putA_rn hk hx es es' es2 k5 h2
      refine ⟨_, by simp only [mapupA, k4, k7, Option.map_some], sh.turn hb hr (.map c _ true _ _ k8 fun hg p hp => ?_)⟩
      simp only [Bool.and_eq_true] at hg
      obtain ⟨h3, h4⟩ := putA_mem es es2 h2 p hp
      refine ⟨?_, ?_⟩
      · rcases h3 with e | ⟨p0, h5, e⟩
        · rw [e]; exact hg.2.1
        · rw [e]; exact (k6 hg.1 p0 h5).1
      · rcases h4 with e | ⟨p0, h5, e⟩
        · rw [e]; exact hg.2.2
        · rw [e]; exact (k6 hg.1 p0 h5).2
    · simp at hs
  · simp at hs

theorem xCopy_rn (sh : SH D Y r h H) {s : Nat} {x x' y y' : AV} (hx : Rn D Y r x x') (hy : Rn D Y r y y') {n : Nat} {h' : XH} (hs : xCopy s h x y = some (n, h')) : ∃ H', copyA s H x' y' = some (n, H') ∧ SH D Y r h' H' := by
  unfold xCopy at hs
  split at hs
  · rename_i b o s' len m new hsrc
    obtain ⟨new', k1, k2, k3⟩ := srcA_rn sh hy hsrc
    split at hs
    · rename_i g cs hb
      split at hs
      · rename_i hc
        simp only [Option.some.injEq, Prod.mk.injEq] at hs
        obtain ⟨rfl, rfl⟩ := hs
        obtain ⟨c, rfl, hr⟩ := rn_sl hx
        obtain ⟨g', cs', j3, j4, j5, j6⟩ := sh.cells hr (w := true) (cs := cs) (by unfold hpOf; rw [hb])
        rw [hb] at j3
        simp only [Option.some.injEq, XB.blk.injEq, ABlk.cells.injEq, true_and, and_true] at j3
        subst j3
        refine ⟨_, by simp only [copyA, k1, j4]; rw [if_pos (by rw [← j5.1]; exact hc)], sh.turn hb hr (.cells c _ true _ _ (splice_rn j5 (k2.take _)) fun hg => ?_)⟩
        simp only [Bool.and_eq_true] at hg
        exact grL_splice (j6 hg.1) (grL_of fun x hx => grL_mem (k3 hg.2) x (List.mem_of_mem_take hx))
      · simp at hs
    · simp at hs
  · simp at hs

/-- A new block. -/
theorem SH.fresh (sh : SH D Y r h H) {own : Option Nat} (g : Bool) {x : ABlk} {y : ABlk} {b' : Nat} (hb : H b' = none ∨ own.bind r = some b')
    (ho : ∀ b, own = some b → ∃ c x0, r b = some c ∧ hat h b = some x0) (hxy : ∀ c, RnB D Y r c (.blk g x) y) :
    Sub r (fun b => if b = h.length then some b' else r b) ∧ SH D Y (fun b => if b = h.length then some b' else r b) (xNew h own g x) (hset H b' y) := by
  have hsub : Sub r (fun b => if b = h.length then some b' else r b) := fun b c hb => by
    have := sh.dom b c hb
    simp only [show b ≠ h.length by omega, if_false]; exact hb
  have len : (xNew h own g x).length = h.length + 1 := by unfold xNew; cases own <;> simp
  have live : ∀ b z, hat (xNew h own g x) b = some z → (b = h.length ∧ z = .blk g x) ∨ (b < h.length ∧ own ≠ some b ∧ hat h b = some z) := fun b z hz => by
    unfold xNew at hz
    cases own with
    | none =>
      simp only at hz
      rw [hat_append] at hz
      split at hz
      · rename_i hlt; exact .inr ⟨hlt, by simp, hz⟩
      · by_cases he : b = h.length
        · subst he; simp [hat] at hz; exact .inl ⟨rfl, hz.symm⟩
        · have : b - h.length = (b - h.length - 1) + 1 := by omega
          rw [this] at hz; simp [hat] at hz
    | some b0 =>
      simp only at hz
      rw [hat_append] at hz
      simp only [List.length_set] at hz
      split at hz
      · rename_i hlt
        rw [hat_set] at hz
        split at hz
        · simp at hz
        · rename_i hc
          refine .inr ⟨hlt, fun e => ?_, hz⟩
          simp only [Option.some.injEq] at e; subst e
          exact hc ⟨rfl, hlt⟩
      · by_cases he : b = h.length
        · subst he; simp [hat] at hz; exact .inl ⟨rfl, hz.symm⟩
        · have : b - h.length = (b - h.length - 1) + 1 := by omega
          rw [this] at hz; simp [hat] at hz
  have other : ∀ b c z, hat h b = some z → own ≠ some b → r b = some c → c ≠ b' := fun b c z hz hne hr e => by
    subst e
    obtain ⟨c', y', h1, h2, _⟩ := sh.blk b z hz
    rw [hr] at h1; simp only [Option.some.injEq] at h1; subst h1
    rcases hb with hb | hb
    · rw [hb] at h2; simp at h2
    · cases own with
      | none => simp at hb
      | some b0 =>
        simp only [Option.bind_some] at hb
        obtain ⟨_, x0, _, h4⟩ := ho b0 rfl
        exact hne (by rw [sh.inj b b0 c z x0 hz h4 hr hb])
  refine ⟨hsub, fun b c hb => ?_, fun b1 b2 c x1 x2 h1 h2 k1 k2 => ?_, fun b z hz => ?_⟩
  · rw [len]
    split at hb
    · omega
    · have := sh.dom b c hb; omega
  · rcases live b1 x1 h1 with ⟨rfl, _⟩ | ⟨l1, n1, m1⟩
    · rcases live b2 x2 h2 with ⟨rfl, _⟩ | ⟨l2, n2, m2⟩
      · rfl
      · exfalso
        simp only [if_true, Option.some.injEq] at k1
        simp only [show b2 ≠ h.length by omega, if_false] at k2
        exact other b2 c x2 m2 n2 k2 k1.symm
    · rcases live b2 x2 h2 with ⟨rfl, _⟩ | ⟨l2, n2, m2⟩
      · exfalso
        simp only [if_true, Option.some.injEq] at k2
        simp only [show b1 ≠ h.length by omega, if_false] at k1
        exact other b1 c x1 m1 n1 k1 k2.symm
      · simp only [show b1 ≠ h.length by omega, if_false] at k1
        simp only [show b2 ≠ h.length by omega, if_false] at k2
        exact sh.inj b1 b2 c x1 x2 m1 m2 k1 k2
  · rcases live b z hz with ⟨rfl, rfl⟩ | ⟨l1, n1, m1⟩
    · exact ⟨b', y, by simp, hset_same _ _ _, (hxy b').mono hsub (fun _ => rfl)⟩
    · obtain ⟨c, y', g1, g2, g3⟩ := sh.blk b z m1
      refine ⟨c, y', hsub b c g1, ?_, g3.mono hsub (fun _ => rfl)⟩
      rw [hset_other _ _ (other b c z m1 n1 g1)]; exact g2
end
end Go.DL
