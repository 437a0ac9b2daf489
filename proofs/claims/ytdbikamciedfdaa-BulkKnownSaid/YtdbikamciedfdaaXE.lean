/- What functions compute, without a bound on the steps: equations. No statement of the seed is proved here. -/
import Derived.Test.YtdbikamciedfdaaXD
namespace Go.DL

def noRng : XCode → Bool
  | .seq a b | .cond _ a b => noRng a && noRng b
  | .block _ a | .loop _ a | .scope a => noRng a
  | .rng .. => false
  | _ => true
theorem sitesP_of {d : XFn} : ∀ {c : XCode}, noRng c = true → sitesP d c
  | .seq a b, h => by simp only [noRng, Bool.and_eq_true] at h; exact ⟨sitesP_of h.1, sitesP_of h.2⟩
  | .cond c a b, h => by simp only [noRng, Bool.and_eq_true] at h; exact ⟨sitesP_of h.1, sitesP_of h.2⟩
  | .block id a, h => sitesP_of (c := a) (by simpa [noRng] using h)
  | .loop l a, h => sitesP_of (c := a) (by simpa [noRng] using h)
  | .scope a, h => sitesP_of (c := a) (by simpa [noRng] using h)
  | .rng .., h => by simp [noRng] at h
  | .skip, _ => trivial
  | .exit _, _ => trivial
  | .ret, _ => trivial
  | .reg .., _ => trivial

/-! ### More steps -/
def LeR (f g : XRun) : Prop := ∀ K as h q, f K as h = some q → g K as h = some q
def LeY (f g : YRun) : Prop := ∀ v as h q, f v as h = some q → g v as h = some q
section
variable {run run' : XRun} {runY runY' : YRun}

theorem callX_mono (hr : LeR run run') (hy : LeY runY runY') {fv : AV} {as : List AV} {h : XH} {q : AV × XH} (hx : callX run runY fv as h = some q) : callX run' runY' fv as h = some q := by
  unfold callX at hx ⊢
  split at hx
  · simp only [Option.map_eq_some_iff] at hx ⊢
    obtain ⟨a, h1, h2⟩ := hx
    exact ⟨a, hr _ _ _ _ h1, h2⟩
  · simp only [Option.map_eq_some_iff] at hx ⊢
    obtain ⟨a, h1, h2⟩ := hx
    exact ⟨a, hy _ _ _ _ h1, h2⟩
  · simp at hx
theorem callQ_mono (hr : LeR run run') {fv : AV} {as : List AV} {h : XH} {q : AV} (hx : callQ run fv as h = some q) : callQ run' fv as h = some q := by
  unfold callQ at hx ⊢
  split at hx
  · simp only at hx ⊢
    split at hx
    · rename_i v hl h1
      rw [hr _ _ _ _ h1]; exact hx
    · simp at hx
  · simp at hx
theorem xcore_mono (hr : LeR run run') (hy : LeY runY runY') {d : Option Nat} {op : DOp} {e : Env} {h : XH} {q : Env × XH} (hx : xcore run runY d op e h = some q) : xcore run' runY' d op e h = some q := by
  cases op with
  | callf b f xs l =>
    cases b with
    | true =>
      simp only [xcore, Option.map_eq_some_iff] at hx ⊢
      obtain ⟨a, h1, h2⟩ := hx
      exact ⟨a, callQ_mono hr h1, h2⟩
    | false =>
      simp only [xcore, Option.map_eq_some_iff] at hx ⊢
      obtain ⟨a, h1, h2⟩ := hx
      exact ⟨a, callX_mono hr hy h1, h2⟩
  | _ => exact hx
theorem xops_mono (hr : LeR run run') (hy : LeY runY runY') : ∀ (ops : List DOper) (e : Env) (h : XH) (q : Env × XH), xops run runY ops e h = some q → xops run' runY' ops e h = some q
  | [], e, h, q, hx => hx
  | o :: ops, e, h, q, hx => by
    simp only [xops] at hx ⊢
    split at hx
    · simp only [Option.bind_eq_some_iff] at hx ⊢
      obtain ⟨s, h1, h2⟩ := hx
      exact ⟨s, xcore_mono hr hy h1, xops_mono hr hy ops _ _ q h2⟩
    · exact xops_mono hr hy ops _ _ q hx
    · simp at hx
theorem xopsD_mono (hr : LeR run run') (hy : LeY runY runY') : ∀ (ops : List DOper) (e : Env) (h : XH) (L : List (Nat × Nat)) (q : Env × XH), xopsD run runY ops e h L = some q → xopsD run' runY' ops e h L = some q
  | [], e, h, L, q, hx => hx
  | o :: ops, e, h, L, q, hx => by
    simp only [xopsD] at hx ⊢
    split at hx
    · split at hx
      · rename_i hl
        rw [if_pos hl]
        simp only [Option.bind_eq_some_iff] at hx ⊢
        obtain ⟨s, h1, h2⟩ := hx
        refine ⟨s, xcore_mono hr hy h1, ?_⟩
        split at h2
        · rename_i hp; rw [if_pos hp]; exact xopsD_mono hr hy ops _ _ _ q h2
        · simp at h2
      · simp at hx
    · exact xopsD_mono hr hy ops _ _ _ q hx
    · simp at hx

theorem loopX_mono {step step' : Env → XH → Option (DX × Env × XH)} (hs : ∀ e h q, step e h = some q → step' e h = some q) {k : Nat} {L : List Nat} : ∀ (n m : Nat), n ≤ m → ∀ (e : Env) (h : XH) (q : DX × Env × XH), loopX step k L n e h = some q → loopX step' k L m e h = some q
  | 0, _, _, e, h, q, hx => by simp [loopX] at hx
  | n + 1, 0, hnm, e, h, q, hx => by omega
  | n + 1, m + 1, hnm, e, h, q, hx => by
    simp only [loopX] at hx ⊢
    split at hx
    · rename_i e' h' h1
      rw [hs _ _ _ h1]
      exact loopX_mono hs n m (by omega) e' h' q hx
    · rename_i hne
      rw [hs _ _ _ hx]
      obtain ⟨x, e', h'⟩ := q
      cases x with
      | normal => exact absurd hx (hne e' h')
      | _ => rfl

theorem execX_mono (hr : LeR run run') (hy : LeY runY runY') {K k n m : Nat} (hnm : n ≤ m) {rd : Option Nat} : ∀ (c : XCode) (e : Env) (h : XH) (q : DX × Env × XH), execX run runY K k n rd c e h = some q → execX run' runY' K k m rd c e h = some q := by
  intro c
  induction c with
  | skip => intro e h q hx; exact hx
  | exit id => intro e h q hx; exact hx
  | ret => intro e h q hx; exact hx
  | reg fz draw ops =>
    intro e h q hx
    simp only [execX, Option.map_eq_some_iff] at hx ⊢
    obtain ⟨s, h1, h2⟩ := hx
    refine ⟨s, ?_, h2⟩
    split at h1
    · rename_i hd; rw [if_pos hd]; exact xopsD_mono hr hy _ _ _ _ _ h1
    · rename_i hd; rw [if_neg hd]; exact xops_mono hr hy _ _ _ _ h1
  | seq a b iha ihb =>
    intro e h q hx
    simp only [execX] at hx ⊢
    split at hx
    · rename_i e1 h1 h2
      rw [iha _ _ _ h2]
      exact ihb _ _ _ hx
    · rename_i hne
      rw [iha _ _ _ hx]
      obtain ⟨x, e', h'⟩ := q
      cases x with
      | normal => exact absurd hx (hne e' h')
      | _ => rfl
  | cond c a b iha ihb =>
    intro e h q hx
    simp only [execX] at hx ⊢
    split at hx
    · exact iha _ _ _ hx
    · exact ihb _ _ _ hx
    · simp at hx
  | block id a iha =>
    intro e h q hx
    simp only [execX] at hx ⊢
    split at hx
    · rename_i j e1 h1 h2
      rw [iha _ _ _ h2]; exact hx
    · rename_i hne
      rw [iha _ _ _ hx]
      obtain ⟨x, e', h'⟩ := q
      cases x with
      | exit id => exact absurd hx (hne id e' h')
      | _ => rfl
  | scope a iha => intro e h q hx; exact iha _ _ _ hx
  | loop L a iha => intro e h q hx; exact loopX_mono iha n m hnm e h q hx
  | rng site L f ps a b _ _ =>
    intro e h q hx
    simp only [execX] at hx ⊢
    split at hx
    · rename_i hc
      rw [if_pos hc]
      split at hx
      · rename_i v h' h1
        rw [callX_mono hr hy h1]; exact hx
      · simp at hx
    · simp at hx
end

theorem runX_succ (D : Nat → Option XFn) : ∀ n, LeR (runX D n) (runX D (n + 1)) ∧ LeY (runYX D n) (runYX D (n + 1)) := by
  intro n
  induction n with
  | zero => exact ⟨fun K as h q hx => by simp [runX] at hx, fun v as h q hx => by simp [runYX] at hx⟩
  | succ n ih =>
    refine ⟨fun K as h q hx => ?_, fun v as h q hx => ?_⟩
    · rw [runX] at hx ⊢
      split at hx
      · simp at hx
      · rename_i d hd
        split at hx
        · rename_i hl
          rw [if_pos hl]
          split at hx
          · simp at hx
          · rename_i x e h' hne h1
            rw [execX_mono ih.1 ih.2 (Nat.le_succ n) _ _ _ _ h1]
            cases x with
            | exit id => exact absurd rfl (hne id)
            | _ => exact hx
          · simp at hx
        · simp at hx
    · simp only [runYX] at hx
      split at hx
      · rename_i l
        split at hx
        · rename_i K site vs hl
          rw [runYX]
          simp only [hl]
          split at hx
          · simp at hx
          · rename_i L ps a b h1
            split at hx
            · rename_i hc
              simp only [h1, hc, if_true]
              split at hx
              · rename_i e1 h1' h2
                rw [execX_mono ih.1 ih.2 (Nat.le_succ n) _ _ _ _ h2]
                simp only
                split at hx
                · rename_i hst
                  split at hx
                  · rename_i x e2 h2' h3
                    rw [execX_mono ih.1 ih.2 (Nat.le_succ n) _ _ _ _ h3]
                    exact hx
                  · simp at hx
                · simp at hx
              · simp at hx
            · simp at hx
        · simp at hx
      · simp at hx
theorem runX_le (D : Nat → Option XFn) {n m : Nat} (h : n ≤ m) : LeR (runX D n) (runX D m) ∧ LeY (runYX D n) (runYX D m) := by
  induction h with
  | refl => exact ⟨fun _ _ _ _ h => h, fun _ _ _ _ h => h⟩
  | step _ ih => exact ⟨fun K as h q hx => (runX_succ D _).1 _ _ _ _ (ih.1 _ _ _ _ hx), fun K as h q hx => (runX_succ D _).2 _ _ _ _ (ih.2 _ _ _ _ hx)⟩

/-! ### Without a bound -/
section
variable {α β : Type}
def MonoS (f : Nat → Option α) : Prop := ∀ n m q, n ≤ m → f n = some q → f m = some q
noncomputable def lim (f : Nat → Option α) : Option α := open Classical in if h : ∃ q n, f n = some q then some h.choose else none
theorem lim_iff {f : Nat → Option α} (hm : MonoS f) {q : α} : lim f = some q ↔ ∃ n, f n = some q := by
  unfold lim
  constructor
  · intro h
    split at h
    · rename_i hx
      simp only [Option.some.injEq] at h
      rw [← h]; exact hx.choose_spec
    · simp at h
  · rintro ⟨n, hn⟩
    have hx : ∃ q n, f n = some q := ⟨q, n, hn⟩
    rw [dif_pos hx]
    obtain ⟨m, h2⟩ := hx.choose_spec
    have h3 := hm n (max n m) q (by omega) hn
    have h4 := hm m (max n m) _ (by omega) h2
    rw [h3] at h4
    exact h4.symm
theorem opt_ext {x y : Option α} (h : ∀ q, x = some q ↔ y = some q) : x = y := by
  cases x with
  | none => cases y with
    | none => rfl
    | some b => exact absurd ((h b).2 rfl) (by simp)
  | some a => exact ((h a).1 rfl).symm
end

variable (D : Nat → Option XFn)
noncomputable def runW : XRun := fun K as h => lim fun n => runX D n K as h
noncomputable def runYW : YRun := fun v as h => lim fun n => runYX D n v as h
noncomputable def execW (K k : Nat) (rd : Option Nat) (c : XCode) (e : Env) (h : XH) : Option (DX × Env × XH) := lim fun n => execX (runX D n) (runYX D n) K k n rd c e h

theorem runX_monoS (K : Nat) (as : List AV) (h : XH) : MonoS fun n => runX D n K as h := fun _ _ _ hnm hx => (runX_le D hnm).1 _ _ _ _ hx
theorem runYX_monoS (v : AV) (as : List AV) (h : XH) : MonoS fun n => runYX D n v as h := fun _ _ _ hnm hx => (runX_le D hnm).2 _ _ _ _ hx
theorem execX_monoS (K k : Nat) (rd : Option Nat) (c : XCode) (e : Env) (h : XH) : MonoS fun n => execX (runX D n) (runYX D n) K k n rd c e h :=
  fun _ _ _ hnm hx => execX_mono (runX_le D hnm).1 (runX_le D hnm).2 hnm _ _ _ _ hx
variable {D}
theorem runW_iff {K : Nat} {as : List AV} {h : XH} {q : AV × XH} : runW D K as h = some q ↔ ∃ n, runX D n K as h = some q := lim_iff (runX_monoS D K as h)
theorem runYW_iff {v : AV} {as : List AV} {h : XH} {q : AV × XH} : runYW D v as h = some q ↔ ∃ n, runYX D n v as h = some q := lim_iff (runYX_monoS D v as h)
theorem execW_iff {K k : Nat} {rd : Option Nat} {c : XCode} {e : Env} {h : XH} {q : DX × Env × XH} : execW D K k rd c e h = some q ↔ ∃ n, execX (runX D n) (runYX D n) K k n rd c e h = some q := lim_iff (execX_monoS D K k rd c e h)
theorem leR_W (n : Nat) : LeR (runX D n) (runW D) := fun _ _ _ _ hx => runW_iff.2 ⟨n, hx⟩
theorem leY_W (n : Nat) : LeY (runYX D n) (runYW D) := fun _ _ _ _ hx => runYW_iff.2 ⟨n, hx⟩

theorem callX_lim {fv : AV} {as : List AV} {h : XH} {q : AV × XH} : callX (runW D) (runYW D) fv as h = some q ↔ ∃ n, callX (runX D n) (runYX D n) fv as h = some q := by
  constructor
  · intro hx
    unfold callX at hx
    split at hx
    · simp only [Option.map_eq_some_iff] at hx
      obtain ⟨a, h1, h2⟩ := hx
      obtain ⟨n, h1⟩ := runW_iff.1 h1
      exact ⟨n, by simp only [callX, Option.map_eq_some_iff]; exact ⟨a, h1, h2⟩⟩
    · simp only [Option.map_eq_some_iff] at hx
      obtain ⟨a, h1, h2⟩ := hx
      obtain ⟨n, h1⟩ := runYW_iff.1 h1
      exact ⟨n, by simp only [callX, Option.map_eq_some_iff]; exact ⟨a, h1, h2⟩⟩
    · simp at hx
  · rintro ⟨n, hx⟩
    exact callX_mono (leR_W n) (leY_W n) hx
theorem callQ_lim {fv : AV} {as : List AV} {h : XH} {q : AV} : callQ (runW D) fv as h = some q ↔ ∃ n, callQ (runX D n) fv as h = some q := by
  constructor
  · intro hx
    unfold callQ at hx
    split at hx
    · simp only at hx
      split at hx
      · rename_i v hl h1
        obtain ⟨n, h1⟩ := runW_iff.1 h1
        exact ⟨n, by simp only [callQ, h1]; exact hx⟩
      · simp at hx
    · simp at hx
  · rintro ⟨n, hx⟩
    exact callQ_mono (leR_W n) hx
theorem xcore_lim {d : Option Nat} {op : DOp} {e : Env} {h : XH} {q : Env × XH} : xcore (runW D) (runYW D) d op e h = some q ↔ ∃ n, xcore (runX D n) (runYX D n) d op e h = some q := by
  constructor
  · intro hx
    cases op with
    | callf b f xs l =>
      cases b with
      | true =>
        simp only [xcore, Option.map_eq_some_iff] at hx ⊢
        obtain ⟨a, h1, h2⟩ := hx
        obtain ⟨n, h1⟩ := callQ_lim.1 h1
        exact ⟨n, a, h1, h2⟩
      | false =>
        simp only [xcore, Option.map_eq_some_iff] at hx ⊢
        obtain ⟨a, h1, h2⟩ := hx
        obtain ⟨n, h1⟩ := callX_lim.1 h1
        exact ⟨n, a, h1, h2⟩
    | _ => exact ⟨0, hx⟩
  · rintro ⟨n, hx⟩
    exact xcore_mono (leR_W n) (leY_W n) hx
theorem xops_lim : ∀ {ops : List DOper} {e : Env} {h : XH} {q : Env × XH}, xops (runW D) (runYW D) ops e h = some q ↔ ∃ n, xops (runX D n) (runYX D n) ops e h = some q := by
  intro ops e h q
  refine ⟨?_, fun ⟨n, hx⟩ => xops_mono (leR_W n) (leY_W n) _ _ _ _ hx⟩
  induction ops generalizing e h with
  | nil => exact fun hx => ⟨0, hx⟩
  | cons o ops ih =>
    intro hx
    simp only [xops] at hx ⊢
    split at hx
    · simp only [Option.bind_eq_some_iff] at hx ⊢
      obtain ⟨s, h1, h2⟩ := hx
      obtain ⟨n, h1⟩ := xcore_lim.1 h1
      obtain ⟨m, h2⟩ := ih h2
      exact ⟨max n m, s, xcore_mono (runX_le D (by omega)).1 (runX_le D (by omega)).2 h1, xops_mono (runX_le D (by omega)).1 (runX_le D (by omega)).2 _ _ _ _ h2⟩
    · exact ih hx
    · simp at hx
theorem xopsD_lim : ∀ {ops : List DOper} {e : Env} {h : XH} {L : List (Nat × Nat)} {q : Env × XH}, xopsD (runW D) (runYW D) ops e h L = some q ↔ ∃ n, xopsD (runX D n) (runYX D n) ops e h L = some q := by
  intro ops e h L q
  refine ⟨?_, fun ⟨n, hx⟩ => xopsD_mono (leR_W n) (leY_W n) _ _ _ _ _ hx⟩
  induction ops generalizing e h L with
  | nil => exact fun hx => ⟨0, hx⟩
  | cons o ops ih =>
    intro hx
    simp only [xopsD] at hx ⊢
    split at hx
    · split at hx
      · rename_i hl
        simp only [hl, if_true]
        simp only [Option.bind_eq_some_iff] at hx ⊢
        obtain ⟨s, h1, h2⟩ := hx
        obtain ⟨n, h1⟩ := xcore_lim.1 h1
        split at h2
        · rename_i hp
          obtain ⟨m, h2⟩ := ih h2
          exact ⟨max n m, s, xcore_mono (runX_le D (by omega)).1 (runX_le D (by omega)).2 h1, by rw [if_pos hp]; exact xopsD_mono (runX_le D (by omega)).1 (runX_le D (by omega)).2 _ _ _ _ _ h2⟩
        · simp at h2
      · simp at hx
    · exact ih hx
    · simp at hx

/-! ### The equations -/
section
variable {K k : Nat} {rd : Option Nat} {e : Env} {h : XH}
theorem execW_skip : execW D K k rd .skip e h = some (.normal, e, h) := execW_iff.2 ⟨0, rfl⟩
theorem execW_exit {id : Nat} : execW D K k rd (.exit id) e h = some (.exit id, e, h) := execW_iff.2 ⟨0, rfl⟩
theorem execW_ret : execW D K k rd .ret e h = some (.ret, e, h) := execW_iff.2 ⟨0, rfl⟩
theorem execW_scope {a : XCode} : execW D K k rd (.scope a) e h = execW D K k rd a e h := opt_ext fun q => by rw [execW_iff, execW_iff]; exact Iff.rfl
theorem execW_regS {fz : List (Nat × Bool)} {ops : List DOper} : execW D K k rd (.reg fz false ops) e h = (xops (runW D) (runYW D) ops (fzX fz e h).1 (fzX fz e h).2).map fun r => (.normal, r.1, r.2) := opt_ext fun q => by
  rw [execW_iff]
  simp only [execX, Bool.false_eq_true, if_false, Option.map_eq_some_iff, xops_lim]
  exact ⟨fun ⟨n, a, h1, h2⟩ => ⟨a, ⟨n, h1⟩, h2⟩, fun ⟨a, ⟨n, h1⟩, h2⟩ => ⟨n, a, h1, h2⟩⟩
theorem execW_regD {fz : List (Nat × Bool)} {ops : List DOper} : execW D K k rd (.reg fz true ops) e h = (xopsD (runW D) (runYW D) ops (fzX fz e h).1 (fzX fz e h).2 []).map fun r => (.normal, r.1, r.2) := opt_ext fun q => by
  rw [execW_iff]
  simp only [execX, if_true, Option.map_eq_some_iff, xopsD_lim]
  exact ⟨fun ⟨n, a, h1, h2⟩ => ⟨a, ⟨n, h1⟩, h2⟩, fun ⟨a, ⟨n, h1⟩, h2⟩ => ⟨n, a, h1, h2⟩⟩

/-- Behind a code, what follows. -/
def thenX (r : Option (DX × Env × XH)) (f : Env → XH → Option (DX × Env × XH)) : Option (DX × Env × XH) := match r with
  | some (.normal, e, h) => f e h
  | r => r
theorem thenX_n (f : Env → XH → Option (DX × Env × XH)) (e : Env) (h : XH) : thenX (some (.normal, e, h)) f = f e h := rfl
theorem thenX_x (f : Env → XH → Option (DX × Env × XH)) (id : Nat) (e : Env) (h : XH) : thenX (some (.exit id, e, h)) f = some (.exit id, e, h) := rfl
theorem thenX_r (f : Env → XH → Option (DX × Env × XH)) (e : Env) (h : XH) : thenX (some (.ret, e, h)) f = some (.ret, e, h) := rfl
theorem thenX_iff {r : Option (DX × Env × XH)} {f : Env → XH → Option (DX × Env × XH)} {q : DX × Env × XH} : thenX r f = some q ↔ (∃ e h, r = some (.normal, e, h) ∧ f e h = some q) ∨ (q.1 ≠ .normal ∧ r = some q) := by
  unfold thenX
  split
  · rename_i e h
    constructor
    · exact fun hf => .inl ⟨e, h, rfl, hf⟩
    · rintro (⟨e', h', h1, h2⟩ | ⟨h1, h2⟩)
      · simp only [Option.some.injEq, Prod.mk.injEq, true_and] at h1; obtain ⟨rfl, rfl⟩ := h1; exact h2
      · simp only [Option.some.injEq] at h2; subst h2; exact absurd rfl h1
  · rename_i hne
    constructor
    · intro hr
      refine .inr ⟨fun hq => ?_, hr⟩
      obtain ⟨x, e, h⟩ := q
      simp only at hq; subst hq
      exact hne e h hr
    · rintro (⟨e', h', h1, h2⟩ | ⟨h1, h2⟩)
      · exact absurd h1 (hne e' h')
      · exact h2
theorem execX_seq {run : XRun} {runY : YRun} {n : Nat} {a b : XCode} : execX run runY K k n rd (.seq a b) e h = thenX (execX run runY K k n rd a e h) (execX run runY K k n rd b) := rfl
theorem execW_seq {a b : XCode} : execW D K k rd (.seq a b) e h = thenX (execW D K k rd a e h) (execW D K k rd b) := opt_ext fun q => by
  rw [execW_iff]
  simp only [execX_seq, thenX_iff, execW_iff]
  constructor
  · rintro ⟨n, ⟨e1, h1, h2, h3⟩ | ⟨h1, h2⟩⟩
    · exact .inl ⟨e1, h1, ⟨n, h2⟩, ⟨n, h3⟩⟩
    · exact .inr ⟨h1, n, h2⟩
  · rintro (⟨e1, h1, ⟨n, h2⟩, ⟨m, h3⟩⟩ | ⟨h1, n, h2⟩)
    · exact ⟨max n m, .inl ⟨e1, h1, execX_monoS D K k rd a e h n _ _ (by omega) h2, execX_monoS D K k rd b e1 h1 m _ _ (by omega) h3⟩⟩
    · exact ⟨n, .inr ⟨h1, h2⟩⟩
theorem execW_cond {c : AO} {a b : XCode} : execW D K k rd (.cond c a b) e h = match evA e c with
    | .bool true => execW D K k rd a e h
    | .bool false => execW D K k rd b e h
    | _ => none := opt_ext fun q => by
  rw [execW_iff]
  simp only [execX]
  cases evA e c with
  | bool t => cases t <;> simp only [execW_iff]
  | _ => simp
theorem execW_true {c : AO} {a b : XCode} (hc : evA e c = .bool true) : execW D K k rd (.cond c a b) e h = execW D K k rd a e h := by rw [execW_cond, hc]
theorem execW_false {c : AO} {a b : XCode} (hc : evA e c = .bool false) : execW D K k rd (.cond c a b) e h = execW D K k rd b e h := by rw [execW_cond, hc]

def blockX (id : Nat) (r : Option (DX × Env × XH)) : Option (DX × Env × XH) := match r with
  | some (.exit j, e', h') => if j = id then some (.normal, e', h') else some (.exit j, e', h')
  | r => r
theorem blockX_n (id : Nat) (e : Env) (h : XH) : blockX id (some (.normal, e, h)) = some (.normal, e, h) := rfl
theorem blockX_r (id : Nat) (e : Env) (h : XH) : blockX id (some (.ret, e, h)) = some (.ret, e, h) := rfl
theorem blockX_x (id j : Nat) (e : Env) (h : XH) : blockX id (some (.exit j, e, h)) = if j = id then some (.normal, e, h) else some (.exit j, e, h) := rfl
theorem execW_block {id : Nat} {a : XCode} : execW D K k rd (.block id a) e h = blockX id (execW D K k rd a e h) := opt_ext fun q => by
  have he : ∀ n, execX (runX D n) (runYX D n) K k n rd (.block id a) e h = blockX id (execX (runX D n) (runYX D n) K k n rd a e h) := fun _ => rfl
  rw [execW_iff]
  simp only [he]
  constructor
  · rintro ⟨n, hn⟩
    cases hx : execX (runX D n) (runYX D n) K k n rd a e h with
    | none => rw [hx] at hn; simp [blockX] at hn
    | some s => rw [execW_iff.2 ⟨n, hx⟩, ← hx]; exact hn
  · intro hq
    cases hx : execW D K k rd a e h with
    | none => rw [hx] at hq; simp [blockX] at hq
    | some s =>
      obtain ⟨n, hn⟩ := execW_iff.1 hx
      exact ⟨n, by rw [hn, ← hx]; exact hq⟩
theorem execW_loop {L : List Nat} {a : XCode} : execW D K k rd (.loop L a) e h = thenX (execW D K k rd a (canonE k L e h) (canonH k L e h)) (execW D K k rd (.loop L a)) := opt_ext fun q => by
  have he : ∀ n m e h, loopX (execX (runX D n) (runYX D n) K k n rd a) k L (m + 1) e h = thenX (execX (runX D n) (runYX D n) K k n rd a (canonE k L e h) (canonH k L e h)) (loopX (execX (runX D n) (runYX D n) K k n rd a) k L m) := fun n m e h => rfl
  rw [execW_iff, thenX_iff]
  constructor
  · rintro ⟨n, hn⟩
    have hn : loopX (execX (runX D n) (runYX D n) K k n rd a) k L n e h = some q := hn
    cases n with
    | zero => simp [loopX] at hn
    | succ n =>
      rw [he, thenX_iff] at hn
      rcases hn with ⟨e1, h1, h2, h3⟩ | ⟨h1, h2⟩
      · exact .inl ⟨e1, h1, execW_iff.2 ⟨n + 1, h2⟩, execW_iff.2 ⟨n + 1, loopX_mono (fun _ _ _ h => h) n (n + 1) (by omega) _ _ _ h3⟩⟩
      · exact .inr ⟨h1, execW_iff.2 ⟨n + 1, h2⟩⟩
  · rintro (⟨e1, h1, h2, h3⟩ | ⟨h1, h2⟩)
    · obtain ⟨n, h2⟩ := execW_iff.1 h2
      obtain ⟨m, h3⟩ := execW_iff.1 h3
      have h3 : loopX (execX (runX D m) (runYX D m) K k m rd a) k L m e1 h1 = some q := h3
      refine ⟨max n m + 1, ?_⟩
      show loopX _ k L (max n m + 1) e h = some q
      rw [he, thenX_iff]
      refine .inl ⟨e1, h1, execX_monoS D K k rd a _ _ n _ _ (by omega) h2, ?_⟩
      exact loopX_mono (fun e h q hq => execX_monoS D K k rd a e h m _ _ (by omega) hq) m (max n m) (by omega) _ _ _ h3
    · obtain ⟨n, h2⟩ := execW_iff.1 h2
      refine ⟨n + 1, ?_⟩
      show loopX _ k L (n + 1) e h = some q
      rw [he, thenX_iff]
      exact .inr ⟨h1, execX_monoS D K k rd a _ _ n _ _ (by omega) h2⟩

def rngX (n : Nat) (e : Env) (r : Option (AV × XH)) : Option (DX × Env × XH) := match r with
  | some (_, h') => match loopSt h' n with
    | some .ready => some (.normal, e, h'.set n none)
    | some (.done x) => some (x, e, h'.set n none)
    | _ => none
  | none => none
theorem execW_rng {site : Nat} {L : List Nat} {f : AO} {ps : List Nat} {a b : XCode} : execW D K k rd (.rng site L f ps a b) e h = if inLoop rd h && isFunc (evA e f) then
    rngX h.length e (callX (runW D) (runYW D) (evA e f) [.fn (.yield h.length) [] []] (h ++ [some (.loop K site (L.map e) .ready)])) else none := opt_ext fun q => by
  rw [execW_iff]
  have he : ∀ n, execX (runX D n) (runYX D n) K k n rd (.rng site L f ps a b) e h = if inLoop rd h && isFunc (evA e f) then
    rngX h.length e (callX (runX D n) (runYX D n) (evA e f) [.fn (.yield h.length) [] []] (h ++ [some (.loop K site (L.map e) .ready)])) else none := fun _ => rfl
  simp only [he]
  split
  · constructor
    · rintro ⟨n, hn⟩
      cases hx : callX (runX D n) (runYX D n) (evA e f) [.fn (.yield h.length) [] []] (h ++ [some (.loop K site (L.map e) .ready)]) with
      | none => rw [hx] at hn; simp [rngX] at hn
      | some s => rw [callX_lim.2 ⟨n, hx⟩, ← hx]; exact hn
    · intro hq
      cases hx : callX (runW D) (runYW D) (evA e f) [.fn (.yield h.length) [] []] (h ++ [some (.loop K site (L.map e) .ready)]) with
      | none => rw [hx] at hq; simp [rngX] at hq
      | some s =>
        obtain ⟨n, hn⟩ := callX_lim.1 hx
        exact ⟨n, by rw [hn, ← hx]; exact hq⟩
  · simp
end

def retX (res : List (Nat × Option (Bool × Nat))) (own : Bool) (k : Nat) (r : Option (DX × Env × XH)) : Option (AV × XH) := match r with
  | some (.exit _, _, _) => none
  | some (_, e, h') => (resA res e (hpOf h')).map fun v => finX own k v h'
  | none => none
theorem retX_n (res : List (Nat × Option (Bool × Nat))) (own : Bool) (k : Nat) (e : Env) (h : XH) : retX res own k (some (.normal, e, h)) = (resA res e (hpOf h)).map fun v => finX own k v h := rfl
theorem retX_r (res : List (Nat × Option (Bool × Nat))) (own : Bool) (k : Nat) (e : Env) (h : XH) : retX res own k (some (.ret, e, h)) = (resA res e (hpOf h)).map fun v => finX own k v h := rfl
/-- A call of a function. -/
theorem runW_eq {K : Nat} {d : XFn} (hD : D K = some d) {as : List AV} (hl : as.length ≤ d.N) (h : XH) : runW D K as h = retX d.res d.ownR h.length (execW D K h.length none d.body (argEnv (if d.ownA then as else nzL as)) h) := opt_ext fun q => by
  rw [runW_iff]
  have he : ∀ n, runX D (n + 1) K as h = retX d.res d.ownR h.length (execX (runX D n) (runYX D n) K h.length n none d.body (argEnv (if d.ownA then as else nzL as)) h) := fun n => by
    rw [runX, hD]
    simp only [hl, if_true]
    rfl
  constructor
  · rintro ⟨n, hn⟩
    cases n with
    | zero => simp [runX] at hn
    | succ n =>
      rw [he] at hn
      cases hx : execX (runX D n) (runYX D n) K h.length n none d.body (argEnv (if d.ownA then as else nzL as)) h with
      | none => rw [hx] at hn; simp [retX] at hn
      | some s => rw [execW_iff.2 ⟨n, hx⟩, ← hx]; exact hn
  · intro hq
    cases hx : execW D K h.length none d.body (argEnv (if d.ownA then as else nzL as)) h with
    | none => rw [hx] at hq; simp [retX] at hq
    | some s =>
      obtain ⟨n, hn⟩ := execW_iff.1 hx
      exact ⟨n + 1, by rw [he, hn, ← hx]; exact hq⟩

def yEnd (l k : Nat) (r : Option (DX × Env × XH)) : Option (AV × XH) := match r with
  | some (x, _, h2) => match loopSt h2 l with
    | some .busy => some (match x with
      | .normal => finX true k (.bool true) (loopTo h2 l .ready)
      | x => finX true k (.bool false) (loopTo h2 l (.done x)))
    | _ => none
  | none => none
def yMid (l : Nat) (r : Option (DX × Env × XH)) (f : Env → XH → Option (AV × XH)) : Option (AV × XH) := match r with
  | some (.normal, e1, h1) => match loopSt h1 l with
    | some .ready => f e1 (loopTo h1 l .busy)
    | _ => none
  | _ => none
/-- A call of a loop's round. -/
theorem runYW_eq {K : Nat} {d : XFn} (hD : D K = some d) {l site : Nat} {vs : List AV} {h : XH} (hl : hat h l = some (.loop K site vs .ready)) {L ps : List Nat} {a b : XCode} (hs : siteX d.body site = some (L, ps, a, b)) {as : List AV} (hn : as.length = ps.length) :
    runYW D (.fn (.yield l) [] []) as h = yMid l (execW D K h.length (some l) a (putL (envL L vs) ps as) h) fun e1 h1 => yEnd l h.length (execW D K h.length (some l) b e1 h1) := opt_ext fun q => by
  rw [runYW_iff]
  have he : ∀ n, runYX D (n + 1) (.fn (.yield l) [] []) as h = yMid l (execX (runX D n) (runYX D n) K h.length n (some l) a (putL (envL L vs) ps as) h) fun e1 h1 => yEnd l h.length (execX (runX D n) (runYX D n) K h.length n (some l) b e1 h1) := fun n => by
    rw [runYX]
    simp only [hl, hD, Option.bind_some, hs, hn, if_true]
    rfl
  constructor
  · rintro ⟨n, hn⟩
    cases n with
    | zero => simp [runYX] at hn
    | succ n =>
      rw [he] at hn
      unfold yMid at hn ⊢
      split at hn
      · rename_i e1 h1 hx
        rw [execW_iff.2 ⟨n, hx⟩]
        simp only
        split at hn
        · rename_i hst
          simp only at hn
          cases hx2 : execX (runX D n) (runYX D n) K h.length n (some l) b e1 (loopTo h1 l .busy) with
          | none => rw [hx2] at hn; simp [yEnd] at hn
          | some s => rw [execW_iff.2 ⟨n, hx2⟩, ← hx2]; exact hn
        · simp at hn
      · simp at hn
  · intro hq
    unfold yMid at hq
    split at hq
    · rename_i e1 h1 hx
      obtain ⟨n, hn⟩ := execW_iff.1 hx
      split at hq
      · rename_i hst
        simp only at hq
        cases hx2 : execW D K h.length (some l) b e1 (loopTo h1 l .busy) with
        | none => rw [hx2] at hq; simp [yEnd] at hq
        | some s =>
          obtain ⟨m, hm⟩ := execW_iff.1 hx2
          refine ⟨max n m + 1, ?_⟩
          rw [he]
          have e1' := execX_monoS D K h.length (some l) a (putL (envL L vs) ps as) h n (max n m) _ (by omega) hn
          have e2' := execX_monoS D K h.length (some l) b e1 (loopTo h1 l .busy) m (max n m) _ (by omega) hm
          simp only at e1' e2'
          unfold yMid
          simp only [e1', hst, e2']
          rw [← hx2]; exact hq
      · simp at hq
    · simp at hq
end Go.DL
