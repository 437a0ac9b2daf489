/- Codes without loops, stepped through. No statement of the seed is proved here. -/
import Derived.Test.YtdbikamciedfdaaDlS
namespace Go.DL
variable {P : Program} {B : Base} {H : Hp} {env : Env} {r : Option Nat} {N : Nat} {Q : QC}

def condW (v : AV) (x y : Prop) : Prop := match v with
  | .bool true => x
  | .bool false => y
  | _ => False
theorem condW_bool (t : Bool) (x y : Prop) : condW (.bool t) x y = if t = true then x else y := by cases t <;> rfl

/-- What a code does, as far as it has no loops. -/
def stepW (B : Base) (P : Program) (r : Option Nat) (N : Nat) : DCode → QC → Env → Hp → Prop
  | .skip, Q, e, h => Q .normal e h
  | .exit id, Q, e, h => Q (.exit id) e h
  | .ret, Q, e, h => Q .ret e h
  | .seq a b, Q, e, h => stepW B P r N a (QC.then (stepW B P r N b Q) Q) e h
  | .cond o a b, Q, e, h => condW (evA e o) (stepW B P r N a Q e h) (stepW B P r N b Q e h)
  | .block id a, Q, e, h => stepW B P r N a (QC.block id Q) e h
  | .scope a, Q, e, h => stepW B P r N a Q e h
  | .reg true l, Q, e, h => RD B P l (Q .normal) e h noL
  | .reg false l, Q, e, h => RS B P l (Q .normal) e h
  | .loop x, Q, e, h => WD B P r N (.loop x) Q e h
  | .rng f ps x y, Q, e, h => WD B P r N (.rng f ps x y) Q e h

theorem WD.of_step (hm : P.follows .mixedOrders = true) : ∀ (c : DCode) (Q : QC) (env : Env) (H : Hp), stepW B P r N c Q env H → WD B P r N c Q env H := by
  intro c
  induction c with
  | skip => intro Q env H h; exact WD.skip h
  | exit id => intro Q env H h; exact WD.exit h
  | ret => intro Q env H h; exact WD.ret h
  | seq a b iha ihb =>
    intro Q env H h
    refine WD.seq ((iha _ env H h).mono fun e env H hq => ?_)
    cases e with
    | normal => exact ihb Q env H hq
    | exit id => exact hq
    | ret => exact hq
  | cond o a b iha ihb =>
    intro Q env H h
    simp only [stepW] at h
    cases ho : evA env o with
    | bool t =>
      rw [ho, condW_bool] at h
      refine WD.cond ho ?_
      cases t with
      | true => exact iha Q env H h
      | false => exact ihb Q env H (by simpa using h)
    | _ => rw [ho] at h; exact h.elim
  | block id a ih => intro Q env H h; exact WD.block (ih _ env H h)
  | scope a ih => intro Q env H h; exact WD.scope (ih _ env H h)
  | reg d l =>
    intro Q env H h
    refine WD.reg hm ?_
    cases d <;> exact h
  | loop x => intro Q env H h; exact h
  | rng f ps x y => intro Q env H h; exact h

theorem then_normal {K : Env → Hp → Prop} {Q : QC} : QC.then K Q .normal = K := rfl
theorem then_exit {K : Env → Hp → Prop} {Q : QC} {id : Nat} : QC.then K Q (.exit id) = Q (.exit id) := rfl
theorem then_ret {K : Env → Hp → Prop} {Q : QC} : QC.then K Q .ret = Q .ret := rfl
theorem block_normal {id : Nat} {Q : QC} : QC.block id Q .normal = Q .normal := rfl
theorem block_ret {id : Nat} {Q : QC} : QC.block id Q .ret = Q .ret := rfl
theorem block_exit {id j : Nat} {Q : QC} : QC.block id Q (.exit j) = if j = id then Q .normal else Q (.exit j) := by
  funext e h; simp only [QC.block]; split <;> rfl
theorem upd_at (e : Env) (k j : Nat) (v : AV) : upd e k v j = if j = k then v else e j := rfl
theorem argEnv_0 (a : AV) (as : List AV) : argEnv (a :: as) 0 = a := rfl
theorem argEnv_s (a : AV) (as : List AV) (k : Nat) : argEnv (a :: as) (k + 1) = argEnv as k := rfl
theorem hset_at (H : Hp) (b : Nat) (x : ABlk) (c : Nat) : hset H b x c = if c = b then some x else H c := rfl
theorem hset_none (H : Hp) (b : Nat) (x : ABlk) (c : Nat) : hset H b x c = none ↔ c ≠ b ∧ H c = none := by
  unfold hset; split <;> simp_all
theorem effW_val (d : Option Nat) (v : AV) (K : Env → Hp → Prop) (env : Env) (H : Hp) : effW d (.val v) K env H = K (updo env d v) H := rfl
theorem effW_new (d own : Option Nat) (x : ABlk) (f : Nat → AV) (K : Env → Hp → Prop) (env : Env) (H : Hp) :
    effW d (.new own x f) K env H = ∀ b, (H b = none ∨ own = some b) → K (updo env d (f b)) (hset H b x) := rfl

/-- A call of a function whose contract is known. -/
theorem CallV.fn {f : FuncId} {first cap as : List AV} {Q Q' : AV → Hp → Prop} (h : FnW B P f (first ++ as ++ cap) H Q') (hq : ∀ v H', Q' v H' → Q v H') : CallV B P (.fn (.func f) first cap) as H Q :=
  CallV.mono (fv := .fn (.func f) first cap) h hq

/-- A function's contract, its body stepped through. -/
theorem FnW.step {f : FuncId} {d : DFn} {as : List AV} {Q : AV → Hp → Prop} (hm : P.follows .mixedOrders = true) (hf : FnIs P f d) (hN : as.length ≤ d.N) (h : stepW B P none d.N d.body (fnQ d.res Q) (argEnv as) H) : FnW B P f as H Q :=
  FnW.of hf hN (WD.of_step hm _ _ _ _ h)

def guardW (v : AV) (want : Bool) (x y : Prop) : Prop := match v with
  | .bool t => if t = want then x else y
  | .tup _ => y
  | _ => False
theorem guardW_bool (t want : Bool) (x y : Prop) : guardW (.bool t) want x y = if t = want then x else y := rfl
theorem opW_free (ix : Nat) (d : Option Nat) (op : DOp) (K : Env → Hp → Prop) (env : Env) (H : Hp) : opW B P ⟨ix, d, op, none⟩ K env H = coreW B P d op K env H := rfl
theorem opW_guard (ix : Nat) (d : Option Nat) (op : DOp) (g : Nat) (want : Bool) (K : Env → Hp → Prop) (env : Env) (H : Hp) :
    opW B P ⟨ix, d, op, some (g, want)⟩ K env H = guardW (env g) want (coreW B P d op K env H) (K (updo env d (.tup [])) H) := by
  unfold opW gd guardW
  simp only
  cases env g <;> try rfl
  rename_i t
  cases t <;> cases want <;> rfl
theorem opD_free (ix : Nat) (d : Option Nat) (op : DOp) (K : KL) (env : Env) (H : Hp) (L : Log) : opD B P ⟨ix, d, op, none⟩ K env H L = coreD B P ix d op K env H L := rfl
theorem opD_guard (ix : Nat) (d : Option Nat) (op : DOp) (g : Nat) (want : Bool) (K : KL) (env : Env) (H : Hp) (L : Log) :
    opD B P ⟨ix, d, op, some (g, want)⟩ K env H L = guardW (env g) want (coreD B P ix d op K env H L) (K (updo env d (.tup [])) H L) := by
  unfold opD gd guardW
  simp only
  cases env g <;> try rfl
  rename_i t
  cases t <;> cases want <;> rfl

/-- A region, in the text's order: what follows is kept out of sight. -/
theorem WD.regS {l : List DOper} (hm : P.follows .mixedOrders = true) (h : ∀ K : Env → Hp → Prop, (∀ e h, Q .normal e h → K e h) → RS B P l K env H) : WD B P r N (.reg false l) Q env H :=
  WD.reg hm (h _ fun _ _ h => h)
theorem WD.regD {l : List DOper} (hm : P.follows .mixedOrders = true) (h : ∀ K : Env → Hp → Prop, (∀ e h, Q .normal e h → K e h) → RD B P l K env H noL) : WD B P r N (.reg true l) Q env H :=
  WD.reg hm (h _ fun _ _ h => h)
theorem then_n {K : Env → Hp → Prop} {Q : QC} {e : Env} {h : Hp} (hk : K e h) : QC.then K Q .normal e h := hk

/-- Behind a call: other words for what it leaves. -/
theorem FnW.shift {f : FuncId} {as : List AV} {Q : AV → Hp → Prop} (h : FnW B P f as H fun v H' => ∃ v' H'', Shift (upd anyE 0 v) H' (upd anyE 0 v') H'' ∧ Q v' H'') : FnW B P f as H Q := by
  refine ⟨h.1, fun F w vs h1 h2 h3 => (h.2 F w vs h1 h2 h3).mono ?_⟩
  rintro e w' ⟨r, v, F', H', rfl, k1, k2, k3, v', H'', k4, k5⟩
  obtain ⟨F'', l1, l2, l3⟩ := k4 F' w' { tmps := #[r], defers := [] } k2 (fun k => by
    by_cases hk : k = 0
    · subst hk; simpa [upd] using k3
    · simp only [upd, hk, if_false, anyE]; exact .any _)
  have := l3 0
  exact ⟨r, v', F'', H'', rfl, k1.trans l1, l2, by simpa [upd] using this, k5⟩
theorem FnW.forget {f : FuncId} {as : List AV} {Q : AV → Hp → Prop} (h : FnW B P f as H fun v H' => ∃ H'', (∀ b x, H'' b = some x → H' b = some x) ∧ Q v H'') : FnW B P f as H Q := by
  refine FnW.shift ⟨h.1, fun F w vs h1 h2 h3 => (h.2 F w vs h1 h2 h3).mono ?_⟩
  rintro e w' ⟨r, v, F', H', rfl, k1, k2, k3, H'', k4, k5⟩
  exact ⟨r, v, F', H', rfl, k1, k2, k3, v, H'', Shift.forget k4, k5⟩
theorem hset_sub {H : Hp} {b : Nat} {x : ABlk} (hb : H b = none) {H0 : Hp} (h : ∀ c y, H0 c = some y → H c = some y) : ∀ c y, H0 c = some y → hset H b x c = some y := by
  intro c y hc
  rw [hset_other _ _ fun e => by subst e; rw [h c y hc] at hb; cases hb]
  exact h c y hc

theorem block_n {id : Nat} {Q : QC} {e : Env} {h : Hp} (hq : Q .normal e h) : QC.block id Q .normal e h := hq
theorem block_x {id : Nat} {Q : QC} {e : Env} {h : Hp} (hq : Q .normal e h) : QC.block id Q (.exit id) e h := by simpa [QC.block] using hq
theorem block_o {id j : Nat} {Q : QC} {e : Env} {h : Hp} (hj : j ≠ id) (hq : Q (.exit j) e h) : QC.block id Q (.exit j) e h := by simpa [QC.block, hj] using hq
theorem block_r {id : Nat} {Q : QC} {e : Env} {h : Hp} (hq : Q .ret e h) : QC.block id Q .ret e h := hq
theorem then_x {id : Nat} {K : Env → Hp → Prop} {Q : QC} {e : Env} {h : Hp} (hq : Q (.exit id) e h) : QC.then K Q (.exit id) e h := hq
theorem then_r {K : Env → Hp → Prop} {Q : QC} {e : Env} {h : Hp} (hq : Q .ret e h) : QC.then K Q .ret e h := hq

end Go.DL
