/- Codes: the judgement and its rules. No statement of the seed is proved here. -/
import Derived.Test.YtdbikamciedfdaaDlP
namespace Go.DL
variable {P : Program} {B : Base} {F : Nat → Prop} {w : World} {H : Hp} {env : Env} {a : Act}

/-- The marks of loops over functions among an activation's deferred calls. -/
structure Mk (n0 : Nat) (F : Nat → Prop) (H : Hp) (w : World) (ds : List Deferred) : Prop where
  nodup : ds.Nodup
  each : ∀ d ∈ ds, ∃ D, d = { target := .collected D, args := #[] } ∧ n0 ≤ D ∧ w.heap[D]? = some (.deferred (some [])) ∧ ¬ F D ∧ H D = none

theorem Mk.ext {n0 : Nat} {ds : List Deferred} {F' : Nat → Prop} {w' : World} {H' : Hp} (h : Mk n0 F H w ds) (he : Ext F w H F' w' H') : Mk n0 F' H' w' ds := by
  refine ⟨h.nodup, fun d hd => ?_⟩
  obtain ⟨D, h1, h2, h3, h4, h5⟩ := h.each d hd
  have hlt : D < w.heap.size := (Array.getElem?_eq_some_iff.1 h3).1
  refine ⟨D, h1, h2, by rw [he.same D hlt (by simp [wrH, h5])]; exact h3, fun h6 => ?_, ?_⟩
  · rcases he.fnew D h6 with h7 | h7 | h7
    · exact h4 h7
    · simp [h5] at h7
    · omega
  · cases hx : H' D with
    | none => rfl
    | some x =>
      rcases he.hdom D (by simp [hx]) with h7 | h7
      · simp [h5] at h7
      · omega
theorem Mk.nil {n0 : Nat} : Mk n0 F H w [] := ⟨List.nodup_nil, fun d hd => by simp at hd⟩
theorem Mk.sub {n0 : Nat} {ds : List Deferred} {H' : Hp} (h : Mk n0 F H w ds) (hs : ∀ b x, H' b = some x → H b = some x) : Mk n0 F H' w ds := by
  refine ⟨h.nodup, fun d hd => ?_⟩
  obtain ⟨D, h1, h2, h3, h4, h5⟩ := h.each d hd
  refine ⟨D, h1, h2, h3, h4, ?_⟩
  cases hx : H' D with
  | none => rfl
  | some x => rw [hs D x hx] at h5; simp at h5

/-- How a code may be left. -/
inductive DX where
  | normal
  | exit (id : Nat)
  | ret
abbrev QC := DX → Env → Hp → Prop

def Land (N n0 : Nat) (F : Nat → Prop) (w : World) (H : Hp) (Q : QC) : Exit → Act → World → Prop := fun e a' w' =>
  ∃ x env' F' H', (match e with | .normal => x = DX.normal | .exit id => x = .exit id | .ret => x = .ret | _ => False) ∧
    a'.tmps.size = N ∧ Ext F w H F' w' H' ∧ St F' w' H' ∧ RE F' w' env' a' ∧ Mk n0 F' H' w' a'.defers ∧ Q x env' H'

/-- What a code does. -/
def W (B : Base) (P : Program) (r : Option Nat) (N : Nat) (c : Code) (Q : QC) (env : Env) (H : Hp) : Prop :=
  ∀ (F : Nat → Prop) (w : World) (a : Act) (n0 : Nat), B.Up F w → n0 ≤ w.heap.size → a.tmps.size = N → St F w H → RE F w env a → Mk n0 F H w a.defers → c.wpIn (FW r) 0 P (Land N n0 F w H Q) a w

variable {r : Option Nat} {N : Nat} {Q Q' : QC} {n0 : Nat}

theorem Land.mono (h : ∀ e env H, Q e env H → Q' e env H) {e : Exit} {a' : Act} {w' : World} (hl : Land N n0 F w H Q e a' w') : Land N n0 F w H Q' e a' w' := by
  obtain ⟨x, env', F', H', h1, h2, h3, h4, h5, h6, h7⟩ := hl
  exact ⟨x, env', F', H', h1, h2, h3, h4, h5, h6, h _ _ _ h7⟩

theorem Land.step {F' : Nat → Prop} {w' : World} {H' : Hp} (he : Ext F w H F' w' H') {e : Exit} {a' : Act} {w'' : World} (hl : Land N n0 F' w' H' Q e a' w'') : Land N n0 F w H Q e a' w'' := by
  obtain ⟨x, env', F'', H'', h1, h2, h3, h4, h5, h6, h7⟩ := hl
  exact ⟨x, env', F'', H'', h1, h2, he.trans h3, h4, h5, h6, h7⟩

theorem W.mono {c : Code} (h : W B P r N c Q env H) (hq : ∀ e env H, Q e env H → Q' e env H) : W B P r N c Q' env H :=
  fun F w a n0 h1 h2 h3 h4 h5 h6 => wpIn_mono (h F w a n0 h1 h2 h3 h4 h5 h6) fun _ _ _ => Land.mono hq

theorem land_here {x : DX} {e : Exit} (hx : match e with | .normal => x = DX.normal | .exit id => x = .exit id | .ret => x = .ret | _ => False) (h3 : a.tmps.size = N) (h4 : St F w H) (h5 : RE F w env a) (h6 : Mk n0 F H w a.defers)
    (h : Q x env H) : Land N n0 F w H Q e a w := ⟨x, env, F, H, hx, h3, Ext.refl _ _ _, h4, h5, h6, h⟩

theorem W.skip (h : Q .normal env H) : W B P r N .skip Q env H := fun F w a n0 h1 h2 h3 h4 h5 h6 => wpIn_skip (land_here rfl h3 h4 h5 h6 h)
theorem W.label {l : Nat} (h : Q .normal env H) : W B P r N (.label l) Q env H := fun F w a n0 h1 h2 h3 h4 h5 h6 => wpIn_label (land_here rfl h3 h4 h5 h6 h)
theorem W.exit {id : Nat} (h : Q (.exit id) env H) : W B P r N (.exit id) Q env H := fun F w a n0 h1 h2 h3 h4 h5 h6 => wpIn_exit (land_here rfl h3 h4 h5 h6 h)
theorem W.ret (h : Q .ret env H) : W B P r N .ret Q env H := fun F w a n0 h1 h2 h3 h4 h5 h6 => wpIn_ret (land_here rfl h3 h4 h5 h6 h)

/-- Behind the first, the second. -/
def QC.then (K : Env → Hp → Prop) (Q : QC) : QC := fun x env H => match x with
  | .normal => K env H
  | x => Q x env H

theorem W.seq {x y : Code} (h : W B P r N x (QC.then (W B P r N y Q) Q) env H) : W B P r N (.seq x y) Q env H := by
  intro F w a n0 h1 h2 h3 h4 h5 h6
  refine wpIn_seq (wpIn_mono (h F w a n0 h1 h2 h3 h4 h5 h6) ?_)
  rintro e a' w' ⟨x, env', F', H', k1, k2, k3, k4, k5, k6, k7⟩
  cases e with
  | normal =>
    simp only at k1; subst k1
    exact wpIn_mono (k7 F' w' a' n0 (h1.step h4 k3) (Nat.le_trans h2 k3.le) k2 k4 k5 k6) fun _ _ _ => Land.step k3
  | exit id => simp only at k1; subst k1; exact ⟨_, env', F', H', rfl, k2, k3, k4, k5, k6, k7⟩
  | ret => simp only at k1; subst k1; exact ⟨_, env', F', H', rfl, k2, k3, k4, k5, k6, k7⟩
  | goto l => exact k1.elim
  | panic c => exact k1.elim
  | outgrown => exact k1.elim

theorem W.cond {c : Operand} {c' : AO} {x y : Code} {t : Bool} (hc : co c = some c') (he : evA env c' = .bool t) (h : W B P r N (if t then x else y) Q env H) : W B P r N (.cond c x y) Q env H := by
  intro F w a n0 h1 h2 h3 h4 h5 h6
  have hv := rv_co h5 hc
  rw [he] at hv
  have : a.eval c = .bool t := by
    generalize a.eval c = z at hv
    cases hv; rfl
  exact wpIn_cond this (h F w a n0 h1 h2 h3 h4 h5 h6)

def QC.block (id : Nat) (Q : QC) : QC := fun x env H => match x with
  | .exit j => if j = id then Q .normal env H else Q (.exit j) env H
  | x => Q x env H

theorem W.block {id : Nat} {x : Code} (h : W B P r N x (QC.block id Q) env H) : W B P r N (.block id x) Q env H := by
  intro F w a n0 h1 h2 h3 h4 h5 h6
  refine wpIn_block (wpIn_mono (h F w a n0 h1 h2 h3 h4 h5 h6) ?_)
  rintro e a' w' ⟨x, env', F', H', k1, k2, k3, k4, k5, k6, k7⟩
  cases e with
  | normal => simp only at k1; subst k1; exact ⟨_, env', F', H', rfl, k2, k3, k4, k5, k6, k7⟩
  | exit j =>
    simp only at k1; subst k1
    simp only [Exit.inBlock]
    by_cases hj : j = id
    · simp only [QC.block, hj, if_true] at k7 ⊢; exact ⟨_, env', F', H', rfl, k2, k3, k4, k5, k6, k7⟩
    · simp only [QC.block, hj, if_false] at k7 ⊢; exact ⟨_, env', F', H', rfl, k2, k3, k4, k5, k6, k7⟩
  | ret => simp only at k1; subst k1; exact ⟨_, env', F', H', rfl, k2, k3, k4, k5, k6, k7⟩
  | goto l => exact k1.elim
  | panic c => exact k1.elim
  | outgrown => exact k1.elim

/-- A loop: an invariant, and a number that falls. -/
theorem W.loop {x : Code} (I : Nat → Env → Hp → Prop) {m : Nat} (hI : I m env H) (hr : ∀ m env H, I m env H → W B P r N x (QC.then (fun env' H' => ∃ m', m' < m ∧ I m' env' H') Q) env H) : W B P r N (.loop x) Q env H := by
  intro F w a n0 h1 h2 h3 h4 h5 h6
  let good : Nat → Act → World → Prop := fun m a' w' => ∃ env' F' H', a'.tmps.size = N ∧ Ext F w H F' w' H' ∧ St F' w' H' ∧ RE F' w' env' a' ∧ Mk n0 F' H' w' a'.defers ∧ I m env' H'
  have hex : ∀ a' w', (∃ m, good m a' w') → ∃ m, good m a' w' ∧ ∀ k, good k a' w' → m ≤ k := by
    intro a' w' ⟨m, hm⟩
    induction m using Nat.strongRecOn with
    | _ m ih =>
      by_cases hk : ∃ k, k < m ∧ good k a' w'
      · obtain ⟨k, hk1, hk2⟩ := hk; exact ih k hk1 hk2
      · exact ⟨m, hm, fun k hk' => Nat.le_of_not_lt fun hlt => hk ⟨k, hlt, hk'⟩⟩
  let μ : Act → World → Nat := fun a' w' => open Classical in if h : ∃ m, good m a' w' then (hex a' w' h).choose else 0
  have hμ : ∀ a' w' (h : ∃ m, good m a' w'), good (μ a' w') a' w' ∧ ∀ k, good k a' w' → μ a' w' ≤ k := fun a' w' h => by
    have : μ a' w' = (hex a' w' h).choose := by simp only [μ, dif_pos h]
    rw [this]; exact (hex a' w' h).choose_spec
  refine wpIn_loop (fun a' w' => ∃ m, good m a' w') μ ⟨m, env, F, H, h3, Ext.refl _ _ _, h4, h5, h6, hI⟩ ?_
  intro a' w' hg
  obtain ⟨env', F', H', k2, k3, k4, k5, k6, k7⟩ := (hμ a' w' hg).1
  refine wpIn_mono (hr _ env' H' k7 F' w' a' n0 (h1.step h4 k3) (Nat.le_trans h2 k3.le) k2 k4 k5 k6) ?_
  rintro e a'' w'' ⟨x, env'', F'', H'', l1, l2, l3, l4, l5, l6, l7⟩
  cases e with
  | normal =>
    simp only at l1; subst l1
    obtain ⟨m', hlt, hI'⟩ := l7
    have hg' : good m' a'' w'' := ⟨env'', F'', H'', l2, k3.trans l3, l4, l5, l6, hI'⟩
    exact ⟨⟨m', hg'⟩, Nat.lt_of_le_of_lt ((hμ a'' w'' ⟨m', hg'⟩).2 m' hg') hlt⟩
  | exit j => simp only at l1; subst l1; exact ⟨_, env'', F'', H'', rfl, l2, k3.trans l3, l4, l5, l6, l7⟩
  | ret => simp only at l1; subst l1; exact ⟨_, env'', F'', H'', rfl, l2, k3.trans l3, l4, l5, l6, l7⟩
  | goto l => exact l1.elim
  | panic c => exact l1.elim
  | outgrown => exact l1.elim

theorem stepR_scope {b : Frame} {k : List Item} {cs : List Frame} {c : Code} : step P (lone (b.atR a (.code (.scope c) :: k)) cs w) = .next (lone (b.atR a (.code c :: .inScope c :: k)) cs w) :=
  step_lone_go (by simp [stepG, stepG.exec, Frame.atR])
theorem stepR_inScope {b : Frame} {k : List Item} {cs : List Frame} {c : Code} : step P (lone (b.atR a (.inScope c :: k)) cs w) = .next (lone (b.atR a k) cs w) :=
  step_lone_go (by simp [stepG, stepG.exec, Frame.atR])

theorem wpIn_scope {F : Fence} {n : Nat} {Q : Exit → Act → World → Prop} {c : Code} (h : c.wpIn F n P (Exit.noGoto Q) a w) : (Code.scope c).wpIn F n P Q a w := by
  intro b k cs hro hb hr
  have h0 : (lone (b.atR a (.code (.scope c) :: k)) cs w).fenced P F := fenced_calm hb hr rfl
  obtain ⟨e, a₁, w₁, hq, harr⟩ := h b (.inScope c :: k) cs hro hb hr
  cases e with
  | normal => exact ⟨.normal, a₁, w₁, hq, .head h0 stepR_scope (StepsIn.trans harr (.one (fenced_calm hb hr rfl) stepR_inScope))⟩
  | exit id =>
    have hx : exitTo id (.inScope c :: k) = exitTo id k := by simp [exitTo]
    exact ⟨.exit id, a₁, w₁, hq, fun k' hk => .head h0 stepR_scope (harr.1 k' (by rw [hx]; exact hk)),
      fun hr' hk => let ⟨k₁, h1, h2⟩ := harr.2 hr' (by rw [hx]; exact hk); ⟨k₁, h1, .head h0 stepR_scope h2⟩⟩
  | goto l => exact hq.elim
  | ret => exact ⟨_, a₁, w₁, hq, .of_steps (.one h0 stepR_scope) harr⟩
  | panic ch => exact ⟨_, a₁, w₁, hq, .of_steps (.one h0 stepR_scope) harr⟩
  | outgrown => exact ⟨_, a₁, w₁, hq, .of_steps (.one h0 stepR_scope) harr⟩

theorem W.scope {c : Code} (h : W B P r N c Q env H) : W B P r N (.scope c) Q env H := by
  intro F w a n0 h1 h2 h3 h4 h5 h6
  refine wpIn_scope (wpIn_mono (h F w a n0 h1 h2 h3 h4 h5 h6) ?_)
  intro e a' w' hl
  cases e with
  | goto l => obtain ⟨x, _, _, _, k1, _⟩ := hl; exact k1.elim
  | normal => exact hl
  | exit id => exact hl
  | ret => exact hl
  | panic c => exact hl
  | outgrown => exact hl

theorem W.region {id : Nat} {ops : Array Oper} {draw : Bool} {l : List DOper} (hm : P.follows .mixedOrders = true) (hc : compG P N ops draw = some l)
    (h : if draw then RD B P l (Q .normal) env H noL else RS B P l (Q .normal) env H) : W B P r N (.region id ops draw) Q env H := by
  intro F w a n0 h1 h2 h3 h4 h5 h6
  refine sim_region hm hc h3 h1 h4 h5 h ?_
  intro a' F' w' env' H' k1 k2 k3 k4 k5 k6
  exact ⟨.normal, env', F', H', rfl, k1, k3, k4, k5, by rw [k2]; exact h6.ext k3, k6⟩

/-- Less is known of the frame. -/
theorem W.le {env' : Env} {c : Code} (hl : Le env env') (h : W B P r N c Q env' H) : W B P r N c Q env H :=
  fun F w a n0 h1 h2 h3 h4 h5 h6 => h F w a n0 h1 h2 h3 h4 (h5.le hl) h6

/-- Other words for what is so. -/
def Shift (env : Env) (H : Hp) (env' : Env) (H' : Hp) : Prop := ∀ (F : Nat → Prop) (w : World) (a : Act), St F w H → RE F w env a → ∃ F', Ext F w H F' w H' ∧ St F' w H' ∧ RE F' w env' a

theorem Shift.le {env' : Env} (h : Le env env') : Shift env H env' H := fun F w a st re => ⟨F, Ext.refl _ _ _, st, re.le h⟩
theorem Shift.forget {H' : Hp} (h : ∀ b x, H' b = some x → H b = some x) : Shift env H env H' := fun F w a st re => ⟨F, (Ext.refl _ _ _).forget h, st.forget h, re⟩
theorem Shift.trans {env' env'' : Env} {H' H'' : Hp} (h : Shift env H env' H') (k : Shift env' H' env'' H'') : Shift env H env'' H'' := fun F w a st re => by
  obtain ⟨F', h1, h2, h3⟩ := h F w a st re
  obtain ⟨F'', k1, k2, k3⟩ := k F' w a h2 h3
  exact ⟨F'', h1.trans k1, k2, k3⟩

theorem W.shift {env' : Env} {H' : Hp} {c : Code} (hs : Shift env H env' H') (h : W B P r N c Q env' H') : W B P r N c Q env H := by
  intro F w a n0 h1 h2 h3 h4 h5 h6
  obtain ⟨F', k1, k2, k3⟩ := hs F w a h4 h5
  exact wpIn_mono (h F' w a n0 (h1.step h4 k1) h2 h3 k2 k3 (h6.ext k1)) fun _ _ _ => Land.step k1

theorem W.shift_post {c : Code} (h : W B P r N c (fun e env H => ∃ env' H', Shift env H env' H' ∧ Q e env' H') env H) : W B P r N c Q env H := by
  intro F w a n0 h1 h2 h3 h4 h5 h6
  refine wpIn_mono (h F w a n0 h1 h2 h3 h4 h5 h6) ?_
  rintro e a' w' ⟨x, env', F', H', k1, k2, k3, k4, k5, k6, env'', H'', k7, k8⟩
  obtain ⟨F'', l1, l2, l3⟩ := k7 F' w' a' k4 k5
  exact ⟨x, env'', F'', H'', k1, k2, k3.trans l1, l2, l3, k6.ext l1, k8⟩

/-! ### Codes as they are read -/

/-- What a code does, as it was read. -/
def WD (B : Base) (P : Program) (r : Option Nat) (N : Nat) (dc : DCode) (Q : QC) (env : Env) (H : Hp) : Prop :=
  ∀ c, compC P N c = some dc → W B P r N c Q env H

theorem WD.mono {c : DCode} (h : WD B P r N c Q env H) (hq : ∀ e env H, Q e env H → Q' e env H) : WD B P r N c Q' env H := fun c hc => (h c hc).mono hq
theorem WD.le {env' : Env} {c : DCode} (hl : Le env env') (h : WD B P r N c Q env' H) : WD B P r N c Q env H := fun c hc => (h c hc).le hl
theorem WD.shift {env' : Env} {H' : Hp} {c : DCode} (hs : Shift env H env' H') (h : WD B P r N c Q env' H') : WD B P r N c Q env H := fun c hc => (h c hc).shift hs
theorem WD.shift_post {c : DCode} (h : WD B P r N c (fun e env H => ∃ env' H', Shift env H env' H' ∧ Q e env' H') env H) : WD B P r N c Q env H := fun c hc => (h c hc).shift_post

theorem WD.skip (h : Q .normal env H) : WD B P r N .skip Q env H := by
  intro c hc
  cases c <;> simp only [compC] at hc
  case skip => exact W.skip h
  case label l => exact W.label h
  all_goals exfalso; first | (simp at hc; done) | ((repeat' split at hc) <;> simp at hc; done)
theorem WD.exit {id : Nat} (h : Q (.exit id) env H) : WD B P r N (.exit id) Q env H := by
  intro c hc
  cases c <;> simp only [compC] at hc
  case exit j => simp only [Option.some.injEq, DCode.exit.injEq] at hc; subst hc; exact W.exit h
  all_goals exfalso; first | (simp at hc; done) | ((repeat' split at hc) <;> simp at hc; done)
theorem WD.ret (h : Q .ret env H) : WD B P r N .ret Q env H := by
  intro c hc
  cases c <;> simp only [compC] at hc
  case ret => exact W.ret h
  all_goals exfalso; first | (simp at hc; done) | ((repeat' split at hc) <;> simp at hc; done)
theorem WD.seq {x y : DCode} (h : WD B P r N x (QC.then (WD B P r N y Q) Q) env H) : WD B P r N (.seq x y) Q env H := by
  intro c hc
  cases c <;> simp only [compC] at hc
  case seq a b =>
    split at hc
    · rename_i a' b' ha hb
      simp only [Option.some.injEq, DCode.seq.injEq] at hc
      obtain ⟨rfl, rfl⟩ := hc
      refine W.seq ((h a ha).mono fun e env H hq => ?_)
      cases e with
      | normal => exact hq b hb
      | exit id => exact hq
      | ret => exact hq
    · simp at hc
  all_goals exfalso; first | (simp at hc; done) | ((repeat' split at hc) <;> simp at hc; done)
theorem WD.cond {o : AO} {x y : DCode} {t : Bool} (he : evA env o = .bool t) (h : WD B P r N (if t then x else y) Q env H) : WD B P r N (.cond o x y) Q env H := by
  intro c hc
  cases c <;> simp only [compC] at hc
  case cond o' a b =>
    split at hc
    · rename_i o'' a' b' ho ha hb
      simp only [Option.some.injEq, DCode.cond.injEq] at hc
      obtain ⟨rfl, rfl, rfl⟩ := hc
      refine W.cond ho he ?_
      cases t with
      | true => exact h a ha
      | false => exact h b hb
    · simp at hc
  all_goals exfalso; first | (simp at hc; done) | ((repeat' split at hc) <;> simp at hc; done)
theorem WD.block {id : Nat} {x : DCode} (h : WD B P r N x (QC.block id Q) env H) : WD B P r N (.block id x) Q env H := by
  intro c hc
  cases c <;> simp only [compC] at hc
  case block j a =>
    split at hc
    · rename_i a' ha
      simp only [Option.some.injEq, DCode.block.injEq] at hc
      obtain ⟨rfl, rfl⟩ := hc
      exact W.block (h a ha)
    · simp at hc
  all_goals exfalso; first | (simp at hc; done) | ((repeat' split at hc) <;> simp at hc; done)
theorem WD.loop {x : DCode} (I : Nat → Env → Hp → Prop) {m : Nat} (hI : I m env H) (hr : ∀ m env H, I m env H → WD B P r N x (QC.then (fun env' H' => ∃ m', m' < m ∧ I m' env' H') Q) env H) : WD B P r N (.loop x) Q env H := by
  intro c hc
  cases c <;> simp only [compC] at hc
  case loop a =>
    split at hc
    · rename_i a' ha
      simp only [Option.some.injEq, DCode.loop.injEq] at hc
      subst hc
      exact W.loop I hI fun m env H hi => hr m env H hi a ha
    · simp at hc
  all_goals exfalso; first | (simp at hc; done) | ((repeat' split at hc) <;> simp at hc; done)
theorem WD.scope {x : DCode} (h : WD B P r N x Q env H) : WD B P r N (.scope x) Q env H := by
  intro c hc
  cases c <;> simp only [compC] at hc
  case scope a =>
    split at hc
    · rename_i a' ha
      simp only [Option.some.injEq, DCode.scope.injEq] at hc
      subst hc
      exact W.scope (h a ha)
    · simp at hc
  all_goals exfalso; first | (simp at hc; done) | ((repeat' split at hc) <;> simp at hc; done)
theorem WD.reg {draw : Bool} {l : List DOper} (hm : P.follows .mixedOrders = true) (h : if draw then RD B P l (Q .normal) env H noL else RS B P l (Q .normal) env H) : WD B P r N (.reg draw l) Q env H := by
  intro c hc
  cases c <;> simp only [compC] at hc
  case region id ops d =>
    split at hc
    · rename_i l' hl
      simp only [Option.some.injEq, DCode.reg.injEq] at hc
      obtain ⟨rfl, rfl⟩ := hc
      exact W.region hm hl h
    · simp at hc
  all_goals exfalso; first | (simp at hc; done) | ((repeat' split at hc) <;> simp at hc; done)

end Go.DL
