/- The judgements: what a call, an operation, a region does over abstract values. No statement of the seed is proved here. -/
import Derived.Test.YtdbikamciedfdaaDlK
namespace Go.DL
variable {P : Program} {F F' : Nat → Prop} {w w' : World} {H : Hp} {env : Env} {a : Act}

/-- A state that all that is said takes for its past. -/
structure Base where
  F : Nat → Prop
  w : World

def Base.Up (B : Base) (F : Nat → Prop) (w : World) : Prop := Go.DL.Up B.F B.w F w
theorem Up.trans {F'' : Nat → Prop} {w'' : World} (h : Up F w F' w') (k : Up F' w' F'' w'') : Up F w F'' w'' :=
  ⟨fun b hb => k.sub b (h.sub b hb), fun b hb => by rw [k.same b (h.sub b hb), h.same b hb], fun b c e fr hb => by
    obtain ⟨c1, e1, f1, h1, h2⟩ := h.size b c e fr hb
    obtain ⟨c2, e2, f2, h3, h4⟩ := k.size b c1 e1 f1 h1
    exact ⟨c2, e2, f2, h3, by omega⟩, Nat.le_trans h.le k.le⟩
theorem Up.refl (F : Nat → Prop) (w : World) : Up F w F w := ⟨fun _ h => h, fun _ _ => rfl, fun _ c e fr h => ⟨c, e, fr, h, rfl⟩, Nat.le_refl _⟩

def Args (F : Nat → Prop) (w : World) (as : List AV) (vs : Array Value) : Prop :=
  as.length = vs.size ∧ ∀ (i : Nat) (a : AV) (v : Value), as[i]? = some a → vs[i]? = some v → Rv F w a v

def Post (F : Nat → Prop) (w : World) (H : Hp) (Q : AV → Hp → Prop) : Ending → World → Prop := fun e w' =>
  ∃ r v F' H', e = .returned r ∧ Ext F w H F' w' H' ∧ St F' w' H' ∧ Rv F' w' v r ∧ Q v H'

/-- A call of a function. -/
def FnW (B : Base) (P : Program) (f : FuncId) (as : List AV) (H : Hp) (Q : AV → Hp → Prop) : Prop :=
  (∀ (vs : Array Value) (w : World), (callFunc f vs).run P w = .ok (.enter f vs) w) ∧ ∀ (F : Nat → Prop) (w : World) (vs : Array Value), B.Up F w → St F w H → Args F w as vs → CallsIn Fence.wide 0 P f vs w (Post F w H Q)

/-- A call of a loop's round, as an iterator makes it. -/
def YW (B : Base) (P : Program) (l : Nat) (as : List AV) (H : Hp) (Q : AV → Hp → Prop) : Prop :=
  ∀ (F : Nat → Prop) (w : World) (vs : Array Value), B.Up F w → St F w H → Args F w as vs → YieldAt Fence.wide 0 P l vs w (Post F w H Q)

/-- A call of a function's value. -/
def CallV (B : Base) (P : Program) (fv : AV) (as : List AV) (H : Hp) (Q : AV → Hp → Prop) : Prop :=
  match fv with
  | .fn (.func g) first cap => FnW B P g (first ++ as ++ cap) H Q
  | .fn (.yield l) [] [] => YW B P l as H Q
  | _ => False

/-- 'there is one, and of it this holds'. -/
def optW {α : Type} (o : Option α) (k : α → Prop) : Prop :=
  match o with
  | some x => k x
  | none => False
@[simp] theorem optW_some {α : Type} (x : α) (k : α → Prop) : optW (some x) k = k x := rfl
@[simp] theorem optW_none {α : Type} (k : α → Prop) : optW none k = False := rfl
theorem optW_mono {α : Type} {o : Option α} {k k' : α → Prop} (h : ∀ x, k x → k' x) (ho : optW o k) : optW o k' := by
  cases o with
  | none => exact ho
  | some x => exact h x ho
theorem optW_iff {α : Type} {o : Option α} {k : α → Prop} : optW o k ↔ ∃ x, o = some x ∧ k x := by
  cases o <;> simp

def effW (d : Option Nat) (e : Eff) (K : Env → Hp → Prop) (env : Env) (H : Hp) : Prop :=
  match e with
  | .val v => K (updo env d v) H
  | .new own x f => ∀ b, (H b = none ∨ own = some b) → K (updo env d (f b)) (hset H b x)

/-- May the operation run? -/
def gd (o : DOper) (env : Env) : Option Bool :=
  match o.guard with
  | none => some true
  | some (g, want) => match env g with
    | .bool t => some (t == want)
    | .tup _ => some false
    | _ => none

def coreW (B : Base) (P : Program) (d : Option Nat) (op : DOp) (K : Env → Hp → Prop) (env : Env) (H : Hp) : Prop :=
  match op with
  | .store n p x _ => optW (storeA n H (evA env p) (evA env x)) fun H' => K (updo env d .any) H'
  | .copy s x y => optW (copyA s H (evA env x) (evA env y)) fun r => K (updo env d (.int .i64 (r.1 : Int))) r.2
  | .mapup q m k x => optW (mapupA q H (evA env m) (evA env k) (evA env x)) fun H' => K (updo env d .any) H'
  | .callf true f xs _ => ∃ v, CallV B P (evA env f) (xs.map (evA env)) (roH H) (fun v' H' => v' = v ∧ H' = roH H) ∧ K (updo env d v) H
  | .callf false f xs _ => CallV B P (evA env f) (xs.map (evA env)) H (fun v H' => K (updo env d v) H')
  | op => optW (evalQ op env H) fun e => effW d e K env H

def opW (B : Base) (P : Program) (o : DOper) (K : Env → Hp → Prop) (env : Env) (H : Hp) : Prop :=
  match gd o env with
  | some true => coreW B P o.dst o.op K env H
  | some false => K (updo env o.dst (.tup [])) H
  | none => False

/-- Operations in the text's order. -/
def RS (B : Base) (P : Program) : List DOper → (Env → Hp → Prop) → Env → Hp → Prop
  | [], K, env, H => K env H
  | o :: rest, K, env, H => opW B P o (RS B P rest K) env H

theorem CallV.mono {B : Base} {fv : AV} {as : List AV} {Q Q' : AV → Hp → Prop} (h : CallV B P fv as H Q) (hq : ∀ v H', Q v H' → Q' v H') : CallV B P fv as H Q' := by
  have post : ∀ (F : Nat → Prop) (w : World) (e : Ending) (w' : World), Post F w H Q e w' → Post F w H Q' e w' := fun F w e w' ⟨r, v, F', H', h1, h2, h3, h4, h5⟩ => ⟨r, v, F', H', h1, h2, h3, h4, hq _ _ h5⟩
  unfold CallV at *
  split at h
  · exact ⟨h.1, fun F w vs h1 h2 h3 => (h.2 F w vs h1 h2 h3).mono (post F w)⟩
  · exact fun F w vs h1 h2 h3 => let ⟨fn, t, x, y, h4, h5⟩ := h F w vs h1 h2 h3; ⟨fn, t, x, y, h4, h5.mono (post F w)⟩
  · exact h.elim

theorem effW_mono {d : Option Nat} {e : Eff} {K K' : Env → Hp → Prop} (hk : ∀ env H, K env H → K' env H) (h : effW d e K env H) : effW d e K' env H := by
  unfold effW at *
  split
  · exact hk _ _ h
  · exact fun b hb => hk _ _ (h b hb)

/-- An operation that yields a value or a block. -/
def DOp.isQ : DOp → Bool
  | .store .. | .copy .. | .mapup .. | .callf .. => false
  | _ => true

theorem coreW_Q {B : Base} {d : Option Nat} {op : DOp} {K : Env → Hp → Prop} (h : op.isQ = true) : coreW B P d op K env H = optW (evalQ op env H) fun e => effW d e K env H := by
  cases op <;> first | rfl | (simp [DOp.isQ] at h)

theorem coreW_mono {B : Base} {d : Option Nat} {op : DOp} {K K' : Env → Hp → Prop} (hk : ∀ env H, K env H → K' env H) (h : coreW B P d op K env H) : coreW B P d op K' env H := by
  cases op with
  | store n p x l => exact optW_mono (fun _ => hk _ _) h
  | copy s x y => exact optW_mono (fun _ => hk _ _) h
  | mapup q m k x => exact optW_mono (fun _ => hk _ _) h
  | callf q f xs l =>
    cases q with
    | true => obtain ⟨v, h1, h2⟩ := h; exact ⟨v, h1, hk _ _ h2⟩
    | false => exact CallV.mono h fun v H' => hk _ _
  | _ =>
    rw [coreW_Q rfl] at h ⊢
    exact optW_mono (fun _ => effW_mono hk) h

theorem opW_mono {B : Base} {o : DOper} {K K' : Env → Hp → Prop} (hk : ∀ env H, K env H → K' env H) (h : opW B P o K env H) : opW B P o K' env H := by
  unfold opW at *
  split at h
  · exact coreW_mono hk h
  · exact hk _ _ h
  · exact h.elim

/-! ### One operation -/

def FW (r : Option Nat) : Fence := { Fence.wide with round := r }

theorem about_ok (r : Option Nat) (o : Oper) : ∀ f, o.about P w a.eval = some f → (FW r).fn f := fun _ _ => trivial

/-- How an operation of the model's and its reading belong together. -/
structure Reads (P : Program) (ops : Array Oper) (i : Nat) (d : DOper) : Prop where
  get : ∃ o, ops[i]? = some o ∧ d.dst = o.dst ∧
    (match o.guard with
     | none => d.guard = none
     | some (j, w) => ∃ g, (ops[j]?).bind (·.dst) = some g ∧ d.guard = some (g, w)) ∧
    (comp P o = d.op ∨ (∃ n p x l, comp P o = .store n p x [] ∧ d.op = .store n p x l) ∨ (∃ q f xs l, comp P o = .callf false f xs [] ∧ d.op = .callf q f xs l)) ∧
    (∀ c, o.op ≠ .defer c)

theorem roH_st (st : St F w H) : St F w (roH H) := by
  refine ⟨st.lt, fun b x hb => ?_, fun b x hb => ?_⟩
  · unfold roH at hb
    cases h : H b with
    | none => simp [h] at hb
    | some y => exact st.dis b y h
  · unfold roH at hb
    cases h : H b with
    | none => simp [h] at hb
    | some y =>
      simp only [h, Option.map_some, Option.some.injEq] at hb
      obtain ⟨o, h1, h2⟩ := st.blk b y h
      refine ⟨o, h1, ?_⟩
      subst hb
      cases h2 with
      | cells p cs c e fr hfr hl ho hc => exact .cells false cs c e fr hfr hl ho hc
      | map p es m clock hl hm => exact .map false es m clock hl hm
      | obj p o => exact .obj false o

theorem wrH_ro (H : Hp) (b : Nat) : wrH (roH H) b = false := by
  unfold wrH roH
  cases H b with
  | none => rfl
  | some x => cases x <;> rfl

/-- Behind a call that turns nothing all lies as it lay. -/
theorem ext_quiet (st : St F w H) (h : Ext F w (roH H) F' w' (roH H)) (st' : St F' w' (roH H)) : Ext F w H F' w' H ∧ St F' w' H := by
  have hsame : ∀ b, b < w.heap.size → w'.heap[b]? = w.heap[b]? := fun b hb => h.same b hb (wrH_ro H b)
  have hd : ∀ b, (roH H b).isSome = (H b).isSome := fun b => by unfold roH; cases H b <;> rfl
  have hE : Ext F w H F' w' H := by
    refine ⟨h.sub, fun b hb => ?_, fun b hb => .inl hb, fun b hb => .inl hb, h.le, fun b hb _ => hsame b hb, h.cells, h.io⟩
    have := h.fnew b hb
    rwa [hd] at this
  refine ⟨hE, fun b hb => st'.lt b hb, fun b x hb => ?_, fun b x hb => ?_⟩
  · exact st'.dis b x.ro (by unfold roH; rw [hb]; rfl)
  · obtain ⟨o, h1, h2⟩ := st.blk b x hb
    exact ⟨o, by rw [hsame b (st.own_lt hb)]; exact h1, h2.up (hE.up st)⟩

theorem call_args (re : RE F w env a) {xs : Array Operand} {ys : List AO} (h : coL xs = some ys) : Args F w (ys.map (evA env)) (xs.map a.eval) := rv_coL re h

theorem args_append {as bs : List AV} {vs us : Array Value} (h : Args F w as vs) (k : Args F w bs us) : Args F w (as ++ bs) (vs ++ us) := by
  obtain ⟨h1, h2⟩ := h
  obtain ⟨k1, k2⟩ := k
  refine ⟨by simp [h1, k1], fun i c v hc hv => ?_⟩
  rw [List.getElem?_append] at hc
  rw [Array.getElem?_append] at hv
  split at hv
  · rw [if_pos (by omega)] at hc; exact h2 _ _ _ hc hv
  · rw [if_neg (by omega), h1] at hc; exact k2 _ _ _ hc hv

/-- A call of a function's value, as the model makes it. -/
theorem call_run {B : Base} {r : Option Nat} (hB : B.Up F w) (st : St F w H) (re : RE F w env a) {o : Oper} {f : Operand} {args : Array Operand} {ts : Array TypeId} {f' : AO} {xs : List AO}
    (ho : o.op = .call { callee := .value f, args := args, argTypes := ts }) (hf : co f = some f') (hx : coL args = some xs) {Q : AV → Hp → Prop}
    (h : CallV B P (evA env f') (xs.map (evA env)) H Q) {next : Act → World → Prop} {Qc : Exit → Act → World → Prop}
    (hn : ∀ v c F' w' H', Ext F w H F' w' H' → St F' w' H' → Rv F' w' v c → Q v H' → next (a.put o.dst c) w') :
    o.wpIn (FW r) 0 P a w next Qc := by
  refine ⟨about_ok r o, ?_⟩
  rw [Oper.semAt_eq _ _ _ (by rw [ho]; simp)]
  have hfv := rv_co re hf
  obtain ⟨vf, hvf⟩ : ∃ v, a.eval f = v := ⟨_, rfl⟩
  rw [hvf] at hfv
  have hargs := call_args re hx
  unfold CallV at h
  split at h
  · rename_i g first cap hev
    rw [hev] at hfv
    cases hfv with
    | fn _ _ _ fv cv hl1 hl2 h1 h2 =>
      have hA : Args F w (first ++ xs.map (evA env) ++ cap) (fv ++ args.map a.eval ++ cv) := args_append (args_append ⟨hl1, h1⟩ hargs) ⟨hl2, h2⟩
      have hc := h.2 F w _ hB st hA
      have hrun : (execOp a.eval o).run P w = .ok (.enter g (fv ++ args.map a.eval ++ cv)) w := by
        simp only [execOp, ho, resolve, hvf, Deferred.ofValue, Sem.run_bind, Sem.run_pure, Result.andThen_ok, invoke]
        exact h.1 _ _
      rw [hrun, Oper.uponIn_enter]
      exact ⟨fun h => by simp [FW, Fence.wide] at h, CallsIn.mono hc (by rintro e w' ⟨r, v, F', H', rfl, h1, h2, h3, h4⟩; exact hn v r F' w' H' h1 h2 h3 h4)⟩
  · rename_i l hev
    rw [hev] at hfv
    cases hfv with
    | fn _ _ _ fv cv hl1 hl2 h1 h2 =>
      have e1 : fv = #[] := by apply Array.eq_empty_of_size_eq_zero; simpa using hl1.symm
      have e2 : cv = #[] := by apply Array.eq_empty_of_size_eq_zero; simpa using hl2.symm
      subst e1 e2
      obtain ⟨fn, t, x, y, h3, h4⟩ := h F w _ hB st hargs
      have hrun : (execOp a.eval o).run P w = .ok (.round l fn t x y) w := by
        simp only [execOp, ho, resolve, hvf, Deferred.ofValue, Sem.run_bind, Sem.run_pure, Result.andThen_ok, invoke, Array.empty_append]
        exact h3
      rw [hrun, Oper.uponIn_round]
      exact ⟨fun h => by simp [FW, Fence.wide] at h, RoundIn.mono h4 (by rintro e w' ⟨r, v, F', H', rfl, h1, h2, h3, h4⟩; exact hn v r F' w' H' h1 h2 h3 h4)⟩
  · exact h.elim

theorem inv_special {o : Oper} {op : DOp} (h : comp0 P o = some op) (hq : op.isQ = false) :
    (∃ t pa xa n p x, o.op = .store t pa xa ∧ szT P t = some n ∧ co pa = some p ∧ co xa = some x ∧ op = .store n p x []) ∨
    (∃ t m k x m' k' x' kt e, o.op = .mapUpdate t m k x ∧ P.underlying t = some (.map kt e) ∧ co m = some m' ∧ co k = some k' ∧ co x = some x' ∧
      ((∃ y, P.underlying kt = some (.int y) ∧ op = .mapup false m' k' x') ∨ (P.underlying kt = some .string ∧ op = .mapup true m' k' x'))) ∨
    (∃ c, o.op = .call c ∧ compCall P c = some op) := by
  unfold comp0 at h
  cases ho : o.op with
  | store t pa xa =>
    simp only [ho] at h
    split at h <;> simp only [Option.some.injEq, reduceCtorEq] at h
    rename_i n p x h1 h2 h3
    exact .inl ⟨t, pa, xa, n, p, x, rfl, h1, h2, h3, h.symm⟩
  | mapUpdate t m k x =>
    simp only [ho] at h
    split at h
    · rename_i kt e m' k' x' h1 h2 h3 h4
      split at h <;> simp only [Option.some.injEq, reduceCtorEq] at h
      · rename_i y h5; exact .inr (.inl ⟨t, m, k, x, m', k', x', kt, e, rfl, h1, h2, h3, h4, .inl ⟨y, h5, h.symm⟩⟩)
      · rename_i h5; exact .inr (.inl ⟨t, m, k, x, m', k', x', kt, e, rfl, h1, h2, h3, h4, .inr ⟨h5, h.symm⟩⟩)
    · simp at h
  | call c => simp only [ho] at h; exact .inr (.inr ⟨c, rfl, h⟩)
  | unOp u t x => exfalso; cases u <;> simp [ho] at h <;> (obtain ⟨z, _, rfl⟩ := h; simp [DOp.isQ] at hq)
  | slice t x lo hi mx =>
    exfalso
    cases mx with
    | some m => simp [ho] at h
    | none =>
      simp only [ho] at h
      split at h <;> (try simp only [Option.map_eq_some_iff, Option.some.injEq, reduceCtorEq] at h) <;> (first | (obtain ⟨z, _, rfl⟩ := h; simp [DOp.isQ] at hq; done) | (subst h; simp [DOp.isQ] at hq; done))
  | makeMap t r =>
    exfalso
    cases r with
    | some r => simp [ho] at h
    | none => simp only [ho, Option.some.injEq] at h; subst h; simp [DOp.isQ] at hq
  | binOp b t x y u =>
    exfalso
    simp only [ho] at h
    split at h
    · split at h <;> (try simp only [Option.map_eq_some_iff, Option.some.injEq, reduceCtorEq] at h) <;> (first | (obtain ⟨z, _, rfl⟩ := h; simp [DOp.isQ] at hq; done) | (subst h; simp [DOp.isQ] at hq; done))
    · simp at h
  | _ =>
    exfalso
    simp only [ho] at h
    first
      | (simp at h; done)
      | (simp only [Option.map_eq_some_iff] at h; obtain ⟨z, _, rfl⟩ := h; simp [DOp.isQ] at hq; done)
      | ((repeat' split at h) <;> (try simp only [Option.map_eq_some_iff, Option.some.injEq, reduceCtorEq] at h) <;> (first | (obtain ⟨z, _, rfl⟩ := h; simp [DOp.isQ] at hq; done) | (subst h; simp [DOp.isQ] at hq; done)))

theorem inv_call {c : Call} {op : DOp} (h : compCall P c = some op) (hq : op.isQ = false) :
    (∃ x y t u x' y' e s, c.callee = .builtin .copy ∧ c.args = #[x, y] ∧ c.argTypes = #[t, u] ∧ P.underlying t = some (.slice e) ∧ co x = some x' ∧ co y = some y' ∧ szT P e = some s ∧ op = .copy s x' y') ∨
    (∃ f f' xs, c.callee = .value f ∧ co f = some f' ∧ coL c.args = some xs ∧ op = .callf false f' xs []) := by
  have arr : ∀ {α : Type} {xs : Array α} {l : List α}, xs.toList = l → xs = l.toArray := fun h => by rw [← h]
  unfold compCall at h
  split at h
  · exfalso
    split at h
    · split at h <;> simp only [Option.some.injEq, reduceCtorEq] at h <;> subst h <;> simp [DOp.isQ] at hq
    · simp at h
  · exfalso
    split at h
    · split at h
      · split at h
        · split at h <;> simp only [Option.some.injEq, reduceCtorEq] at h
          subst h; simp [DOp.isQ] at hq
        · simp at h
      · simp at h
    · simp at h
  · rename_i hc
    split at h
    · rename_i x y t u hx ht
      split at h
      · rename_i e x' y' h1 h2 h3
        simp only [Option.map_eq_some_iff] at h
        obtain ⟨s, h4, rfl⟩ := h
        exact .inl ⟨x, y, t, u, x', y', e, s, hc, arr hx, arr ht, h1, h2, h3, h4, rfl⟩
      · simp at h
    · simp at h
  · exfalso
    split at h
    · split at h <;> simp only [Option.some.injEq, reduceCtorEq] at h
      subst h; simp [DOp.isQ] at hq
    · simp at h
  · exfalso
    split at h
    · split at h <;> simp only [Option.some.injEq, reduceCtorEq] at h
      subst h; simp [DOp.isQ] at hq
    · simp at h
  · rename_i f hc
    split at h <;> simp only [Option.some.injEq, reduceCtorEq] at h
    rename_i f' xs h1 h2
    exact .inr ⟨f, f', xs, hc, h1, h2, h.symm⟩
  · simp at h

/-- One operation, in a region. -/
theorem simOp {B : Base} {r : Option Nat} {ops : Array Oper} {i N : Nat} {d : DOper} (hr : Reads P ops i d) (hN : ∀ k, d.dst = some k → k < N) (hsz : a.tmps.size = N)
    (hB : B.Up F w) (st : St F w H) (re : RE F w env a) {K : Env → Hp → Prop} (h : opW B P d K env H) {Kc : Act → World → Prop} {Qc : Exit → Act → World → Prop}
    (hK : ∀ a' F' w' env' H', a'.tmps.size = N → a'.defers = a.defers → Ext F w H F' w' H' → St F' w' H' → RE F' w' env' a' → K env' H' → Kc a' w') :
    wpOpIn (FW r) 0 P ops Qc i Kc a w := by
  obtain ⟨o, ho, hdst, hguard, hop, hdef⟩ := hr.get
  unfold wpOpIn
  simp only [ho]
  have hput : ∀ {F' : Nat → Prop} {w' : World} {v : AV} {c : Value}, RE F' w' env a → Rv F' w' v c → RE F' w' (updo env d.dst v) (a.put o.dst c) := fun h1 h2 => by
    rw [← hdst]; exact h1.put h2 (fun k hk => by rw [hsz]; exact hN k hk)
  have hgd : ∀ b, gd d env = some b → Region.wanted o (yielded ops a.tmps) = b := by
    intro b hb
    unfold gd at hb
    unfold Region.wanted
    split at hguard
    · rename_i hg
      rw [hg]
      rw [hguard] at hb
      simpa using hb
    · rename_i j want hg
      rw [hg]
      obtain ⟨g, h1, h2⟩ := hguard
      rw [h2] at hb
      simp only at hb
      split at hb
      · rename_i t ht
        have hrt := re g
        rw [ht] at hrt
        have hy : yielded ops a.tmps j = some t := by
          unfold yielded
          rw [h1]
          simp only [Option.bind_some]
          cases hx : a.tmps[g]? with
          | none =>
            rw [Array.getD_eq_getD_getElem?, hx] at hrt
            cases hrt
          | some x =>
            rw [Array.getD_eq_getD_getElem?, hx] at hrt
            simp only [Option.getD_some] at hrt
            cases hrt
            rfl
        simp only [hy]
        simp only [Option.some.injEq] at hb
        rw [← hb]
        rfl
      · rename_i vs ht
        have hrt := re g
        rw [ht] at hrt
        have hy : yielded ops a.tmps j = none := by
          unfold yielded
          rw [h1]
          simp only [Option.bind_some]
          cases hx : a.tmps[g]? with
          | none => rfl
          | some x =>
            rw [Array.getD_eq_getD_getElem?, hx] at hrt
            simp only [Option.getD_some] at hrt
            cases hrt
            rfl
        simp only [hy]
        simp only [Option.some.injEq] at hb
        rw [← hb]
        rfl
      · simp at hb
  unfold opW at h
  split at h
  · rename_i hg
    rw [if_pos (hgd true hg)]
    have val : ∀ {c : Value} {w' : World} {F' : Nat → Prop} {H' : Hp} {v : AV}, (execOp a.eval o).run P w = .ok (.value c) w' → Ext F w H F' w' H' → St F' w' H' → Rv F' w' v c → K (updo env d.dst v) H' →
        o.wpIn (FW r) 0 P a w Kc Qc := by
      intro c w' F' H' v h1 h2 h3 h4 h5
      refine ⟨about_ok r o, ?_⟩
      rw [Oper.semAt_eq _ _ _ hdef, h1, Oper.uponIn_value]
      exact hK _ F' w' _ H' (by simp [hsz]) (by simp) h2 h3 (hput (re.up (h2.up st)) h4) h5
    have skip : ∀ {w' : World} {H' : Hp}, (execOp a.eval o).run P w = .ok .skip w' → Ext F w H F w' H' → St F w' H' → K (updo env d.dst .any) H' → o.wpIn (FW r) 0 P a w Kc Qc := by
      intro w' H' h1 h2 h3 h5
      refine ⟨about_ok r o, ?_⟩
      rw [Oper.semAt_eq _ _ _ hdef, h1, Oper.uponIn_skip]
      exact hK _ F w' _ H' (by simp [hsz]) (by simp) h2 h3 (hput (re.up (h2.up st)) (.any _)) h5
    by_cases hq : d.op.isQ = true
    · rw [coreW_Q hq, optW_iff] at h
      obtain ⟨e, he, h⟩ := h
      have hc : comp0 P o = some d.op := by
        rcases hop with h1 | ⟨n, p, x, l, _, h2⟩ | ⟨q, f, xs, l, _, h2⟩
        · unfold comp at h1
          cases hx : comp0 P o with
          | none => rw [hx] at h1; simp at h1; rw [← h1] at he; simp [evalQ] at he
          | some y => rw [hx] at h1; simp at h1; rw [h1]
        · rw [h2] at hq; simp [DOp.isQ] at hq
        · rw [h2] at hq; simp [DOp.isQ] at hq
      have hs := simQ (P := P) st re hc he
      cases e with
      | val v =>
        obtain ⟨c, h1, h2⟩ := hs
        exact val h1 (Ext.refl _ _ _) st h2 h
      | new own x f =>
        obtain ⟨j, c, w', h1, h2, h3, h4, h5⟩ := hs
        exact val h2 h3 h4 h5 (h j h1)
    · have hq' : d.op.isQ = false := by simpa using hq
      obtain ⟨op0, hc0, hq0, hrel⟩ : ∃ op0, comp0 P o = some op0 ∧ op0.isQ = false ∧ (op0 = d.op ∨ (∃ n p x l, op0 = .store n p x [] ∧ d.op = .store n p x l) ∨ (∃ q f xs l, op0 = .callf false f xs [] ∧ d.op = .callf q f xs l)) := by
        unfold comp at hop
        cases hx : comp0 P o with
        | none =>
          rw [hx] at hop
          simp only [Option.getD_none, reduceCtorEq, false_and, exists_false, or_false] at hop
          rw [← hop] at hq'
          simp [DOp.isQ] at hq'
        | some y =>
          rw [hx] at hop
          simp only [Option.getD_some] at hop
          refine ⟨y, rfl, ?_, hop⟩
          rcases hop with h1 | ⟨n, p, x, l, h1, _⟩ | ⟨q, f, xs, l, h1, _⟩
          · rw [h1]; exact hq'
          · rw [h1]; rfl
          · rw [h1]; rfl
      obtain ⟨dst, oo, ty, pos, after, guard⟩ := o
      rcases inv_special hc0 hq0 with ⟨t, pa, xa, n, p, x, hoo, g1, g2, g3, rfl⟩ | ⟨t, m, k, x, m', k', x', kt, e, hoo, g1, g2, g3, g4, g5⟩ | ⟨c, hoo, hcc⟩
      · simp only at hoo
        subst hoo
        obtain ⟨l, hd⟩ : ∃ l, d.op = .store n p x l := by
          rcases hrel with h1 | ⟨n', p', x', l, h1, h2⟩ | ⟨q, f, xs, l, h1, _⟩
          · exact ⟨_, h1.symm⟩
          · simp only [DOp.store.injEq] at h1; obtain ⟨rfl, rfl, rfl, _⟩ := h1; exact ⟨l, h2⟩
          · simp at h1
        rw [hd] at h
        simp only [coreW, optW_iff] at h
        obtain ⟨H', h1, h2⟩ := h
        obtain ⟨w', k1, k2, k3⟩ := sim_store (P := P) st g1 (rv_co re g2) (rv_co re g3) h1
        exact skip (by simp only [execOp, Sem.run_bind, k1, Result.andThen_ok, Sem.run_pure]) k2 k3 h2
      · simp only at hoo
        subst hoo
        have key : ∀ q kd, P.underlying kt = some kd → ((q = false ∧ ∃ x, kd = .int x) ∨ (q = true ∧ kd = .string)) → op0 = .mapup q m' k' x' → Oper.wpIn (FW r) 0 P ⟨dst, .mapUpdate t m k x, ty, pos, after, guard⟩ a w Kc Qc := fun q kd hk hkd he => by
          subst he
          have hd : d.op = .mapup q m' k' x' := by
            rcases hrel with h1 | ⟨n', p', x', l, h1, h2⟩ | ⟨q, f, xs, l, h1, _⟩
            · exact h1.symm
            · simp at h1
            · simp at h1
          rw [hd] at h
          simp only [coreW, optW_iff] at h
          obtain ⟨H', h1, h2⟩ := h
          obtain ⟨w', k1, k2, k3⟩ := sim_mapup (P := P) st g1 hk hkd (rv_co re g2) (rv_co re g3) (rv_co re g4) h1
          exact skip (by simp only [execOp, Sem.run_bind, k1, Result.andThen_ok, Sem.run_pure]) k2 k3 h2
        rcases g5 with ⟨y, hy, he⟩ | ⟨hy, he⟩
        · exact key false _ hy (.inl ⟨rfl, y, rfl⟩) he
        · exact key true _ hy (.inr ⟨rfl, rfl⟩) he
      · simp only at hoo
        subst hoo
        rcases inv_call hcc hq0 with ⟨x, y, t, u, x', y', e, s, e1, e2, e3, g1, g2, g3, g4, rfl⟩ | ⟨f, f', xs, e1, g1, g2, rfl⟩
        · obtain ⟨callee, args, argTypes⟩ := c
          simp only at e1 e2 e3
          subst e1 e2 e3
          have hd : d.op = .copy s x' y' := by
            rcases hrel with h1 | ⟨n', p', x', l, h1, h2⟩ | ⟨q, f, xs, l, h1, _⟩
            · exact h1.symm
            · simp at h1
            · simp at h1
          rw [hd] at h
          simp only [coreW, optW_iff] at h
          obtain ⟨⟨n, H'⟩, h1, h2⟩ := h
          obtain ⟨w', k1, k2, k3⟩ := sim_copy (P := P) (u := u) (ty := ty) st g1 g4 (rv_co re g2) (rv_co re g3) h1
          refine val (c := .int .i64 (n : Int)) ?_ k2 k3 (.int _ _) h2
          simp only [execOp, resolve, Sem.run_bind, Sem.run_pure, Result.andThen_ok, invoke, builtin, List.map_toArray, List.map_cons, List.map_nil, k1]
        · obtain ⟨callee, args, argTypes⟩ := c
          simp only at e1
          subst e1
          obtain ⟨q, l, hd⟩ : ∃ q l, d.op = .callf q f' xs l := by
            rcases hrel with h1 | ⟨n', p', x', l, h1, h2⟩ | ⟨q, f, xs, l, h1, h2⟩
            · exact ⟨_, _, h1.symm⟩
            · simp at h1
            · simp only [DOp.callf.injEq] at h1; obtain ⟨_, rfl, rfl, _⟩ := h1; exact ⟨q, l, h2⟩
          rw [hd] at h
          cases q with
          | false =>
            refine call_run hB st re rfl g1 g2 h ?_
            intro v c F' w' H' k1 k2 k3 k4
            exact hK _ F' w' _ H' (by simp [hsz]) (by simp) k1 k2 (hput (re.up (k1.up st)) k3) k4
          | true =>
            obtain ⟨v, h1, h2⟩ := h
            refine call_run hB (roH_st st) re rfl g1 g2 h1 ?_
            rintro v' c F' w' H' k1 k2 k3 ⟨rfl, rfl⟩
            obtain ⟨k4, k5⟩ := ext_quiet st k1 k2
            exact hK _ F' w' _ H (by simp [hsz]) (by simp) k4 k5 (hput (re.up (k4.up st)) k3) h2
  · rename_i hg
    rw [if_neg (by rw [hgd false hg]; simp)]
    exact ⟨about_ok r o, hK _ F w _ H (by simp [hsz]) (by simp) (Ext.refl _ _ _) st (hput re (.tup [] #[] rfl (by simp))) h⟩
  · exact h.elim

end Go.DL
