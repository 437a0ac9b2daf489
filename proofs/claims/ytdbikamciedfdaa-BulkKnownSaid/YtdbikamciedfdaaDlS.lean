/- A range over a function. No statement of the seed is proved here. -/
import Derived.RangeFuncNested
import Derived.Test.YtdbikamciedfdaaDlR
namespace Go.DL
variable {P : Program} {B : Base} {F : Nat → Prop} {w : World} {H : Hp} {env : Env} {a : Act} {N : Nat}

theorem FnW.base {B' : Base} {f : FuncId} {as : List AV} {Q : AV → Hp → Prop} (h : FnW B P f as H Q) (hB : B.Up B'.F B'.w) : FnW B' P f as H Q :=
  ⟨h.1, fun F w vs h1 h2 h3 => h.2 F w vs (Up.trans hB h1) h2 h3⟩
theorem CallV.base {B' : Base} {fv : AV} {as : List AV} {Q : AV → Hp → Prop} (h : CallV B P fv as H Q) (hB : B.Up B'.F B'.w) : CallV B' P fv as H Q := by
  unfold CallV at *
  split at h
  · exact FnW.base h hB
  · exact fun F w vs h1 h2 h3 => h F w vs (Up.trans hB h1) h2 h3
  · exact h.elim

def putL (env : Env) : List Nat → List AV → Env
  | p :: ps, v :: vs => putL (upd env p v) ps vs
  | _, _ => env

theorem re_putL : ∀ (ps : List Nat) (as : List AV) (vs : List Value) (env : Env) (t : Array Value), as.length = vs.length → (∀ (i : Nat) (a : AV) (v : Value), as[i]? = some a → vs[i]? = some v → Rv F w a v) → (∀ p ∈ ps, p < t.size) →
    RE F w env { tmps := t, defers := [] } → RE F w (putL env ps as) { tmps := (ps.zip vs).foldl (fun t p => t.setIfInBounds p.1 p.2) t, defers := [] } ∧ ((ps.zip vs).foldl (fun t p => t.setIfInBounds p.1 p.2) t).size = t.size := by
  intro ps
  induction ps with
  | nil => intro as vs env t _ _ _ re; exact ⟨re, rfl⟩
  | cons p ps ih =>
    intro as vs env t hl hv hp re
    cases as with
    | nil => cases vs with
      | nil => exact ⟨re, rfl⟩
      | cons v vs => simp at hl
    | cons a as => cases vs with
      | nil => simp at hl
      | cons v vs =>
        have h1 : RE F w (upd env p a) { tmps := t.setIfInBounds p v, defers := [] } := by
          have := RE.put (d := some p) re (hv 0 a v rfl rfl) (fun k hk => by simp at hk; subst hk; exact hp p (by simp))
          exact this
        obtain ⟨h2, h3⟩ := ih as vs (upd env p a) (t.setIfInBounds p v) (by simpa using hl) (fun i a v h1 h2 => hv (i + 1) a v (by simpa using h1) (by simpa using h2)) (fun p hp' => by simpa using hp p (by simp [hp'])) h1
        exact ⟨h2, by simpa using h3⟩

theorem foldl_zip (ps : Array Tmp) (vs : Array Value) (t : Array Value) : (ps.zip vs).foldl (fun t (p : Tmp × Value) => t.setIfInBounds p.1 p.2) t = (ps.toList.zip vs.toList).foldl (fun t p => t.setIfInBounds p.1 p.2) t := by
  rw [← Array.foldl_toList, Array.toList_zip]

/-- How a round is left. -/
def rndQ (l : Nat) (oR oB : Obj) (oD : Code → Obj) (Q' : AV → Hp → Prop) : QC := fun e _ H3 => H3 l = some (.obj true oB) ∧ match e with
  | .normal => Q' (.bool true) (hset H3 l (.obj true oR))
  | .ret => Q' (.bool false) (hset H3 l (.obj true (oD .ret)))
  | .exit id => Q' (.bool false) (hset H3 l (.obj true (oD (.exit id))))

/-- How a loop over a function is left. -/
def rngQ (l : Nat) (oR : Obj) (oD : Code → Obj) (Q : QC) (env : Env) : AV → Hp → Prop := fun _ H' =>
  (H' l = some (.obj true oR) ∧ Q .normal env (hdel H' l)) ∨ (H' l = some (.obj true (oD .ret)) ∧ Q .ret env (hdel H' l)) ∨ ∃ id, H' l = some (.obj true (oD (.exit id))) ∧ Q (.exit id) env (hdel H' l)

theorem hset_hdel (H : Hp) (b : Nat) (x : ABlk) : ∀ c y, hdel H b c = some y → hset H b x c = some y := by
  intro c y h
  by_cases hc : c = b
  · subst hc; simp [hdel] at h
  · rw [hset_other _ _ hc]; simpa [hdel, hc] using h

theorem obj_turn {l : Nat} {o o' : Obj} (st : St F w H) (hl : H l = some (.obj true o)) (hc : o.isCells = false) : Ext F w H F (w.putObj l o') (hset H l (.obj true o')) ∧ St F (w.putObj l o') (hset H l (.obj true o')) ∧ w.heap[l]? = some o := by
  obtain ⟨o1, h1, h2⟩ := st.blk l _ hl
  cases h2 with
  | obj => 
    have := ext_turn (w' := w.putObj l o') (y := .obj true o') (o' := o') st hl rfl h1 rfl ⟨rfl, rfl, rfl⟩ (fun c e fr h => by subst h; simp [Obj.isCells] at hc) (fun F' w' _ => .obj true o')
    exact ⟨this.1, this.2, h1⟩

theorem W.rng {g : Operand} {f' : AO} {ps : Array Tmp} {assign body : Code} {Q : QC} {gf : FuncId} {first cap : List AV} (hg : co g = some f') (hev : evA env f' = .fn (.func gf) first cap) (hps : ∀ p ∈ ps.toList, p < N)
    (h : ∀ (B' : Base) (l : Nat) (oR oB : Obj) (oD : Code → Obj), B.Up B'.F B'.w → H l = none → B.w.heap.size ≤ l → l < B'.w.heap.size → (∃ q, oB = .loop q) →
      (∀ (B1 : Base), B'.Up B1.F B1.w → ∀ (as : List AV) (H' : Hp) (Q' : AV → Hp → Prop), H' l = some (.obj true oR) → as.length = ps.size →
        W B1 P (some l) N assign (fun e env2 H2 => e = .normal ∧ H2 l = some (.obj true oR) ∧ W B1 P (some l) N body (rndQ l oR oB oD Q') env2 (hset H2 l (.obj true oB))) (putL env ps.toList as) H' → YW B1 P l as H' Q') →
      FnW B' P gf (first ++ [.fn (.yield l) [] []] ++ cap) (hset H l (.obj true oR)) (rngQ l oR oD Q env)) : W B P none N (.rangeFunc g ps assign body) Q env H := by
  intro F w a n0 hB hn0 hsz st re mk
  refine wpIn_rangeFunc ?_
  intro fn _
  obtain ⟨rec, hrec⟩ : ∃ rec : LoopState → Option Code → Loop, rec = fun st pe => { state := st, pending := pe, fn, tmps := a.tmps, params := ps, assign, body, defers := w.heap.size } := ⟨_, rfl⟩
  -- the world behind the two new blocks
  have e0 := ext_alloc (x := .obj true (.deferred (some []))) (o := .deferred (some [])) st (.obj _ _) st.size_none
  have hD0 : H w.heap.size = none := by
    cases hx : H w.heap.size with
    | none => rfl
    | some x => exact absurd rfl (st.size_none _ (by simp [hx]))
  have hf0 : ∀ b x, H b = some x → hset H w.heap.size (.obj true (.deferred (some []))) b = some x := fun b x hb => by
    rw [hset_other _ _ (fun e => by subst e; simp [hD0] at hb)]; exact hb
  have E0 : Ext F w H F (w.alloc (.deferred (some []))) H := e0.1.forget hf0
  have S0 : St F (w.alloc (.deferred (some []))) H := e0.2.forget hf0
  have e1 := ext_alloc (x := .obj true (.loop (rec .ready none))) (o := .loop (rec .ready none)) S0 (.obj _ _) S0.size_none
  rw [World.size_alloc] at e1
  obtain ⟨W1, hW1⟩ : ∃ W1, (w.alloc (.deferred (some []))).alloc (.loop (rec .ready none)) = W1 := ⟨_, rfl⟩
  rw [hW1] at e1
  obtain ⟨E1, S1⟩ := e1
  have E01 := E0.trans E1
  obtain ⟨l, hl⟩ : ∃ l, w.heap.size + 1 = l := ⟨_, rfl⟩
  rw [hl] at E1 S1 E01
  have hlH : H l = none := by
    cases hx : H l with
    | none => rfl
    | some x => exact absurd (st.own_lt hx) (by omega)
  have hW1D : W1.heap[w.heap.size]? = some (.deferred (some [])) := by
    rw [← hW1]
    show ((w.heap.push _).push _)[w.heap.size]? = _
    rw [Array.getElem?_push, if_neg (by simp), Array.getElem?_push, if_pos rfl]
  have hB1 : B.Up F W1 := hB.step st E01
  have re1 : RE F W1 env a := re.up (E01.up st)
  have hW1s : W1.heap.size = w.heap.size + 2 := by rw [← hW1]; simp
  have hcall := h ⟨F, W1⟩ l (.loop (rec .ready none)) (.loop (rec .busy none)) (fun c => .loop (rec .done (some c))) hB1 hlH (by have := hB.le; omega) (by show l < W1.heap.size; omega) ⟨_, rfl⟩ ?_
  · have hgv := rv_co re1 hg
    rw [hev] at hgv
    obtain ⟨vg, hvg⟩ : ∃ v, a.eval g = v := ⟨_, rfl⟩
    rw [hvg] at hgv
    cases hgv with
    | fn _ _ _ fv cv k1 k2 k3 k4 =>
      have hA : Args F W1 (first ++ [.fn (.yield l) [] []] ++ cap) (fv ++ #[.func (.yield l) #[] #[]] ++ cv) :=
        args_append (args_append ⟨k1, k3⟩ ⟨rfl, fun i x v hx hv => by
          cases i with
          | zero => simp at hx hv; subst hx hv; exact .fn _ _ _ _ _ rfl rfl (by simp) (by simp)
          | succ i => simp at hx⟩) ⟨k2, k4⟩
      have hc := hcall.2 F W1 _ (Up.refl _ _) S1 hA
      refine ⟨l, [{ target := .collected w.heap.size, args := #[] }], W1, { target := .fn (.func gf) cv, args := fv ++ #[.func (.yield l) #[] #[]] }, W1, gf,
        fv ++ #[.func (.yield l) #[] #[]] ++ cv, W1, ?_, ?_, ?_, ?_, ?_, ?_⟩
      · rw [← hW1, hrec, ← hl]; exact run_enterLoop_outer _ _ _ _ _
      · simp only [resolve, hvg]
        simp [go_sem, Deferred.ofValue]
      · exact fun _ _ => trivial
      · simp only [invoke]
        exact hcall.1 _ _
      · exact fun h => by simp [FW, Fence.wide] at h
      · have hc' : CallsIn (FW none) (0 - 1) P gf (fv ++ #[.func (.yield l) #[] #[]] ++ cv) W1 (Post F W1 (hset H l (.obj true (.loop (rec .ready none)))) (rngQ l (.loop (rec .ready none)) (fun c => .loop (rec .done (some c))) Q env)) := hc
        refine CallsIn.mono hc' ?_
        rintro e W2 ⟨rv, v, F2, H2, rfl, l1, l2, l3, l4⟩
        have fin : ∀ (o : Obj) (st' : LoopState) (pe : Option Code), o = .loop (rec st' pe) → st' ≠ .busy → H2 l = some (.obj true o) → ∃ w4, (Instr.endLoop l).run P W2 = .ok pe w4 ∧ Ext F w H F2 w4 (hdel H2 l) ∧ St F2 w4 (hdel H2 l) ∧
            RE F2 w4 env a ∧ Mk n0 F2 (hdel H2 l) w4 ({ target := .collected w.heap.size, args := #[] } :: a.defers) := by
          intro o st' pe ho hst hHl
          subst ho
          obtain ⟨m1, m2, m3⟩ := obj_turn (o' := .loop { rec st' pe with state := .exhausted }) l2 hHl (by simp [Obj.isCells])
          have hrun := run_endLoop (P := P) m3 (by rw [hrec]; exact hst)
          have M1 := E01.trans (l1.trans m1)
          have M2 := M1.forget (hset_hdel H2 l _)
          refine ⟨_, by rw [hrun]; rw [hrec], M2, m2.forget (hset_hdel H2 l _), re.up (M1.up st), ?_⟩
          have mk0 : Mk n0 F (hset H l (.obj true (.loop (rec .ready none)))) W1 ({ target := .collected w.heap.size, args := #[] } :: a.defers) := by
            have mk1 := mk.ext E01
            refine ⟨List.nodup_cons.2 ⟨fun hd => ?_, mk1.nodup⟩, fun d hd => ?_⟩
            · obtain ⟨D, q1, _, q3, _⟩ := mk.each _ hd
              simp only [Deferred.mk.injEq, Target.collected.injEq, and_true] at q1
              have := (Array.getElem?_eq_some_iff.1 q3).1
              omega
            · rcases List.mem_cons.1 hd with rfl | hd
              · exact ⟨w.heap.size, rfl, hn0, hW1D, fun hF => absurd (st.lt _ hF) (by omega), by rw [hset_other _ _ (by omega)]; exact hD0⟩
              · exact mk1.each d hd
          exact (mk0.ext (l1.trans m1)).sub (hset_hdel H2 l _)
        rcases l4 with ⟨q1, q2⟩ | ⟨q1, q2⟩ | ⟨id, q1, q2⟩
        · obtain ⟨w4, r1, r2, r3, r4, r5⟩ := fin _ .ready none rfl (by simp) q1
          exact ⟨none, w4, r1, .normal, env, F2, _, rfl, hsz, r2, r3, r4, r5, q2⟩
        · obtain ⟨w4, r1, r2, r3, r4, r5⟩ := fin _ .done (some .ret) rfl (by simp) q1
          exact ⟨some .ret, w4, r1, wpIn_ret ⟨.ret, env, F2, _, rfl, hsz, r2, r3, r4, r5, q2⟩⟩
        · obtain ⟨w4, r1, r2, r3, r4, r5⟩ := fin _ .done (some (.exit id)) rfl (by simp) q1
          exact ⟨some (.exit id), w4, r1, wpIn_exit ⟨.exit id, env, F2, _, rfl, hsz, r2, r3, r4, r5, q2⟩⟩
  · -- a round
    intro B1 hB1' as H' Q' hHl hlen hass F2 w2 vs hB2' st2 hA
    have hB2 : Up F W1 F2 w2 := Up.trans hB1' hB2'
    obtain ⟨m1, _, m3⟩ := obj_turn (o' := .loop (rec .ready none)) st2 hHl (by simp [Obj.isCells])
    have hsize : vs.size = ps.size := by rw [← hlen]; exact hA.1.symm
    have hy := run_yield (P := P) (args := vs) m3 (by rw [hrec]; exact hsize)
    have hre : RE F2 w2 env { tmps := a.tmps, defers := [] } := re1.up hB2
    obtain ⟨p1, p2⟩ := re_putL ps.toList as vs.toList env a.tmps (by simpa using hA.1) (fun i x v hx hv => hA.2 i x v hx (by simpa using hv)) (fun p hp => by rw [hsz]; exact hps p hp) hre
    rw [← foldl_zip] at p1 p2
    rw [hrec] at hy
    refine ⟨fn, _, assign, body, hy, roundIn_of_wpIn (by trivial) ?_⟩
    refine wpIn_mono (hass F2 w2 { tmps := _, defers := [] } w2.heap.size hB2' (Nat.le_refl _) (p2.trans hsz) st2 p1 Mk.nil) ?_
    rintro e a3 w3 ⟨x, env3, F3, H3, q1, q2, q3, q4, q5, q6, q7, q8, q9⟩
    subst q7
    cases e with
    | normal =>
      obtain ⟨s1, s2, s3⟩ := obj_turn (o' := .loop (rec .busy none)) q4 q8 (by simp [Obj.isCells])
      refine ⟨_, run_beginRound s3 (by rw [hrec]), ?_⟩
      have hbusy : ({ rec .ready none with state := .busy } : Loop) = rec .busy none := by rw [hrec]
      rw [hbusy]
      have E3 := q3.trans s1
      refine wpIn_mono (q9 F3 _ a3 w2.heap.size (Base.Up.step (B := B1) hB2' st2 E3) E3.le q2 s2 (q5.up (s1.up q4)) (q6.ext s1)) ?_
      rintro e a4 w4 ⟨x, env4, F4, H4, t1, t2, t3, t4, t5, t6, t7, t8⟩
      have fin : ∀ (jump : Option Code) (o : Obj), o = .loop (rec (if jump.isNone then .ready else .done) jump) → Q' (.bool jump.isNone) (hset H4 l (.obj true o)) →
          ∃ v w', (Instr.endRound l jump).run P w4 = .ok v w' ∧ Post F2 w2 H' Q' (.returned v) w' := by
        intro jump o ho hQ
        obtain ⟨u1, u2, u3⟩ := obj_turn (o' := o) t4 t7 (by simp [Obj.isCells])
        refine ⟨_, _, run_endRound jump u3, _, .bool jump.isNone, F4, hset H4 l (.obj true o), rfl, ?_, ?_, .bool _, hQ⟩
        · have : ({ rec .busy none with state := if jump.isNone then .ready else .done, pending := jump } : Loop) = rec (if jump.isNone then .ready else .done) jump := by rw [hrec]
          rw [this, ← ho]
          exact E3.trans (t3.trans u1)
        · have : ({ rec .busy none with state := if jump.isNone then .ready else .done, pending := jump } : Loop) = rec (if jump.isNone then .ready else .done) jump := by rw [hrec]
          rw [this, ← ho]
          exact u2
      cases e with
      | normal => simp only at t1; subst t1; exact fin none _ rfl t8
      | ret => simp only at t1; subst t1; exact fin (some .ret) _ rfl t8
      | exit id => simp only at t1; subst t1; exact fin (some (.exit id)) _ rfl t8
      | goto l => exact t1.elim
      | panic c => exact t1.elim
      | outgrown => exact t1.elim
    | exit id => simp at q1
    | ret => simp at q1
    | goto l => exact q1.elim
    | panic c => exact q1.elim
    | outgrown => exact q1.elim

/-- A range over a function in a round of another one. -/
theorem W.rngIn {l0 : Nat} {r0 : Loop} (hl0 : H l0 = some (.obj true (.loop r0))) {g : Operand} {f' : AO} {ps : Array Tmp} {assign body : Code} {Q : QC} {gf : FuncId} {first cap : List AV} (hg : co g = some f') (hev : evA env f' = .fn (.func gf) first cap) (hps : ∀ p ∈ ps.toList, p < N)
    (h : ∀ (B' : Base) (l : Nat) (oR oB : Obj) (oD : Code → Obj), B.Up B'.F B'.w → H l = none → B.w.heap.size ≤ l → l < B'.w.heap.size → (∃ q, oB = .loop q) →
      (∀ (B1 : Base), B'.Up B1.F B1.w → ∀ (as : List AV) (H' : Hp) (Q' : AV → Hp → Prop), H' l = some (.obj true oR) → as.length = ps.size →
        W B1 P (some l) N assign (fun e env2 H2 => e = .normal ∧ H2 l = some (.obj true oR) ∧ W B1 P (some l) N body (rndQ l oR oB oD Q') env2 (hset H2 l (.obj true oB))) (putL env ps.toList as) H' → YW B1 P l as H' Q') →
      FnW B' P gf (first ++ [.fn (.yield l) [] []] ++ cap) (hset H l (.obj true oR)) (rngQ l oR oD Q env)) : W B P (some l0) N (.rangeFunc g ps assign body) Q env H := by
  intro F w a n0 hB hn0 hsz st re mk
  refine wpIn_rangeFunc ?_
  intro fn _
  obtain ⟨rec, hrec⟩ : ∃ rec : LoopState → Option Code → Loop, rec = fun st pe => { state := st, pending := pe, fn, tmps := a.tmps, params := ps, assign, body, defers := r0.defers } := ⟨_, rfl⟩
  have hw0 : w.heap[l0]? = some (.loop r0) := by
    obtain ⟨o1, h1, h2⟩ := st.blk l0 _ hl0
    cases h2 with
    | obj => exact h1
  have e1 := ext_alloc (x := .obj true (.loop (rec .ready none))) (o := .loop (rec .ready none)) st (.obj _ _) st.size_none
  obtain ⟨W1, hW1⟩ : ∃ W1, w.alloc (.loop (rec .ready none)) = W1 := ⟨_, rfl⟩
  rw [hW1] at e1
  obtain ⟨E1, S1⟩ := e1
  obtain ⟨l, hl⟩ : ∃ l, w.heap.size = l := ⟨_, rfl⟩
  rw [hl] at E1 S1
  have E01 := E1
  have hlH : H l = none := by
    cases hx : H l with
    | none => rfl
    | some x => exact absurd (st.own_lt hx) (by omega)
  have hB1 : B.Up F W1 := hB.step st E01
  have re1 : RE F W1 env a := re.up (E01.up st)
  have hW1s : W1.heap.size = w.heap.size + 1 := by rw [← hW1]; simp
  have hcall := h ⟨F, W1⟩ l (.loop (rec .ready none)) (.loop (rec .busy none)) (fun c => .loop (rec .done (some c))) hB1 hlH (by have := hB.le; omega) (by show l < W1.heap.size; omega) ⟨_, rfl⟩ ?_
  · have hgv := rv_co re1 hg
    rw [hev] at hgv
    obtain ⟨vg, hvg⟩ : ∃ v, a.eval g = v := ⟨_, rfl⟩
    rw [hvg] at hgv
    cases hgv with
    | fn _ _ _ fv cv k1 k2 k3 k4 =>
      have hA : Args F W1 (first ++ [.fn (.yield l) [] []] ++ cap) (fv ++ #[.func (.yield l) #[] #[]] ++ cv) :=
        args_append (args_append ⟨k1, k3⟩ ⟨rfl, fun i x v hx hv => by
          cases i with
          | zero => simp at hx hv; subst hx hv; exact .fn _ _ _ _ _ rfl rfl (by simp) (by simp)
          | succ i => simp at hx⟩) ⟨k2, k4⟩
      have hc := hcall.2 F W1 _ (Up.refl _ _) S1 hA
      refine ⟨l, [], W1, { target := .fn (.func gf) cv, args := fv ++ #[.func (.yield l) #[] #[]] }, W1, gf,
        fv ++ #[.func (.yield l) #[] #[]] ++ cv, W1, ?_, ?_, ?_, ?_, ?_, ?_⟩
      · rw [← hW1, hrec, ← hl]; exact run_enterLoop_inner hw0 _ _ _ _ _
      · simp only [resolve, hvg]
        simp [go_sem, Deferred.ofValue]
      · exact fun _ _ => trivial
      · simp only [invoke]
        exact hcall.1 _ _
      · exact fun h => by simp [FW, Fence.wide] at h
      · have hc' : CallsIn (FW none) (0 - 1) P gf (fv ++ #[.func (.yield l) #[] #[]] ++ cv) W1 (Post F W1 (hset H l (.obj true (.loop (rec .ready none)))) (rngQ l (.loop (rec .ready none)) (fun c => .loop (rec .done (some c))) Q env)) := hc
        refine CallsIn.mono hc' ?_
        rintro e W2 ⟨rv, v, F2, H2, rfl, l1, l2, l3, l4⟩
        have fin : ∀ (o : Obj) (st' : LoopState) (pe : Option Code), o = .loop (rec st' pe) → st' ≠ .busy → H2 l = some (.obj true o) → ∃ w4, (Instr.endLoop l).run P W2 = .ok pe w4 ∧ Ext F w H F2 w4 (hdel H2 l) ∧ St F2 w4 (hdel H2 l) ∧
            RE F2 w4 env a ∧ Mk n0 F2 (hdel H2 l) w4 a.defers := by
          intro o st' pe ho hst hHl
          subst ho
          obtain ⟨m1, m2, m3⟩ := obj_turn (o' := .loop { rec st' pe with state := .exhausted }) l2 hHl (by simp [Obj.isCells])
          have hrun := run_endLoop (P := P) m3 (by rw [hrec]; exact hst)
          have M1 := E01.trans (l1.trans m1)
          have M2 := M1.forget (hset_hdel H2 l _)
          refine ⟨_, by rw [hrun]; rw [hrec], M2, m2.forget (hset_hdel H2 l _), re.up (M1.up st), ?_⟩
          have mk0 := mk.ext E01
          exact (mk0.ext (l1.trans m1)).sub (hset_hdel H2 l _)
        rcases l4 with ⟨q1, q2⟩ | ⟨q1, q2⟩ | ⟨id, q1, q2⟩
        · obtain ⟨w4, r1, r2, r3, r4, r5⟩ := fin _ .ready none rfl (by simp) q1
          exact ⟨none, w4, r1, .normal, env, F2, _, rfl, hsz, r2, r3, r4, r5, q2⟩
        · obtain ⟨w4, r1, r2, r3, r4, r5⟩ := fin _ .done (some .ret) rfl (by simp) q1
          exact ⟨some .ret, w4, r1, wpIn_ret ⟨.ret, env, F2, _, rfl, hsz, r2, r3, r4, r5, q2⟩⟩
        · obtain ⟨w4, r1, r2, r3, r4, r5⟩ := fin _ .done (some (.exit id)) rfl (by simp) q1
          exact ⟨some (.exit id), w4, r1, wpIn_exit ⟨.exit id, env, F2, _, rfl, hsz, r2, r3, r4, r5, q2⟩⟩
  · -- a round
    intro B1 hB1' as H' Q' hHl hlen hass F2 w2 vs hB2' st2 hA
    have hB2 : Up F W1 F2 w2 := Up.trans hB1' hB2'
    obtain ⟨m1, _, m3⟩ := obj_turn (o' := .loop (rec .ready none)) st2 hHl (by simp [Obj.isCells])
    have hsize : vs.size = ps.size := by rw [← hlen]; exact hA.1.symm
    have hy := run_yield (P := P) (args := vs) m3 (by rw [hrec]; exact hsize)
    have hre : RE F2 w2 env { tmps := a.tmps, defers := [] } := re1.up hB2
    obtain ⟨p1, p2⟩ := re_putL ps.toList as vs.toList env a.tmps (by simpa using hA.1) (fun i x v hx hv => hA.2 i x v hx (by simpa using hv)) (fun p hp => by rw [hsz]; exact hps p hp) hre
    rw [← foldl_zip] at p1 p2
    rw [hrec] at hy
    refine ⟨fn, _, assign, body, hy, roundIn_of_wpIn (by trivial) ?_⟩
    refine wpIn_mono (hass F2 w2 { tmps := _, defers := [] } w2.heap.size hB2' (Nat.le_refl _) (p2.trans hsz) st2 p1 Mk.nil) ?_
    rintro e a3 w3 ⟨x, env3, F3, H3, q1, q2, q3, q4, q5, q6, q7, q8, q9⟩
    subst q7
    cases e with
    | normal =>
      obtain ⟨s1, s2, s3⟩ := obj_turn (o' := .loop (rec .busy none)) q4 q8 (by simp [Obj.isCells])
      refine ⟨_, run_beginRound s3 (by rw [hrec]), ?_⟩
      have hbusy : ({ rec .ready none with state := .busy } : Loop) = rec .busy none := by rw [hrec]
      rw [hbusy]
      have E3 := q3.trans s1
      refine wpIn_mono (q9 F3 _ a3 w2.heap.size (Base.Up.step (B := B1) hB2' st2 E3) E3.le q2 s2 (q5.up (s1.up q4)) (q6.ext s1)) ?_
      rintro e a4 w4 ⟨x, env4, F4, H4, t1, t2, t3, t4, t5, t6, t7, t8⟩
      have fin : ∀ (jump : Option Code) (o : Obj), o = .loop (rec (if jump.isNone then .ready else .done) jump) → Q' (.bool jump.isNone) (hset H4 l (.obj true o)) →
          ∃ v w', (Instr.endRound l jump).run P w4 = .ok v w' ∧ Post F2 w2 H' Q' (.returned v) w' := by
        intro jump o ho hQ
        obtain ⟨u1, u2, u3⟩ := obj_turn (o' := o) t4 t7 (by simp [Obj.isCells])
        refine ⟨_, _, run_endRound jump u3, _, .bool jump.isNone, F4, hset H4 l (.obj true o), rfl, ?_, ?_, .bool _, hQ⟩
        · have : ({ rec .busy none with state := if jump.isNone then .ready else .done, pending := jump } : Loop) = rec (if jump.isNone then .ready else .done) jump := by rw [hrec]
          rw [this, ← ho]
          exact E3.trans (t3.trans u1)
        · have : ({ rec .busy none with state := if jump.isNone then .ready else .done, pending := jump } : Loop) = rec (if jump.isNone then .ready else .done) jump := by rw [hrec]
          rw [this, ← ho]
          exact u2
      cases e with
      | normal => simp only at t1; subst t1; exact fin none _ rfl t8
      | ret => simp only at t1; subst t1; exact fin (some .ret) _ rfl t8
      | exit id => simp only at t1; subst t1; exact fin (some (.exit id)) _ rfl t8
      | goto l => exact t1.elim
      | panic c => exact t1.elim
      | outgrown => exact t1.elim
    | exit id => simp at q1
    | ret => simp at q1
    | goto l => exact q1.elim
    | panic c => exact q1.elim
    | outgrown => exact q1.elim

theorem WD.rng {r : Option Nat} {f' : AO} {ps : List Nat} {assign body : DCode} {Q : QC} {gf : FuncId} {first cap : List AV} (hr : r = none ∨ ∃ l0 r0, r = some l0 ∧ H l0 = some (.obj true (.loop r0))) (hev : evA env f' = .fn (.func gf) first cap)
    (h : ∀ (B' : Base) (l : Nat) (oR oB : Obj) (oD : Code → Obj), B.Up B'.F B'.w → H l = none → B.w.heap.size ≤ l → l < B'.w.heap.size → (∃ q, oB = .loop q) →
      (∀ (B1 : Base), B'.Up B1.F B1.w → ∀ (as : List AV) (H' : Hp) (Q' : AV → Hp → Prop), H' l = some (.obj true oR) → as.length = ps.length →
        WD B1 P (some l) N assign (fun e env2 H2 => e = .normal ∧ H2 l = some (.obj true oR) ∧ WD B1 P (some l) N body (rndQ l oR oB oD Q') env2 (hset H2 l (.obj true oB))) (putL env ps as) H' → YW B1 P l as H' Q') →
      FnW B' P gf (first ++ [.fn (.yield l) [] []] ++ cap) (hset H l (.obj true oR)) (rngQ l oR oD Q env)) : WD B P r N (.rng f' ps assign body) Q env H := by
  intro c hc
  cases c <;> simp only [compC] at hc
  case rangeFunc g qs x y =>
    split at hc
    · rename_i g' x' y' hg hx hy
      split at hc
      · rename_i hall
        simp only [Option.some.injEq, DCode.rng.injEq] at hc
        obtain ⟨rfl, rfl, rfl, rfl⟩ := hc
        have hps : ∀ p ∈ qs.toList, p < N := fun p hp => by rw [List.all_eq_true] at hall; simpa using hall p hp
        have h' := fun (B' : Base) (l : Nat) (oR oB : Obj) (oD : Code → Obj) (h1 : B.Up B'.F B'.w) (h2 : H l = none) (h3 : B.w.heap.size ≤ l) (h3' : l < B'.w.heap.size) (h4 : ∃ q, oB = .loop q)
          (hround : ∀ (B1 : Base), B'.Up B1.F B1.w → ∀ (as : List AV) (H' : Hp) (Q' : AV → Hp → Prop), H' l = some (.obj true oR) → as.length = qs.size →
            W B1 P (some l) N x (fun e env2 H2 => e = .normal ∧ H2 l = some (.obj true oR) ∧ W B1 P (some l) N y (rndQ l oR oB oD Q') env2 (hset H2 l (.obj true oB))) (putL env qs.toList as) H' → YW B1 P l as H' Q') =>
          h B' l oR oB oD h1 h2 h3 h3' h4 fun B1 hB1 as H' Q' h5 h6 h7 => hround B1 hB1 as H' Q' h5 (by simpa using h6) ((h7 x hx).mono fun e env2 H2 ⟨k1, k2, k3⟩ => ⟨k1, k2, k3 y hy⟩)
        rcases hr with rfl | ⟨l0, r0, rfl, hl0⟩
        · exact W.rng hg hev hps h'
        · exact W.rngIn hl0 hg hev hps h'
      · simp at hc
    · simp at hc
  all_goals exfalso; first | (simp at hc; done) | ((repeat' split at hc) <;> simp at hc; done)

end Go.DL
