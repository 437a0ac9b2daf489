/- Regions that draw their order, on two states that differ by names. No statement of the seed is proved here. -/
import Derived.Test.YtdbikamciedfdaaX8
namespace Go.DL
section
variable {P : Program} {B : Base} {D : Nat → Option XFn} {Y : Nat → Option YI} {r : Nat → Option Nat} {e env : Env} {h : XH} {H : Hp}

theorem LogR.mono {r' : Nat → Option Nat} {h' : XH} {L : List (Nat × Nat)} {L' : Log} (hl : LogR r h L L') (hs : Sub r r') (hk : ∀ q ∈ L, (hat h q.2).isSome = true → (hat h' q.2).isSome = true) : LogR r' h' L L' :=
  ⟨fun q hq => hk q hq (hl.1 q hq), fun j c hj => let ⟨b, h1, h2⟩ := hl.2 j c hj; ⟨b, h1, hs b c h2⟩⟩

theorem logX_rn (sr : SR D Y r e h env H) {ix : Nat} {op : DOp} (hok : okOp op = true) {L : List (Nat × Nat)} {L' : Log} (hl : LogR r h L L') {eff : Eff} (he : evalQ op e (hpOf h) = some eff) : LogR r h (logX ix op e L) (logOp ix op env L') := by
  cases op with
  | load g n x =>
    have hx := rn_evA sr.re (x := x) hok
    simp only [logX, logOp]
    simp only [evalQ] at he
    split at he <;> simp only [Option.some.injEq, reduceCtorEq] at he
    rename_i v hv
    unfold loadA at hv
    split at hv
    · rename_i b o hb
      rw [hb] at hx
      obtain ⟨c, k1, k2⟩ := rn_pt hx
      simp only [blkA, hb, k1]
      have hlive : (hat h b).isSome = true := by
        split at hv
        · rename_i w cs hc
          obtain ⟨g', cs', k3, _⟩ := sr.sh.cells k2 hc
          simp [k3]
        · simp at hv
      refine ⟨fun q hq => ?_, fun j c' hj => ?_⟩
      · rcases List.mem_cons.1 hq with rfl | hq
        · exact hlive
        · exact hl.1 q hq
      · simp only at hj
        split at hj
        · rename_i hji
          simp only [Option.some.injEq] at hj
          subst hj; subst hji
          exact ⟨b, by simp, k2⟩
        · obtain ⟨b', k3, k4⟩ := hl.2 j c' hj
          exact ⟨b', by simp [k3], k4⟩
    · rename_i rows i o hb
      rw [hb] at hx
      simp only [blkA, hb, (rn_fp hx).1]
      refine ⟨hl.1, fun j c' hj => ?_⟩
      simp only at hj
      split at hj
      · simp at hj
      · exact hl.2 j c' hj
    · simp at hv
  | _ => exact hl

theorem xopsD_sound {run : XRun} {runY : YRun} (hf : FnS P B D Y run) (hy : YS P B D Y runY) : ∀ (ops : List DOper) (r : Nat → Option Nat) (e : Env) (h : XH) (L : List (Nat × Nat)) (env : Env) (H : Hp) (L' : Log) (e' : Env) (h' : XH) (K : Env → Hp → Prop), okOps ops = true → SR D Y r e h env H →
    LogR r h L L' → xopsD run runY ops e h L = some (e', h') → Foll D Y r e' h' K → RD B P ops K env H L' := by
  intro ops
  induction ops with
  | nil =>
    intro r e h L env H L' e' h' K _ sr _ hx hK
    simp only [xopsD, Option.some.injEq, Prod.mk.injEq] at hx
    obtain ⟨rfl, rfl⟩ := hx
    exact hK r env H (Sub.refl r) sr
  | cons o ops ih =>
    intro r e h L env H L' e' h' K hok sr hl hx hK
    simp only [okOps, List.all_cons, Bool.and_eq_true] at hok
    simp only [xopsD] at hx
    simp only [RD, opD]
    split at hx
    · rename_i hg
      rw [gd_rn sr hg]
      simp only [optW_some, effOp, if_true]
      split at hx
      · rename_i hlog
        simp only [Option.bind_eq_some_iff] at hx
        obtain ⟨⟨e1, h1⟩, hx1, hx2⟩ := hx
        split at hx2
        · rename_i hpost
          have next : ∀ r' env' H' L2, Sub r r' → SR D Y r' e1 h1 env' H' → LogR r' h1 (logX o.ix o.op e L) L2 → RD B P ops K env' H' L2 := fun r' env' H' L2 hs sr' hl' =>
            ih r' e1 h1 _ env' H' L2 e' h' K hok.2 sr' hl' hx2 fun r2 env2 H2 hs2 sr2 => hK r2 env2 H2 (hs.trans hs2) sr2
          revert hx1 hlog hpost next
          generalize o.op = op at hok ⊢
          intro hlog hx1 hpost next
          have hok := hok.1
          by_cases hq : op.isQ = true
          · rw [coreD_W (fun n p x l e => by subst e; simp [DOp.isQ] at hq) (fun f xs l e => by subst e; simp [DOp.isQ] at hq)]
            refine xcoreQ_sound sr hq hok hx1 fun r' env' H' hs sr' => next r' env' H' _ hs sr' ?_
            have hx' : (match evalQ op e (hpOf h) with
              | some (.val v) => some (updo e o.dst v, h)
              | some (.new own x f) => some (updo e o.dst (f h.length), xNew h own (flagNew op e h) x)
              | none => none) = some (e1, h1) := by
              rw [← hx1]
              cases op <;> first | rfl | (simp [DOp.isQ] at hq)
            split at hx'
            · rename_i v hv
              simp only [Option.some.injEq, Prod.mk.injEq] at hx'
              obtain ⟨_, rfl⟩ := hx'
              exact (logX_rn sr hok hl hv).mono hs fun _ _ h => h
            · rename_i own x f hv
              simp only [Option.some.injEq, Prod.mk.injEq] at hx'
              obtain ⟨_, rfl⟩ := hx'
              refine (logX_rn sr hok hl hv).mono hs fun q hq' hlive => ?_
              unfold xNew
              rw [hat_append]
              cases own with
              | none =>
                obtain ⟨x, hx⟩ := Option.isSome_iff_exists.1 hlive
                simp only [hat_lt hx, if_true, hlive]
              | some b0 =>
                obtain ⟨x, hx⟩ := Option.isSome_iff_exists.1 hlive
                simp only [List.length_set, hat_lt hx, if_true]
                rw [hat_set]
                split
                · rename_i hc
                  exfalso
                  -- only an append grows a block of its own
                  cases op with
                  | app s n x y =>
                    simp only [evalQ, appA] at hv
                    split at hv
                    · simp at hv
                    · split at hv
                      · split at hv
                        · split at hv <;> simp at hv
                        · simp at hv
                      · rename_i b' s' len hbx
                        split at hv
                        · split at hv
                          · simp only [Option.some.injEq, Eff.new.injEq] at hv
                            obtain ⟨h1, _⟩ := hv
                            subst h1
                            simp only [logOk, List.all_eq_true] at hlog
                            have := hlog q hq'
                            rw [hbx] at this
                            simp [blkA, hc.1] at this
                          · simp at hv
                        · simp at hv
                      · simp at hv
                  | _ =>
                    simp only [evalQ] at hv
                    first
                      | (simp at hv; done)
                      | ((repeat' split at hv) <;> simp at hv)
                · exact hlive
            · simp at hx'
          · cases op with
            | store n p x l =>
              simp only [okOp, Bool.and_eq_true] at hok
              simp only [xcore, Option.map_eq_some_iff] at hx1
              obtain ⟨h2, hs, heq⟩ := hx1
              simp only [Prod.mk.injEq] at heq
              obtain ⟨rfl, rfl⟩ := heq
              obtain ⟨H', k1, k2, b0, x0, k3, k4⟩ := xStore_rn sr.sh (rn_evA sr.re hok.1) (rn_evA sr.re hok.2) hs
              refine ⟨fun j hj c hc hbl => ?_, ?_⟩
              · obtain ⟨b, m1, m2⟩ := hl.2 j c hc
                simp only [logOk, List.all_eq_true] at hlog
                have h3 := hlog (j, b) m1
                simp only [hj, List.contains_iff_mem, Bool.or_eq_true, Bool.not_eq_true', bne_iff_ne, ne_eq] at h3
                have h3 : blkA (evA e p) ≠ some b := by
                  rcases h3 with h3 | h3
                  · simp [hj] at h3
                  · exact h3
                have hp := rn_evA sr.re hok.1
                cases hv : evA e p <;> rw [hv] at k3 hp h3 <;> simp only [blkA, Option.some.injEq, reduceCtorEq] at k3
                all_goals
                  subst k3
                  first
                    | obtain ⟨c', e1, e2⟩ := rn_pt hp
                    | obtain ⟨c', e1, e2⟩ := rn_sl hp
                    | obtain ⟨c', e1, e2⟩ := rn_mp hp
                  rw [e1] at hbl
                  simp only [blkA, Option.some.injEq] at hbl h3
                  subst hbl
                  obtain ⟨y, hy⟩ := Option.isSome_iff_exists.1 (hl.1 _ m1)
                  exact h3 (by rw [sr.sh.inj _ _ c' _ _ k4 hy e2 m2])
              · simp only [k1, optW_some]
                refine next r _ _ L' (Sub.refl r) (sr.put (Sub.refl r) k2 (.any _) o.dst) (hl.mono (Sub.refl r) fun q hq hlive => ?_)
                unfold xStore at hs
                split at hs
                · split at hs
                  · split at hs
                    · simp only [Option.some.injEq] at hs
                      subst hs
                      rw [hat_set]; split
                      · rfl
                      · exact hlive
                    · simp at hs
                  · simp at hs
                · simp at hs
            | copy s x y =>
              rw [coreD_W (by simp) (by simp)]
              refine xcore_sound hf hy sr hok hx1 fun r' env' H' hs sr' => next r' env' H' L' hs sr' (hl.mono hs fun q hq hlive => ?_)
              simp only [xcore, Option.map_eq_some_iff] at hx1
              obtain ⟨⟨n, h2⟩, hc, heq⟩ := hx1
              simp only [Prod.mk.injEq] at heq
              obtain ⟨_, rfl⟩ := heq
              unfold xCopy at hc
              split at hc
              · split at hc
                · split at hc
                  · simp only [Option.some.injEq, Prod.mk.injEq] at hc
                    obtain ⟨_, rfl⟩ := hc
                    rw [hat_set]; split
                    · rfl
                    · exact hlive
                  · simp at hc
                · simp at hc
              · simp at hc
            | mapup q m k x =>
              rw [coreD_W (by simp) (by simp)]
              refine xcore_sound hf hy sr hok hx1 fun r' env' H' hs sr' => next r' env' H' L' hs sr' (hl.mono hs fun q hq hlive => ?_)
              simp only [xcore, Option.map_eq_some_iff] at hx1
              obtain ⟨h2, hc, heq⟩ := hx1
              simp only [Prod.mk.injEq] at heq
              obtain ⟨_, rfl⟩ := heq
              unfold xMapup at hc
              split at hc
              · split at hc
                · simp only [Option.map_eq_some_iff] at hc
                  obtain ⟨es, _, rfl⟩ := hc
                  rw [hat_set]; split
                  · rfl
                  · exact hlive
                · simp at hc
              · simp at hc
            | callf q f xs l =>
              cases q with
              | true =>
                rw [coreD_W (by simp) (by simp)]
                refine xcore_sound hf hy sr hok hx1 fun r' env' H' hs sr' => next r' env' H' L' hs sr' (hl.mono hs fun q hq hlive => ?_)
                simp only [xcore, Option.map_eq_some_iff] at hx1
                obtain ⟨v, _, heq⟩ := hx1
                simp only [Prod.mk.injEq] at heq
                obtain ⟨_, rfl⟩ := heq
                exact hlive
              | false =>
                simp only [okOp, Bool.and_eq_true] at hok
                simp only [xcore, Option.map_eq_some_iff] at hx1
                obtain ⟨⟨v, h2⟩, hs, heq⟩ := hx1
                simp only [Prod.mk.injEq] at heq
                obtain ⟨rfl, rfl⟩ := heq
                refine CallV.mono (callX_sound (P := P) (B := B) hf hy sr.sh (rn_evA sr.re hok.1) (rn_args sr.re hok.2) hs) ?_
                rintro v' H' ⟨⟨r', k1, k2, k3⟩, k4⟩
                simp only [logPost, List.all_eq_true, Bool.and_eq_true, Bool.or_eq_true, Bool.not_eq_true'] at hpost
                refine ⟨fun j hj c hc => ?_, next r' _ _ L' k1 (sr.put k1 k2 k3 o.dst) (hl.mono k1 fun q hq _ => (hpost q hq).1)⟩
                obtain ⟨b, m1, m2⟩ := hl.2 j c hc
                obtain ⟨p1, p2⟩ := hpost (j, b) m1
                simp only at p1 p2
                rcases p2 with p2 | p2 | p2
                · simp [hj] at p2
                · exact k4 b c m2 (hl.1 _ m1) (by simpa using p2)
                · -- the block lies as it lay
                  obtain ⟨x1, q1⟩ := Option.isSome_iff_exists.1 (hl.1 _ m1)
                  obtain ⟨x2, q2⟩ := Option.isSome_iff_exists.1 p1
                  simp only at q1 q2
                  rw [q1, q2] at p2
                  obtain ⟨c1, y1, g1, g2, g3⟩ := sr.sh.blk b x1 q1
                  obtain ⟨c2, y2, f1, f2, f3⟩ := k2.blk b x2 q2
                  rw [m2] at g1; simp only [Option.some.injEq] at g1; subst g1
                  rw [k1 b c m2] at f1; simp only [Option.some.injEq] at f1; subst f1
                  rw [g2, f2]
                  unfold sameO at p2
                  split at p2
                  · rename_i _ _ _ _ w xs w' ys e1 e2
                    simp only [Option.some.injEq] at e1 e2
                    subst e1; subst e2
                    simp only [Bool.and_eq_true, beq_iff_eq] at p2
                    cases g3 with
                    | cells _ _ _ xs' n1 _ =>
                      cases f3 with
                      | cells _ _ _ ys' n2 _ =>
                        rw [p2.1, sameL_eq k1 _ _ _ _ p2.2 n1 n2]
                  · simp at p2
            | _ => exact absurd rfl hq
        · simp at hx2
      · simp at hx
    · rename_i hg
      rw [gd_rn sr hg]
      simp only [optW_some, effOp, Bool.false_eq_true, if_false]
      rw [coreD_W (by simp) (by simp)]
      simp only [coreW, evalQ, evA, optW_some, effW, logOp]
      exact ih r _ h L _ H L' e' h' K hok.2 (sr.put (Sub.refl r) sr.sh (.tup [] [] rfl (by simp)) o.dst) hl hx hK
    · simp at hx
end
end Go.DL
