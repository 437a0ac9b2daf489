/- Functions carried out over abstract values: what they show of the program. No statement of the seed is proved here. -/
import Derived.Test.YtdbikamciedfdaaXC
namespace Go.DL
section
variable {P : Program} {B : Base} {D : Nat → Option XFn} {Y : Nat → Option YI} {r : Nat → Option Nat} {e env : Env} {h : XH} {H : Hp}

theorem nzL_map : ∀ l : List AV, nzL l = l.map nzA
  | [] => rfl
  | v :: l => by simp [nzL, nzL_map l]

theorem Rv.nz {F : Nat → Prop} {w : World} {a : AV} {v : Value} (h : Rv F w a v) : Rv F w (nzA a) v := by
  induction h with
  | agg cs vs hl ho _ ih =>
    simp only [nzA, nzL_map]
    refine .agg _ _ (by simpa using hl) ho fun i c v hc hv => ?_
    rw [List.getElem?_map, Option.map_eq_some_iff] at hc
    obtain ⟨c0, hc0, rfl⟩ := hc
    exact ih i c0 v hc0 hv
  | tup cs vs hl _ ih =>
    simp only [nzA, nzL_map]
    refine .tup _ _ (by simpa using hl) fun i c v hc hv => ?_
    rw [List.getElem?_map, Option.map_eq_some_iff] at hc
    obtain ⟨c0, hc0, rfl⟩ := hc
    exact ih i c0 v hc0 hv
  | nilsl => exact .fs0 none 0
  | int k n => exact .int k n
  | bool b => exact .bool b
  | str s => exact .str s
  | fs0 a cap => exact .fs0 a cap
  | fs rows blk off s cap g h1 h2 h3 h4 h5 h6 => exact .fs rows blk off s cap g h1 h2 h3 h4 h5 h6
  | fp rows i o blk off s g h1 h2 h3 h4 h5 => exact .fp rows i o blk off s g h1 h2 h3 h4 h5
  | sl b off s len cap c e fr h1 h2 h3 => exact .sl b off s len cap c e fr h1 h2 h3
  | pt b off => exact .pt b off
  | mp b => exact .mp b
  | nilpt => exact .nilpt
  | nilmap => exact .nilmap
  | fn f first cap fv cv h1 h2 h3 h4 => exact .fn f first cap fv cv h1 h2 h3 h4
  | nilfn => exact .nilfn
  | ifc t a v h => exact .ifc t a v h
  | nilifc => exact .nilifc
  | any v => exact .any v

theorem Args.nz {F : Nat → Prop} {w : World} {as : List AV} {vs : Array Value} (h : Args F w as vs) : Args F w (nzL as) vs := by
  rw [nzL_map]
  refine ⟨by simpa using h.1, fun i c v hc hv => ?_⟩
  rw [List.getElem?_map, Option.map_eq_some_iff] at hc
  obtain ⟨c0, hc0, rfl⟩ := hc
  exact (h.2 i c0 v hc0 hv).nz
theorem FnW.nz {f : FuncId} {as : List AV} {Q : AV → Hp → Prop} (h : FnW B P f (nzL as) H Q) : FnW B P f as H Q := ⟨h.1, fun F w vs h1 h2 h3 => h.2 F w vs h1 h2 h3.nz⟩

theorem Rn.nz {v v' : AV} (h : Rn D Y r v v') : Rn D Y r (nzA v) (nzA v') := by
  have ls : ∀ {xs ys : List AV}, xs.length = ys.length → (∀ (i : Nat) (x y : AV), xs[i]? = some x → ys[i]? = some y → Rn D Y r (nzA x) (nzA y)) → RnL D Y r (nzL xs) (nzL ys) := fun {xs ys} hl h => by
    rw [nzL_map, nzL_map]
    refine ⟨by simpa using hl, fun i x y hx hy => ?_⟩
    rw [List.getElem?_map, Option.map_eq_some_iff] at hx hy
    obtain ⟨x0, hx0, rfl⟩ := hx
    obtain ⟨y0, hy0, rfl⟩ := hy
    exact h i x0 y0 hx0 hy0
  induction h with
  | any v => exact .any _
  | agg xs ys hl _ ih => exact .agg _ _ (ls hl ih).1 (ls hl ih).2
  | tup xs ys hl _ ih => exact .tup _ _ (ls hl ih).1 (ls hl ih).2
  | nilsl => exact .fs [] (by simp)
  | int k n => exact .int k n
  | bool b => exact .bool b
  | str s => exact .str s
  | fs rows h => exact .fs rows h
  | fp rows i o h => exact .fp rows i o h
  | sl b c o s n h => exact .sl b c o s n h
  | pt b c o h => exact .pt b c o h
  | mp b c h => exact .mp b c h
  | nilpt => exact .nilpt
  | nilmap => exact .nilmap
  | nilfn => exact .nilfn
  | nilifc => exact .nilifc
  | fn f xs ys us vs h1 h2 h3 h4 h5 => exact .fn f xs ys us vs h1 h2 h3 h4 h5
  | yield l c h => exact .yield l c h
  | ifc t x y h => exact .ifc t x y h
theorem RnL.nz {xs ys : List AV} (h : RnL D Y r xs ys) : RnL D Y r (nzL xs) (nzL ys) := by
  rw [nzL_map, nzL_map]
  refine ⟨by simpa using h.1, fun i x y hx hy => ?_⟩
  rw [List.getElem?_map, Option.map_eq_some_iff] at hx hy
  obtain ⟨x0, hx0, rfl⟩ := hx
  obtain ⟨y0, hy0, rfl⟩ := hy
  exact (h.2 i x0 y0 hx0 hy0).nz

theorem argEnv_rn {as as' : List AV} (h : RnL D Y r as as') (j : Nat) : Rn D Y r (argEnv as j) (argEnv as' j) := by
  unfold argEnv
  rw [List.getD_eq_getElem?_getD, List.getD_eq_getElem?_getD]
  cases hx : as[j]? with
  | none => exact .any _
  | some x =>
    obtain ⟨y, hy, h1⟩ := h.get hx
    rw [hy]; exact h1

theorem resA_rn (sr : SR D Y r e h env H) {rs : List (Nat × Option (Bool × Nat))} {v : AV} (hv : resA rs e (hpOf h) = some v) : ∃ v', resA rs env H = some v' ∧ Rn D Y r v v' := by
  have one : ∀ {p : Nat × Option (Bool × Nat)} {v : AV}, resA1 e (hpOf h) p = some v → ∃ v', resA1 env H p = some v' ∧ Rn D Y r v v' := by
    intro p v hv
    obtain ⟨t, o⟩ := p
    cases o with
    | none => simp only [resA1, Option.some.injEq] at hv ⊢; subst hv; exact ⟨_, rfl, sr.re t⟩
    | some q =>
      obtain ⟨g, n⟩ := q
      simp only [resA1] at hv ⊢
      exact loadA_rn sr.sh (sr.re t) hv
  have lst : ∀ (rs : List (Nat × Option (Bool × Nat))) (vs : List AV), resL e (hpOf h) rs = some vs → ∃ vs', resL env H rs = some vs' ∧ RnL D Y r vs vs' := by
    intro rs
    induction rs with
    | nil => intro vs hv; simp only [resL, Option.some.injEq] at hv; subst hv; exact ⟨[], rfl, RnL.nil⟩
    | cons p rs ih =>
      intro vs hv
      simp only [resL] at hv ⊢
      split at hv
      · rename_i v vs0 h1 h2
        simp only [Option.some.injEq] at hv; subst hv
        obtain ⟨v', k1, k2⟩ := one h1
        obtain ⟨vs', k3, k4⟩ := ih vs0 h2
        rw [k1, k3]
        exact ⟨v' :: vs', rfl, RnL.cons k2 k4⟩
      · simp at hv
  unfold resA at hv ⊢
  split at hv
  · rename_i v0 h1
    simp only [Option.some.injEq] at hv; subst hv
    obtain ⟨vs', k1, k2⟩ := lst rs _ h1
    obtain ⟨y, ys, rfl, k3, k4⟩ := k2.inv
    obtain rfl := k4.nil_inv
    rw [k1]
    exact ⟨y, rfl, k3⟩
  · rename_i vs hne h1
    simp only [Option.some.injEq] at hv; subst hv
    obtain ⟨vs', k1, k2⟩ := lst rs _ h1
    rw [k1]
    refine ⟨.tup vs', ?_, .tup _ _ k2.1 k2.2⟩
    split
    · rename_i v0 h2
      simp only [Option.some.injEq] at h2
      subst h2
      exfalso
      have := k2.1
      cases vs with
      | nil => simp at this
      | cons a vs => cases vs with
        | nil => exact hne a rfl
        | cons b vs => simp at this
    · rename_i vs2 hne2 h2
      simp only [Option.some.injEq] at h2
      rw [h2]
    · rename_i h2; simp at h2
  · simp at hv

theorem putL_rn : ∀ (ps : List Nat) (as as' : List AV) (e env : Env), RnL D Y r as as' → (∀ j, Rn D Y r (e j) (env j)) → ∀ j, Rn D Y r (putL e ps as j) (putL env ps as' j)
  | [], as, as', e, env, _, re, j => by unfold putL; exact re j
  | p :: ps, [], as', e, env, h, re, j => by rw [h.nil_inv]; unfold putL; exact re j
  | p :: ps, a :: as, as', e, env, h, re, j => by
    obtain ⟨a', as2, rfl, h1, h2⟩ := h.inv
    unfold putL
    refine putL_rn ps as as2 _ _ h2 (fun i => ?_) j
    simp only [upd]
    split
    · exact h1
    · exact re i

theorem envL_rn : ∀ (L : List Nat) (vs : List AV) (env : Env), RnL D Y r vs (L.map env) → ∀ j, Rn D Y r (envL L vs j) (env j)
  | [], [], env, h, j => .any _
  | [], _ :: _, env, h, j => .any _
  | _ :: _, [], env, h, j => .any _
  | k :: L, v :: vs, env, h, j => by
    obtain ⟨a', as2, h0, h1, h2⟩ := h.inv
    simp only [List.map_cons, List.cons.injEq] at h0
    obtain ⟨rfl, rfl⟩ := h0
    simp only [envL]
    split
    · rename_i hj; subst hj; exact h1
    · exact envL_rn L vs env h2 j

/-- What is handed out. -/
theorem fin_sound (sh : SH D Y r h H) {k : Nat} {u u' : AV} (hu : Rn D Y r u u') : ∃ r', Agree k r r' ∧ SH D Y r' (keepH k (keepAcc k [u] h) h) H ∧ Rn D Y r' (rnA (keepS k (keepAcc k [u] h)) u) u' := by
  obtain ⟨h1, h2⟩ := keepAcc_ok k [u] h
  obtain ⟨k1, k2, k3⟩ := keep_sound sh h1 h2
  exact ⟨_, k1, k2, k3 _ _ hu⟩

/-- What is asked of a function's text. -/
structure XOk (P : Program) (D : Nat → Option XFn) : Prop where
  mixed : P.follows .mixedOrders = true
  is : ∀ K d, D K = some d → FnIs P K d.fn
  ok : ∀ K d, D K = some d → okX d.body = true
  sites : ∀ K d, D K = some d → sitesP d d.body

theorem run_sound (ok : XOk P D) : ∀ (n : Nat) (B : Base) (Y : Nat → Option YI), YOk P B D Y → FnS P B D Y (runX D n) ∧ YS P B D Y (runYX D n) := by
  intro n
  induction n with
  | zero =>
    intro B Y hY
    exact ⟨fun r h H K as as' v h' _ _ hx => by simp [runX] at hx, fun r h H fv fv' as as' v h' _ _ _ hx => by simp [runYX] at hx⟩
  | succ n ih =>
    intro B Y hY
    refine ⟨fun r h H K as as' v h' sh hA hx => ?_, fun r h H fv fv' as as' v h' sh hfv hA hx => ?_⟩
    · simp only [runX] at hx
      split at hx
      · simp at hx
      · rename_i d hD
        split at hx
        · rename_i hN
          have main : ∀ (as1 as1' : List AV), RnL D Y r as1 as1' → as1.length ≤ d.N → (match execX (runX D n) (runYX D n) K h.length n none d.body (argEnv as1) h with
              | some (.exit _, _, _) => none
              | some (_, e, h') => (resA d.res e (hpOf h')).map fun v => finX d.ownR h.length v h'
              | none => none) = some (v, h') → FnW B P K as1' H (PostR D Y r v h') := by
            intro as1 as1' hA1 hN1 hx
            have tail : ∀ (x : DX) (e1 : Env) (h1 : XH), (match x with | .exit _ => False | _ => True) → (resA d.res e1 (hpOf h1)).map (fun v => finX d.ownR h.length v h1) = some (v, h') → execX (runX D n) (runYX D n) K h.length n none d.body (argEnv as1) h = some (x, e1, h1) →
                FnW B P K as1' H (PostR D Y r v h') := by
              intro x e1 h1 hxn hres hex
              simp only [Option.map_eq_some_iff] at hres
              obtain ⟨v0, hv0, hfin⟩ := hres
              refine FnW.shift (FnW.of (ok.is K d hD) (by rw [← hA1.1]; exact hN1) ?_)
              refine exec_sound hD ok.mixed ih h.length n none none d.body B Y r (argEnv as1) h (argEnv as1') H x e1 h1 _ hY (ok.ok K d hD) (ok.sites K d hD) rfl ⟨sh, argEnv_rn hA1⟩ hex ?_
              intro r1 env1 H1 ha1 sr1
              have goal : optW (resA d.res env1 H1) fun v => ∃ v' H'', Shift (upd anyE 0 v) H1 (upd anyE 0 v') H'' ∧ PostR D Y r (finX d.ownR h.length v0 h1).1 (finX d.ownR h.length v0 h1).2 v' H'' := by
                obtain ⟨v0', k1, k2⟩ := resA_rn sr1 hv0
                rw [k1, optW_some]
                have sr2 : SR D Y r1 (upd anyE 0 v0) h1 (upd anyE 0 v0') H1 := ⟨sr1.sh, fun j => by
                  simp only [upd]
                  split
                  · exact k2
                  · exact .any _⟩
                have post : ∀ (u u' : AV) (h2 : XH) (H2 : Hp), SH D Y r1 h2 H2 → Rn D Y r1 u u' → PostR D Y r (rnA (keepS h.length (keepAcc h.length [u] h2)) u) (keepH h.length (keepAcc h.length [u] h2) h2) u' H2 := by
                  intro u u' h2 H2 s1 s2
                  obtain ⟨r2, m1, m2, m3⟩ := fin_sound s1 s2 (k := h.length)
                  exact ⟨r2, fun b c hb => m1 b c (sh.dom b c hb) (ha1 b c (sh.dom b c hb) hb), m2, m3⟩
                unfold finX
                cases d.ownR with
                | true =>
                  simp only [if_true]
                  exact ⟨v0', H1, Shift.le (Le.refl _), by
                    have := post v0 v0' h1 H1 sr1.sh k2
                    simpa [upd] using this⟩
                | false =>
                  simp only [Bool.false_eq_true, if_false]
                  obtain ⟨env2, H2, s1, s2⟩ := fzNs_sound (slN v0) _ _ _ _ sr2
                  have hz := (s2.re 0).nz
                  refine ⟨nzA (env2 0), H2, s1.trans ?_, post _ _ _ _ s2.sh hz⟩
                  intro F w a st re
                  refine ⟨F, Ext.refl _ _ _, st, fun j => ?_⟩
                  simp only [upd]
                  split
                  · rename_i hj; subst hj; exact (re 0).nz
                  · exact .any _
              have goal' : fnQ d.res (fun v_1 H' => ∃ v' H'', Shift (upd anyE 0 v_1) H' (upd anyE 0 v') H'' ∧ PostR D Y r v h' v' H'') x env1 H1 := by
                rw [hfin] at goal
                cases x with
                | exit id => exact hxn.elim
                | normal => exact goal
                | ret => exact goal
              exact goal'
            split at hx
            · simp at hx
            · rename_i x e1 h1 hne hex
              refine tail x e1 h1 ?_ hx hex
              cases x with
              | exit id => exact absurd rfl (hne id)
              | normal => trivial
              | ret => trivial
            · simp at hx
          cases hown : d.ownA with
          | true =>
            rw [hown] at hx
            simp only [if_true] at hx
            exact main as as' hA hN hx
          | false =>
            rw [hown] at hx
            simp only [Bool.false_eq_true, if_false] at hx
            exact FnW.nz (main _ _ hA.nz (by rw [nzL_map]; simpa using hN) hx)
        · simp at hx
    · simp only [runYX] at hx
      split at hx
      · rename_i l
        cases hfv with
        | fn _ _ _ _ _ hf => exact absurd rfl (hf l)
        | yield _ c hr =>
        show YW B P c as' H _
        split at hx
        · rename_i K site vs hl
          split at hx
          · simp at hx
          · rename_i L ps a b hDs
            simp only [Option.bind_eq_some_iff] at hDs
            obtain ⟨d, hD, hsite⟩ := hDs
            split at hx
            · rename_i hlen
              split at hx
              · rename_i e1 h1 hex1
                split at hx
                · rename_i hst1
                  split at hx
                  · rename_i x e2 h2 hex2
                    split at hx
                    · rename_i hst2
                      simp only [Option.some.injEq] at hx
                      -- the loop
                      obtain ⟨c', i, o, g1, g2, g3, g4, vs', d', L', ps', a', b', g5, g6, g7, g8⟩ := sh.loopAt (l := l) (st := .ready) (by unfold loopSt; rw [hl])
                      rw [hr] at g1; simp only [Option.some.injEq] at g1; subst g1
                      rw [hl] at g5; simp only [Option.some.injEq, XB.loop.injEq, and_true] at g5
                      obtain ⟨rfl, rfl, rfl⟩ := g5
                      rw [hD] at g6; simp only [Option.some.injEq] at g6; subst g6
                      rw [hsite] at g7; simp only [Option.some.injEq, Prod.mk.injEq] at g7
                      obtain ⟨rfl, rfl, rfl, rfl⟩ := g7
                      simp only [LoopO] at g4
                      subst g4
                      obtain ⟨⟨q, hq⟩, prov⟩ := hY c i g2
                      have hrd : RdOk Y r h.length (some l) (some c) := ⟨sh.dom l c hr, c, i, q, hr, rfl, g2, hq⟩
                      obtain ⟨hs1, hs2⟩ : sitesP d a ∧ sitesP d b := by
                        have aux : ∀ (code : XCode), sitesP d code → ∀ s L ps a b, siteX code s = some (L, ps, a, b) → sitesP d a ∧ sitesP d b := by
                          intro code
                          induction code with
                          | seq a b iha ihb =>
                            intro hs s L ps a' b' h
                            simp only [siteX] at h
                            split at h
                            · rename_i r0 h0; simp only [Option.some.injEq] at h; subst h; exact iha hs.1 s _ _ _ _ h0
                            · exact ihb hs.2 s _ _ _ _ h
                          | cond c a b iha ihb =>
                            intro hs s L ps a' b' h
                            simp only [siteX] at h
                            split at h
                            · rename_i r0 h0; simp only [Option.some.injEq] at h; subst h; exact iha hs.1 s _ _ _ _ h0
                            · exact ihb hs.2 s _ _ _ _ h
                          | block id a iha => intro hs s L ps a' b' h; exact iha hs s _ _ _ _ (by simpa [siteX] using h)
                          | loop l a iha => intro hs s L ps a' b' h; exact iha hs s _ _ _ _ (by simpa [siteX] using h)
                          | scope a iha => intro hs s L ps a' b' h; exact iha hs s _ _ _ _ (by simpa [siteX] using h)
                          | rng s' L' f ps' a b iha ihb =>
                            intro hs s L ps a' b' h
                            simp only [siteX] at h
                            split at h
                            · simp only [Option.some.injEq, Prod.mk.injEq] at h
                              obtain ⟨rfl, rfl, rfl, rfl⟩ := h
                              exact hs.2
                            · split at h
                              · rename_i r0 h0; simp only [Option.some.injEq] at h; subst h; exact iha hs.2.1 s _ _ _ _ h0
                              · exact ihb hs.2.2 s _ _ _ _ h
                          | skip => intro hs s L ps a' b' h; simp [siteX] at h
                          | exit id => intro hs s L ps a' b' h; simp [siteX] at h
                          | ret => intro hs s L ps a' b' h; simp [siteX] at h
                          | reg fz dr ops => intro hs s L ps a' b' h; simp [siteX] at h
                        exact aux d.body (ok.sites _ d hD) _ _ _ _ _ hsite
                      obtain ⟨hok1, hok2⟩ : okX a = true ∧ okX b = true := by
                        have aux : ∀ (code : XCode), okX code = true → ∀ s L ps a b, siteX code s = some (L, ps, a, b) → okX a = true ∧ okX b = true := by
                          intro code
                          induction code with
                          | seq a b iha ihb =>
                            intro hs s L ps a' b' h
                            simp only [okX, Bool.and_eq_true] at hs
                            simp only [siteX] at h
                            split at h
                            · rename_i r0 h0; simp only [Option.some.injEq] at h; subst h; exact iha hs.1 s _ _ _ _ h0
                            · exact ihb hs.2 s _ _ _ _ h
                          | cond c a b iha ihb =>
                            intro hs s L ps a' b' h
                            simp only [okX, Bool.and_eq_true] at hs
                            simp only [siteX] at h
                            split at h
                            · rename_i r0 h0; simp only [Option.some.injEq] at h; subst h; exact iha hs.2.1 s _ _ _ _ h0
                            · exact ihb hs.2.2 s _ _ _ _ h
                          | block id a iha => intro hs s L ps a' b' h; exact iha (by simpa [okX] using hs) s _ _ _ _ (by simpa [siteX] using h)
                          | loop l a iha => intro hs s L ps a' b' h; exact iha (by simpa [okX] using hs) s _ _ _ _ (by simpa [siteX] using h)
                          | scope a iha => intro hs s L ps a' b' h; exact iha (by simpa [okX] using hs) s _ _ _ _ (by simpa [siteX] using h)
                          | rng s' L' f ps' a b iha ihb =>
                            intro hs s L ps a' b' h
                            simp only [okX, Bool.and_eq_true] at hs
                            simp only [siteX] at h
                            split at h
                            · simp only [Option.some.injEq, Prod.mk.injEq] at h
                              obtain ⟨rfl, rfl, rfl, rfl⟩ := h
                              exact hs.2
                            · split at h
                              · rename_i r0 h0; simp only [Option.some.injEq] at h; subst h; exact iha hs.2.1 s _ _ _ _ h0
                              · exact ihb hs.2.2 s _ _ _ _ h
                          | skip => intro hs s L ps a' b' h; simp [siteX] at h
                          | exit id => intro hs s L ps a' b' h; simp [siteX] at h
                          | ret => intro hs s L ps a' b' h; simp [siteX] at h
                          | reg fz dr ops => intro hs s L ps a' b' h; simp [siteX] at h
                        exact aux d.body (ok.ok _ d hD) _ _ _ _ _ hsite
                      refine prov d L ps a b hD hsite B (Up.refl _ _) as' H _ g3 (by rw [← hA.1]; exact hlen) ?_
                      refine exec_sound hD ok.mixed ih h.length n (some l) (some c) a B Y r _ h _ H .normal e1 h1 _ hY hok1 hs1 hrd ⟨sh, putL_rn ps as as' _ _ hA (envL_rn L vs i.env g8)⟩ hex1 ?_
                      intro r1 env1 H1 ha1 sr1
                      obtain ⟨c1, i1, o1, m1, m2, m3, m4, _⟩ := sr1.sh.loopAt hst1
                      have hr1 : r1 l = some c := ha1 l c (sh.dom l c hr) hr
                      rw [hr1] at m1; simp only [Option.some.injEq] at m1; subst m1
                      rw [g2] at m2; simp only [Option.some.injEq] at m2; subst m2
                      simp only [LoopO] at m4
                      subst m4
                      refine ⟨rfl, m3, ?_⟩
                      have sh1' := sr1.sh.loopTo (st' := .busy) (o := i.oB) hst1 hr1 g2 rfl
                      refine exec_sound hD ok.mixed ih h.length n (some l) (some c) b B Y r1 e1 _ env1 _ x e2 h2 _ hY hok2 hs2 (hrd.agree ha1) ⟨sh1', sr1.re⟩ hex2 ?_
                      intro r2 env2 H2 ha2 sr2
                      obtain ⟨c2, i2, o2, p1, p2, p3, p4, _⟩ := sr2.sh.loopAt hst2
                      have hr2 : r2 l = some c := ha2 l c (sh.dom l c hr) hr1
                      rw [hr2] at p1; simp only [Option.some.injEq] at p1; subst p1
                      rw [g2] at p2; simp only [Option.some.injEq] at p2; subst p2
                      simp only [LoopO] at p4
                      subst p4
                      refine ⟨p3, ?_⟩
                      have post : ∀ (bv : Bool) (st' : LSt) (o : Obj), LoopO i st' o → PostR D Y r (finX true h.length (.bool bv) (loopTo h2 l st')).1 (finX true h.length (.bool bv) (loopTo h2 l st')).2 (.bool bv) (hset H2 c (.obj true o)) := by
                        intro bv st' o ho
                        have sh2' := sr2.sh.loopTo (st' := st') (o := o) hst2 hr2 g2 ho
                        obtain ⟨r3, s1, s2, s3⟩ := fin_sound sh2' (k := h.length) (u := .bool bv) (.bool bv)
                        refine ⟨r3, fun b c hb => s1 b c (sh.dom b c hb) (ha2 b c (sh.dom b c hb) (ha1 b c (sh.dom b c hb) hb)), ?_, ?_⟩
                        · simpa [finX, upd] using s2
                        · simpa [finX, upd] using s3
                      cases x with
                      | normal =>
                        have := post true .ready i.oR rfl
                        simp only at hx
                        rw [hx] at this
                        exact this
                      | ret =>
                        have := post false (.done .ret) (i.oD .ret) rfl
                        simp only at hx
                        rw [hx] at this
                        exact this
                      | exit id =>
                        have := post false (.done (.exit id)) (i.oD (.exit id)) rfl
                        simp only at hx
                        rw [hx] at this
                        exact this
                    · simp at hx
                  · simp at hx
                · simp at hx
              · simp at hx
            · simp at hx
        · simp at hx
      · simp at hx
end
end Go.DL
