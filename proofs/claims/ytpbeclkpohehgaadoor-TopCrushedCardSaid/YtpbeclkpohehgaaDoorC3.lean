/- Parts of a proof, joined: XD XE XR XS XF XG XT. No statement of the seed is proved here. -/
import Derived.Carry
import Derived.OpenShut
import Derived.ChangeArms
import Derived.DataReads
import Derived.ChangeOld
import Derived.ChangeShapes
import Derived.Test.YtpbeclkpohehgaaDoorC2
set_option linter.unusedSimpArgs false
set_option linter.unusedVariables false
set_option linter.unusedSectionVars false
namespace Go.DL
section
variable {P : Program} {B : Base} {D : Nat → Option XFn} {Y : Nat → Option YI} {r : Nat → Option Nat} {e env : Env} {h : XH} {H : Hp}

theorem argEnv_rn {as as' : List AV} (h : RnL D Y r as as') (j : Nat) : Rn D Y r (argEnv as j) (argEnv as' j) := by
  unfold argEnv
  rw [List.getD_eq_getElem?_getD,List.getD_eq_getElem?_getD]
  cases hx : as[j]? with
  | none => exact .any _
  | some x =>
    obtain ⟨y,hy,h1⟩ := h.get hx
    rw [hy]; exact h1

theorem resA_rn (sr : SR D Y r e h env H) {rs : List (Nat × Option (Bool × Nat))} {v : AV} (hv : resA rs e (hpOf h) = some v) : ∃ v',resA rs env H = some v' ∧ Rn D Y r v v' := by
  have one : ∀ {p : Nat × Option (Bool × Nat)} {v : AV},resA1 e (hpOf h) p = some v → ∃ v',resA1 env H p = some v' ∧ Rn D Y r v v' := by
    intro p v hv
    obtain ⟨t,o⟩ := p
    cases o with
    | none => simp only [resA1,Option.some.injEq] at hv ⊢; subst hv; exact ⟨_,rfl,sr.re t⟩
    | some q =>
      obtain ⟨g,n⟩ := q
      simp only [resA1] at hv ⊢
      exact loadA_rn sr.sh (sr.re t) hv
  have lst : ∀ (rs : List (Nat × Option (Bool × Nat))) (vs : List AV),resL e (hpOf h) rs = some vs → ∃ vs',resL env H rs = some vs' ∧ RnL D Y r vs vs' := by
    intro rs
    induction rs with
    | nil => intro vs hv; simp only [resL,Option.some.injEq] at hv; subst hv; exact ⟨[],rfl,RnL.nil⟩
    | cons p rs ih =>
      intro vs hv
      simp only [resL] at hv ⊢
      split at hv
      · rename_i v vs0 h1 h2
        simp only [Option.some.injEq] at hv; subst hv
        obtain ⟨v',k1,k2⟩ := one h1
        obtain ⟨vs',k3,k4⟩ := ih vs0 h2
        rw [k1,k3]
        exact ⟨v' :: vs',rfl,RnL.cons k2 k4⟩
      · simp at hv
  unfold resA at hv ⊢
  split at hv
  · rename_i v0 h1
    simp only [Option.some.injEq] at hv; subst hv
    obtain ⟨vs',k1,k2⟩ := lst rs _ h1
    obtain ⟨y,ys,rfl,k3,k4⟩ := k2.inv
    obtain rfl := k4.nil_inv
    rw [k1]
    exact ⟨y,rfl,k3⟩
  · rename_i vs hne h1
    simp only [Option.some.injEq] at hv; subst hv
    obtain ⟨vs',k1,k2⟩ := lst rs _ h1
    rw [k1]
    refine ⟨.tup vs',?_,.tup _ _ k2.1 k2.2⟩
    split
    · rename_i v0 h2
      simp only [Option.some.injEq] at h2
      subst h2
      exfalso
      have := k2.1
      cases vs with
      | nil => simp at this
      | cons a vs => cases vs with
        | nil => exact hne a rfl
        | cons b vs => simp at this
    · rename_i vs2 hne2 h2
      simp only [Option.some.injEq] at h2
      rw [h2]
    · rename_i h2; simp at h2
  · simp at hv

theorem putL_rn : ∀ (ps : List Nat) (as as' : List AV) (e env : Env),RnL D Y r as as' → (∀ j,Rn D Y r (e j) (env j)) → ∀ j,Rn D Y r (putL e ps as j) (putL env ps as' j)
  | [],as,as',e,env,_,re,j => by unfold putL; exact re j
  | p :: ps,[],as',e,env,h,re,j => by rw [h.nil_inv]; unfold putL; exact re j
  | p :: ps,a :: as,as',e,env,h,re,j => by
    obtain ⟨a',as2,rfl,h1,h2⟩ := h.inv
    unfold putL
    refine putL_rn ps as as2 _ _ h2 (fun i => ?_) j
    simp only [upd]
    split
    · exact h1
    · exact re i

theorem envL_rn : ∀ (L : List Nat) (vs : List AV) (env : Env),RnL D Y r vs (L.map env) → ∀ j,Rn D Y r (envL L vs j) (env j)
  | [],[],env,h,j => .any _
  | [],_ :: _,env,h,j => .any _
  | _ :: _,[],env,h,j => .any _
  | k :: L,v :: vs,env,h,j => by
    obtain ⟨a',as2,h0,h1,h2⟩ := h.inv
    simp only [List.map_cons,List.cons.injEq] at h0
    obtain ⟨rfl,rfl⟩ := h0
    simp only [envL]
    split
    · rename_i hj; subst hj; exact h1
    · exact envL_rn L vs env h2 j

theorem fin_sound (sh : SH D Y r h H) {k : Nat} {u u' : AV} (hu : Rn D Y r u u') : ∃ r',Agree k r r' ∧ SH D Y r' (keepH k (keepAcc k [u] h) h) H ∧ Rn D Y r' (rnA (keepS k (keepAcc k [u] h)) u) u' := by
  obtain ⟨h1,h2⟩ := keepAcc_ok k [u] h
  obtain ⟨k1,k2,k3⟩ := keep_sound sh h1 h2
  exact ⟨_,k1,k2,k3 _ _ hu⟩

structure XOk (P : Program) (D : Nat → Option XFn) : Prop where
  mixed : P.follows .mixedOrders = true
  is : ∀ K d,D K = some d → FnIs P K d.fn
  ok : ∀ K d,D K = some d → okX d.body = true
  sites : ∀ K d,D K = some d → sitesP d d.body

theorem run_sound (ok : XOk P D) : ∀ (n : Nat) (B : Base) (Y : Nat → Option YI),YOk P B D Y → FnS P B D Y (runX D n) ∧ YS P B D Y (runYX D n) := by
  intro n
  induction n with
  | zero =>
    intro B Y hY
    exact ⟨fun r h H K as as' v h' _ _ hx => by simp [runX] at hx,fun r h H fv fv' as as' v h' _ _ _ hx => by simp [runYX] at hx⟩
  | succ n ih =>
    intro B Y hY
    refine ⟨fun r h H K as as' v h' sh hA hx => ?_,fun r h H fv fv' as as' v h' sh hfv hA hx => ?_⟩
    · simp only [runX] at hx
      split at hx
      · simp at hx
      · rename_i d hD
        split at hx
        · rename_i hN
          have main : ∀ (as1 as1' : List AV),RnL D Y r as1 as1' → as1.length ≤ d.N → (match execX (runX D n) (runYX D n) K h.length n none d.body (argEnv as1) h with
              | some (.exit _,_,_) => none
              | some (_,e,h') => (resA d.res e (hpOf h')).map fun v => finX d.ownR h.length v h'
              | none => none) = some (v,h') → FnW B P K as1' H (PostR D Y r v h') := by
            intro as1 as1' hA1 hN1 hx
            have tail : ∀ (x : DX) (e1 : Env) (h1 : XH),(match x with | .exit _ => False | _ => True) → (resA d.res e1 (hpOf h1)).map (fun v => finX d.ownR h.length v h1) = some (v,h') → execX (runX D n) (runYX D n) K h.length n none d.body (argEnv as1) h = some (x,e1,h1) →
                FnW B P K as1' H (PostR D Y r v h') := by
              intro x e1 h1 hxn hres hex
              simp only [Option.map_eq_some_iff] at hres
              obtain ⟨v0,hv0,hfin⟩ := hres
              refine FnW.shift (FnW.of (ok.is K d hD) (by rw [← hA1.1]; exact hN1) ?_)
              refine exec_sound hD ok.mixed ih h.length n none none d.body B Y r (argEnv as1) h (argEnv as1') H x e1 h1 _ hY (ok.ok K d hD) (ok.sites K d hD) rfl ⟨sh,argEnv_rn hA1⟩ hex ?_
              intro r1 env1 H1 ha1 sr1
              have goal : optW (resA d.res env1 H1) fun v => ∃ v' H'',Shift (upd anyE 0 v) H1 (upd anyE 0 v') H'' ∧ PostR D Y r (finX d.ownR h.length v0 h1).1 (finX d.ownR h.length v0 h1).2 v' H'' := by
                obtain ⟨v0',k1,k2⟩ := resA_rn sr1 hv0
                rw [k1,optW_some]
                have sr2 : SR D Y r1 (upd anyE 0 v0) h1 (upd anyE 0 v0') H1 := ⟨sr1.sh,fun j => by
                  simp only [upd]
                  split
                  · exact k2
                  · exact .any _⟩
                have post : ∀ (u u' : AV) (h2 : XH) (H2 : Hp),SH D Y r1 h2 H2 → Rn D Y r1 u u' → PostR D Y r (rnA (keepS h.length (keepAcc h.length [u] h2)) u) (keepH h.length (keepAcc h.length [u] h2) h2) u' H2 := by
                  intro u u' h2 H2 s1 s2
                  obtain ⟨r2,m1,m2,m3⟩ := fin_sound s1 s2 (k := h.length)
                  exact ⟨r2,fun b c hb => m1 b c (sh.dom b c hb) (ha1 b c (sh.dom b c hb) hb),m2,m3⟩
                unfold finX
                cases d.ownR with
                | true =>
                  simp only [if_true]
                  exact ⟨v0',H1,Shift.le (Le.refl _),by
                    have := post v0 v0' h1 H1 sr1.sh k2
                    simpa [upd] using this⟩
                | false =>
                  simp only [Bool.false_eq_true,if_false]
                  obtain ⟨env2,H2,s1,s2⟩ := fzNs_sound (deepN h1 2 (slN v0)) _ _ _ _ sr2
                  have hz := (s2.re 0).nz
                  refine ⟨nzA (env2 0),H2,s1.trans ?_,post _ _ _ _ s2.sh hz⟩
                  intro F w a st re
                  refine ⟨F,Ext.refl _ _ _,st,fun j => ?_,re.gi⟩
                  simp only [upd]
                  split
                  · rename_i hj; subst hj; exact (re.rv 0).nz
                  · exact .any _
              have goal' : fnQ d.res (fun v_1 H' => ∃ v' H'',Shift (upd anyE 0 v_1) H' (upd anyE 0 v') H'' ∧ PostR D Y r v h' v' H'') x env1 H1 := by
                rw [hfin] at goal
                cases x with
                | exit id => exact hxn.elim
                | normal => exact goal
                | ret => exact goal
              exact goal'
            split at hx
            · simp at hx
            · rename_i x e1 h1 hne hex
              refine tail x e1 h1 ?_ hx hex
              cases x with
              | exit id => exact absurd rfl (hne id)
              | normal => trivial
              | ret => trivial
            · simp at hx
          cases hown : d.ownA with
          | true =>
            rw [hown] at hx
            simp only [if_true] at hx
            exact main as as' hA hN hx
          | false =>
            rw [hown] at hx
            simp only [Bool.false_eq_true,if_false] at hx
            exact FnW.nz (main _ _ hA.nz (by rw [nzL_map]; simpa using hN) hx)
        · simp at hx
    · simp only [runYX] at hx
      split at hx
      · rename_i l
        cases hfv with
        | fn _ _ _ _ _ hf => exact absurd rfl (hf l)
        | yield _ c hr =>
        show YW B P c as' H _
        split at hx
        · rename_i K site vs hl
          split at hx
          · simp at hx
          · rename_i L ps a b hDs
            simp only [Option.bind_eq_some_iff] at hDs
            obtain ⟨d,hD,hsite⟩ := hDs
            split at hx
            · rename_i hlen
              split at hx
              · rename_i e1 h1 hex1
                split at hx
                · rename_i hst1
                  split at hx
                  · rename_i x e2 h2 hex2
                    split at hx
                    · rename_i hst2
                      simp only [Option.some.injEq] at hx
                      obtain ⟨c',i,o,g1,g2,g3,g4,vs',d',L',ps',a',b',g5,g6,g7,g8⟩ := sh.loopAt (l := l) (st := .ready) (by unfold loopSt; rw [hl])
                      rw [hr] at g1; simp only [Option.some.injEq] at g1; subst g1
                      rw [hl] at g5; simp only [Option.some.injEq,XB.loop.injEq,and_true] at g5
                      obtain ⟨rfl,rfl,rfl⟩ := g5
                      rw [hD] at g6; simp only [Option.some.injEq] at g6; subst g6
                      rw [hsite] at g7; simp only [Option.some.injEq,Prod.mk.injEq] at g7
                      obtain ⟨rfl,rfl,rfl,rfl⟩ := g7
                      simp only [LoopO] at g4
                      subst g4
                      obtain ⟨⟨q,hq⟩,prov⟩ := hY c i g2
                      have hrd : RdOk Y r h.length (some l) (some c) := ⟨sh.dom l c hr,c,i,q,hr,rfl,g2,hq⟩
                      obtain ⟨hs1,hs2⟩ : sitesP d a ∧ sitesP d b := by
                        have aux : ∀ (code : XCode),sitesP d code → ∀ s L ps a b,siteX code s = some (L,ps,a,b) → sitesP d a ∧ sitesP d b := by
                          intro code
                          induction code with
                          | seq a b iha ihb =>
                            intro hs s L ps a' b' h
                            simp only [siteX] at h
                            split at h
                            · rename_i r0 h0; simp only [Option.some.injEq] at h; subst h; exact iha hs.1 s _ _ _ _ h0
                            · exact ihb hs.2 s _ _ _ _ h
                          | cond c a b iha ihb =>
                            intro hs s L ps a' b' h
                            simp only [siteX] at h
                            split at h
                            · rename_i r0 h0; simp only [Option.some.injEq] at h; subst h; exact iha hs.1 s _ _ _ _ h0
                            · exact ihb hs.2 s _ _ _ _ h
                          | block id a iha => intro hs s L ps a' b' h; exact iha hs s _ _ _ _ (by simpa [siteX] using h)
                          | loop l a iha => intro hs s L ps a' b' h; exact iha hs s _ _ _ _ (by simpa [siteX] using h)
                          | scope a iha => intro hs s L ps a' b' h; exact iha hs s _ _ _ _ (by simpa [siteX] using h)
                          | rng s' L' f ps' a b iha ihb =>
                            intro hs s L ps a' b' h
                            simp only [siteX] at h
                            split at h
                            · simp only [Option.some.injEq,Prod.mk.injEq] at h
                              obtain ⟨rfl,rfl,rfl,rfl⟩ := h
                              exact hs.2
                            · split at h
                              · rename_i r0 h0; simp only [Option.some.injEq] at h; subst h; exact iha hs.2.1 s _ _ _ _ h0
                              · exact ihb hs.2.2 s _ _ _ _ h
                          | skip => intro hs s L ps a' b' h; simp [siteX] at h
                          | exit id => intro hs s L ps a' b' h; simp [siteX] at h
                          | ret => intro hs s L ps a' b' h; simp [siteX] at h
                          | reg fz dr ops => intro hs s L ps a' b' h; simp [siteX] at h
                        exact aux d.body (ok.sites _ d hD) _ _ _ _ _ hsite
                      obtain ⟨hok1,hok2⟩ : okX a = true ∧ okX b = true := by
                        have aux : ∀ (code : XCode),okX code = true → ∀ s L ps a b,siteX code s = some (L,ps,a,b) → okX a = true ∧ okX b = true := by
                          intro code
                          induction code with
                          | seq a b iha ihb =>
                            intro hs s L ps a' b' h
                            simp only [okX,Bool.and_eq_true] at hs
                            simp only [siteX] at h
                            split at h
                            · rename_i r0 h0; simp only [Option.some.injEq] at h; subst h; exact iha hs.1 s _ _ _ _ h0
                            · exact ihb hs.2 s _ _ _ _ h
                          | cond c a b iha ihb =>
                            intro hs s L ps a' b' h
                            simp only [okX,Bool.and_eq_true] at hs
                            simp only [siteX] at h
                            split at h
                            · rename_i r0 h0; simp only [Option.some.injEq] at h; subst h; exact iha hs.2.1 s _ _ _ _ h0
                            · exact ihb hs.2.2 s _ _ _ _ h
                          | block id a iha => intro hs s L ps a' b' h; exact iha (by simpa [okX] using hs) s _ _ _ _ (by simpa [siteX] using h)
                          | loop l a iha => intro hs s L ps a' b' h; exact iha (by simpa [okX] using hs) s _ _ _ _ (by simpa [siteX] using h)
                          | scope a iha => intro hs s L ps a' b' h; exact iha (by simpa [okX] using hs) s _ _ _ _ (by simpa [siteX] using h)
                          | rng s' L' f ps' a b iha ihb =>
                            intro hs s L ps a' b' h
                            simp only [okX,Bool.and_eq_true] at hs
                            simp only [siteX] at h
                            split at h
                            · simp only [Option.some.injEq,Prod.mk.injEq] at h
                              obtain ⟨rfl,rfl,rfl,rfl⟩ := h
                              exact hs.2
                            · split at h
                              · rename_i r0 h0; simp only [Option.some.injEq] at h; subst h; exact iha hs.2.1 s _ _ _ _ h0
                              · exact ihb hs.2.2 s _ _ _ _ h
                          | skip => intro hs s L ps a' b' h; simp [siteX] at h
                          | exit id => intro hs s L ps a' b' h; simp [siteX] at h
                          | ret => intro hs s L ps a' b' h; simp [siteX] at h
                          | reg fz dr ops => intro hs s L ps a' b' h; simp [siteX] at h
                        exact aux d.body (ok.ok _ d hD) _ _ _ _ _ hsite
                      refine prov d L ps a b hD hsite B (Up.refl _ _) as' H _ g3 (by rw [← hA.1]; exact hlen) ?_
                      refine exec_sound hD ok.mixed ih h.length n (some l) (some c) a B Y r _ h _ H .normal e1 h1 _ hY hok1 hs1 hrd ⟨sh,putL_rn ps as as' _ _ hA (envL_rn L vs i.env g8)⟩ hex1 ?_
                      intro r1 env1 H1 ha1 sr1
                      obtain ⟨c1,i1,o1,m1,m2,m3,m4,_⟩ := sr1.sh.loopAt hst1
                      have hr1 : r1 l = some c := ha1 l c (sh.dom l c hr) hr
                      rw [hr1] at m1; simp only [Option.some.injEq] at m1; subst m1
                      rw [g2] at m2; simp only [Option.some.injEq] at m2; subst m2
                      simp only [LoopO] at m4
                      subst m4
                      refine ⟨rfl,m3,?_⟩
                      have sh1' := sr1.sh.loopTo (st' := .busy) (o := i.oB) hst1 hr1 g2 rfl
                      refine exec_sound hD ok.mixed ih h.length n (some l) (some c) b B Y r1 e1 _ env1 _ x e2 h2 _ hY hok2 hs2 (hrd.agree ha1) ⟨sh1',sr1.re⟩ hex2 ?_
                      intro r2 env2 H2 ha2 sr2
                      obtain ⟨c2,i2,o2,p1,p2,p3,p4,_⟩ := sr2.sh.loopAt hst2
                      have hr2 : r2 l = some c := ha2 l c (sh.dom l c hr) hr1
                      rw [hr2] at p1; simp only [Option.some.injEq] at p1; subst p1
                      rw [g2] at p2; simp only [Option.some.injEq] at p2; subst p2
                      simp only [LoopO] at p4
                      subst p4
                      refine ⟨p3,?_⟩
                      have post : ∀ (bv : Bool) (st' : LSt) (o : Obj),LoopO i st' o → PostR D Y r (finX true h.length (.bool bv) (loopTo h2 l st')).1 (finX true h.length (.bool bv) (loopTo h2 l st')).2 (.bool bv) (hset H2 c (.obj true o)) := by
                        intro bv st' o ho
                        have sh2' := sr2.sh.loopTo (st' := st') (o := o) hst2 hr2 g2 ho
                        obtain ⟨r3,s1,s2,s3⟩ := fin_sound sh2' (k := h.length) (u := .bool bv) (.bool bv)
                        refine ⟨r3,fun b c hb => s1 b c (sh.dom b c hb) (ha2 b c (sh.dom b c hb) (ha1 b c (sh.dom b c hb) hb)),?_,?_⟩
                        · simpa [finX,upd] using s2
                        · simpa [finX,upd] using s3
                      cases x with
                      | normal =>
                        have := post true .ready i.oR rfl
                        simp only at hx
                        rw [hx] at this
                        exact this
                      | ret =>
                        have := post false (.done .ret) (i.oD .ret) rfl
                        simp only at hx
                        rw [hx] at this
                        exact this
                      | exit id =>
                        have := post false (.done (.exit id)) (i.oD (.exit id)) rfl
                        simp only at hx
                        rw [hx] at this
                        exact this
                    · simp at hx
                  · simp at hx
                · simp at hx
              · simp at hx
            · simp at hx
        · simp at hx
      · simp at hx
end
end Go.DL
namespace Go.DL

def noRng : XCode → Bool
  | .seq a b | .cond _ a b => noRng a && noRng b
  | .block _ a | .loop _ a | .scope a => noRng a
  | .rng .. => false
  | _ => true
theorem sitesP_of {d : XFn} : ∀ {c : XCode},noRng c = true → sitesP d c
  | .seq a b,h => by simp only [noRng,Bool.and_eq_true] at h; exact ⟨sitesP_of h.1,sitesP_of h.2⟩
  | .cond c a b,h => by simp only [noRng,Bool.and_eq_true] at h; exact ⟨sitesP_of h.1,sitesP_of h.2⟩
  | .block id a,h => sitesP_of (c := a) (by simpa [noRng] using h)
  | .loop l a,h => sitesP_of (c := a) (by simpa [noRng] using h)
  | .scope a,h => sitesP_of (c := a) (by simpa [noRng] using h)
  | .rng ..,h => by simp [noRng] at h
  | .skip,_ => trivial
  | .exit _,_ => trivial
  | .ret,_ => trivial
  | .reg ..,_ => trivial

def LeR (f g : XRun) : Prop := ∀ K as h q,f K as h = some q → g K as h = some q
def LeY (f g : YRun) : Prop := ∀ v as h q,f v as h = some q → g v as h = some q
section
variable {run run' : XRun} {runY runY' : YRun}

theorem callX_mono (hr : LeR run run') (hy : LeY runY runY') {fv : AV} {as : List AV} {h : XH} {q : AV × XH} (hx : callX run runY fv as h = some q) : callX run' runY' fv as h = some q := by
  unfold callX at hx ⊢
  split at hx
  · simp only [Option.map_eq_some_iff] at hx ⊢
    obtain ⟨a,h1,h2⟩ := hx
    exact ⟨a,hr _ _ _ _ h1,h2⟩
  · simp only [Option.map_eq_some_iff] at hx ⊢
    obtain ⟨a,h1,h2⟩ := hx
    exact ⟨a,hy _ _ _ _ h1,h2⟩
  · simp at hx
theorem callQ_mono (hr : LeR run run') {fv : AV} {as : List AV} {h : XH} {q : AV} (hx : callQ run fv as h = some q) : callQ run' fv as h = some q := by
  unfold callQ at hx ⊢
  split at hx
  · simp only at hx ⊢
    split at hx
    · rename_i v hl h1
      rw [hr _ _ _ _ h1]; exact hx
    · simp at hx
  · simp at hx
theorem xcore_mono (hr : LeR run run') (hy : LeY runY runY') {d : Option Nat} {op : DOp} {e : Env} {h : XH} {q : Env × XH} (hx : xcore run runY d op e h = some q) : xcore run' runY' d op e h = some q := by
  cases op with
  | callf b f xs l =>
    cases b with
    | true =>
      simp only [xcore,Option.map_eq_some_iff] at hx ⊢
      obtain ⟨a,h1,h2⟩ := hx
      exact ⟨a,callQ_mono hr h1,h2⟩
    | false =>
      simp only [xcore,Option.map_eq_some_iff] at hx ⊢
      obtain ⟨a,h1,h2⟩ := hx
      exact ⟨a,callX_mono hr hy h1,h2⟩
  | _ => exact hx
theorem xops_mono (hr : LeR run run') (hy : LeY runY runY') : ∀ (ops : List DOper) (e : Env) (h : XH) (q : Env × XH),xops run runY ops e h = some q → xops run' runY' ops e h = some q
  | [],e,h,q,hx => hx
  | o :: ops,e,h,q,hx => by
    simp only [xops] at hx ⊢
    split at hx
    · simp only [Option.bind_eq_some_iff] at hx ⊢
      obtain ⟨s,h1,h2⟩ := hx
      exact ⟨s,xcore_mono hr hy h1,xops_mono hr hy ops _ _ q h2⟩
    · exact xops_mono hr hy ops _ _ q hx
    · simp at hx
theorem xopsD_mono (hr : LeR run run') (hy : LeY runY runY') : ∀ (ops : List DOper) (e : Env) (h : XH) (L : List (Nat × Nat)) (q : Env × XH),xopsD run runY ops e h L = some q → xopsD run' runY' ops e h L = some q
  | [],e,h,L,q,hx => hx
  | o :: ops,e,h,L,q,hx => by
    simp only [xopsD] at hx ⊢
    split at hx
    · split at hx
      · rename_i hl
        rw [if_pos hl]
        simp only [Option.bind_eq_some_iff] at hx ⊢
        obtain ⟨s,h1,h2⟩ := hx
        refine ⟨s,xcore_mono hr hy h1,?_⟩
        split at h2
        · rename_i hp; rw [if_pos hp]; exact xopsD_mono hr hy ops _ _ _ q h2
        · simp at h2
      · simp at hx
    · exact xopsD_mono hr hy ops _ _ _ q hx
    · simp at hx

theorem loopX_mono {step step' : Env → XH → Option (DX × Env × XH)} (hs : ∀ e h q,step e h = some q → step' e h = some q) {k : Nat} {L : List Nat} : ∀ (n m : Nat),n ≤ m → ∀ (e : Env) (h : XH) (q : DX × Env × XH),loopX step k L n e h = some q → loopX step' k L m e h = some q
  | 0,_,_,e,h,q,hx => by simp [loopX] at hx
  | n + 1,0,hnm,e,h,q,hx => by omega
  | n + 1,m + 1,hnm,e,h,q,hx => by
    simp only [loopX] at hx ⊢
    split at hx
    · rename_i e' h' h1
      rw [hs _ _ _ h1]
      exact loopX_mono hs n m (by omega) e' h' q hx
    · rename_i hne
      rw [hs _ _ _ hx]
      obtain ⟨x,e',h'⟩ := q
      cases x with
      | normal => exact absurd hx (hne e' h')
      | _ => rfl

theorem execX_mono (hr : LeR run run') (hy : LeY runY runY') {K k n m : Nat} (hnm : n ≤ m) {rd : Option Nat} : ∀ (c : XCode) (e : Env) (h : XH) (q : DX × Env × XH),execX run runY K k n rd c e h = some q → execX run' runY' K k m rd c e h = some q := by
  intro c
  induction c with
  | skip => intro e h q hx; exact hx
  | exit id => intro e h q hx; exact hx
  | ret => intro e h q hx; exact hx
  | reg fz draw ops =>
    intro e h q hx
    simp only [execX,Option.map_eq_some_iff] at hx ⊢
    obtain ⟨s,h1,h2⟩ := hx
    refine ⟨s,?_,h2⟩
    split at h1
    · rename_i hd; rw [if_pos hd]; exact xopsD_mono hr hy _ _ _ _ _ h1
    · rename_i hd; rw [if_neg hd]; exact xops_mono hr hy _ _ _ _ h1
  | seq a b iha ihb =>
    intro e h q hx
    simp only [execX] at hx ⊢
    split at hx
    · rename_i e1 h1 h2
      rw [iha _ _ _ h2]
      exact ihb _ _ _ hx
    · rename_i hne
      rw [iha _ _ _ hx]
      obtain ⟨x,e',h'⟩ := q
      cases x with
      | normal => exact absurd hx (hne e' h')
      | _ => rfl
  | cond c a b iha ihb =>
    intro e h q hx
    simp only [execX] at hx ⊢
    split at hx
    · exact iha _ _ _ hx
    · exact ihb _ _ _ hx
    · simp at hx
  | block id a iha =>
    intro e h q hx
    simp only [execX] at hx ⊢
    split at hx
    · rename_i j e1 h1 h2
      rw [iha _ _ _ h2]; exact hx
    · rename_i hne
      rw [iha _ _ _ hx]
      obtain ⟨x,e',h'⟩ := q
      cases x with
      | exit id => exact absurd hx (hne id e' h')
      | _ => rfl
  | scope a iha => intro e h q hx; exact iha _ _ _ hx
  | loop L a iha => intro e h q hx; exact loopX_mono iha n m hnm e h q hx
  | rng site L f ps a b _ _ =>
    intro e h q hx
    simp only [execX] at hx ⊢
    split at hx
    · rename_i hc
      rw [if_pos hc]
      split at hx
      · rename_i v h' h1
        rw [callX_mono hr hy h1]; exact hx
      · simp at hx
    · simp at hx
end

theorem runX_succ (D : Nat → Option XFn) : ∀ n,LeR (runX D n) (runX D (n + 1)) ∧ LeY (runYX D n) (runYX D (n + 1)) := by
  intro n
  induction n with
  | zero => exact ⟨fun K as h q hx => by simp [runX] at hx,fun v as h q hx => by simp [runYX] at hx⟩
  | succ n ih =>
    refine ⟨fun K as h q hx => ?_,fun v as h q hx => ?_⟩
    · rw [runX] at hx ⊢
      split at hx
      · simp at hx
      · rename_i d hd
        split at hx
        · rename_i hl
          rw [if_pos hl]
          split at hx
          · simp at hx
          · rename_i x e h' hne h1
            rw [execX_mono ih.1 ih.2 (Nat.le_succ n) _ _ _ _ h1]
            cases x with
            | exit id => exact absurd rfl (hne id)
            | _ => exact hx
          · simp at hx
        · simp at hx
    · simp only [runYX] at hx
      split at hx
      · rename_i l
        split at hx
        · rename_i K site vs hl
          rw [runYX]
          simp only [hl]
          split at hx
          · simp at hx
          · rename_i L ps a b h1
            split at hx
            · rename_i hc
              simp only [h1,hc,if_true]
              split at hx
              · rename_i e1 h1' h2
                rw [execX_mono ih.1 ih.2 (Nat.le_succ n) _ _ _ _ h2]
                simp only
                split at hx
                · rename_i hst
                  split at hx
                  · rename_i x e2 h2' h3
                    rw [execX_mono ih.1 ih.2 (Nat.le_succ n) _ _ _ _ h3]
                    exact hx
                  · simp at hx
                · simp at hx
              · simp at hx
            · simp at hx
        · simp at hx
      · simp at hx
theorem runX_le (D : Nat → Option XFn) {n m : Nat} (h : n ≤ m) : LeR (runX D n) (runX D m) ∧ LeY (runYX D n) (runYX D m) := by
  induction h with
  | refl => exact ⟨fun _ _ _ _ h => h,fun _ _ _ _ h => h⟩
  | step _ ih => exact ⟨fun K as h q hx => (runX_succ D _).1 _ _ _ _ (ih.1 _ _ _ _ hx),fun K as h q hx => (runX_succ D _).2 _ _ _ _ (ih.2 _ _ _ _ hx)⟩

section
variable {α β : Type}
def MonoS (f : Nat → Option α) : Prop := ∀ n m q,n ≤ m → f n = some q → f m = some q
noncomputable def lim (f : Nat → Option α) : Option α := open Classical in if h : ∃ q n,f n = some q then some h.choose else none
theorem lim_iff {f : Nat → Option α} (hm : MonoS f) {q : α} : lim f = some q ↔ ∃ n,f n = some q := by
  unfold lim
  constructor
  · intro h
    split at h
    · rename_i hx
      simp only [Option.some.injEq] at h
      rw [← h]; exact hx.choose_spec
    · simp at h
  · rintro ⟨n,hn⟩
    have hx : ∃ q n,f n = some q := ⟨q,n,hn⟩
    rw [dif_pos hx]
    obtain ⟨m,h2⟩ := hx.choose_spec
    have h3 := hm n (max n m) q (by omega) hn
    have h4 := hm m (max n m) _ (by omega) h2
    rw [h3] at h4
    exact h4.symm
theorem opt_ext {x y : Option α} (h : ∀ q,x = some q ↔ y = some q) : x = y := by
  cases x with
  | none => cases y with
    | none => rfl
    | some b => exact absurd ((h b).2 rfl) (by simp)
  | some a => exact ((h a).1 rfl).symm
end

variable (D : Nat → Option XFn)
noncomputable def runW : XRun := fun K as h => lim fun n => runX D n K as h
noncomputable def runYW : YRun := fun v as h => lim fun n => runYX D n v as h
noncomputable def execW (K k : Nat) (rd : Option Nat) (c : XCode) (e : Env) (h : XH) : Option (DX × Env × XH) := lim fun n => execX (runX D n) (runYX D n) K k n rd c e h

theorem runX_monoS (K : Nat) (as : List AV) (h : XH) : MonoS fun n => runX D n K as h := fun _ _ _ hnm hx => (runX_le D hnm).1 _ _ _ _ hx
theorem runYX_monoS (v : AV) (as : List AV) (h : XH) : MonoS fun n => runYX D n v as h := fun _ _ _ hnm hx => (runX_le D hnm).2 _ _ _ _ hx
theorem execX_monoS (K k : Nat) (rd : Option Nat) (c : XCode) (e : Env) (h : XH) : MonoS fun n => execX (runX D n) (runYX D n) K k n rd c e h :=
  fun _ _ _ hnm hx => execX_mono (runX_le D hnm).1 (runX_le D hnm).2 hnm _ _ _ _ hx
variable {D}
theorem runW_iff {K : Nat} {as : List AV} {h : XH} {q : AV × XH} : runW D K as h = some q ↔ ∃ n,runX D n K as h = some q := lim_iff (runX_monoS D K as h)
theorem runYW_iff {v : AV} {as : List AV} {h : XH} {q : AV × XH} : runYW D v as h = some q ↔ ∃ n,runYX D n v as h = some q := lim_iff (runYX_monoS D v as h)
theorem execW_iff {K k : Nat} {rd : Option Nat} {c : XCode} {e : Env} {h : XH} {q : DX × Env × XH} : execW D K k rd c e h = some q ↔ ∃ n,execX (runX D n) (runYX D n) K k n rd c e h = some q := lim_iff (execX_monoS D K k rd c e h)
theorem leR_W (n : Nat) : LeR (runX D n) (runW D) := fun _ _ _ _ hx => runW_iff.2 ⟨n,hx⟩
theorem leY_W (n : Nat) : LeY (runYX D n) (runYW D) := fun _ _ _ _ hx => runYW_iff.2 ⟨n,hx⟩

theorem callX_lim {fv : AV} {as : List AV} {h : XH} {q : AV × XH} : callX (runW D) (runYW D) fv as h = some q ↔ ∃ n,callX (runX D n) (runYX D n) fv as h = some q := by
  constructor
  · intro hx
    unfold callX at hx
    split at hx
    · simp only [Option.map_eq_some_iff] at hx
      obtain ⟨a,h1,h2⟩ := hx
      obtain ⟨n,h1⟩ := runW_iff.1 h1
      exact ⟨n,by simp only [callX,Option.map_eq_some_iff]; exact ⟨a,h1,h2⟩⟩
    · simp only [Option.map_eq_some_iff] at hx
      obtain ⟨a,h1,h2⟩ := hx
      obtain ⟨n,h1⟩ := runYW_iff.1 h1
      exact ⟨n,by simp only [callX,Option.map_eq_some_iff]; exact ⟨a,h1,h2⟩⟩
    · simp at hx
  · rintro ⟨n,hx⟩
    exact callX_mono (leR_W n) (leY_W n) hx
theorem callQ_lim {fv : AV} {as : List AV} {h : XH} {q : AV} : callQ (runW D) fv as h = some q ↔ ∃ n,callQ (runX D n) fv as h = some q := by
  constructor
  · intro hx
    unfold callQ at hx
    split at hx
    · simp only at hx
      split at hx
      · rename_i v hl h1
        obtain ⟨n,h1⟩ := runW_iff.1 h1
        exact ⟨n,by simp only [callQ,h1]; exact hx⟩
      · simp at hx
    · simp at hx
  · rintro ⟨n,hx⟩
    exact callQ_mono (leR_W n) hx
theorem xcore_lim {d : Option Nat} {op : DOp} {e : Env} {h : XH} {q : Env × XH} : xcore (runW D) (runYW D) d op e h = some q ↔ ∃ n,xcore (runX D n) (runYX D n) d op e h = some q := by
  constructor
  · intro hx
    cases op with
    | callf b f xs l =>
      cases b with
      | true =>
        simp only [xcore,Option.map_eq_some_iff] at hx ⊢
        obtain ⟨a,h1,h2⟩ := hx
        obtain ⟨n,h1⟩ := callQ_lim.1 h1
        exact ⟨n,a,h1,h2⟩
      | false =>
        simp only [xcore,Option.map_eq_some_iff] at hx ⊢
        obtain ⟨a,h1,h2⟩ := hx
        obtain ⟨n,h1⟩ := callX_lim.1 h1
        exact ⟨n,a,h1,h2⟩
    | _ => exact ⟨0,hx⟩
  · rintro ⟨n,hx⟩
    exact xcore_mono (leR_W n) (leY_W n) hx
theorem xops_lim : ∀ {ops : List DOper} {e : Env} {h : XH} {q : Env × XH},xops (runW D) (runYW D) ops e h = some q ↔ ∃ n,xops (runX D n) (runYX D n) ops e h = some q := by
  intro ops e h q
  refine ⟨?_,fun ⟨n,hx⟩ => xops_mono (leR_W n) (leY_W n) _ _ _ _ hx⟩
  induction ops generalizing e h with
  | nil => exact fun hx => ⟨0,hx⟩
  | cons o ops ih =>
    intro hx
    simp only [xops] at hx ⊢
    split at hx
    · simp only [Option.bind_eq_some_iff] at hx ⊢
      obtain ⟨s,h1,h2⟩ := hx
      obtain ⟨n,h1⟩ := xcore_lim.1 h1
      obtain ⟨m,h2⟩ := ih h2
      exact ⟨max n m,s,xcore_mono (runX_le D (by omega)).1 (runX_le D (by omega)).2 h1,xops_mono (runX_le D (by omega)).1 (runX_le D (by omega)).2 _ _ _ _ h2⟩
    · exact ih hx
    · simp at hx
theorem xopsD_lim : ∀ {ops : List DOper} {e : Env} {h : XH} {L : List (Nat × Nat)} {q : Env × XH},xopsD (runW D) (runYW D) ops e h L = some q ↔ ∃ n,xopsD (runX D n) (runYX D n) ops e h L = some q := by
  intro ops e h L q
  refine ⟨?_,fun ⟨n,hx⟩ => xopsD_mono (leR_W n) (leY_W n) _ _ _ _ _ hx⟩
  induction ops generalizing e h L with
  | nil => exact fun hx => ⟨0,hx⟩
  | cons o ops ih =>
    intro hx
    simp only [xopsD] at hx ⊢
    split at hx
    · split at hx
      · rename_i hl
        simp only [hl,if_true]
        simp only [Option.bind_eq_some_iff] at hx ⊢
        obtain ⟨s,h1,h2⟩ := hx
        obtain ⟨n,h1⟩ := xcore_lim.1 h1
        split at h2
        · rename_i hp
          obtain ⟨m,h2⟩ := ih h2
          exact ⟨max n m,s,xcore_mono (runX_le D (by omega)).1 (runX_le D (by omega)).2 h1,by rw [if_pos hp]; exact xopsD_mono (runX_le D (by omega)).1 (runX_le D (by omega)).2 _ _ _ _ _ h2⟩
        · simp at h2
      · simp at hx
    · exact ih hx
    · simp at hx

section
variable {K k : Nat} {rd : Option Nat} {e : Env} {h : XH}
theorem Tr : execW D K k rd .skip e h = some (.normal,e,h) := execW_iff.2 ⟨0,rfl⟩
theorem Ts {id : Nat} : execW D K k rd (.exit id) e h = some (.exit id,e,h) := execW_iff.2 ⟨0,rfl⟩
theorem Tq : execW D K k rd .ret e h = some (.ret,e,h) := execW_iff.2 ⟨0,rfl⟩
theorem execW_regS {fz : List (Nat × Bool)} {ops : List DOper} : execW D K k rd (.reg fz false ops) e h = (xops (runW D) (runYW D) ops (fzX fz e h).1 (fzX fz e h).2).map fun r => (.normal,r.1,r.2) := opt_ext fun q => by
  rw [execW_iff]
  simp only [execX,Bool.false_eq_true,if_false,Option.map_eq_some_iff,xops_lim]
  exact ⟨fun ⟨n,a,h1,h2⟩ => ⟨a,⟨n,h1⟩,h2⟩,fun ⟨a,⟨n,h1⟩,h2⟩ => ⟨n,a,h1,h2⟩⟩
theorem execW_regD {fz : List (Nat × Bool)} {ops : List DOper} : execW D K k rd (.reg fz true ops) e h = (xopsD (runW D) (runYW D) ops (fzX fz e h).1 (fzX fz e h).2 []).map fun r => (.normal,r.1,r.2) := opt_ext fun q => by
  rw [execW_iff]
  simp only [execX,if_true,Option.map_eq_some_iff,xopsD_lim]
  exact ⟨fun ⟨n,a,h1,h2⟩ => ⟨a,⟨n,h1⟩,h2⟩,fun ⟨a,⟨n,h1⟩,h2⟩ => ⟨n,a,h1,h2⟩⟩

def thenX (r : Option (DX × Env × XH)) (f : Env → XH → Option (DX × Env × XH)) : Option (DX × Env × XH) := match r with
  | some (.normal,e,h) => f e h
  | r => r
theorem Tu (f : Env → XH → Option (DX × Env × XH)) (e : Env) (h : XH) : thenX (some (.normal,e,h)) f = f e h := rfl
theorem Tv (f : Env → XH → Option (DX × Env × XH)) (id : Nat) (e : Env) (h : XH) : thenX (some (.exit id,e,h)) f = some (.exit id,e,h) := rfl
theorem Tw (f : Env → XH → Option (DX × Env × XH)) (e : Env) (h : XH) : thenX (some (.ret,e,h)) f = some (.ret,e,h) := rfl
theorem thenX_iff {r : Option (DX × Env × XH)} {f : Env → XH → Option (DX × Env × XH)} {q : DX × Env × XH} : thenX r f = some q ↔ (∃ e h,r = some (.normal,e,h) ∧ f e h = some q) ∨ (q.1 ≠ .normal ∧ r = some q) := by
  unfold thenX
  split
  · rename_i e h
    constructor
    · exact fun hf => .inl ⟨e,h,rfl,hf⟩
    · rintro (⟨e',h',h1,h2⟩ | ⟨h1,h2⟩)
      · simp only [Option.some.injEq,Prod.mk.injEq,true_and] at h1; obtain ⟨rfl,rfl⟩ := h1; exact h2
      · simp only [Option.some.injEq] at h2; subst h2; exact absurd rfl h1
  · rename_i hne
    constructor
    · intro hr
      refine .inr ⟨fun hq => ?_,hr⟩
      obtain ⟨x,e,h⟩ := q
      simp only at hq; subst hq
      exact hne e h hr
    · rintro (⟨e',h',h1,h2⟩ | ⟨h1,h2⟩)
      · exact absurd h1 (hne e' h')
      · exact h2
theorem execX_seq {run : XRun} {runY : YRun} {n : Nat} {a b : XCode} : execX run runY K k n rd (.seq a b) e h = thenX (execX run runY K k n rd a e h) (execX run runY K k n rd b) := rfl
theorem Tp {a b : XCode} : execW D K k rd (.seq a b) e h = thenX (execW D K k rd a e h) (execW D K k rd b) := opt_ext fun q => by
  rw [execW_iff]
  simp only [execX_seq,thenX_iff,execW_iff]
  constructor
  · rintro ⟨n,⟨e1,h1,h2,h3⟩ | ⟨h1,h2⟩⟩
    · exact .inl ⟨e1,h1,⟨n,h2⟩,⟨n,h3⟩⟩
    · exact .inr ⟨h1,n,h2⟩
  · rintro (⟨e1,h1,⟨n,h2⟩,⟨m,h3⟩⟩ | ⟨h1,n,h2⟩)
    · exact ⟨max n m,.inl ⟨e1,h1,execX_monoS D K k rd a e h n _ _ (by omega) h2,execX_monoS D K k rd b e1 h1 m _ _ (by omega) h3⟩⟩
    · exact ⟨n,.inr ⟨h1,h2⟩⟩
theorem execW_cond {c : AO} {a b : XCode} : execW D K k rd (.cond c a b) e h = match evA e c with
    | .bool true => execW D K k rd a e h
    | .bool false => execW D K k rd b e h
    | _ => none := opt_ext fun q => by
  rw [execW_iff]
  simp only [execX]
  cases evA e c with
  | bool t => cases t <;> simp only [execW_iff]
  | _ => simp
def blockX (id : Nat) (r : Option (DX × Env × XH)) : Option (DX × Env × XH) := match r with
  | some (.exit j,e',h') => if j = id then some (.normal,e',h') else some (.exit j,e',h')
  | r => r
theorem Tx (id : Nat) (e : Env) (h : XH) : blockX id (some (.normal,e,h)) = some (.normal,e,h) := rfl
theorem Ty (id : Nat) (e : Env) (h : XH) : blockX id (some (.ret,e,h)) = some (.ret,e,h) := rfl
theorem Tz (id j : Nat) (e : Env) (h : XH) : blockX id (some (.exit j,e,h)) = if j = id then some (.normal,e,h) else some (.exit j,e,h) := rfl
theorem Tt {id : Nat} {a : XCode} : execW D K k rd (.block id a) e h = blockX id (execW D K k rd a e h) := opt_ext fun q => by
  have he : ∀ n,execX (runX D n) (runYX D n) K k n rd (.block id a) e h = blockX id (execX (runX D n) (runYX D n) K k n rd a e h) := fun _ => rfl
  rw [execW_iff]
  simp only [he]
  constructor
  · rintro ⟨n,hn⟩
    cases hx : execX (runX D n) (runYX D n) K k n rd a e h with
    | none => rw [hx] at hn; simp [blockX] at hn
    | some s => rw [execW_iff.2 ⟨n,hx⟩,← hx]; exact hn
  · intro hq
    cases hx : execW D K k rd a e h with
    | none => rw [hx] at hq; simp [blockX] at hq
    | some s =>
      obtain ⟨n,hn⟩ := execW_iff.1 hx
      exact ⟨n,by rw [hn,← hx]; exact hq⟩
theorem execW_loop {L : List Nat} {a : XCode} : execW D K k rd (.loop L a) e h = thenX (execW D K k rd a (canonE k L e h) (canonH k L e h)) (execW D K k rd (.loop L a)) := opt_ext fun q => by
  have he : ∀ n m e h,loopX (execX (runX D n) (runYX D n) K k n rd a) k L (m + 1) e h = thenX (execX (runX D n) (runYX D n) K k n rd a (canonE k L e h) (canonH k L e h)) (loopX (execX (runX D n) (runYX D n) K k n rd a) k L m) := fun n m e h => rfl
  rw [execW_iff,thenX_iff]
  constructor
  · rintro ⟨n,hn⟩
    have hn : loopX (execX (runX D n) (runYX D n) K k n rd a) k L n e h = some q := hn
    cases n with
    | zero => simp [loopX] at hn
    | succ n =>
      rw [he,thenX_iff] at hn
      rcases hn with ⟨e1,h1,h2,h3⟩ | ⟨h1,h2⟩
      · exact .inl ⟨e1,h1,execW_iff.2 ⟨n + 1,h2⟩,execW_iff.2 ⟨n + 1,loopX_mono (fun _ _ _ h => h) n (n + 1) (by omega) _ _ _ h3⟩⟩
      · exact .inr ⟨h1,execW_iff.2 ⟨n + 1,h2⟩⟩
  · rintro (⟨e1,h1,h2,h3⟩ | ⟨h1,h2⟩)
    · obtain ⟨n,h2⟩ := execW_iff.1 h2
      obtain ⟨m,h3⟩ := execW_iff.1 h3
      have h3 : loopX (execX (runX D m) (runYX D m) K k m rd a) k L m e1 h1 = some q := h3
      refine ⟨max n m + 1,?_⟩
      show loopX _ k L (max n m + 1) e h = some q
      rw [he,thenX_iff]
      refine .inl ⟨e1,h1,execX_monoS D K k rd a _ _ n _ _ (by omega) h2,?_⟩
      exact loopX_mono (fun e h q hq => execX_monoS D K k rd a e h m _ _ (by omega) hq) m (max n m) (by omega) _ _ _ h3
    · obtain ⟨n,h2⟩ := execW_iff.1 h2
      refine ⟨n + 1,?_⟩
      show loopX _ k L (n + 1) e h = some q
      rw [he,thenX_iff]
      exact .inr ⟨h1,execX_monoS D K k rd a _ _ n _ _ (by omega) h2⟩

def rngX (n : Nat) (e : Env) (r : Option (AV × XH)) : Option (DX × Env × XH) := match r with
  | some (_,h') => match loopSt h' n with
    | some .ready => some (.normal,e,h'.set n none)
    | some (.done x) => some (x,e,h'.set n none)
    | _ => none
  | none => none
theorem execW_rng {site : Nat} {L : List Nat} {f : AO} {ps : List Nat} {a b : XCode} : execW D K k rd (.rng site L f ps a b) e h = if inLoop rd h && isFunc (evA e f) then
    rngX h.length e (callX (runW D) (runYW D) (evA e f) [.fn (.yield h.length) [] []] (h ++ [some (.loop K site (L.map e) .ready)])) else none := opt_ext fun q => by
  rw [execW_iff]
  have he : ∀ n,execX (runX D n) (runYX D n) K k n rd (.rng site L f ps a b) e h = if inLoop rd h && isFunc (evA e f) then
    rngX h.length e (callX (runX D n) (runYX D n) (evA e f) [.fn (.yield h.length) [] []] (h ++ [some (.loop K site (L.map e) .ready)])) else none := fun _ => rfl
  simp only [he]
  split
  · constructor
    · rintro ⟨n,hn⟩
      cases hx : callX (runX D n) (runYX D n) (evA e f) [.fn (.yield h.length) [] []] (h ++ [some (.loop K site (L.map e) .ready)]) with
      | none => rw [hx] at hn; simp [rngX] at hn
      | some s => rw [callX_lim.2 ⟨n,hx⟩,← hx]; exact hn
    · intro hq
      cases hx : callX (runW D) (runYW D) (evA e f) [.fn (.yield h.length) [] []] (h ++ [some (.loop K site (L.map e) .ready)]) with
      | none => rw [hx] at hq; simp [rngX] at hq
      | some s =>
        obtain ⟨n,hn⟩ := callX_lim.1 hx
        exact ⟨n,by rw [hn,← hx]; exact hq⟩
  · simp
end

def retX (res : List (Nat × Option (Bool × Nat))) (own : Bool) (k : Nat) (r : Option (DX × Env × XH)) : Option (AV × XH) := match r with
  | some (.exit _,_,_) => none
  | some (_,e,h') => (resA res e (hpOf h')).map fun v => finX own k v h'
  | none => none
theorem runW_eq {K : Nat} {d : XFn} (hD : D K = some d) {as : List AV} (hl : as.length ≤ d.N) (h : XH) : runW D K as h = retX d.res d.ownR h.length (execW D K h.length none d.body (argEnv (if d.ownA then as else nzL as)) h) := opt_ext fun q => by
  rw [runW_iff]
  have he : ∀ n,runX D (n + 1) K as h = retX d.res d.ownR h.length (execX (runX D n) (runYX D n) K h.length n none d.body (argEnv (if d.ownA then as else nzL as)) h) := fun n => by
    rw [runX,hD]
    simp only [hl,if_true]
    rfl
  constructor
  · rintro ⟨n,hn⟩
    cases n with
    | zero => simp [runX] at hn
    | succ n =>
      rw [he] at hn
      cases hx : execX (runX D n) (runYX D n) K h.length n none d.body (argEnv (if d.ownA then as else nzL as)) h with
      | none => rw [hx] at hn; simp [retX] at hn
      | some s => rw [execW_iff.2 ⟨n,hx⟩,← hx]; exact hn
  · intro hq
    cases hx : execW D K h.length none d.body (argEnv (if d.ownA then as else nzL as)) h with
    | none => rw [hx] at hq; simp [retX] at hq
    | some s =>
      obtain ⟨n,hn⟩ := execW_iff.1 hx
      exact ⟨n + 1,by rw [he,hn,← hx]; exact hq⟩

def yEnd (l k : Nat) (r : Option (DX × Env × XH)) : Option (AV × XH) := match r with
  | some (x,_,h2) => match loopSt h2 l with
    | some .busy => some (match x with
      | .normal => finX true k (.bool true) (loopTo h2 l .ready)
      | x => finX true k (.bool false) (loopTo h2 l (.done x)))
    | _ => none
  | none => none
def yMid (l : Nat) (r : Option (DX × Env × XH)) (f : Env → XH → Option (AV × XH)) : Option (AV × XH) := match r with
  | some (.normal,e1,h1) => match loopSt h1 l with
    | some .ready => f e1 (loopTo h1 l .busy)
    | _ => none
  | _ => none
theorem runYW_eq {K : Nat} {d : XFn} (hD : D K = some d) {l site : Nat} {vs : List AV} {h : XH} (hl : hat h l = some (.loop K site vs .ready)) {L ps : List Nat} {a b : XCode} (hs : siteX d.body site = some (L,ps,a,b)) {as : List AV} (hn : as.length = ps.length) :
    runYW D (.fn (.yield l) [] []) as h = yMid l (execW D K h.length (some l) a (putL (envL L vs) ps as) h) fun e1 h1 => yEnd l h.length (execW D K h.length (some l) b e1 h1) := opt_ext fun q => by
  rw [runYW_iff]
  have he : ∀ n,runYX D (n + 1) (.fn (.yield l) [] []) as h = yMid l (execX (runX D n) (runYX D n) K h.length n (some l) a (putL (envL L vs) ps as) h) fun e1 h1 => yEnd l h.length (execX (runX D n) (runYX D n) K h.length n (some l) b e1 h1) := fun n => by
    rw [runYX]
    simp only [hl,hD,Option.bind_some,hs,hn,if_true]
    rfl
  constructor
  · rintro ⟨n,hn⟩
    cases n with
    | zero => simp [runYX] at hn
    | succ n =>
      rw [he] at hn
      unfold yMid at hn ⊢
      split at hn
      · rename_i e1 h1 hx
        rw [execW_iff.2 ⟨n,hx⟩]
        simp only
        split at hn
        · rename_i hst
          simp only at hn
          cases hx2 : execX (runX D n) (runYX D n) K h.length n (some l) b e1 (loopTo h1 l .busy) with
          | none => rw [hx2] at hn; simp [yEnd] at hn
          | some s => rw [execW_iff.2 ⟨n,hx2⟩,← hx2]; exact hn
        · simp at hn
      · simp at hn
  · intro hq
    unfold yMid at hq
    split at hq
    · rename_i e1 h1 hx
      obtain ⟨n,hn⟩ := execW_iff.1 hx
      split at hq
      · rename_i hst
        simp only at hq
        cases hx2 : execW D K h.length (some l) b e1 (loopTo h1 l .busy) with
        | none => rw [hx2] at hq; simp [yEnd] at hq
        | some s =>
          obtain ⟨m,hm⟩ := execW_iff.1 hx2
          refine ⟨max n m + 1,?_⟩
          rw [he]
          have e1' := execX_monoS D K h.length (some l) a (putL (envL L vs) ps as) h n (max n m) _ (by omega) hn
          have e2' := execX_monoS D K h.length (some l) b e1 (loopTo h1 l .busy) m (max n m) _ (by omega) hm
          simp only at e1' e2'
          unfold yMid
          simp only [e1',hst,e2']
          rw [← hx2]; exact hq
      · simp at hq
    · simp at hq
end Go.DL
namespace Go.DL
open Go.RowKit
variable {P : Program} {D : Nat → Option XFn}

theorem SH.none : SH D (fun _ => Option.none) (fun _ => Option.none) [] noH :=
  ⟨fun b c hb => by simp at hb,fun b c c' x y hx => by simp [hat] at hx,fun b x hx => by simp [hat] at hx⟩

theorem root (ok : XOk P D) {n K : Nat} {as : List AV} {v : AV} {h' : XH} (hrun : runX D n K as [] = some (v,h')) (has : ∀ a ∈ as,Gd a) (hv : Gd v) {w : World} {vs : Array Value} (gi : GI (fun b => b < w.heap.size) w) (hA : Args (fun b => b < w.heap.size) w as vs) :
    Calls P K vs w fun e w' => ∃ F' q,e = .returned q ∧ Rv F' w' v q ∧ Below w.heap.size w w' := by
  have hfn := (run_sound ok n ⟨fun b => b < w.heap.size,w,gi⟩ (fun _ => Option.none) (fun l i h => by simp at h)).1 (fun _ => Option.none) [] noH K as as v h' SH.none (RnL.self fun a ha => (has a ha).rn) hrun
  have hc := hfn.2 (fun b => b < w.heap.size) w vs (Up.refl _ _) ⟨fun b hb => hb,fun b x hb => by simp [noH] at hb,fun b x hb => by simp [noH] at hb⟩ hA
  refine (callsIn_wide.1 hc).mono ?_
  rintro e w' ⟨q,v',F',H',rfl,h1,h2,h3,r',_,_,h4⟩
  obtain ⟨rfl,_⟩ := h4.same hv.gr
  exact ⟨F',q,rfl,h3,h1.io.os,h1.io.tape,h1.io.output,h1.le,fun k hk => h1.same k hk (by simp [wrH,noH])⟩

theorem rv_true {F : Nat → Prop} {w : World} {b : Bool} {q : Value} (h : Rv F w (.bool b) q) : q = .bool b := by cases h; rfl

section
variable {H : Type} {enc : TypeId × Value → H}

theorem args_again (hl : laidOutB P = true) {W W' : World} (hb : Below W.heap.size W W') : ∀ (ts : List TypeId) (vs : List Value) (ds : List (DataW H)) (ps : List MemPlace),(ts.all fun t => P.readableRec t && decide (t < P.types.size)) = true →
    (∀ x ∈ ps,x.block < W.heap.size) → DataW.TrodAll enc P W 0 (fun _ => true) true ts vs ds ps → DataW.TrodAll enc P W' 0 (fun b => decide (b < W.heap.size)) true ts vs ds ps
  | [],[],[],ps,_,_,h => h
  | t :: ts,v :: vs,d :: ds,ps,ht,hlt,h => by
    obtain ⟨p,q,h1,h2,rfl⟩ := h
    simp only [List.all_cons,Bool.and_eq_true,decide_eq_true_eq] at ht
    exact ⟨p,q,Below.trod hl ht.1.1 ht.1.2 h1 hb (fun x hx => hlt x (by simp [hx])),args_again hl hb ts vs ds q ht.2 (fun x hx => hlt x (by simp [hx])) h2,rfl⟩
  | [],[],_ :: _,_,_,_,h => h.elim
  | [],_ :: _,_,_,_,_,h => h.elim
  | _ :: _,[],_,_,_,_,h => h.elim
  | _ :: _,_ :: _,[],_,_,_,h => h.elim

theorem law_post (hl : laidOutB P = true) {f : Func} {s : ChangeSpec} {W W' : World} {args : Array Value} {ds gs : List (DataW H)} {before : List MemPlace} {t : TypeId}
    (hW : DataW.Whole enc P f.params.toList s.vars false W args.toList ds gs before) (hv : s.vars = []) (hs : (s.fn H (ds ++ gs)).results = [.lit (.bool true)]) (hs2 : (s.fn H (ds ++ gs)).args = ds) (hs3 : (s.fn H (ds ++ gs)).vars = [])
    (ht : f.resultTypes = #[t]) (hu : P.underlying t = some .bool) (hp : (f.params.toList.all fun t => P.readableRec t && decide (t < P.types.size)) = true) (hb : Below W.heap.size W W') :
    s.post enc P f false true false false W args (.bool true) W' := by
  have hlt := hW.lt
  have hW0 := hW
  obtain ⟨p,q,h1,h2,rfl,h4,h5⟩ := hW
  rw [hv] at h2
  cases gs with
  | cons g gs => exact h2.elim
  | nil =>
    have hq : q = [] := h2
    subst hq
    refine ⟨ds,[],p ++ [],[],p,[],hW0,?_,?_,?_,?_,fun h => by cases h⟩
    · rw [hs,ht]
      exact ⟨[],[],RowKit.shut_bool hu true,rfl,rfl⟩
    · rw [hs2]
      exact args_again hl hb _ _ _ _ hp (fun x hx => hlt x (by simp [hx])) h1
    · rw [hs3,hv]
      exact rfl
    · exact World.keptBut_mono (fun x hx => ⟨by simpa using hx,.inr (.inl hx)⟩) (hb.frame (· ∈ p))
end
end Go.DL
namespace Go.DL
abbrev I (n : Int) : AV := .int .i64 n
theorem wrap_ok {n : Int} (h1 : -9223372036854775808 ≤ n) (h2 : n ≤ 9223372036854775807) : IntKind.i64.wrap n = n := by
  simp [IntKind.wrap,IntKind.bits,IntKind.signed]
  omega
def canonL (k : Nat) (L : List Nat) (e : Env) (h : XH) : List AV := rnL (keepS k (keepAcc k (L.map e) h)) (L.map e)
def headX (k : Nat) (L : List Nat) (r : Option (DX × Env × XH)) : Option (List AV × XH) := match r with
  | some (.normal,e,h) => some (canonL k L e h,canonH k L e h)
  | _ => none
theorem T0 (k : Nat) (L : List Nat) (e : Env) (h : XH) : headX k L (some (.normal,e,h)) = some (canonL k L e h,canonH k L e h) := rfl
def leaves (r : Option (DX × Env × XH)) : Bool := match r with
  | some (.normal,_,_) => false
  | some _ => true
  | none => false

theorem loop_rule {D : Nat → Option XFn} {K k : Nat} {rd : Option Nat} {L : List Nat} {a : XCode} {e : Env} {h : XH} (n : Nat) (S : Nat → List AV) (G : Nat → XH) (h0 : headX k L (some (.normal,e,h)) = some (S 0,G 0))
    (hs : ∀ i,i < n → headX k L (execW D K k rd a (envL L (S i)) (G i)) = some (S (i + 1),G (i + 1))) (hl : leaves (execW D K k rd a (envL L (S n)) (G n)) = true) :
    execW D K k rd (.loop L a) e h = execW D K k rd a (envL L (S n)) (G n) := by
  have key : ∀ (m i : Nat) (e : Env) (h : XH),m + i = n → headX k L (some (.normal,e,h)) = some (S i,G i) → execW D K k rd (.loop L a) e h = execW D K k rd a (envL L (S n)) (G n) := by
    intro m
    induction m with
    | zero =>
      intro i e h hi h0
      have : i = n := by omega
      subst this
      rw [execW_loop]
      simp only [headX,Option.some.injEq,Prod.mk.injEq] at h0
      have e1 : canonE k L e h = envL L (S i) := by rw [← h0.1]; rfl
      rw [e1,h0.2]
      revert hl
      cases execW D K k rd a (envL L (S i)) (G i) with
      | none => intro hl; rfl
      | some q =>
        obtain ⟨x,e',h'⟩ := q
        cases x with
        | normal => intro hl; simp [leaves] at hl
        | exit id => intro _; rfl
        | ret => intro _; rfl
    | succ m ih =>
      intro i e h hi h0
      rw [execW_loop]
      simp only [headX,Option.some.injEq,Prod.mk.injEq] at h0
      have e1 : canonE k L e h = envL L (S i) := by rw [← h0.1]; rfl
      rw [e1,h0.2]
      have h1 := hs i (by omega)
      revert h1
      cases execW D K k rd a (envL L (S i)) (G i) with
      | none => intro h1; simp [headX] at h1
      | some q =>
        obtain ⟨x,e',h'⟩ := q
        cases x with
        | normal => intro h1; exact ih (i + 1) e' h' (by omega) h1
        | exit id => intro h1; simp [headX] at h1
        | ret => intro h1; simp [headX] at h1
  exact key n 0 e h (by omega) h0
end Go.DL
namespace Go.DL
section
variable {run : XRun} {runY : YRun} {d : Option Nat} {e : Env} {h : XH} {ix : Nat} {r : List DOper} {D : Nat → Option XFn} {K k : Nat} {rd : Option Nat} {m : Option (List (Nat × Nat))} {op : DOp} {v : AV}

theorem Za {j : Nat} : upd e k v j = if j = k then v else e j := rfl
theorem Zb : updo e (some k) v = upd e k v := rfl
theorem Zc : updo e none v = e := rfl
theorem Zd {α β : Type} {a : α} {b : β} : (a,b).fst = a := rfl
theorem Ze {α β : Type} {a : α} {b : β} : (a,b).snd = b := rfl

def finR (r : Option (Env × XH)) : Option (DX × Env × XH) := r.map fun r => (.normal,r.1,r.2)
theorem Zf : finR (some (e,h)) = some (.normal,e,h) := rfl
def xo (m : Option (List (Nat × Nat))) (run : XRun) (runY : YRun) (ops : List DOper) (e : Env) (h : XH) : Option (Env × XH) := match m with
  | none => xops run runY ops e h
  | some L => xopsD run runY ops e h L
def regF (m : Option (List (Nat × Nat))) (run : XRun) (runY : YRun) (ops : List DOper) (p : Env × XH) : Option (DX × Env × XH) := finR (xo m run runY ops p.1 p.2)
theorem Zg {ops : List DOper} : regF m run runY ops (e,h) = finR (xo m run runY ops e h) := rfl
theorem Zh {ops : List DOper} : execW D K k rd (.reg [] false ops) e h = finR (xo none (runW D) (runYW D) ops e h) := execW_regS
theorem Zi {ops : List DOper} : execW D K k rd (.reg [] true ops) e h = finR (xo (some []) (runW D) (runYW D) ops e h) := execW_regD
theorem Zj {a : Nat × Bool} {fz : List (Nat × Bool)} {ops : List DOper} : execW D K k rd (.reg (a :: fz) false ops) e h = regF none (runW D) (runYW D) ops (fzX (a :: fz) e h) := execW_regS
theorem Zk {a : Nat × Bool} {fz : List (Nat × Bool)} {ops : List DOper} : execW D K k rd (.reg (a :: fz) true ops) e h = regF (some []) (runW D) (runYW D) ops (fzX (a :: fz) e h) := execW_regD
theorem Zl : xo m run runY [] e h = some (e,h) := by cases m <;> rfl

def lkM (q : Bool) (k : AV) : Option ABlk → Option (Option AV)
  | some (.map _ es) => findA q k es
  | _ => none
def kV (m : Option (List (Nat × Nat))) (run : XRun) (runY : YRun) (r : List DOper) (d : Option Nat) (e : Env) (h : XH) : Option AV → Option (Env × XH)
  | some v => xo m run runY r (updo e d v) h
  | none => none
theorem Zm : kV m run runY r d e h (some v) = xo m run runY r (updo e d v) h := rfl
def kE (m : Option (List (Nat × Nat))) (run : XRun) (runY : YRun) (r : List DOper) (d : Option Nat) (e : Env) (h : XH) (g : Bool) : Option Eff → Option (Env × XH)
  | some (.val v) => xo m run runY r (updo e d v) h
  | some (.new own x f) => xo m run runY r (updo e d (f h.length)) (xNew h own g x)
  | none => none
theorem Zn {g : Bool} {own : Option Nat} {x : ABlk} {f : Nat → AV} : kE m run runY r d e h g (some (.new own x f)) = xo m run runY r (updo e d (f h.length)) (xNew h own g x) := rfl
theorem kE_of {g : Bool} {q : Option Eff} : (match q with
    | some (.val v) => some (updo e d v,h)
    | some (.new own x f) => some (updo e d (f h.length),xNew h own g x)
    | none => none).bind (fun s => xo m run runY r s.1 s.2) = kE m run runY r d e h g q := by cases q with
  | none => rfl
  | some q => cases q <;> rfl
theorem xo_q (h1 : xcore run runY d op e h = match evalQ op e (hpOf h) with
    | some (.val v) => some (updo e d v,h)
    | some (.new own x f) => some (updo e d (f h.length),xNew h own (flagNew op e h) x)
    | none => none) (h2 : ∀ L,logX ix op e L = L) (h3 : ∀ L,logOk op e h L = true) (h4 : ∀ L h',logPost op e h h' L = true) :
    xo m run runY (⟨ix,d,op,none⟩ :: r) e h = kE m run runY r d e h (flagNew op e h) (evalQ op e (hpOf h)) := by
  rw [← kE_of]
  cases m with
  | none => simp only [xo,xops,gd,h1]
  | some L => simp only [xo,xopsD,gd,h1,h2,h3,h4,if_true]

def valE (q : Option AV) : Option Eff := q.map .val
theorem xo_v {q : Option AV} (h1 : xcore run runY d op e h = match evalQ op e (hpOf h) with
    | some (.val v) => some (updo e d v,h)
    | some (.new own x f) => some (updo e d (f h.length),xNew h own (flagNew op e h) x)
    | none => none) (h5 : evalQ op e (hpOf h) = valE q) (h2 : ∀ L,logX ix op e L = L) (h3 : ∀ L,logOk op e h L = true) (h4 : ∀ L h',logPost op e h h' L = true) :
    xo m run runY (⟨ix,d,op,none⟩ :: r) e h = kV m run runY r d e h q := by
  rw [xo_q h1 h2 h3 h4,h5]
  cases q <;> rfl
def pickM (c a b : AV) : Option AV := match c with
  | .bool t => some (if t then a else b)
  | _ => none
def notM (x : AV) : Option AV := match x with
  | .bool b => some (.bool !b)
  | _ => none
def negM (x : AV) : Option AV := match x with
  | .int k n => some (.int k (k.wrap (0 - n)))
  | _ => none
def convM (k : IntKind) (x : AV) : Option AV := match x with
  | .int _ n => some (.int k (k.wrap n))
  | _ => none
def fldM (off : Nat) (x : AV) : Option AV := match x with
  | .pt b o => some (.pt b (o + off))
  | .fp r i o => some (.fp r i (o + off))
  | _ => none
def lenM (q : Bool) (x : AV) : Option AV := match q,x with
  | true,.str s => some (.int .i64 (s.size : Int))
  | false,.fs rows => some (.int .i64 (rows.length : Int))
  | false,.sl _ _ _ n => some (.int .i64 (n : Int))
  | false,.nilsl => some (.int .i64 0)
  | _,_ => none
def idxM (s : Nat) (x i : AV) : Option AV := match x,i with
    | .sl b o s' len,.int _ n => if s' = s ∧ 0 ≤ n ∧ n < (len : Int) then some (.pt b (o + n.toNat * s)) else none
    | .fs rows,.int _ n => if 0 ≤ n ∧ n < (rows.length : Int) ∧ (rows.getD n.toNat []).length = s then some (.fp rows n.toNat 0) else none
    | _,_ => none
def idxF (s : Nat) (rows : List (List AV)) (j : Nat) : Option (List AV) → Option AV
  | some r => if r.length = s then some (.fp rows j 0) else none
  | none => none
def extM (x : AV) (i : Nat) : Option AV := match x with
  | .tup vs => vs[i]?
  | _ => none

def idxaM (len s : Nat) (x i : AV) : Option AV := match x,i with
    | .pt b o,.int _ n => if 0 ≤ n ∧ n < (len : Int) then some (.pt b (o + n.toNat * s)) else none
    | .fp r j o,.int _ n => if 0 ≤ n ∧ n < (len : Int) then some (.fp r j (o + n.toNat * s)) else none
    | _,_ => none
def mmM (mx : Bool) (x y : AV) : Option AV := match x,y with
    | .int k a,.int _ b => some (.int k (if mx then (if b > a then b else a) else (if b < a then b else a)))
    | _,_ => none
def lookM (ok : Bool) (z : AV) (x : Option (Option AV)) : Option AV := match x with
    | some r => some (lookR ok z r)
    | none => none
def aggM (x : Option (List AV)) : Option AV := match x with
    | some cs => some (.agg cs)
    | none => none
def nilckM (x : AV) : Option AV := match x with
    | .pt b o => some (.pt b o)
    | .fp r i o => some (.fp r i o)
    | _ => none
def kG (m : Option (List (Nat × Nat))) (run : XRun) (runY : YRun) (o : DOper) (r : List DOper) (e : Env) (h : XH) (b : Bool) : AV → Option (Env × XH)
  | .bool t => if t == b then xo m run runY (o :: r) e h else xo m run runY r (updo e o.dst (.tup [])) h
  | .tup _ => xo m run runY r (updo e o.dst (.tup [])) h
  | _ => none
theorem Zo {s : Nat} {b : Bool} : xo m run runY (⟨ix,d,op,some (s,b)⟩ :: r) e h = kG m run runY ⟨ix,d,op,none⟩ r e h b (e s) := by
  cases m with
  | none =>
    simp only [xo,xops,gd]
    cases e s with
    | bool t => cases ht : t == b <;> simp [kG,xo,xops,gd,ht]
    | _ => rfl
  | some L =>
    simp only [xo,xopsD,gd]
    cases e s with
    | bool t => cases ht : t == b <;> simp [kG,xo,xopsD,gd,ht]
    | _ => rfl
theorem Zp {o : DOper} : kG m run runY o r e h true (.bool true) = xo m run runY (o :: r) e h := rfl
theorem Zq {o : DOper} : kG m run runY o r e h false (.bool false) = xo m run runY (o :: r) e h := rfl
theorem Zr {q : DOp} : kG m run runY ⟨ix,d,q,none⟩ r e h true (.bool false) = xo m run runY r (updo e d (.tup [])) h := rfl
theorem Zs {q : DOp} : kG m run runY ⟨ix,d,q,none⟩ r e h false (.bool true) = xo m run runY r (updo e d (.tup [])) h := rfl
theorem Zt {a : AO} : xo m run runY (⟨ix,d,.mv a,none⟩ :: r) e h = xo m run runY r (updo e d (evA e a)) h := (xo_q rfl (fun _ => rfl) (fun _ => rfl) fun _ _ => rfl).trans rfl
theorem Zu {z : List AV} : xo m run runY (⟨ix,d,.alloc z,none⟩ :: r) e h = xo m run runY r (updo e d (.pt h.length 0)) (h ++ [some (.blk (grL z) (.cells true z))]) := (xo_q rfl (fun _ => rfl) (fun _ => rfl) fun _ _ => rfl).trans rfl
theorem Zv {f : Fn} {a b : List AO} : xo m run runY (⟨ix,d,.mkf f a b,none⟩ :: r) e h = xo m run runY r (updo e d (.fn f (a.map (evA e)) (b.map (evA e)))) h := (xo_q rfl (fun _ => rfl) (fun _ => rfl) fun _ _ => rfl).trans rfl
theorem Zw {p1 : _} {p2 : _} {p3 : _} : xo m run runY (⟨ix,d,(DOp.pick p1 p2 p3),none⟩ :: r) e h = kV m run runY r d e h (pickM (evA e p1) (evA e p2) (evA e p3)) := xo_v rfl (by simp only [evalQ,valE,pickM]; cases evA e p1 <;> rfl) (fun _ => rfl) (fun _ => rfl) fun _ _ => rfl
theorem Zx {p1 : _} : xo m run runY (⟨ix,d,(DOp.box p1),none⟩ :: r) e h = kE m run runY r d e h (grA (evA e p1)) (evalQ (DOp.box p1) e (hpOf h)) := xo_q rfl (fun _ => rfl) (fun _ => rfl) fun _ _ => rfl
theorem Zy {p1 : _} {p2 : _} : xo m run runY (⟨ix,d,(DOp.build p1 p2),none⟩ :: r) e h = kV m run runY r d e h (aggM (fillA p1 (p2.map fun p => (p.1,p.2.1,evA e p.2.2)))) := xo_v rfl (by simp only [evalQ,valE,aggM]; split <;> simp_all) (fun _ => rfl) (fun _ => rfl) fun _ _ => rfl
theorem Zz {p1 : _} {p2 : _} {p3 : _} {p4 : _} : xo m run runY (⟨ix,d,(DOp.bslice p1 p2 p3 p4),none⟩ :: r) e h = kE m run runY r d e h (grL p3 && p4.all fun p => grA (evA e p.2.2)) (evalQ (DOp.bslice p1 p2 p3 p4) e (hpOf h)) := xo_q rfl (fun _ => rfl) (fun _ => rfl) fun _ _ => rfl
theorem Z0 {p1 : _} : xo m run runY (⟨ix,d,(DOp.nilck p1),none⟩ :: r) e h = kV m run runY r d e h (nilckM (evA e p1)) := xo_v rfl (by simp only [evalQ,valE,nilckM]; cases evA e p1 <;> rfl) (fun _ => rfl) (fun _ => rfl) fun _ _ => rfl
theorem Z1 {p1 : _} {p2 : _} {p3 : _} : xo m run runY (⟨ix,d,(DOp.bin p1 p2 p3),none⟩ :: r) e h = kV m run runY r d e h (binA p1 (evA e p2) (evA e p3)) := xo_v rfl (by simp only [evalQ,valE]; cases binA p1 (evA e p2) (evA e p3) <;> rfl) (fun _ => rfl) (fun _ => rfl) fun _ _ => rfl
theorem Z2 {p1 : _} : xo m run runY (⟨ix,d,(DOp.not p1),none⟩ :: r) e h = kV m run runY r d e h (notM (evA e p1)) := xo_v rfl (by simp only [evalQ,valE,notM]; cases evA e p1 <;> rfl) (fun _ => rfl) (fun _ => rfl) fun _ _ => rfl
theorem Z3 {p1 : _} : xo m run runY (⟨ix,d,(DOp.neg p1),none⟩ :: r) e h = kV m run runY r d e h (negM (evA e p1)) := xo_v rfl (by simp only [evalQ,valE,negM]; cases evA e p1 <;> rfl) (fun _ => rfl) (fun _ => rfl) fun _ _ => rfl
theorem Z4 {p1 : _} {p2 : _} : xo m run runY (⟨ix,d,(DOp.conv p1 p2),none⟩ :: r) e h = kV m run runY r d e h (convM p1 (evA e p2)) := xo_v rfl (by simp only [evalQ,valE,convM]; cases evA e p2 <;> rfl) (fun _ => rfl) (fun _ => rfl) fun _ _ => rfl
theorem Z5 {p1 : _} {p2 : _} : xo m run runY (⟨ix,d,(DOp.fld p1 p2),none⟩ :: r) e h = kV m run runY r d e h (fldM p1 (evA e p2)) := xo_v rfl (by simp only [evalQ,valE,fldM]; cases evA e p2 <;> rfl) (fun _ => rfl) (fun _ => rfl) fun _ _ => rfl
theorem Z6 {p1 : _} {p2 : _} {p3 : _} {p4 : _} : xo m run runY (⟨ix,d,(DOp.idxa p1 p2 p3 p4),none⟩ :: r) e h = kV m run runY r d e h (idxaM p1 p2 (evA e p3) (evA e p4)) := xo_v rfl (by simp only [evalQ,valE,idxaM]; cases evA e p3 <;> cases evA e p4 <;> first | rfl | (simp only []; split <;> rfl)) (fun _ => rfl) (fun _ => rfl) fun _ _ => rfl
theorem Z7 {p1 : _} {p2 : _} {p3 : _} : xo m run runY (⟨ix,d,(DOp.idx p1 p2 p3),none⟩ :: r) e h = kV m run runY r d e h (idxM p1 (evA e p2) (evA e p3)) := xo_v rfl (by simp only [evalQ,valE,idxM]; cases evA e p2 <;> cases evA e p3 <;> first | rfl | (simp only []; split <;> rfl)) (fun _ => rfl) (fun _ => rfl) fun _ _ => rfl
theorem Z8 : xo m run runY (⟨ix,d,(DOp.mkmap),none⟩ :: r) e h = kE m run runY r d e h true (evalQ (DOp.mkmap) e (hpOf h)) := xo_q rfl (fun _ => rfl) (fun _ => rfl) fun _ _ => rfl
theorem Z9 {p1 : _} {p2 : _} {p3 : _} {p4 : _} {p5 : _} : xo m run runY (⟨ix,d,(DOp.lookup p1 p2 p3 p4 p5),none⟩ :: r) e h = kV m run runY r d e h (lookM p2 p3 (lookA p1 (hpOf h) (evA e p5) (evA e p4))) := xo_v rfl (by simp only [evalQ,valE,lookM]; cases lookA p1 (hpOf h) (evA e p5) (evA e p4) <;> rfl) (fun _ => rfl) (fun _ => rfl) fun _ _ => rfl
theorem ZA {p1 : _} {p2 : _} : xo m run runY (⟨ix,d,(DOp.ext p1 p2),none⟩ :: r) e h = kV m run runY r d e h (extM (evA e p1) p2) := xo_v rfl (by simp only [evalQ,valE,extM]; cases evA e p1 <;> first | rfl | (simp only []; split <;> simp_all)) (fun _ => rfl) (fun _ => rfl) fun _ _ => rfl
theorem ZB {p1 : _} {p2 : _} : xo m run runY (⟨ix,d,(DOp.len p1 p2),none⟩ :: r) e h = kV m run runY r d e h (lenM p1 (evA e p2)) := xo_v rfl (by simp only [evalQ,valE,lenM]; cases p1 <;> cases evA e p2 <;> rfl) (fun _ => rfl) (fun _ => rfl) fun _ _ => rfl
theorem ZC {p1 : _} {p2 : _} {p3 : _} : xo m run runY (⟨ix,d,(DOp.mm p1 p2 p3),none⟩ :: r) e h = kV m run runY r d e h (mmM p1 (evA e p2) (evA e p3)) := xo_v rfl (by simp only [evalQ,valE,mmM]; cases evA e p2 <;> cases evA e p3 <;> rfl) (fun _ => rfl) (fun _ => rfl) fun _ _ => rfl
theorem ZD {a : Bool} {n : Nat} {x : AO} : xo none run runY (⟨ix,d,.load a n x,none⟩ :: r) e h = kV none run runY r d e h (loadA a n (hpOf h) (evA e x)) := by
  show xops run runY _ e h = _
  simp only [xops,gd,xcore,evalQ]
  cases loadA a n (hpOf h) (evA e x) <;> rfl
def logV (ix : Nat) (v : AV) (L : List (Nat × Nat)) : List (Nat × Nat) := match blkA v with
  | some b => (ix,b) :: L
  | none => L
theorem ZE {b o : Nat} {L : List (Nat × Nat)} : logV ix (.pt b o) L = (ix,b) :: L := rfl
theorem ZF {rows : List (List AV)} {i o : Nat} {L : List (Nat × Nat)} : logV ix (.fp rows i o) L = L := rfl
theorem ZG {a : Bool} {n : Nat} {x : AO} {L : List (Nat × Nat)} : xo (some L) run runY (⟨ix,d,.load a n x,none⟩ :: r) e h = kV (some (logV ix (evA e x) L)) run runY r d e h (loadA a n (hpOf h) (evA e x)) := by
  show xopsD run runY _ e h L = _
  simp only [xopsD,gd,xcore,evalQ,logOk,if_true]
  cases loadA a n (hpOf h) (evA e x) <;> rfl

def kH (m : Option (List (Nat × Nat))) (run : XRun) (runY : YRun) (r : List DOper) (d : Option Nat) (e : Env) (v : AV) : Option XH → Option (Env × XH)
  | some h => xo m run runY r (updo e d v) h
  | none => none
theorem ZH : kH m run runY r d e v (some h) = xo m run runY r (updo e d v) h := rfl
theorem ZI {n : Nat} {p x : AO} {l : List Nat} : xo none run runY (⟨ix,d,.store n p x l,none⟩ :: r) e h = kH none run runY r d e .any (xStore n h (evA e p) (evA e x)) := by
  show xops run runY _ e h = _
  simp only [xops,gd,xcore]
  cases xStore n h (evA e p) (evA e x) <;> rfl
def guardO {α : Type} (b : Bool) (x : Option α) : Option α := if b then x else none
theorem ZJ {α : Type} {x : Option α} : guardO true x = x := rfl
theorem ZK {n : Nat} {p x : AO} {l : List Nat} {L : List (Nat × Nat)} : xo (some L) run runY (⟨ix,d,.store n p x l,none⟩ :: r) e h = guardO (L.all fun q => !l.contains q.1 || blkA (evA e p) != some q.2) (kH (some L) run runY r d e .any (xStore n h (evA e p) (evA e x))) := by
  show xopsD run runY _ e h L = _
  simp only [xopsD,gd,xcore,logOk,guardO]
  cases xStore n h (evA e p) (evA e x) <;> rfl
def kR (m : Option (List (Nat × Nat))) (run : XRun) (runY : YRun) (r : List DOper) (d : Option Nat) (e : Env) : Option (AV × XH) → Option (Env × XH)
  | some (v,h) => xo m run runY r (updo e d v) h
  | none => none
theorem ZL : kR m run runY r d e (some (v,h)) = xo m run runY r (updo e d v) h := rfl
theorem ZM {f : AO} {xs : List AO} {l : List Nat} : xo none run runY (⟨ix,d,.callf false f xs l,none⟩ :: r) e h = kR none run runY r d e (callX run runY (evA e f) (xs.map (evA e)) h) := by
  show xops run runY _ e h = _
  simp only [xops,gd,xcore]
  cases callX run runY (evA e f) (xs.map (evA e)) h <;> rfl
def kRL (L : List (Nat × Nat)) (l : List Nat) (run : XRun) (runY : YRun) (r : List DOper) (d : Option Nat) (e : Env) (h : XH) (ps : List Nat) : Option (AV × XH) → Option (Env × XH)
  | some (v,h') => guardO (L.all fun q => (hat h' q.2).isSome && (!l.contains q.1 || (!ps.contains q.2 || sameO (hat h q.2) (hat h' q.2)))) (xo (some L) run runY r (updo e d v) h')
  | none => none
theorem ZN {f : AO} {xs : List AO} {l : List Nat} {L : List (Nat × Nat)} : xo (some L) run runY (⟨ix,d,.callf false f xs l,none⟩ :: r) e h = kRL L l run runY r d e h (passedOf (evA e f) (xs.map (evA e)) h) (callX run runY (evA e f) (xs.map (evA e)) h) := by
  show xopsD run runY _ e h L = _
  simp only [xopsD,gd,xcore,logOk,if_true]
  cases callX run runY (evA e f) (xs.map (evA e)) h <;> rfl
theorem ZO {L : List (Nat × Nat)} {l : List Nat} {h' : XH} {ps : List Nat} : kRL L l run runY r d e h ps (some (v,h')) = guardO (L.all fun q => (hat h' q.2).isSome && (!l.contains q.1 || (!ps.contains q.2 || sameO (hat h q.2) (hat h' q.2)))) (xo (some L) run runY r (updo e d v) h') := rfl
theorem ZP {s b : Nat} {x y : AO} : xo none run runY (⟨ix,d,.app s b x y,none⟩ :: r) e h = kE none run runY r d e h (flagH h (evA e x) && flagH h (evA e y)) (appA s b (hpOf h) (evA e x) (evA e y)) := by
  rw [← kE_of]; rfl

def posS (acc : List Nat) (b : Nat) : Option Nat := posOf b acc
def callM (acc : List Nat) (run : XRun) (g : Nat) (all : List AV) (h : XH) : Option (AV × XH) := (run g (rnL (fun b => posOf b acc) all) (localH acc h)).map (mergeR acc h)
theorem ZQ {g : Nat} {first cap as : List AV} : callX run runY (.fn (.func g) first cap) as h = callM (passed (first ++ as ++ cap) h) run g (first ++ as ++ cap) h := rfl
def kM (acc : List Nat) (h : XH) (r : Option (AV × XH)) : Option (AV × XH) := r.map (mergeR acc h)
theorem ZR {acc : List Nat} {g : Nat} {all : List AV} : callM acc run g all h = kM acc h (run g (rnL (posS acc) all) (localH acc h)) := rfl
end
theorem ZS {x y : AV} : pickM (.bool true) x y = some x := rfl
theorem ZT {x y : AV} : pickM (.bool false) x y = some y := rfl
theorem ZU {b : Bool} : notM (.bool b) = some (.bool !b) := rfl
theorem ZV {k : IntKind} {n : Int} : negM (.int k n) = some (.int k (k.wrap (0 - n))) := rfl
theorem ZW {k k' : IntKind} {n : Int} : convM k (.int k' n) = some (.int k (k.wrap n)) := rfl
theorem ZX {off b o : Nat} : fldM off (.pt b o) = some (.pt b (o + off)) := rfl
theorem ZY {off i o : Nat} {rows : List (List AV)} : fldM off (.fp rows i o) = some (.fp rows i (o + off)) := rfl
theorem ZZ {rows : List (List AV)} : lenM false (.fs rows) = some (.int .i64 (rows.length : Int)) := rfl
theorem Ya {b o s n : Nat} : lenM false (.sl b o s n) = some (.int .i64 (n : Int)) := rfl
theorem Yb : lenM false .nilsl = some (.int .i64 0) := rfl
theorem Yc {b o s s' len : Nat} {k : IntKind} {n : Int} : idxM s (.sl b o s' len) (.int k n) = if s' = s ∧ 0 ≤ n ∧ n < (len : Int) then some (.pt b (o + n.toNat * s)) else none := rfl
theorem Ye {s : Nat} {rows : List (List AV)} {k : IntKind} {n : Int} : idxM s (.fs rows) (.int k n) = if 0 ≤ n ∧ n < (rows.length : Int) then idxF s rows n.toNat rows[n.toNat]? else none := by
  simp only [idxM,idxF]
  by_cases h : 0 ≤ n ∧ n < (rows.length : Int)
  · have h2 : n.toNat < rows.length := by omega
    rw [List.getElem?_eq_getElem h2,List.getD_eq_getElem?_getD,List.getElem?_eq_getElem h2,Option.getD_some]
    simp only [h,true_and]
    simp only [and_self,if_true]
  · rw [if_neg h,if_neg (fun hc => h ⟨hc.1,hc.2.1⟩)]
theorem Yf {s j : Nat} {rows : List (List AV)} {r : List AV} : idxF s rows j (some r) = if r.length = s then some (.fp rows j 0) else none := rfl
theorem Yg {vs : List AV} {i : Nat} : extM (.tup vs) i = vs[i]? := rfl
theorem Yh {k : IntKind} {a b : Int} : intA .add k a k b = some (.int k (k.wrap (a + b))) := by simp [intA]
theorem Yi {k : IntKind} {a b : Int} : intA .sub k a k b = some (.int k (k.wrap (a - b))) := by simp [intA]
theorem Yj {k : IntKind} {a b : Int} : intA .mul k a k b = some (.int k (k.wrap (a * b))) := by simp [intA]
theorem Yk {k : IntKind} {a b : Int} : intA .and k a k b = some (.int k (bitsA .and k a b)) := by simp [intA]
theorem Yl {k : IntKind} {a b : Int} : intA .or k a k b = some (.int k (bitsA .or k a b)) := by simp [intA]
theorem Ym {k k' : IntKind} {a b : Int} : intA .shl k a k' b = if b < 0 then none else some (.int k (k.wrap (a * 2 ^ min b.toNat k.bits))) := rfl
theorem Yn {k k' : IntKind} {a b : Int} : intA .shr k a k' b = if b < 0 then none else some (.int k (a.fdiv (2 ^ min b.toNat k.bits))) := rfl
theorem Yo {k : IntKind} {a b : Int} : intA .eql k a k b = some (.bool (decide (a = b))) := by simp [intA]; rfl
theorem Yp {k : IntKind} {a b : Int} : intA .neq k a k b = some (.bool !(decide (a = b))) := by simp [intA]; rfl
theorem Yq {k : IntKind} {a b : Int} : intA .lss k a k b = some (.bool (decide (a < b))) := by simp [intA]
theorem Yr {k : IntKind} {a b : Int} : intA .leq k a k b = some (.bool (decide (a ≤ b))) := by simp [intA]
theorem Ys {k : IntKind} {a b : Int} : intA .gtr k a k b = some (.bool (decide (b < a))) := by simp [intA]
theorem Yt {k : IntKind} {a b : Int} : intA .geq k a k b = some (.bool (decide (b ≤ a))) := by simp [intA]
theorem Yu {n : Nat} : (0 ≤ (n : Int)) = True := by simp
theorem Yv {n : Nat} : (n : Int).toNat = n := by simp
theorem Yw : IntKind.i64.wrap 0 = 0 := rfl
theorem Yx : IntKind.i64.wrap 1 = 1 := rfl
theorem Yy : IntKind.i64.wrap 2 = 2 := rfl
theorem Yz : IntKind.i64.wrap 3 = 3 := rfl
theorem Y0 : IntKind.i64.wrap 4 = 4 := rfl
theorem Y1 : IntKind.i64.wrap 5 = 5 := rfl
theorem Y2 : (0 : Int).toNat = 0 := rfl
theorem Y3 : ((0 : Nat) : Int) = 0 := rfl
theorem Y4 : (1 : Int).toNat = 1 := rfl
theorem Y5 : ((1 : Nat) : Int) = 1 := rfl
theorem Y6 : (2 : Int).toNat = 2 := rfl
theorem Y7 : ((2 : Nat) : Int) = 2 := rfl
theorem Y8 : (3 : Int).toNat = 3 := rfl
theorem Y9 : ((3 : Nat) : Int) = 3 := rfl
theorem YA : (4 : Int).toNat = 4 := rfl
theorem YB : ((4 : Nat) : Int) = 4 := rfl
theorem YC : ((5 : Nat) : Int) = 5 := rfl
theorem YD : ((6 : Nat) : Int) = 6 := rfl
theorem YE : (8 : Int).toNat = 8 := rfl
theorem YF {len s b o : Nat} {k : IntKind} {n : Int} : idxaM len s (.pt b o) (.int k n) = if 0 ≤ n ∧ n < (len : Int) then some (.pt b (o + n.toNat * s)) else none := rfl
theorem YG {k k' : IntKind} {a b : Int} : mmM true (.int k a) (.int k' b) = some (.int k (if b > a then b else a)) := rfl
theorem YH {k k' : IntKind} {a b : Int} : mmM false (.int k a) (.int k' b) = some (.int k (if b < a then b else a)) := rfl
theorem YJ {ok : Bool} {z : AV} {r : Option AV} : lookM ok z (some r) = some (lookR ok z r) := rfl
theorem YK {z v : AV} : lookR true z (some v) = .tup [v,.bool true] := rfl
theorem YL {z : AV} : lookR true z none = .tup [z,.bool false] := rfl
theorem YM {q : Bool} {b : Nat} {H : Hp} {k : AV} : lookA q H k (.mp b) = lkM q k (H b) := by simp only [lookA,lkM] <;> rfl
theorem YN {q w : Bool} {k : AV} {es : List (AV × AV)} : lkM q k (some (.map w es)) = findA q k es := rfl
theorem YO {cs : List AV} : aggM (some cs) = some (.agg cs) := rfl
theorem YP {b o : Nat} : nilckM (.pt b o) = some (.pt b o) := rfl
theorem YQ {k : IntKind} {n : Int} : nmA (.int k n) = ([] : List Nat) := rfl
theorem YR {t : Bool} : nmA (.bool t) = ([] : List Nat) := rfl
theorem YT {cs : List AV} : nmA (.agg cs) = (nmL cs : List Nat) := rfl
theorem YU {cs : List AV} : nmA (.tup cs) = (nmL cs : List Nat) := rfl
theorem YV {rows : List (List AV)} : nmA (.fs rows) = ([] : List Nat) := rfl
theorem YX {b o s n : Nat} : nmA (.sl b o s n) = ([b] : List Nat) := rfl
theorem YY {b o : Nat} : nmA (.pt b o) = ([b] : List Nat) := rfl
theorem YZ {b : Nat} : nmA (.mp b) = ([b] : List Nat) := rfl
theorem Xa  : nmA .nilsl = ([] : List Nat) := rfl
theorem Xb  : nmA .nilpt = ([] : List Nat) := rfl
theorem Xc {g : Nat} {fs us : List AV} : nmA (.fn (.func g) fs us) = (nmL fs ++ nmL us : List Nat) := rfl
theorem Xd {l : Nat} {fs us : List AV} : nmA (.fn (.yield l) fs us) = ([l] ++ (nmL fs ++ nmL us) : List Nat) := rfl
theorem Xe {k : IntKind} {n : Int} : grA (.int k n) = (true : Bool) := rfl
theorem Xf {cs : List AV} : grA (.agg cs) = (grL cs : Bool) := rfl
theorem Xg {rows : List (List AV)} : grA (.fs rows) = (true : Bool) := rfl
theorem Xh {b o s n : Nat} : grA (.sl b o s n) = (false : Bool) := rfl
theorem Xi {b o : Nat} : grA (.pt b o) = (false : Bool) := rfl
theorem Xj {b : Nat} : grA (.mp b) = (false : Bool) := rfl
theorem Xk  : grA .nilsl = (true : Bool) := rfl
theorem Xl  : grA .nilpt = (true : Bool) := rfl
theorem Xm {g : Nat} {fs us : List AV} : grA (.fn (.func g) fs us) = ((grL fs && grL us) : Bool) := rfl
theorem Xn  : grA .nilfn = (true : Bool) := rfl
theorem Xo {s : Nat → Option Nat} {k : IntKind} {n : Int} : rnA s (.int k n) = ((.int k n) : AV) := rfl
theorem Xp {s : Nat → Option Nat} {t : Bool} : rnA s (.bool t) = ((.bool t) : AV) := rfl
theorem Xq {s : Nat → Option Nat} {cs : List AV} : rnA s (.agg cs) = (.agg (rnL s cs) : AV) := rfl
theorem Xr {s : Nat → Option Nat} {cs : List AV} : rnA s (.tup cs) = (.tup (rnL s cs) : AV) := rfl
theorem Xs {s : Nat → Option Nat} {rows : List (List AV)} : rnA s (.fs rows) = ((.fs rows) : AV) := rfl
theorem Xt {s : Nat → Option Nat} {b o s2 n : Nat} : rnA s (.sl b o s2 n) = ((match s b with | some c => .sl c o s2 n | none => .any) : AV) := by simp only [rnA] <;> rfl
theorem Xu {s : Nat → Option Nat} {b o : Nat} : rnA s (.pt b o) = ((match s b with | some c => .pt c o | none => .any) : AV) := by simp only [rnA] <;> rfl
theorem Xv {s : Nat → Option Nat} {b : Nat} : rnA s (.mp b) = ((match s b with | some c => .mp c | none => .any) : AV) := by simp only [rnA] <;> rfl
theorem Xw {s : Nat → Option Nat}  : rnA s .nilsl = (.nilsl : AV) := rfl
theorem Xx {s : Nat → Option Nat}  : rnA s .nilpt = (.nilpt : AV) := rfl
theorem Xy {s : Nat → Option Nat} {g : Nat} {fs us : List AV} : rnA s (.fn (.func g) fs us) = (.fn (.func g) (rnL s fs) (rnL s us) : AV) := rfl
theorem Xz {s : Nat → Option Nat} {l : Nat} {fs us : List AV} : rnA s (.fn (.yield l) fs us) = ((match s l with | some c => .fn (.yield c) (rnL s fs) (rnL s us) | none => .any) : AV) := by simp only [rnA] <;> rfl
theorem X0 {k : IntKind} {n : Int} : slN (.int k n) = ([] : List Nat) := rfl
theorem XI {t : Bool} : slN (.bool t) = ([] : List Nat) := rfl
theorem XJ {cs : List AV} : slN (.agg cs) = (slL cs : List Nat) := rfl
theorem XK {cs : List AV} : slN (.tup cs) = (slL cs : List Nat) := rfl
theorem XL {rows : List (List AV)} : slN (.fs rows) = ([] : List Nat) := rfl
theorem XM {b o s n : Nat} : slN (.sl b o s n) = ([b] : List Nat) := rfl
theorem XN {b o : Nat} : slN (.pt b o) = ([] : List Nat) := rfl
theorem XO  : slN .nilsl = ([] : List Nat) := rfl
theorem XP  : slN .nilpt = ([] : List Nat) := rfl
theorem XQ {g : Nat} {fs us : List AV} : slN (.fn (.func g) fs us) = ([] : List Nat) := rfl
theorem XU {B : Nat} {C : List AV} {k : IntKind} {n : Int} : fzA B C (.int k n) = ((.int k n) : AV) := rfl
theorem XV {B : Nat} {C : List AV} {cs : List AV} : fzA B C (.agg cs) = (.agg (fzL B C cs) : AV) := rfl
theorem XW {B : Nat} {C : List AV} {cs : List AV} : fzA B C (.tup cs) = (.tup (fzL B C cs) : AV) := rfl
theorem XX {B : Nat} {C : List AV} {rows : List (List AV)} : fzA B C (.fs rows) = ((.fs rows) : AV) := rfl
theorem XY {B : Nat} {C : List AV} {b o s n : Nat} : fzA B C (.sl b o s n) = ((if b = B ∧ o + n * s ≤ C.length then .fs (chunks C o s n) else .sl b o s n) : AV) := rfl
theorem XZ {B : Nat} {C : List AV} {b o : Nat} : fzA B C (.pt b o) = ((.pt b o) : AV) := rfl
theorem Wa {B : Nat} {C : List AV}  : fzA B C .nilsl = (.nilsl : AV) := rfl
theorem Wb {B : Nat} {C : List AV} {g : Nat} {fs us : List AV} : fzA B C (.fn (.func g) fs us) = (.fn (.func g) (fzL B C fs) (fzL B C us) : AV) := rfl
theorem Wc {k : IntKind} {n : Int} : nzA (.int k n) = ((.int k n) : AV) := rfl
theorem Wd {t : Bool} : nzA (.bool t) = ((.bool t) : AV) := rfl
theorem We {cs : List AV} : nzA (.agg cs) = (.agg (nzL cs) : AV) := rfl
theorem Wf {cs : List AV} : nzA (.tup cs) = (.tup (nzL cs) : AV) := rfl
theorem Wg {rows : List (List AV)} : nzA (.fs rows) = ((.fs rows) : AV) := rfl
theorem Wh {b o s n : Nat} : nzA (.sl b o s n) = ((.sl b o s n) : AV) := rfl
theorem Wi {b o : Nat} : nzA (.pt b o) = ((.pt b o) : AV) := rfl
theorem Wj  : nzA .nilsl = (.fs [] : AV) := rfl
theorem Wk  : nzA .nilpt = (.nilpt : AV) := rfl
theorem Wl {g : Nat} {fs us : List AV} : nzA (.fn (.func g) fs us) = ((.fn (.func g) fs us) : AV) := rfl
theorem Wm {l : Nat} {fs us : List AV} : nzA (.fn (.yield l) fs us) = ((.fn (.yield l) fs us) : AV) := rfl
theorem Wn {k : IntKind} {n : Int} : cellsOf (.int k n) = (some [(.int k n)] : Option (List AV)) := rfl
theorem Wo {cs : List AV} : cellsOf (.agg cs) = (some cs : Option (List AV)) := rfl
theorem Wp {rows : List (List AV)} : cellsOf (.fs rows) = (some [(.fs rows)] : Option (List AV)) := rfl
theorem Wq {b o s n : Nat} : cellsOf (.sl b o s n) = (some [(.sl b o s n)] : Option (List AV)) := rfl
theorem Wr {b o : Nat} : cellsOf (.pt b o) = (some [(.pt b o)] : Option (List AV)) := rfl
theorem Ws {b : Nat} : cellsOf (.mp b) = (some [(.mp b)] : Option (List AV)) := rfl
theorem Wt  : cellsOf .nilsl = (some [.nilsl] : Option (List AV)) := rfl
theorem Wu  : cellsOf .nilpt = (some [.nilpt] : Option (List AV)) := rfl
theorem Wv {g : Nat} {fs us : List AV} : cellsOf (.fn (.func g) fs us) = (some [(.fn (.func g) fs us)] : Option (List AV)) := rfl
theorem Ww {b o s n : Nat} : blkA (.sl b o s n) = (some b : Option Nat) := rfl
theorem Wx {b o : Nat} : blkA (.pt b o) = (some b : Option Nat) := rfl
theorem Wy  : blkA .nilsl = (none : Option Nat) := rfl
def keepT (k : Nat) (acc : List Nat) (h : XH) (r : List Nat) : XH := r.map fun b => rnO (keepS k acc) (hat h b)
def locT (acc : List Nat) (h : XH) (r : List Nat) : XH := r.map fun b => rnO (fun b => posOf b acc) (hat h b)
def fzQ (fz : List (Nat × Bool)) (e : Env) (h : XH) : List Nat := fz.flatMap (fzOf e h)
def fzDM (h : XH) : Option XB → List Nat
  | some (.blk false (.cells _ cs)) => deepN h 2 (slL cs)
  | _ => []
def fzD (h : XH) (v : AV) : List Nat := match v with
  | .pt b _ => match hat h b with
      | some (.blk false (.cells _ cs)) => deepN h 2 (slL cs)
      | _ => []
  | _ => []
def kF (own : Bool) (k : Nat) (h : XH) (r : Option AV) : Option (AV × XH) := r.map fun v => finX own k v h
def finC (k : Nat) (h : XH) (v : AV) (acc : List Nat) : AV × XH := (rnA (keepS k acc) v,keepH k acc h)
def finN (k : Nat) (p : Env × XH) : AV × XH := finC k p.2 (nzA (p.1 0)) (keepAcc k [nzA (p.1 0)] p.2)
def resF : Option (List AV) → Option AV
  | some [v] => some v
  | some vs => some (.tup vs)
  | none => none
def resCA : Option AV → Option (List AV) → Option (List AV)
  | some v,some vs => some (v :: vs)
  | _,_ => none
def condX (v : AV) (a b : Env → XH → Option (DX × Env × XH)) (e : Env) (h : XH) : Option (DX × Env × XH) := match v with
  | .bool true => a e h
  | .bool false => b e h
  | _ => none
def ldM (agg : Bool) (n o : Nat) : Option ABlk → Option AV
  | some (.cells _ cs) => readA agg n cs o
  | _ => none
def ldR (agg : Bool) (n o : Nat) : Option (List AV) → Option AV
  | some r => readA agg n r o
  | none => none
def stM (n b o : Nat) (h : XH) : Option XB → Option (List AV) → Option XH
  | some (.blk g (.cells true cs)),some vs => if vs.length = n ∧ o + n ≤ cs.length then some (h.set b (some (.blk (g && grL vs) (.cells true (splice cs o vs))))) else none
  | _,_ => none
def muM (q : Bool) (b : Nat) (h : XH) (k x : AV) : Option XB → Option XH
  | some (.blk g (.map true es)) => (putA q k x es).map fun es' => h.set b (some (.blk (g && (grA k && grA x)) (.map true es')))
  | _ => none
def flM : Option XB → Bool
  | some (.blk g _) => g
  | _ => false

theorem Wz {x : Option XB} {h : XH} {b : Nat} : hat (x :: h) b = if b = 0 then x else hat h (b - 1) := by cases b <;> simp [hat]
def hpM : Option XB → Option ABlk
  | some (.blk _ x) => some x
  | _ => none
theorem W0 {h : XH} {b : Nat} : hpOf h b = hpM (hat h b) := rfl
theorem W3 {g : Bool} {x : ABlk} : hpM (some (.blk g x)) = some x := rfl
theorem W4 {α : Type} {x y : α} {h : List α} {b : Nat} : (x :: h).set b y = if b = 0 then y :: h else x :: h.set (b - 1) y := by cases b <;> simp
theorem W5 {α : Type} {x : α} {l : List α} {n : Nat} : (x :: l).take n = if n = 0 then [] else x :: l.take (n - 1) := by cases n <;> simp
theorem W6 {α : Type} {n : Nat} : ([] : List α).take n = [] := by simp
theorem W7 {α : Type} {x : α} {l : List α} {n : Nat} : (x :: l).drop n = if n = 0 then x :: l else l.drop (n - 1) := by cases n <;> simp
theorem W8 {α : Type} {n : Nat} : ([] : List α).drop n = [] := by simp
theorem W9 {α : Type} {x d : α} {l : List α} {n : Nat} : (x :: l).getD n d = if n = 0 then x else l.getD (n - 1) d := by cases n <;> simp
theorem WA {α : Type} {x : α} {l : List α} {n : Nat} : (x :: l)[n]? = if n = 0 then some x else l[n - 1]? := by cases n <;> simp
theorem WB {α : Type} {a : α} : (a ∈ ([] : List α)) = False := by simp
theorem WC {α : Type} {a b : α} {l : List α} : (a ∈ b :: l) = (a = b ∨ a ∈ l) := by simp
theorem WE {acc : List Nat} {b : Nat} : posS acc b = posOf b acc := rfl
theorem WF {b c : Nat} {r : List Nat} : posOf b (c :: r) = if b = c then some 0 else (posOf b r).map (· + 1) := rfl
theorem WG {k : Nat} {acc : List Nat} {b : Nat} : keepS k acc b = if b < k then some b else (posOf b acc).map (· + k) := rfl
theorem WH {acc : List Nat} {n i : Nat} : backS acc n i = if i < acc.length then acc[i]? else some (n + (i - acc.length)) := rfl
theorem WI {h : XH} {k n : Nat} {acc : List Nat} : reachX h k n [] acc = acc := by cases n <;> rfl
def reachM (h : XH) (k n : Nat) (r : List Nat) (acc : List Nat) (b : Nat) : Option XB → List Nat
  | none => reachX h k n r acc
  | some x => reachX h k n (nmB x ++ r) (acc ++ [b])
theorem WJ {h : XH} {k n : Nat} {r acc : List Nat} {b : Nat} {x : XB} : reachM h k n r acc b (some x) = reachX h k n (nmB x ++ r) (acc ++ [b]) := rfl
theorem WK {h : XH} {k n : Nat} {b : Nat} {r acc : List Nat} : reachX h k n (b :: r) acc = if n = 0 then acc else if b < k ∨ b ∈ acc then reachX h k (n - 1) r acc else reachM h k (n - 1) r acc b (hat h b) := by
  cases n with
  | zero => rfl
  | succ n => simp only [reachX,Nat.add_one_ne_zero,if_false,Nat.add_sub_cancel]; cases hat h b <;> rfl
theorem WL {xs : List AV} {h : XH} : passed xs h = reachX h 0 4096 (nmL xs) [] := rfl
theorem WM {k : Nat} {vs : List AV} {h : XH} : keepAcc k vs h = reachX h k 4096 (nmL vs ++ (padTake k h).flatMap nmO) [] := rfl
theorem WN {n : Nat} : padTake n [] = List.replicate n none := by induction n with
  | zero => rfl
  | succ n ih => simp [padTake,ih,List.replicate_succ]
theorem WO {x : Option XB} {h : XH} {n : Nat} : padTake n (x :: h) = if n = 0 then [] else x :: padTake (n - 1) h := by cases n <;> rfl
theorem WP {k : Nat} {acc : List Nat} {h : XH} : keepH k acc h = (padTake k h).map (rnO (keepS k acc)) ++ keepT k acc h acc := rfl
theorem WQ {k : Nat} {acc : List Nat} {h : XH} : keepT k acc h [] = [] := rfl
theorem WR {k : Nat} {acc : List Nat} {h : XH} {b : Nat} {r : List Nat} : keepT k acc h (b :: r) = rnO (keepS k acc) (hat h b) :: keepT k acc h r := rfl
theorem WS {acc : List Nat} {h : XH} : localH acc h = locT acc h acc := rfl
theorem WT {acc : List Nat} {h : XH} : locT acc h [] = [] := rfl
theorem WU {acc : List Nat} {h : XH} {b : Nat} {r : List Nat} : locT acc h (b :: r) = rnO (posS acc) (hat h b) :: locT acc h r := rfl
theorem WV {s : Nat → Option Nat} : rnO s none = none := rfl
theorem WW {s : Nat → Option Nat} {x : XB} : rnO s (some x) = some (rnB s x) := rfl
theorem WX {s : Nat → Option Nat} {x : ABlk} : rnB s (.blk true x) = .blk true x := by cases x <;> rfl
theorem WY {s : Nat → Option Nat} {w : Bool} {cs : List AV} : rnB s (.blk false (.cells w cs)) = .blk false (.cells w (rnL s cs)) := rfl
theorem WZ {s : Nat → Option Nat} {K site : Nat} {vs : List AV} {st : LSt} : rnB s (.loop K site vs st) = .loop K site (rnL s vs) st := rfl
theorem Va : nmO none = [] := rfl
theorem Vb {x : XB} : nmO (some x) = nmB x := rfl
theorem Vc {x : ABlk} : nmB (.blk true x) = [] := by cases x <;> rfl
theorem Vd {w : Bool} {cs : List AV} : nmB (.blk false (.cells w cs)) = nmL cs := rfl
theorem Ve {K site : Nat} {vs : List AV} {st : LSt} : nmB (.loop K site vs st) = nmL vs := rfl
theorem Vf {acc : List Nat} {h hl : XH} {v : AV} : kM acc h (some (v,hl)) = some (rnA (backS acc h.length) v,mergeH acc h hl) := rfl
theorem Vg {acc : List Nat} {h hl : XH} : mergeH acc h hl = setL h acc ((padTake acc.length hl).map (rnO (backS acc h.length))) ++ (hl.drop acc.length).map (rnO (backS acc h.length)) := rfl
theorem Vh {h : XH} {xs : XH} : setL h [] xs = h := by cases xs <;> rfl
theorem Vi {h : XH} {b : Nat} {bs : List Nat} {x : Option XB} {xs : XH} : setL h (b :: bs) (x :: xs) = setL (h.set b x) bs xs := rfl
theorem Vj {a : Nat} : List.elem a [] = false := rfl
theorem Vk {a b : Nat} {l : List Nat} : List.elem a (b :: l) = if a = b then true else List.elem a l := by
  by_cases h : a = b
  · simp only [List.elem,h,if_true,beq_self_eq_true]
  · simp only [List.elem,show (a == b) = false by simpa using h,if_neg h]
theorem Vl {g : Nat} {first cap as : List AV} {h : XH} : passedOf (.fn (.func g) first cap) as h = passed (first ++ as ++ cap) h := rfl
theorem Vm {l : Nat} {as : List AV} {h : XH} : passedOf (.fn (.yield l) [] []) as h = passed (.fn (.yield l) [] [] :: as) h := rfl
theorem Vn {α : Type} {x : α} : (some x).isSome = true := rfl
theorem Vo {b : Bool} : (b == true) = b := by cases b <;> rfl
def fzE (b : Nat) (cs : List AV) (e : Env) : Env := fun j => fzA b cs (e j)
theorem Vp {b : Nat} {cs : List AV} {e : Env} {j : Nat} : fzE b cs e j = fzA b cs (e j) := rfl
def fz1M (b : Nat) (e : Env) (h : XH) : Option XB → Env × XH
  | some (.blk true (.cells _ cs)) => (fzE b cs e,(h.map (fzO b cs)).set b none)
  | _ => (e,h)
theorem Vq {b : Nat} {e : Env} {h : XH} {w : Bool} {cs : List AV} : fz1M b e h (some (.blk true (.cells w cs))) = (fzE b cs e,(h.map (fzO b cs)).set b none) := rfl
theorem fz1_eq {b : Nat} {e : Env} {h : XH} : fz1 b e h = fz1M b e h (hat h b) := by
  unfold fz1 fz1M
  cases hat h b with
  | none => rfl
  | some x => cases x with
    | loop => rfl
    | blk g x => cases g <;> cases x <;> rfl
def fzP (r : List Nat) (p : Env × XH) : Env × XH := fzNs r p.1 p.2
theorem Vr {r : List Nat} {e : Env} {h : XH} : fzP r (e,h) = fzNs r e h := rfl
theorem Vs {e : Env} {h : XH} : fzNs [] e h = (e,h) := rfl
theorem Vt {b : Nat} {r : List Nat} {e : Env} {h : XH} : fzNs (b :: r) e h = fzP r (fz1M b e h (hat h b)) := by rw [← fz1_eq]; rfl
def nzP (fz : List (Nat × Bool)) (p : Env × XH) : Env × XH := (nzE fz p.1,p.2)
theorem Sy {fz : List (Nat × Bool)} {e : Env} {h : XH} : nzP fz (e,h) = (nzE fz e,h) := rfl
theorem Sz {e : Env} : nzE [] e = e := rfl
theorem S6 {k : Nat} {r : List (Nat × Bool)} {e : Env} : nzE ((k,true) :: r) e = nzE r e := rfl
theorem S7 {k j : Nat} {r : List (Nat × Bool)} {e : Env} : nzE ((k,false) :: r) e j = if j = k then nzA (nzE r e j) else nzE r e j := rfl
theorem Vu {fz : List (Nat × Bool)} {e : Env} {h : XH} : fzX fz e h = nzP fz (fzNs (fzQ fz e h) e h) := rfl
theorem Vv {e : Env} {h : XH} : fzQ [] e h = [] := rfl
theorem Vw {j : Nat} {r : List (Nat × Bool)} {e : Env} {h : XH} : fzQ ((j,false) :: r) e h = deepN h 2 (slN (e j)) ++ fzQ r e h := rfl
theorem Vx {j : Nat} {r : List (Nat × Bool)} {e : Env} {h : XH} : fzQ ((j,true) :: r) e h = fzD h (e j) ++ fzQ r e h := by
  simp only [fzQ,List.flatMap_cons,fzOf,fzD] <;> rfl
theorem Vy {b o : Nat} {h : XH} : fzD h (.pt b o) = fzDM h (hat h b) := rfl
theorem Vz {h : XH} {w : Bool} {cs : List AV} : fzDM h (some (.blk false (.cells w cs))) = deepN h 2 (slL cs) := rfl
theorem V0 {h : XH} {x : ABlk} : fzDM h (some (.blk true x)) = [] := by cases x <;> rfl
def dpM (h : XH) (n b : Nat) (x : Option XB) : List Nat := deepM (deepN h n) b x
theorem Sg {h : XH} {n : Nat} : deepN h n [] = [] := by cases n <;> rfl
theorem Si {h : XH} {b : Nat} {r : List Nat} : deepN h 1 (b :: r) = dpM h 0 b (hat h b) ++ deepN h 1 r := by simp only [deepN,List.flatMap_cons,dpM]
theorem Sj {h : XH} {b : Nat} {r : List Nat} : deepN h 2 (b :: r) = dpM h 1 b (hat h b) ++ deepN h 2 r := by simp only [deepN,List.flatMap_cons,dpM]
theorem Sk {h : XH} {n b : Nat} {w : Bool} {cs : List AV} : dpM h n b (some (.blk false (.cells w cs))) = deepN h n (slL cs) ++ [b] := rfl
theorem Sl {h : XH} {n b : Nat} {x : ABlk} : dpM h n b (some (.blk true x)) = [b] := by cases x <;> rfl
theorem V1 {b : Nat} {cs : List AV} : fzO b cs none = none := rfl
theorem V2 {b : Nat} {cs : List AV} {x : XB} : fzO b cs (some x) = some (fzB b cs x) := rfl
theorem V3 {b : Nat} {cs vs : List AV} {w : Bool} : fzB b cs (.blk false (.cells w vs)) = .blk (grL (fzL b cs vs)) (.cells w (fzL b cs vs)) := rfl
theorem V4 {b : Nat} {cs : List AV} {x : ABlk} : fzB b cs (.blk true x) = .blk true x := by cases x <;> rfl
theorem TD {cs : List AV} {o s : Nat} : chunks cs o s 0 = [] := rfl
theorem TE {cs : List AV} {o s : Nat} : chunks cs o s 1 = (cs.drop o).take s :: chunks cs (o + s) s 0 := rfl
theorem TF {cs : List AV} {o s : Nat} : chunks cs o s 2 = (cs.drop o).take s :: chunks cs (o + s) s 1 := rfl
theorem TG {cs : List AV} {o s : Nat} : chunks cs o s 3 = (cs.drop o).take s :: chunks cs (o + s) s 2 := rfl
theorem TH {cs : List AV} {o s : Nat} : chunks cs o s 4 = (cs.drop o).take s :: chunks cs (o + s) s 3 := rfl
theorem TI {cs : List AV} {o s : Nat} : chunks cs o s 5 = (cs.drop o).take s :: chunks cs (o + s) s 4 := rfl
theorem TJ {cs : List AV} {o s : Nat} : chunks cs o s 6 = (cs.drop o).take s :: chunks cs (o + s) s 5 := rfl
theorem V5 {res : List (Nat × Option (Bool × Nat))} {own : Bool} {k : Nat} {e : Env} {h : XH} : retX res own k (some (.normal,e,h)) = kF own k h (resA res e (hpOf h)) := rfl
theorem V6 {res : List (Nat × Option (Bool × Nat))} {own : Bool} {k : Nat} {e : Env} {h : XH} : retX res own k (some (.ret,e,h)) = kF own k h (resA res e (hpOf h)) := rfl
theorem V7 {own : Bool} {k : Nat} {h : XH} {v : AV} : kF own k h (some v) = some (finX own k v h) := rfl
theorem V8 {k : Nat} {h : XH} {v : AV} : finX true k v h = finC k h v (keepAcc k [v] h) := by simp [finX,finC,upd]
theorem V9 {k : Nat} {h : XH} {v : AV} : finX false k v h = finN k (fzNs (deepN h 2 (slN v)) (upd anyE 0 v) h) := rfl
theorem VA {k : Nat} {h : XH} {e : Env} : finN k (e,h) = finC k h (nzA (e 0)) (keepAcc k [nzA (e 0)] h) := rfl
theorem VB {k : Nat} {h : XH} {v : AV} {acc : List Nat} : finC k h v acc = (rnA (keepS k acc) v,keepH k acc h) := rfl
theorem VC {rs : List (Nat × Option (Bool × Nat))} {e : Env} {h : Hp} : resA rs e h = resF (resL e h rs) := by unfold resA resF; cases resL e h rs <;> rfl
theorem VD {v : AV} : resF (some [v]) = some v := rfl
theorem VE : resF (some []) = some (.tup []) := rfl
theorem VF {v u : AV} {r : List AV} : resF (some (v :: u :: r)) = some (.tup (v :: u :: r)) := rfl
theorem VG {e : Env} {h : Hp} : resL e h [] = some [] := rfl
theorem VH {e : Env} {h : Hp} {x : Nat × Option (Bool × Nat)} {r : List (Nat × Option (Bool × Nat))} : resL e h (x :: r) = resCA (resA1 e h x) (resL e h r) := by simp only [resL,resCA] <;> rfl
theorem VI {v : AV} {vs : List AV} : resCA (some v) (some vs) = some (v :: vs) := rfl
theorem VJ {e : Env} {h : Hp} {t : Nat} : resA1 e h (t,none) = some (e t) := rfl
theorem VK {e : Env} {h : Hp} {a n : Nat} {g : Bool} : resA1 e h (a,some (g,n)) = loadA g n h (e a) := rfl
theorem VL {as : List AV} {k : Nat} : argEnv as k = as.getD k .any := rfl
theorem VM {k : Nat} {ks : List Nat} {v : AV} {vs : List AV} {j : Nat} : envL (k :: ks) (v :: vs) j = if j = k then v else envL ks vs j := rfl
theorem VN {k : Nat} {L : List Nat} {e : Env} {h : XH} : canonL k L e h = rnL (keepS k (keepAcc k (L.map e) h)) (L.map e) := rfl
theorem VO {k : Nat} {L : List Nat} {e : Env} {h : XH} : canonH k L e h = keepH k (keepAcc k (L.map e) h) h := rfl
theorem VP {D : Nat → Option XFn} {K k : Nat} {rd : Option Nat} {e : Env} {h : XH} {c : AO} {a b : XCode} : execW D K k rd (.cond c a b) e h = condX (evA e c) (execW D K k rd a) (execW D K k rd b) e h := by
  rw [execW_cond]; unfold condX
  cases evA e c with
  | bool t => cases t <;> rfl
  | _ => rfl
theorem VQ {a b : Env → XH → Option (DX × Env × XH)} {e : Env} {h : XH} : condX (.bool true) a b e h = a e h := rfl
theorem VR {a b : Env → XH → Option (DX × Env × XH)} {e : Env} {h : XH} : condX (.bool false) a b e h = b e h := rfl
theorem VS {id : Nat} {e : Env} {h : XH} : leaves (some (.exit id,e,h)) = true := rfl
theorem VT {e : Env} {h : XH} : leaves (some (.ret,e,h)) = true := rfl
def boxM : Option (List AV) → Option Eff
    | some cs => some (.new none (.cells true cs) fun b => .pt b 0)
    | none => none
def bslM (s n : Nat) : Option (List AV) → Option Eff
    | some cs => some (.new none (.cells true cs) fun b => .sl b 0 s n)
    | none => none
theorem VU : (false = true) = False := by simp
theorem VV {α β : Type} {f : α → β} {a : α} {l : List α} : (a :: l).map f = f a :: l.map f := rfl
theorem VW {α β : Type} {f : α → β} : ([] : List α).map f = [] := rfl
theorem VX {α : Type} {a : α} {l s : List α} : (a :: l) ++ s = a :: (l ++ s) := rfl
theorem VY {α : Type} {s : List α} : [] ++ s = s := rfl
theorem VZ {α : Type} {s : List α} : s ++ [] = s := by simp
theorem Ua {α β : Type} {f : α → List β} {a : α} {l : List α} : (a :: l).flatMap f = f a ++ l.flatMap f := by simp
theorem Ub {α β : Type} {f : α → List β} : ([] : List α).flatMap f = [] := rfl
theorem Uc {α : Type} {a : α} {l : List α} : (a :: l).length = l.length + 1 := rfl
theorem Ud {α : Type} : ([] : List α).length = 0 := rfl
theorem Ue {α β : Type} {f : α → β} {l : List α} : (l.map f).length = l.length := by simp
theorem Uf {α β : Type} {f : α → β} {l : List α} {i : Nat} : (l.map f)[i]? = l[i]?.map f := by simp
theorem Ug {α β : Type} {f : α → β} {a : α} : (some a).map f = some (f a) := rfl
theorem Uh {α β : Type} {f : α → β} : (none : Option α).map f = none := rfl
theorem Ui {b : Bool} : (true && b) = b := by simp
theorem Uj {b : Bool} : (b && true) = b := by simp
theorem Uk {b : Bool} : (false && b) = false := by simp
theorem Ul {b : Bool} : (b && false) = false := by simp
theorem Um : (!true) = false := rfl
theorem Un : (!false) = true := rfl
theorem Uo {b : Bool} : (true || b) = true := by simp
theorem Uq {b : Bool} : (b || true) = true := by simp
theorem Ur {b : Bool} : (b || false) = b := by simp
theorem Us {p : Prop} : (p ∧ True) = p := by simp
theorem Ut {p : Prop} : (False ∧ p) = False := by simp
theorem Uu {p : Prop} : (p ∧ False) = False := by simp
theorem Uv {p : Prop} : (p ∨ True) = True := by simp
theorem Uw {p : Prop} : (p ∨ False) = p := by simp
theorem Ux {i : Decidable True} : decide True = true := by simp
theorem Uy {i : Decidable False} : decide False = false := by simp
theorem Uz {α : Type} {f : α → Bool} : [].all f = true := rfl
theorem U0 {α : Type} {f : α → Bool} {a : α} {l : List α} : (a :: l).all f = (f a && l.all f) := rfl
theorem U1 {α : Type} {a : α} : List.replicate 0 a = [] := rfl
theorem TA {α : Type} {a : α} : List.replicate 1 a = [a] := rfl
theorem TB {α : Type} {a : α} : List.replicate 2 a = [a,a] := rfl
theorem TC {α : Type} {a : α} : List.replicate 3 a = [a,a,a] := rfl
theorem U2 : nmL [] = [] := by simp only [nmL]
theorem U3 {v : AV} {r : List AV} : nmL (v :: r) = (nmA v ++ nmL r) := by simp only [nmL]
theorem U4 {s : Nat → Option Nat} : rnL s [] = [] := by simp only [rnL]
theorem U5 {s : Nat → Option Nat} {v : AV} {r : List AV} : rnL s (v :: r) = (rnA s v :: rnL s r) := by simp only [rnL]
theorem U6 : grL [] = true := by simp only [grL]
theorem U7 {v : AV} {r : List AV} : grL (v :: r) = (grA v && grL r) := by simp only [grL]
theorem U8 : slL [] = [] := by simp only [slL]
theorem U9 {v : AV} {r : List AV} : slL (v :: r) = (slN v ++ slL r) := by simp only [slL]
theorem UA {B : Nat} {C : List AV} : fzL B C [] = [] := by simp only [fzL]
theorem UB {B : Nat} {C : List AV} {v : AV} {r : List AV} : fzL B C (v :: r) = (fzA B C v :: fzL B C r) := by simp only [fzL]
theorem UC : nzL [] = [] := by simp only [nzL]
theorem UD {v : AV} {r : List AV} : nzL (v :: r) = (nzA v :: nzL r) := by simp only [nzL]
theorem UE {a : AV} {z cs : List AV} {off : Nat} : splice (a :: z) off cs = (a :: z).take off ++ cs ++ (a :: z).drop (off + cs.length) := rfl
theorem UF {z : List AV} : fillA z [] = some z := rfl
def filM (z : List AV) (off n : Nat) (rest : List (Nat × Nat × AV)) : Option (List AV) → Option (List AV)
  | some cs => if cs.length = n ∧ off + n ≤ z.length then fillA (splice z off cs) rest else none
  | none => none
theorem UG {z : List AV} {off n : Nat} {v : AV} {rest : List (Nat × Nat × AV)} : fillA z ((off,n,v) :: rest) = filM z off n rest (cellsOf v) := by simp only [fillA,filM] <;> rfl
theorem UH {z cs : List AV} {off n : Nat} {rest : List (Nat × Nat × AV)} : filM z off n rest (some cs) = if cs.length = n ∧ off + n ≤ z.length then fillA (splice z off cs) rest else none := rfl
theorem UI {e : Env} {p : Nat} {ps : List Nat} {v : AV} {vs : List AV} : putL e (p :: ps) (v :: vs) = putL (upd e p v) ps vs := rfl
theorem UJ {e : Env} {vs : List AV} : putL e [] vs = e := rfl
theorem UK {H : Hp} {x : AO} {e : Env} : evalQ (.box x) e H = boxM (cellsOf (evA e x)) := by simp only [evalQ,boxM] <;> rfl
theorem UL {cs : List AV} : boxM (some cs) = some (.new none (.cells true cs) fun b => .pt b 0) := rfl
theorem UM {s n : Nat} {z : List AV} {ps : List (Nat × Nat × AO)} {e : Env} {H : Hp} : evalQ (.bslice s n z ps) e H = bslM s n (fillA (List.replicate n z).flatten (ps.map fun p => (p.1,p.2.1,evA e p.2.2))) := by simp only [evalQ,bslM] <;> rfl
theorem UN {s n : Nat} {cs : List AV} : bslM s n (some cs) = some (.new none (.cells true cs) fun b => .sl b 0 s n) := rfl
theorem UO {α : Type} : ([] : List (List α)).flatten = [] := rfl
theorem UP {α : Type} {a : List α} {l : List (List α)} : (a :: l).flatten = a ++ l.flatten := rfl
theorem UQ {e : Env} {H : Hp} : evalQ .mkmap e H = some (.new none (.map true []) fun b => .mp b) := rfl
def srcM (s o s' len : Nat) : Option ABlk → Option (Nat × List AV)
    | some (.cells _ cs) => if s' = s ∧ o + len * s ≤ cs.length then some (len,(cs.drop o).take (len * s)) else none
    | _ => none
theorem UR {s b o s' n : Nat} {H : Hp} : srcA s H (.sl b o s' n) = srcM s o s' n (H b) := by simp only [srcA,srcM] <;> rfl
theorem US {s o s' len : Nat} {w : Bool} {cs : List AV} : srcM s o s' len (some (.cells w cs)) = if s' = s ∧ o + len * s ≤ cs.length then some (len,(cs.drop o).take (len * s)) else none := rfl
def appM (s bytes : Nat) (H : Hp) (x : AV) : Option (Nat × List AV) → Option Eff
  | none => none
  | some (n,new) =>
    match x with
    | .nilsl => if n * bytes ≤ 1099511627776 ∧ n ≤ 1099511627776 then (if n = 0 then some (.val .nilsl) else some (.new none (.cells true new) fun b => .sl b 0 s n)) else none
    | .sl b 0 s' len => match H b with
      | some (.cells true cs) => if s' = s ∧ len * s = cs.length ∧ (len + n) * bytes ≤ 1099511627776 ∧ len + n ≤ 1099511627776 then some (.new (some b) (.cells true (cs ++ new)) fun b => .sl b 0 s (len + n)) else none
      | _ => none
    | _ => none
def appM2 (s bytes n : Nat) (new : List AV) (b s' len : Nat) : Option ABlk → Option Eff
      | some (.cells true cs) => if s' = s ∧ len * s = cs.length ∧ (len + n) * bytes ≤ 1099511627776 ∧ len + n ≤ 1099511627776 then some (.new (some b) (.cells true (cs ++ new)) fun b => .sl b 0 s (len + n)) else none
      | _ => none
theorem UT {s bytes : Nat} {H : Hp} {x y : AV} : appA s bytes H x y = appM s bytes H x (srcA s H y) := by
  unfold appA appM
  cases srcA s H y <;> rfl
theorem UU {s bytes n : Nat} {H : Hp} {new : List AV} : appM s bytes H .nilsl (some (n,new)) = if n * bytes ≤ 1099511627776 ∧ n ≤ 1099511627776 then (if n = 0 then some (.val .nilsl) else some (.new none (.cells true new) fun b => .sl b 0 s n)) else none := rfl
theorem UV {s bytes n b s' len : Nat} {H : Hp} {new : List AV} : appM s bytes H (.sl b 0 s' len) (some (n,new)) = appM2 s bytes n new b s' len (H b) := by simp only [appM,appM2] <;> rfl
theorem UW {s bytes n b s' len : Nat} {cs new : List AV} : appM2 s bytes n new b s' len (some (.cells true cs)) = if s' = s ∧ len * s = cs.length ∧ (len + n) * bytes ≤ 1099511627776 ∧ len + n ≤ 1099511627776 then some (.new (some b) (.cells true (cs ++ new)) fun b => .sl b 0 s (len + n)) else none := rfl
theorem T1 {e : Env} {n : Nat} : evA e (.t n) = e n := rfl
theorem T2 {e : Env} {v : AV} : evA e (.c v) = v := rfl
theorem pad : (0 : Nat) = 0 := rfl
theorem ptf (p : Prop) : (p = True) ∨ (p = False) := by by_cases h : p <;> simp [h]
theorem at_ix {α : Type} {l : List α} {i : Nat} (h : i < l.length) : ∃ x,l[i]? = some x := ⟨l[i],List.getElem?_eq_getElem h⟩
theorem lt_ix {α : Type} {l : List α} {i : Nat} (h : i < l.length) : ((i : Int) < (l.length : Int)) = True := eq_true (by omega)
theorem UX {n : Int} : (n < n) = False := eq_false (by omega)
theorem up_ix {i n : Nat} (h : i < n) (hn : n < 1000000000000) : IntKind.i64.wrap ((i : Int) + 1) = (i : Int) + 1 := wrap_ok (by omega) (by omega)
theorem UY {agg : Bool} {n b o : Nat} {H : Hp} : loadA agg n H (.pt b o) = ldM agg n o (H b) := by unfold loadA ldM; rfl
theorem UZ {agg w : Bool} {n o : Nat} {cs : List AV} : ldM agg n o (some (.cells w cs)) = readA agg n cs o := rfl
theorem Ta {agg : Bool} {n i o : Nat} {rows : List (List AV)} {H : Hp} : loadA agg n H (.fp rows i o) = ldR agg n o (rows[i]?) := by unfold loadA ldR; rfl
theorem Tb {agg : Bool} {n o : Nat} {r : List AV} : ldR agg n o (some r) = readA agg n r o := rfl
theorem Tc {n o : Nat} {cs : List AV} : readA true n cs o = if o + n ≤ cs.length then some (.agg ((cs.drop o).take n)) else none := rfl
theorem Td {n o : Nat} {cs : List AV} : readA false n cs o = cs[o]? := rfl
theorem Te {n b o : Nat} {h : XH} {x : AV} : xStore n h (.pt b o) x = stM n b o h (hat h b) (cellsOf x) := by
  simp only [xStore,stM] <;> rfl
theorem Tf {n b o : Nat} {h : XH} {g : Bool} {cs vs : List AV} : stM n b o h (some (.blk g (.cells true cs))) (some vs) = if vs.length = n ∧ o + n ≤ cs.length then some (h.set b (some (.blk (g && grL vs) (.cells true (splice cs o vs))))) else none := rfl
theorem Tg {q : Bool} {h : XH} {b : Nat} {k x : AV} : xMapup q h (.mp b) k x = muM q b h k x (hat h b) := by simp only [xMapup,muM] <;> rfl
theorem Th {q g : Bool} {h : XH} {b : Nat} {k x : AV} {es : List (AV × AV)} : muM q b h k x (some (.blk g (.map true es))) = (putA q k x es).map fun es' => h.set b (some (.blk (g && (grA k && grA x)) (.map true es'))) := rfl
theorem Ti {h : XH} {g : Bool} {x : ABlk} : xNew h none g x = h ++ [some (.blk g x)] := rfl
theorem Tj {h : XH} {b : Nat} {g : Bool} {x : ABlk} : xNew h (some b) g x = h.set b none ++ [some (.blk g x)] := rfl
theorem Tk {h : XH} {b o s n : Nat} : flagH h (.sl b o s n) = flM (hat h b) := by simp only [flagH,flM] <;> rfl
theorem Tl {g : Bool} {x : ABlk} : flM (some (.blk g x)) = g := rfl
theorem Tm {h : XH} : flagH h .nilsl = true := rfl
theorem Tn {op : BinOp} {k k' : IntKind} {a b : Int} : binA op (.int k a) (.int k' b) = intA op k a k' b := rfl
end Go.DL
namespace Go.DL

abbrev rI (hs : List Int) : AV := .fs (hs.map fun v => [I v])
theorem T3 {α : Type} {a b : List α} : (a ++ b).length = a.length + b.length := by simp
theorem T4 {n : Nat} : n * 1 = n := by simp
theorem T5 {n : Nat} : 0 + n = n := by simp
theorem T6 {n : Nat} : n + 0 = n := by simp
theorem T7 {n : Nat} : (n ≤ n) = True := by simp
def setX {α : Type} (l : List α) (o : Nat) (v : α) : List α := l.take o ++ v :: l.drop (o + 1)
theorem setX_set {α : Type} {l : List α} {o : Nat} {v : α} (h : o < l.length) : setX l o v = l.set o v := by
  rw [setX,List.set_eq_take_append_cons_drop,if_pos h]
theorem T8 {hs : List Int} {o : Nat} {v : Int} : splice (hs.map I) o [I v] = (setX hs o v).map I := by
  simp [splice,setX,List.map_take,List.map_drop]
theorem chunks1 {α : Type} {f : α → AV} : ∀ (l pre : List α),chunks ((pre ++ l).map f) pre.length 1 l.length = l.map fun v => [f v]
  | [],pre => rfl
  | a :: r,pre => by
    have h := chunks1 (f := f) r (pre ++ [a])
    simp only [List.append_assoc,List.cons_append,List.nil_append,List.length_append,List.length_cons,List.length_nil] at h
    rw [List.length_cons,chunks]
    simp only [Nat.zero_add] at h
    rw [h,List.map_append,List.drop_left' (by simp),List.map_cons,List.map_cons]
    rfl
theorem T9 {hs : List Int} : chunks (hs.map I) 0 1 hs.length = hs.map fun v => [I v] := chunks1 (f := I) hs []
theorem TK {a : Int} {r : List Int} : chunks (I a :: r.map I) 0 1 (r.length + 1) = [I a] :: r.map fun v => [I v] := T9 (hs := a :: r)
def RowsOk (s : Nat) (rows : List (List AV)) : Prop := ∀ r ∈ rows,grL r = true ∧ nmL r = [] ∧ slL r = [] ∧ r.length = s
theorem grL_app : ∀ (a b : List AV),grL (a ++ b) = (grL a && grL b)
  | [],b => by simp [grL]
  | x :: a,b => by rw [List.cons_append,grL,grL,grL_app a b,Bool.and_assoc]
theorem nmL_app : ∀ (a b : List AV),nmL (a ++ b) = nmL a ++ nmL b
  | [],b => by simp [nmL]
  | x :: a,b => by rw [List.cons_append,nmL,nmL,nmL_app a b,List.append_assoc]
theorem slL_app : ∀ (a b : List AV),slL (a ++ b) = slL a ++ slL b
  | [],b => by simp [slL]
  | x :: a,b => by rw [List.cons_append,slL,slL,slL_app a b,List.append_assoc]
theorem rows_cells {s : Nat} : ∀ {rows : List (List AV)},RowsOk s rows → grL rows.flatten = true ∧ nmL rows.flatten = [] ∧ slL rows.flatten = [] ∧ rows.flatten.length = rows.length * s
  | [],_ => ⟨rfl,rfl,rfl,by simp⟩
  | r :: rows,h => by
    obtain ⟨h1,h2,h3,h4⟩ := rows_cells (rows := rows) fun x hx => h x (by simp [hx])
    obtain ⟨k1,k2,k3,k4⟩ := h r (by simp)
    rw [List.flatten_cons,grL_app,nmL_app,slL_app,List.length_append,h1,h2,h3,h4,k1,k2,k3,k4,List.length_cons]
    exact ⟨rfl,rfl,rfl,by rw [Nat.add_mul,Nat.one_mul,Nat.add_comm]⟩
theorem rows_chunks' {s : Nat} : ∀ (rows pre : List (List AV)),RowsOk s (pre ++ rows) → chunks (pre ++ rows).flatten (pre.length * s) s rows.length = rows
  | [],pre,_ => rfl
  | r :: rows,pre,h => by
    have ih := rows_chunks' rows (pre ++ [r]) (by rw [List.append_assoc]; exact h)
    have hp := (rows_cells (rows := pre) fun x hx => h x (by simp [hx])).2.2.2
    have hr := (h r (by simp)).2.2.2
    rw [List.append_assoc,List.cons_append,List.nil_append,List.length_append,List.length_cons,List.length_nil] at ih
    rw [List.length_cons,chunks,show pre.length * s + s = (pre.length + (0 + 1)) * s by rw [Nat.zero_add,Nat.add_mul,Nat.one_mul],ih,List.flatten_append,List.drop_left' hp,List.flatten_cons,List.take_left' hr]
theorem rows_chunks {s : Nat} {rows : List (List AV)} (h : RowsOk s rows) : chunks rows.flatten 0 s rows.length = rows := by
  have := rows_chunks' rows [] h
  simpa using this
section
variable {D : Nat → Option XFn} {K k : Nat} {rd : Option Nat} {e : Env} {h : XH} {run : XRun} {runY : YRun}
variable {d : Option Nat} {ix : Nat} {r : List DOper} {L : List (Nat × Nat)}
theorem Sc {s b : Nat} {x y : AO} : xo (some L) run runY (⟨ix,d,.app s b x y,none⟩ :: r) e h = guardO (L.all fun q => blkA (evA e x) != some q.2) (kE (some L) run runY r d e h (flagH h (evA e x) && flagH h (evA e y)) (appA s b (hpOf h) (evA e x) (evA e y))) := by
  show xopsD run runY _ e h L = _
  rw [← kE_of]
  simp only [xopsD,gd,logOk,guardO]
  rfl
theorem Sd {q : Bool} {a k x : AO} : xo (some L) run runY (⟨ix,d,.mapup q a k x,none⟩ :: r) e h = kH (some L) run runY r d e .any (xMapup q h (evA e a) (evA e k) (evA e x)) := by
  show xopsD run runY _ e h L = _
  simp only [xopsD,gd,xcore,logOk,if_true]
  cases xMapup q h (evA e a) (evA e k) (evA e x) <;> rfl
theorem Se {b : Nat} : ((none : Option Nat) != some b) = true := rfl
theorem Sf {a b : Nat} : (some a != some b) = !(decide (a = b)) := by by_cases h : a = b <;> simp [h]
def lsM : Option XB → Option LSt
  | some (.loop _ _ _ s) => some s
  | _ => none
theorem TL {h : XH} {l : Nat} : loopSt h l = lsM (hat h l) := by unfold loopSt lsM; rfl
theorem TM {K site : Nat} {vs : List AV} {s : LSt} : lsM (some (.loop K site vs s)) = some s := rfl
def ltM (h : XH) (l : Nat) (s : LSt) : Option XB → XH
  | some (.loop K site vs _) => h.set l (some (.loop K site vs s))
  | _ => h
theorem TN {h : XH} {l : Nat} {s : LSt} : loopTo h l s = ltM h l s (hat h l) := by unfold loopTo ltM; rfl
theorem TO {h : XH} {l K site : Nat} {vs : List AV} {s s' : LSt} : ltM h l s (some (.loop K site vs s')) = h.set l (some (.loop K site vs s)) := rfl
theorem TP {h : XH} : inLoop none h = true := rfl
theorem TQ {g : Nat} {a b : List AV} : isFunc (.fn (.func g) a b) = true := rfl
def rngI (b : Bool) (n : Nat) (e : Env) (r : Option (AV × XH)) : Option (DX × Env × XH) := if b then rngX n e r else none
theorem TR {site : Nat} {L : List Nat} {f : AO} {ps : List Nat} {a b : XCode} : execW D K k rd (.rng site L f ps a b) e h = rngI (inLoop rd h && isFunc (evA e f)) h.length e (callX (runW D) (runYW D) (evA e f) [.fn (.yield h.length) [] []] (h ++ [some (.loop K site (L.map e) .ready)])) := execW_rng
theorem TS {n : Nat} {r : Option (AV × XH)} : rngI true n e r = rngX n e r := rfl
def rgM (n : Nat) (e : Env) (h : XH) : Option LSt → Option (DX × Env × XH)
  | some .ready => some (.normal,e,h.set n none)
  | some (.done x) => some (x,e,h.set n none)
  | _ => none
theorem TT {n : Nat} {v : AV} : rngX n e (some (v,h)) = rgM n e h (loopSt h n) := by unfold rngX rgM; rfl
theorem TU {n : Nat} : rgM n e h (some .ready) = some (.normal,e,h.set n none) := rfl
theorem TV {n : Nat} {x : DX} : rgM n e h (some (.done x)) = some (x,e,h.set n none) := rfl
theorem TW {l : Nat} {as : List AV} : callX run runY (.fn (.yield l) [] []) as h = kM (passed (.fn (.yield l) [] [] :: as) h) h (runY (rnA (posS (passed (.fn (.yield l) [] [] :: as) h)) (.fn (.yield l) [] [])) (rnL (posS (passed (.fn (.yield l) [] [] :: as) h)) as) (localH (passed (.fn (.yield l) [] [] :: as) h) h)) := rfl
def yM2 (x : Option (AV × XH)) : Option LSt → Option (AV × XH)
  | some .ready => x
  | _ => none
theorem TX {l : Nat} {f : Env → XH → Option (AV × XH)} : yMid l (some (.normal,e,h)) f = yM2 (f e (loopTo h l .busy)) (loopSt h l) := by unfold yMid yM2; rfl
theorem TY {x : Option (AV × XH)} : yM2 x (some .ready) = x := rfl
def yE2 (l k : Nat) (x : DX) (h : XH) : Option LSt → Option (AV × XH)
  | some .busy => some (match x with
      | .normal => finX true k (.bool true) (loopTo h l .ready)
      | x => finX true k (.bool false) (loopTo h l (.done x)))
  | _ => none
theorem TZ {l : Nat} {x : DX} : yEnd l k (some (x,e,h)) = yE2 l k x h (loopSt h l) := by unfold yEnd yE2; rfl
theorem Sa {l : Nat} : yE2 l k .normal h (some .busy) = some (finX true k (.bool true) (loopTo h l .ready)) := rfl
theorem Sb {l : Nat} : yE2 l k .ret h (some .busy) = some (finX true k (.bool false) (loopTo h l (.done .ret))) := rfl
end
theorem Sn {g g' w w' : Bool} {xs ys : List AV} : sameO (some (.blk g (.cells w xs))) (some (.blk g' (.cells w' ys))) = (w == w' && sameL xs ys) := rfl
theorem Sq : sameL [] [] = true := rfl
theorem Sr {x y : AV} {xs ys : List AV} : sameL (x :: xs) (y :: ys) = (sameA x y && sameL xs ys) := rfl
theorem Ss {k : IntKind} {n : Int} : sameA (.int k n) (.int k n) = true := by simp [sameA]
theorem Su {b o : Nat} : sameA (.pt b o) (.pt b o) = true := by simp [sameA]
theorem same_int {rows : List (List AV)} (h : ∀ r ∈ rows,∀ c ∈ r,∃ n,c = I n) : sameR rows rows = true := by
  have key : ∀ l : List AV,(∀ c ∈ l,∃ n,c = I n) → sameL l l = true := by
    intro l
    induction l with
    | nil => intro _; rfl
    | cons a r ih =>
      intro h
      obtain ⟨n,rfl⟩ := h a (by simp)
      rw [sameL,ih fun c hc => h c (by simp [hc])]
      simp [sameA]
  induction rows with
  | nil => rfl
  | cons a r ih => rw [sameR,key a (h a (by simp)),ih fun x hx => h x (by simp [hx])]; rfl
theorem Sv : ((10 : Nat) : Int) = 10 := rfl
theorem Sw : ((30 : Nat) : Int) = 30 := rfl
theorem Sx {k : IntKind} {a b : Int} : intA .andNot k a k b = some (.int k (bitsA .andNot k a b)) := by simp [intA]
theorem loop_inv {D : Nat → Option XFn} {K k : Nat} {rd : Option Nat} {L : List Nat} {a : XCode} {e : Env} {h : XH} {σ : Type} (S : σ → List AV) (G : σ → XH) (Inv Q : σ → Prop) (m : σ → Nat) (s0 : σ)
    (h0 : headX k L (some (.normal,e,h)) = some (S s0,G s0)) (hi : Inv s0)
    (hs : ∀ s,Inv s → (leaves (execW D K k rd a (envL L (S s)) (G s)) = true ∧ Q s) ∨ ∃ s',m s' < m s ∧ headX k L (execW D K k rd a (envL L (S s)) (G s)) = some (S s',G s') ∧ Inv s') :
    ∃ s,Inv s ∧ Q s ∧ execW D K k rd (.loop L a) e h = execW D K k rd a (envL L (S s)) (G s) := by
  have key : ∀ (n : Nat) (s : σ) (e : Env) (h : XH),m s ≤ n → Inv s → headX k L (some (.normal,e,h)) = some (S s,G s) → ∃ s,Inv s ∧ Q s ∧ execW D K k rd (.loop L a) e h = execW D K k rd a (envL L (S s)) (G s) := by
    intro n
    induction n with
    | zero =>
      intro s e h hn hi h0
      rcases hs s hi with ⟨hl,hq⟩ | ⟨s',h1,_⟩
      · refine ⟨s,hi,hq,?_⟩
        have := loop_rule (rd := rd) (D := D) (K := K) (a := a) 0 (fun _ => S s) (fun _ => G s) h0 (fun i hi => by omega) hl
        exact this
      · omega
    | succ n ih =>
      intro s e h hn hi h0
      rcases hs s hi with ⟨hl,hq⟩ | ⟨s',h1,h2,h3⟩
      · exact ⟨s,hi,hq,loop_rule (rd := rd) (D := D) (K := K) (a := a) 0 (fun _ => S s) (fun _ => G s) h0 (fun i hi => by omega) hl⟩
      · rw [execW_loop]
        simp only [headX,Option.some.injEq,Prod.mk.injEq] at h0
        have e1 : canonE k L e h = envL L (S s) := by rw [← h0.1]; rfl
        rw [e1,h0.2]
        revert h2
        cases execW D K k rd a (envL L (S s)) (G s) with
        | none => intro h2; simp [headX] at h2
        | some q =>
          obtain ⟨x,e',h'⟩ := q
          cases x with
          | normal => intro h2; exact ih s' e' h' (by omega) h3 h2
          | exit id => intro h2; simp [headX] at h2
          | ret => intro h2; simp [headX] at h2
  exact key (m s0) s0 e h (Nat.le_refl _) hi h0
end Go.DL
namespace Go.DL
open Go.RowKit
variable {P : Program} {H : Type} {enc : TypeId × Value → H} {w : World} {spare : Nat → Bool} {held : Bool}

inductive CT where
  | int (k : IntKind)
  | bool
  | str
  | sl (r : List CT)

inductive Sh : CT → AV → Prop where
  | int (k : IntKind) (n : Int) (h : (Lit.int k n).wf = true) : Sh (.int k) (.int k n)
  | bool (b : Bool) : Sh .bool (.bool b)
  | str (s : ByteArray) (h : s.size ≤ maxLen) : Sh .str (.str s)
  | sl (r : List CT) (rows : List (List AV)) (hl : ∀ row ∈ rows,row.length = r.length) (hn : rows.length ≤ maxLen) (h : ∀ row ∈ rows,∀ (i : Nat) (c : CT) (a : AV),r[i]? = some c → row[i]? = some a → Sh c a) : Sh (.sl r) (.fs rows)

inductive Flat (P : Program) : TypeId → List CT → Prop where
  | int {t : TypeId} {k : IntKind} (h : P.underlying t = some (.int k)) : Flat P t [.int k]
  | bool {t : TypeId} (h : P.underlying t = some .bool) : Flat P t [.bool]
  | str {t : TypeId} (h : P.underlying t = some .string) : Flat P t [.str]
  | sl {t e : TypeId} {r : List CT} (h : P.underlying t = some (.slice e)) (he : Flat P e r) (hc : P.cellsOf e = r.length) (h0 : 0 < r.length) : Flat P t [.sl r]
  | struct {t : TypeId} {fs : Array Field} (rs : List (List CT)) (h : P.underlying t = some (.struct fs)) (hl : rs.length = fs.size) (hf : ∀ (i : Nat) (f : Field) (r : List CT),fs[i]? = some f → rs[i]? = some r → Flat P f.type r)
      (hc : ∀ (i : Nat) (f : Field) (r : List CT),fs[i]? = some f → rs[i]? = some r → P.cellsOf f.type = r.length ∧ f.offset = ((rs.take i).flatten).length) (ht : P.cellsOf t = rs.flatten.length) : Flat P t rs.flatten
  | array {t e : TypeId} {n : Nat} {r : List CT} (h : P.underlying t = some (.array n e)) (he : Flat P e r) (hc : P.cellsOf e = r.length) (ht : P.cellsOf t = n * r.length) : Flat P t (List.replicate n r).flatten

inductive DecL (F : Nat → Prop) (w : World) : List CT → List AV → List Value → Prop where
  | nil : DecL F w [] [] []
  | cons {c : CT} {a : AV} {v : Value} {cs : List CT} {as : List AV} {vs : List Value} (h1 : Sh c a) (h2 : Rv F w a v) (h3 : v.oneCell' = true) (h : DecL F w cs as vs) : DecL F w (c :: cs) (a :: as) (v :: vs)
theorem DecL.append {F : Nat → Prop} {cs cs' : List CT} {as as' : List AV} {vs vs' : List Value} (h : DecL F w cs as vs) (h' : DecL F w cs' as' vs') : DecL F w (cs ++ cs') (as ++ as') (vs ++ vs') := by
  induction h with
  | nil => exact h'
  | cons h1 h2 h3 _ ih => exact .cons h1 h2 h3 ih
theorem DecL.len {F : Nat → Prop} {cs : List CT} {as : List AV} {vs : List Value} (h : DecL F w cs as vs) : as.length = cs.length ∧ vs.length = cs.length := by
  induction h with
  | nil => exact ⟨rfl,rfl⟩
  | cons _ _ _ _ ih => simp [ih]
theorem DecL.sh {F : Nat → Prop} {cs : List CT} {as : List AV} {vs : List Value} (h : DecL F w cs as vs) : ∀ (i : Nat) (c : CT) (a : AV),cs[i]? = some c → as[i]? = some a → Sh c a := by
  induction h with
  | nil => intro i c a h; simp at h
  | cons h1 _ _ _ ih =>
    intro i c a h2 h3
    cases i with
    | zero => simp only [List.getElem?_cons_zero,Option.some.injEq] at h2 h3; rw [← h2,← h3]; exact h1
    | succ i => exact ih i c a (by simpa using h2) (by simpa using h3)
theorem DecL.rv {F : Nat → Prop} {cs : List CT} {as : List AV} {vs : List Value} (h : DecL F w cs as vs) : ∀ (i : Nat) (a : AV) (v : Value),as[i]? = some a → vs[i]? = some v → Rv F w a v ∧ v.oneCell' = true := by
  induction h with
  | nil => intro i c a h; simp at h
  | cons h1 h4 h5 _ ih =>
    intro i c a h2 h3
    cases i with
    | zero => simp only [List.getElem?_cons_zero,Option.some.injEq] at h2 h3; rw [← h2,← h3]; exact ⟨h4,h5⟩
    | succ i => exact ih i c a (by simpa using h2) (by simpa using h3)

theorem trod_array {fuel : Nat} {t e : TypeId} {n : Nat} {cs : List Value} {x : DataW H × List MemPlace} (ht : P.underlying t = some (.array n e)) (h : DataW.trod enc P w 0 spare held fuel t cs = some x) :
    cs.length = P.cellsOf t ∧ ∃ m,∀ i,i < n → ∃ y,DataW.trod enc P w 0 spare held m e ((cs.drop (i * P.cellsOf e)).take (P.cellsOf e)) = some y := by
  cases fuel with
  | zero => simp [DataW.trod] at h
  | succ m =>
    unfold DataW.trod at h
    rw [ht] at h
    split at h <;> simp_all
    obtain ⟨hl,xs,hp,hd⟩ := h
    refine ⟨m,fun i hi => ?_⟩
    have hlen := mapM_some_length hp
    have := mapM_some_get hp i i (by simp [hi])
    rw [List.getElem?_eq_getElem (by rw [hlen]; simpa using hi)] at this
    exact ⟨_,_,this⟩

theorem cell_spot0 {b o : Nat} {sp : Option Nat} {v : Value} (h : w.cell? ⟨b,o,sp⟩ = some v) : sp = none ∧ b < w.heap.size := by
  unfold World.cell? at h
  split at h
  · rename_i c _ _ hb
    refine ⟨?_,?_⟩
    · cases sp with
      | none => rfl
      | some s => simp at h
    · simp only at hb
      by_cases hs : b < w.heap.size
      · exact hs
      · rw [Array.getElem?_eq_none (by omega)] at hb; simp at hb
  · simp at h
theorem add_add {b o i j : Nat} : ((⟨b,o,none⟩ : Addr).add i).add j = ⟨b,o + i + j,none⟩ := by
  unfold Addr.add
  by_cases hi : i = 0 <;> by_cases hj : j = 0 <;> simp [hi,hj]

theorem reads_flat {t : TypeId} {tys : List CT} (hf : Flat P t tys) : ∀ {fuel : Nat} {cs : List Value} {x : DataW H × List MemPlace},DataW.trod enc P w 0 spare held fuel t cs = some x → ∃ as,DecL (fun b => b < w.heap.size) w tys as cs := by
  induction hf with
  | int h =>
    intro fuel cs x hx
    obtain ⟨n,rfl,_,hw⟩ := DataW.trod_int h hx
    exact ⟨_,.cons (.int _ n hw) (.int _ n) rfl .nil⟩
  | bool h =>
    intro fuel cs x hx
    obtain ⟨b,rfl,_⟩ := DataW.trod_bool h hx
    exact ⟨_,.cons (.bool b) (.bool b) rfl .nil⟩
  | str h =>
    intro fuel cs x hx
    obtain ⟨s,rfl,_,hs⟩ := DataW.trod_string h hx
    exact ⟨_,.cons (.str s hs) (.str s) rfl .nil⟩
  | @sl t e r h he hc h0 ih =>
    intro fuel cs x hx
    rcases DataW.trod_slice h hx with ⟨rfl,_⟩ | ⟨a,len,cap,elems,rest,n,_,rfl,_,_,hlc,hcm,hel,hg,_,_⟩
    · exact ⟨_,.cons (.sl r [] (by simp) (by simp) (by simp)) (.fs0 none 0) rfl .nil⟩
    · rcases Nat.eq_zero_or_pos len with hz | hz
      · subst hz
        exact ⟨_,.cons (.sl r [] (by simp) (by simp) (by simp)) (.fs0 (some a) cap) rfl .nil⟩
      · have hrow : ∀ i,∃ p : List AV × List Value,i < len → DecL (fun b => b < w.heap.size) w r p.1 p.2 ∧ w.cells? 0 (a.add (i * r.length)) r.length = some p.2 := by
          intro i
          by_cases hi : i < len
          · have := hg i hi
            rw [List.getElem?_eq_getElem (by omega),hc,Option.bind_eq_some_iff] at this
            obtain ⟨vs,h1,h2⟩ := this
            obtain ⟨as,h3⟩ := ih h2
            exact ⟨(as,vs),fun _ => ⟨h3,h1⟩⟩
          · exact ⟨([],[]),fun hh => absurd hh hi⟩
        obtain ⟨f,hfr⟩ := Classical.axiomOfChoice hrow
        obtain ⟨blk,off,sp⟩ := a
        have hsp : sp = none ∧ blk < w.heap.size := by
          obtain ⟨h1,h2⟩ := hfr 0 hz
          obtain ⟨_,h4,h5⟩ := World.cells?_some h2
          have h6 := h5 0 h0
          rw [List.getElem?_eq_getElem (by omega)] at h6
          simp only [Nat.zero_mul] at h6
          unfold Addr.add at h6
          simp only [if_true] at h6
          exact cell_spot0 h6
        obtain ⟨rfl,hblk⟩ := hsp
        have hcell : ∀ i,i < len → ∀ j,j < r.length → w.cell? ⟨blk,off + i * r.length + j,none⟩ = (f i).2[j]? := by
          intro i hi j hj
          obtain ⟨_,h2⟩ := hfr i hi
          obtain ⟨_,_,h5⟩ := World.cells?_some h2
          rw [← h5 j hj,add_add]
        have hrl : ((List.range len).map fun i => (f i).1).length = len := by simp
        have hget : ∀ (i : Nat) (row : List AV),((List.range len).map fun i => (f i).1)[i]? = some row → i < len ∧ row = (f i).1 := by
          intro i row hh
          rw [List.getElem?_map,Option.map_eq_some_iff] at hh
          obtain ⟨k,h1,h2⟩ := hh
          rw [List.getElem?_eq_some_iff] at h1
          obtain ⟨h3,h4⟩ := h1
          simp only [List.length_range] at h3
          simp only [List.getElem_range] at h4
          subst h4
          exact ⟨h3,h2.symm⟩
        refine ⟨[.fs ((List.range len).map fun i => (f i).1)],.cons (.sl r _ ?_ ?_ ?_) ?_ rfl .nil⟩
        · intro row hm
          simp only [List.mem_map,List.mem_range] at hm
          obtain ⟨i,hi,rfl⟩ := hm
          exact (hfr i hi).1.len.1
        · rw [hrl]; omega
        · intro row hm
          simp only [List.mem_map,List.mem_range] at hm
          obtain ⟨i,hi,rfl⟩ := hm
          exact (hfr i hi).1.sh
        · have := Rv.fs (F := fun b => b < w.heap.size) (w := w) ((List.range len).map fun i => (f i).1) blk off r.length cap (fun i j => if i < len ∧ j < r.length then ((f i).2[j]?).getD (.bool false) else .bool false)
            (by rw [hrl]; exact hlc) hblk ?_ ?_ ?_ ?_
          · rw [hrl] at this; exact this
          · intro row hm
            simp only [List.mem_map,List.mem_range] at hm
            obtain ⟨i,hi,rfl⟩ := hm
            exact (hfr i hi).1.len.1
          · intro i row j c h1 h2
            obtain ⟨hi,rfl⟩ := hget i row h1
            have hl := (hfr i hi).1.len
            have hj : j < r.length := by
              rw [List.getElem?_eq_some_iff] at h2
              obtain ⟨h3,_⟩ := h2
              omega
            rw [hcell i hi j hj,if_pos ⟨hi,hj⟩,List.getElem?_eq_getElem (by omega)]
            rfl
          · intro i j
            by_cases hij : i < len ∧ j < r.length
            · rw [if_pos hij]
              have hl := (hfr i hij.1).1.len
              rw [List.getElem?_eq_getElem (by omega)]
              simp only [Option.getD_some]
              exact ((hfr i hij.1).1.rv j _ _ (List.getElem?_eq_getElem (by omega)) (List.getElem?_eq_getElem (by omega))).2
            · rw [if_neg hij]; rfl
          · intro i row j c h1 h2
            obtain ⟨hi,rfl⟩ := hget i row h1
            have hl := (hfr i hi).1.len
            have hj : j < r.length := by
              rw [List.getElem?_eq_some_iff] at h2
              obtain ⟨h3,_⟩ := h2
              omega
            rw [if_pos ⟨hi,hj⟩,List.getElem?_eq_getElem (by omega)]
            exact ((hfr i hi).1.rv j c _ h2 (List.getElem?_eq_getElem (by omega))).1
  | @struct t fs rs h hl hf hc ht ih =>
    intro fuel cs x hx
    obtain ⟨xs,n,_,_,hlen,hxs,hfld⟩ := DataW.trod_struct h hx
    have key : ∀ k,k ≤ rs.length → ∃ as,DecL (fun b => b < w.heap.size) w (rs.take k).flatten as (cs.take ((rs.take k).flatten).length) := by
      intro k
      induction k with
      | zero => intro _; exact ⟨[],by simpa using DecL.nil⟩
      | succ k ihk =>
        intro hk
        obtain ⟨as,h1⟩ := ihk (by omega)
        have hr : rs[k]? = some rs[k] := List.getElem?_eq_getElem (by omega)
        have hfk : fs[k]? = some fs[k] := Array.getElem?_eq_getElem (by omega)
        obtain ⟨c1,c2⟩ := hc k _ _ hfk hr
        have h2 := hfld k _ hfk
        rw [List.getElem?_eq_getElem (by omega)] at h2
        obtain ⟨as',h3⟩ := ih k _ _ hfk hr h2
        refine ⟨as ++ as',?_⟩
        rw [List.take_add_one,hr,Option.toList_some,List.flatten_append,List.length_append,List.take_add]
        simp only [List.flatten_cons,List.flatten_nil,List.append_nil]
        rw [c1,c2] at h3
        exact h1.append h3
    obtain ⟨as,h1⟩ := key rs.length (Nat.le_refl _)
    rw [List.take_length,← ht,← hlen,List.take_length] at h1
    exact ⟨as,h1⟩
  | @array t e n r h he hc ht ih =>
    intro fuel cs x hx
    obtain ⟨hlen,m,hy⟩ := trod_array h hx
    have key : ∀ k,k ≤ n → ∃ as,DecL (fun b => b < w.heap.size) w (List.replicate k r).flatten as (cs.take (k * r.length)) := by
      intro k
      induction k with
      | zero => intro _; exact ⟨[],by simpa using DecL.nil⟩
      | succ k ihk =>
        intro hk
        obtain ⟨as,h1⟩ := ihk (by omega)
        obtain ⟨y,h2⟩ := hy k (by omega)
        obtain ⟨as',h3⟩ := ih h2
        refine ⟨as ++ as',?_⟩
        rw [List.replicate_succ',List.flatten_append,Nat.add_mul,List.take_add]
        simp only [List.flatten_cons,List.flatten_nil,List.append_nil,Nat.one_mul]
        rw [hc] at h3
        exact h1.append h3
    obtain ⟨as,h1⟩ := key n (Nat.le_refl _)
    rw [← ht,← hlen,List.take_length] at h1
    exact ⟨as,h1⟩

def FF (P : Program) : Nat → List Field → List (List CT) → Prop
  | _,[],[] => True
  | o,f :: fs,r :: rs => Flat P f.type r ∧ P.cellsOf f.type = r.length ∧ f.offset = o ∧ FF P (o + r.length) fs rs
  | _,_,_ => False
theorem FF.get : ∀ {o : Nat} {fs : List Field} {rs : List (List CT)},FF P o fs rs → rs.length = fs.length ∧ ∀ (i : Nat) (f : Field) (r : List CT),fs[i]? = some f → rs[i]? = some r → Flat P f.type r ∧ P.cellsOf f.type = r.length ∧ f.offset = o + ((rs.take i).flatten).length
  | o,[],[],_ => ⟨rfl,fun i f r h => by simp at h⟩
  | o,f :: fs,r :: rs,h => by
    obtain ⟨h1,h2,h3,h4⟩ := h
    obtain ⟨l1,l2⟩ := FF.get h4
    refine ⟨by simp [l1],fun i f' r' e1 e2 => ?_⟩
    cases i with
    | zero =>
      simp only [List.getElem?_cons_zero,Option.some.injEq] at e1 e2
      subst e1; subst e2
      exact ⟨h1,h2,by simpa using h3⟩
    | succ i =>
      obtain ⟨k1,k2,k3⟩ := l2 i f' r' (by simpa using e1) (by simpa using e2)
      refine ⟨k1,k2,?_⟩
      rw [k3,List.take_succ_cons,List.flatten_cons,List.length_append]
      omega
  | _,[],_ :: _,h => h.elim
  | _,_ :: _,[],h => h.elim
theorem Flat.mk {t : TypeId} {fs : Array Field} {rs : List (List CT)} (h : P.underlying t = some (.struct fs)) (hf : FF P 0 fs.toList rs) (ht : P.cellsOf t = rs.flatten.length) : Flat P t rs.flatten := by
  obtain ⟨l1,l2⟩ := hf.get
  refine .struct rs h (by simpa using l1) (fun i f r h1 h2 => (l2 i f r (by simpa using h1) h2).1) (fun i f r h1 h2 => ?_) ht
  obtain ⟨_,k2,k3⟩ := l2 i f r (by simpa using h1) h2
  exact ⟨k2,by simpa using k3⟩

theorem Sh.gd {c : CT} {a : AV} (h : Sh c a) : Gd a := by
  induction h with
  | int k n h => exact .int k n
  | bool b => exact .bool b
  | str s h => exact .str s
  | sl r rows hl hn h ih =>
    refine .fs rows fun row hr c hc => ?_
    obtain ⟨i,hi,he⟩ := List.mem_iff_getElem.1 hc
    have hi' : i < r.length := by rw [← hl row hr]; exact hi
    exact ih row hr i r[i] c (List.getElem?_eq_getElem hi') (by rw [List.getElem?_eq_getElem hi,he])

theorem arg_one {t : TypeId} {c : CT} (hf : Flat P t [c]) {v : Value} (hv : v.cells.toList = [v]) {d : DataW H} {ps : List MemPlace} (hd : DataW.Trod enc P w 0 spare held t v d ps) :
    ∃ a,Sh c a ∧ Rv (fun b => b < w.heap.size) w a v := by
  obtain ⟨fuel,h⟩ := hd
  rw [hv] at h
  obtain ⟨as,h1⟩ := reads_flat hf h
  cases h1 with
  | cons h1 h2 h3 h4 => exact ⟨_,h1,h2⟩

theorem law_walk {D : Nat → Option XFn} (ok : XOk P D) {K : Nat} {as : List AV} (hrun : runW D K as [] = some (.bool true,[])) (has : ∀ a ∈ as,Gd a) {vs : Array Value} (gi : GI (fun b => b < w.heap.size) w) (hA : Args (fun b => b < w.heap.size) w as vs) :
    Calls P K vs w fun e w' => e = .returned (.bool true) ∧ Below w.heap.size w w' := by
  obtain ⟨n,hn⟩ := runW_iff.1 hrun
  refine (root ok hn has (.bool true) gi hA).mono ?_
  rintro e w' ⟨F',q,rfl,h1,h2⟩
  exact ⟨by rw [rv_true h1],h2⟩
end Go.DL
