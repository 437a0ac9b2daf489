/- Codes and functions carried out over abstract values: what they show of the program. No statement of the seed is proved here. -/
import Derived.Test.YtdbikamciedfdaaXA
namespace Go.DL
section
variable {P : Program} {B : Base} {D : Nat → Option XFn} {Y : Nat → Option YI} {r : Nat → Option Nat} {e env : Env} {h : XH} {H : Hp}

/-- What is known of a loop over a function that is under way: how a call of its round is met. -/
def YProv (P : Program) (B : Base) (D : Nat → Option XFn) (l : Nat) (i : YI) : Prop :=
  (∃ q, i.oB = .loop q) ∧ ∀ (d : XFn) (L ps : List Nat) (a b : XCode), D i.K = some d → siteX d.body i.site = some (L, ps, a, b) → ∀ (B1 : Base), B.Up B1.F B1.w → ∀ (as : List AV) (H' : Hp) (Q' : AV → Hp → Prop),
    H' l = some (.obj true i.oR) → as.length = ps.length →
    WD B1 P (some l) d.N a.erase (fun e env2 H2 => e = .normal ∧ H2 l = some (.obj true i.oR) ∧ WD B1 P (some l) d.N b.erase (rndQ l i.oR i.oB i.oD Q') env2 (hset H2 l (.obj true i.oB))) (putL i.env ps as) H' → YW B1 P l as H' Q'
def YOk (P : Program) (B : Base) (D : Nat → Option XFn) (Y : Nat → Option YI) : Prop := ∀ l i, Y l = some i → YProv P B D l i
theorem YOk.up {B' : Base} (h : YOk P B D Y) (hB : B.Up B'.F B'.w) : YOk P B' D Y := fun l i hY =>
  ⟨(h l i hY).1, fun d L ps a b h1 h2 B1 hB1 => (h l i hY).2 d L ps a b h1 h2 B1 (Up.trans hB hB1)⟩

def okX : XCode → Bool
  | .skip | .exit _ | .ret => true
  | .reg _ _ ops => okOps ops
  | .seq a b => okX a && okX b
  | .cond c a b => okO c && (okX a && okX b)
  | .block _ a | .loop _ a | .scope a => okX a
  | .rng _ _ f _ a b => okO f && (okX a && okX b)
def sitesP (d : XFn) : XCode → Prop
  | .seq a b | .cond _ a b => sitesP d a ∧ sitesP d b
  | .block _ a | .loop _ a | .scope a => sitesP d a
  | .rng s L _ ps a b => siteX d.body s = some (L, ps, a, b) ∧ sitesP d a ∧ sitesP d b
  | _ => True

def RdOk (Y : Nat → Option YI) (r : Nat → Option Nat) (k : Nat) (rd rr : Option Nat) : Prop := match rd with
  | none => rr = none
  | some l => l < k ∧ ∃ c i q, r l = some c ∧ rr = some c ∧ Y c = some i ∧ i.oB = .loop q
theorem RdOk.agree {k : Nat} {rd rr : Option Nat} {r' : Nat → Option Nat} (h : RdOk Y r k rd rr) (ha : Agree k r r') : RdOk Y r' k rd rr := by
  cases rd with
  | none => exact h
  | some l =>
    obtain ⟨h1, c, i, q, h2, h3, h4, h5⟩ := h
    exact ⟨h1, c, i, q, ha l c h1 h2, h3, h4, h5⟩

theorem SH.loopAt (sh : SH D Y r h H) {l : Nat} {st : LSt} (hl : loopSt h l = some st) : ∃ c i o, r l = some c ∧ Y c = some i ∧ H c = some (.obj true o) ∧ LoopO i st o ∧ ∃ (vs : List AV) (d : XFn) (L ps : List Nat) (a b : XCode),
    hat h l = some (.loop i.K i.site vs st) ∧ D i.K = some d ∧ siteX d.body i.site = some (L, ps, a, b) ∧ RnL D Y r vs (L.map i.env) := by
  unfold loopSt at hl
  split at hl <;> simp only [Option.some.injEq, reduceCtorEq] at hl
  rename_i K s vs st' hx
  subst hl
  obtain ⟨c, y, h1, h2, h3⟩ := sh.blk l _ hx
  cases h3 with
  | loop i _ _ o d L ps a b hY ho hD hs hv => exact ⟨c, i, o, h1, hY, h2, ho, vs, d, L, ps, a, b, hx, hD, hs, hv⟩

theorem SH.loopTo (sh : SH D Y r h H) {l c : Nat} {i : YI} {st st' : LSt} (hl : loopSt h l = some st) (hr : r l = some c) (hY : Y c = some i) {o : Obj} (ho : LoopO i st' o) : SH D Y r (loopTo h l st') (hset H c (.obj true o)) := by
  obtain ⟨c', i', o', h1, h2, h3, h4, vs, d, L, ps, a, b, h5, h6, h7, h8⟩ := sh.loopAt hl
  rw [hr] at h1; simp only [Option.some.injEq] at h1; subst h1
  rw [hY] at h2; simp only [Option.some.injEq] at h2; subst h2
  unfold Go.DL.loopTo
  rw [h5]
  exact sh.turn h5 hr (.loop c i vs st' o d L ps a b hY ho h6 h7 h8)

theorem SH.push {Y' : Nat → Option YI} (sh : SH D Y r h H) {l : Nat} {x : XB} {y : ABlk} (hl : H l = none) (hY : ∀ c, c ≠ l → Y' c = Y c) (hx : RnB D Y' r l x y) :
    Sub r (fun b => if b = h.length then some l else r b) ∧ SH D Y' (fun b => if b = h.length then some l else r b) (h ++ [some x]) (hset H l y) := by
  have hsub : Sub r (fun b => if b = h.length then some l else r b) := fun b c hb => by
    have := sh.dom b c hb
    simp only [show b ≠ h.length by omega, if_false]; exact hb
  have live : ∀ b z, hat (h ++ [some x]) b = some z → (b = h.length ∧ z = x) ∨ (b < h.length ∧ hat h b = some z) := fun b z hz => by
    rw [hat_append] at hz
    split at hz
    · rename_i hlt; exact .inr ⟨hlt, hz⟩
    · by_cases he : b = h.length
      · subst he; simp [hat] at hz; exact .inl ⟨rfl, hz.symm⟩
      · have : b - h.length = (b - h.length - 1) + 1 := by omega
        rw [this] at hz; simp [hat] at hz
  have other : ∀ b c z, hat h b = some z → r b = some c → c ≠ l := fun b c z hz hr e => by
    subst e
    obtain ⟨c', y', h1, h2, _⟩ := sh.blk b z hz
    rw [hr] at h1; simp only [Option.some.injEq] at h1; subst h1
    rw [hl] at h2; simp at h2
  refine ⟨hsub, fun b c hb => ?_, fun b1 b2 c x1 x2 h1 h2 k1 k2 => ?_, fun b z hz => ?_⟩
  · simp only [List.length_append, List.length_cons, List.length_nil]
    split at hb
    · omega
    · have := sh.dom b c hb; omega
  · rcases live b1 x1 h1 with ⟨rfl, _⟩ | ⟨l1, m1⟩
    · rcases live b2 x2 h2 with ⟨rfl, _⟩ | ⟨l2, m2⟩
      · rfl
      · exfalso
        simp only [if_true, Option.some.injEq] at k1
        simp only [show b2 ≠ h.length by omega, if_false] at k2
        exact other b2 c x2 m2 k2 k1.symm
    · rcases live b2 x2 h2 with ⟨rfl, _⟩ | ⟨l2, m2⟩
      · exfalso
        simp only [if_true, Option.some.injEq] at k2
        simp only [show b1 ≠ h.length by omega, if_false] at k1
        exact other b1 c x1 m1 k1 k2.symm
      · simp only [show b1 ≠ h.length by omega, if_false] at k1
        simp only [show b2 ≠ h.length by omega, if_false] at k2
        exact sh.inj b1 b2 c x1 x2 m1 m2 k1 k2
  · rcases live b z hz with ⟨rfl, rfl⟩ | ⟨l1, m1⟩
    · exact ⟨l, y, by simp, hset_same _ _ _, hx.mono hsub (fun _ => rfl)⟩
    · obtain ⟨c, y', g1, g2, g3⟩ := sh.blk b z m1
      have hne := other b c z m1 g1
      refine ⟨c, y', hsub b c g1, ?_, g3.mono hsub (fun _ => hY c hne)⟩
      rw [hset_other _ _ hne]; exact g2

theorem exec_sound {run : XRun} {runY : YRun} {d : XFn} {K : Nat} (hD : D K = some d) (hm : P.follows .mixedOrders = true) (hall : ∀ (B : Base) (Y : Nat → Option YI), YOk P B D Y → FnS P B D Y run ∧ YS P B D Y runY) (k n : Nat) (rd rr : Option Nat) :
    ∀ (code : XCode) (B : Base) (Y : Nat → Option YI) (r : Nat → Option Nat) (e : Env) (h : XH) (env : Env) (H : Hp) (x : DX) (e' : Env) (h' : XH) (Q : QC), YOk P B D Y → okX code = true → sitesP d code → RdOk Y r k rd rr → SR D Y r e h env H →
      execX run runY K k n rd code e h = some (x, e', h') → (∀ r' env' H', Agree k r r' → SR D Y r' e' h' env' H' → Q x env' H') → WD B P rr d.N code.erase Q env H := by
  intro code
  induction code with
  | skip =>
    intro B Y r e h env H x e' h' Q hY hok hs hrd sr hx hK
    simp only [execX, Option.some.injEq, Prod.mk.injEq] at hx
    obtain ⟨rfl, rfl, rfl⟩ := hx
    exact WD.skip (hK r env H (Agree.refl _ _) sr)
  | exit id =>
    intro B Y r e h env H x e' h' Q hY hok hs hrd sr hx hK
    simp only [execX, Option.some.injEq, Prod.mk.injEq] at hx
    obtain ⟨rfl, rfl, rfl⟩ := hx
    exact WD.exit (hK r env H (Agree.refl _ _) sr)
  | ret =>
    intro B Y r e h env H x e' h' Q hY hok hs hrd sr hx hK
    simp only [execX, Option.some.injEq, Prod.mk.injEq] at hx
    obtain ⟨rfl, rfl, rfl⟩ := hx
    exact WD.ret (hK r env H (Agree.refl _ _) sr)
  | reg fz draw ops =>
    intro B Y r e h env H x e' h' Q hY hok hs hrd sr hx hK
    simp only [okX] at hok
    obtain ⟨hf, hy⟩ := hall B Y hY
    simp only [execX, Option.map_eq_some_iff, Prod.mk.injEq] at hx
    obtain ⟨⟨e1, h1⟩, hx, rfl, rfl, rfl⟩ := hx
    obtain ⟨env1, H1, k1, k2⟩ := fzX_sound sr fz
    refine WD.shift k1 (WD.reg hm ?_)
    cases draw with
    | true =>
      simp only [if_true] at hx ⊢
      exact xopsD_sound hf hy ops r _ _ [] env1 H1 noL e1 h1 _ hok k2 ⟨by simp, fun j c hj => by simp [noL] at hj⟩ hx fun r' env' H' hs sr' => hK r' env' H' (hs.agree k) sr'
    | false =>
      simp only [Bool.false_eq_true, if_false] at hx ⊢
      exact xops_sound hf hy ops r _ _ env1 H1 e1 h1 _ hok k2 hx fun r' env' H' hs sr' => hK r' env' H' (hs.agree k) sr'
  | seq a b iha ihb =>
    intro B Y r e h env H x e' h' Q hY hok hs hrd sr hx hK
    simp only [okX, Bool.and_eq_true] at hok
    simp only [execX] at hx
    refine WD.seq ?_
    split at hx
    · rename_i e1 h1 hx1
      exact iha B Y r e h env H .normal e1 h1 _ hY hok.1 hs.1 hrd sr hx1 fun r' env' H' ha sr' =>
        ihb B Y r' e1 h1 env' H' x e' h' Q hY hok.2 hs.2 (hrd.agree ha) sr' hx fun r2 env2 H2 ha2 sr2 => hK r2 env2 H2 (ha.trans ha2) sr2
    · rename_i hne
      refine iha B Y r e h env H x e' h' _ hY hok.1 hs.1 hrd sr hx fun r' env' H' ha sr' => ?_
      cases x with
      | normal => exact absurd hx (hne e' h')
      | exit id => exact hK r' env' H' ha sr'
      | ret => exact hK r' env' H' ha sr'
  | cond c a b iha ihb =>
    intro B Y r e h env H x e' h' Q hY hok hs hrd sr hx hK
    simp only [okX, Bool.and_eq_true] at hok
    have hc := rn_evA sr.re (x := c) hok.1
    simp only [execX] at hx
    split at hx
    · rename_i hv
      rw [hv] at hc
      exact WD.cond (t := true) (rn_bool hc) (iha B Y r e h env H x e' h' Q hY hok.2.1 hs.1 hrd sr hx hK)
    · rename_i hv
      rw [hv] at hc
      exact WD.cond (t := false) (rn_bool hc) (ihb B Y r e h env H x e' h' Q hY hok.2.2 hs.2 hrd sr hx hK)
    · simp at hx
  | block id a iha =>
    intro B Y r e h env H x e' h' Q hY hok hs hrd sr hx hK
    simp only [okX] at hok
    simp only [execX] at hx
    refine WD.block ?_
    split at hx
    · rename_i j e1 h1 hx1
      refine iha B Y r e h env H (.exit j) e1 h1 _ hY hok hs hrd sr hx1 fun r' env' H' ha sr' => ?_
      simp only [QC.block]
      split at hx <;> simp only [Option.some.injEq, Prod.mk.injEq] at hx <;> obtain ⟨rfl, rfl, rfl⟩ := hx
      · rename_i hj; rw [if_pos hj]; exact hK r' env' H' ha sr'
      · rename_i hj; rw [if_neg hj]; exact hK r' env' H' ha sr'
    · rename_i hne
      refine iha B Y r e h env H x e' h' _ hY hok hs hrd sr hx fun r' env' H' ha sr' => ?_
      cases x with
      | exit id => exact absurd hx (hne id e' h')
      | normal => exact hK r' env' H' ha sr'
      | ret => exact hK r' env' H' ha sr'
  | scope a iha =>
    intro B Y r e h env H x e' h' Q hY hok hs hrd sr hx hK
    exact WD.scope (iha B Y r e h env H x e' h' Q hY (by simpa [okX] using hok) hs hrd sr (by simpa [execX] using hx) hK)
  | loop L a iha =>
    intro B Y r e h env H x e' h' Q hY hok hs hrd sr hx hK
    simp only [okX] at hok
    simp only [execX] at hx
    refine WD.loop (fun m env1 H1 => ∃ r1 e1 h1, Agree k r r1 ∧ SR D Y r1 e1 h1 env1 H1 ∧ loopX (execX run runY K k n rd a) k L m e1 h1 = some (x, e', h')) (m := n) ⟨r, e, h, Agree.refl _ _, sr, hx⟩ ?_
    rintro m env1 H1 ⟨r1, e1, h1, ha, sr1, hx1⟩
    cases m with
    | zero => simp [loopX] at hx1
    | succ m =>
      simp only [loopX] at hx1
      obtain ⟨r2, ha2, sr2⟩ := canon_sound sr1 k L
      split at hx1
      · rename_i e2 h2 hx2
        exact iha B Y r2 _ _ env1 H1 .normal e2 h2 _ hY hok hs ((hrd.agree ha).agree ha2) sr2 hx2 fun r3 env3 H3 ha3 sr3 => ⟨m, by omega, r3, e2, h2, (ha.trans ha2).trans ha3, sr3, hx1⟩
      · rename_i hne
        refine iha B Y r2 _ _ env1 H1 x e' h' _ hY hok hs ((hrd.agree ha).agree ha2) sr2 hx1 fun r3 env3 H3 ha3 sr3 => ?_
        cases x with
        | normal => exact absurd hx1 (hne e' h')
        | exit id => exact hK r3 env3 H3 ((ha.trans ha2).trans ha3) sr3
        | ret => exact hK r3 env3 H3 ((ha.trans ha2).trans ha3) sr3
  | rng site L f ps a b iha ihb =>
    intro B Y r e h env H x e' h' Q hY hok hs hrd sr hx hK
    simp only [okX, Bool.and_eq_true] at hok
    obtain ⟨hs1, hs2, hs3⟩ := hs
    simp only [execX] at hx
    split at hx
    · rename_i hcond
      simp only [Bool.and_eq_true] at hcond
      have hfv := rn_evA sr.re (x := f) hok.1
      obtain ⟨gf, first, cap, hev⟩ : ∃ g a b, evA e f = .fn (.func g) a b := by
        have := hcond.2
        unfold isFunc at this
        split at this
        · exact ⟨_, _, _, ‹_›⟩
        · simp at this
      rw [hev] at hfv hx
      cases hv : evA env f <;> rw [hv] at hfv <;> cases hfv
      rename_i first' cap' hf0 hl1 k1 hl2 k2
      split at hx
      · rename_i v h1 hcall
        refine WD.rng (gf := gf) (first := first') (cap := cap') ?_ hv ?_
        · unfold RdOk at hrd
          split at hrd
          · exact .inl hrd
          · rename_i l
            obtain ⟨_, c, i, q, g1, g2, g3, g4⟩ := hrd
            right
            refine ⟨c, q, g2, ?_⟩
            have hin := hcond.1
            simp only [inLoop] at hin
            split at hin
            · rename_i hst
              obtain ⟨c', i', o', m1, m2, m3, m4, _⟩ := sr.sh.loopAt hst
              rw [g1] at m1; simp only [Option.some.injEq] at m1; subst m1
              rw [g3] at m2; simp only [Option.some.injEq] at m2; subst m2
              simp only [LoopO] at m4
              rw [m3, m4, g4]
            · simp at hin
        · intro B' l oR oB oD hB' hl _ _ hbusy hround
          obtain ⟨i, hi⟩ : ∃ i : YI, i = ⟨K, site, env, oR, oB, oD⟩ := ⟨_, rfl⟩
          obtain ⟨Y', hY'⟩ : ∃ Y' : Nat → Option YI, Y' = fun c => if c = l then some i else Y c := ⟨_, rfl⟩
          have y1 : Y' l = some i := by rw [hY']; simp
          have y2 : ∀ c, c ≠ l → Y' c = Y c := fun c hc => by rw [hY']; simp [hc]
          have hYok : YOk P B' D Y' := fun c j hj => by
            by_cases hc : c = l
            · subst hc
              rw [y1] at hj; simp only [Option.some.injEq] at hj; subst hj
              rw [hi]
              refine ⟨hbusy, fun d' L' ps' a' b' g1 g2 B1 hB1 as H' Q' g3 g4 g5 => ?_⟩
              rw [hD] at g1; simp only [Option.some.injEq] at g1; subst g1
              rw [hs1] at g2; simp only [Option.some.injEq, Prod.mk.injEq] at g2
              obtain ⟨rfl, rfl, rfl, rfl⟩ := g2
              exact hround B1 hB1 as H' Q' g3 g4 g5
            · rw [y2 c hc] at hj
              exact (hY.up hB') c j hj
          obtain ⟨hf, hy⟩ := hall B' Y' hYok
          have hx0 : RnB D Y' r l (.loop K site (L.map e) .ready) (.obj true oR) := by
            have := RnB.loop (D := D) (Y := Y') (r := r) l i (L.map e) .ready oR d L ps a b y1 (by rw [hi]; exact rfl) (by rw [hi]; exact hD) (by rw [hi]; exact hs1) (by
              rw [hi]
              exact RnL.map fun j _ => (sr.re j).mono (fun _ _ h => h))
            rw [hi] at this
            exact this
          obtain ⟨p1, p2⟩ := sr.sh.push hl y2 hx0
          have hcs := callX_sound (P := P) (B := B') hf hy p2 (fv := .fn (.func gf) first cap) (fv' := .fn (.func gf) first' cap') (as := [.fn (.yield h.length) [] []]) (as' := [.fn (.yield l) [] []])
            (.fn _ _ _ _ _ hf0 hl1 (fun i x y hx hy => (k1 i x y hx hy).mono p1) hl2 (fun i x y hx hy => (k2 i x y hx hy).mono p1)) (RnL.cons (.yield _ _ (by simp)) RnL.nil) hcall
          refine CallV.mono (fv := .fn (.func gf) first' cap') (as := [.fn (.yield l) [] []]) hcs ?_
          rintro v' H' ⟨⟨r2, q1, q2, q3⟩, _⟩
          have hr2 : r2 h.length = some l := q1 h.length l (by simp)
          have fin : ∀ (st : LSt), loopSt h1 h.length = some st → (∃ o, H' l = some (.obj true o) ∧ LoopO i st o) ∧ SR D Y r2 e (h1.set h.length none) env (hdel H' l) := by
            intro st hst
            obtain ⟨c', i', o', m1, m2, m3, m4, vs, d', L', ps', a', b', m5, _⟩ := q2.loopAt hst
            rw [hr2] at m1; simp only [Option.some.injEq] at m1; subst m1
            rw [y1] at m2; simp only [Option.some.injEq] at m2; subst m2
            refine ⟨⟨o', m3, m4⟩, ⟨fun b c hb => by simpa using q2.dom b c hb, fun b1 b2 c x1 x2 g1 g2 g3 g4 => ?_, fun b2 x hx => ?_⟩, fun j => (sr.re j).mono (p1.trans q1)⟩
            all_goals
              have live : ∀ b z, hat (h1.set h.length none) b = some z → b ≠ h.length ∧ hat h1 b = some z := fun b z hz => by
                rw [hat_set] at hz
                split at hz
                · simp at hz
                · rename_i hc; exact ⟨fun e => hc ⟨e, hat_lt m5⟩, hz⟩
            · exact q2.inj b1 b2 c x1 x2 (live _ _ g1).2 (live _ _ g2).2 g3 g4
            · obtain ⟨n1, n2⟩ := live _ _ hx
              obtain ⟨c, y, w1, w2, w3⟩ := q2.blk b2 x n2
              have hcl : c ≠ l := fun e => by
                subst e
                exact n1 (q2.inj b2 h.length c x _ n2 m5 w1 hr2)
              exact ⟨c, y, w1, by simp only [hdel, hcl, if_false]; exact w2, w3.mono (fun _ _ h => h) (fun _ => (y2 c hcl).symm)⟩
          split at hx
          · rename_i hst
            simp only [Option.some.injEq, Prod.mk.injEq] at hx
            obtain ⟨rfl, rfl, rfl⟩ := hx
            obtain ⟨⟨o, u1, u2⟩, u3⟩ := fin _ hst
            simp only [LoopO, hi] at u2
            subst u2
            exact .inl ⟨u1, hK r2 env _ ((p1.trans q1).agree k) u3⟩
          · rename_i x0 hst
            simp only [Option.some.injEq, Prod.mk.injEq] at hx
            obtain ⟨rfl, rfl, rfl⟩ := hx
            obtain ⟨⟨o, u1, u2⟩, u3⟩ := fin _ hst
            cases x0 with
            | normal => exact u2.elim
            | ret =>
              simp only [LoopO, hi] at u2
              subst u2
              exact .inr (.inl ⟨u1, hK r2 env _ ((p1.trans q1).agree k) u3⟩)
            | exit id =>
              simp only [LoopO, hi] at u2
              subst u2
              exact .inr (.inr ⟨id, u1, hK r2 env _ ((p1.trans q1).agree k) u3⟩)
          · simp at hx
      · simp at hx
    · simp at hx
end
end Go.DL
