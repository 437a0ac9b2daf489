/- Regions on two states that differ by names. No statement of the seed is proved here. -/
import Derived.Test.YtdbikamciedfdaaX7
namespace Go.DL
section
variable {P : Program} {B : Base} {D : Nat → Option XFn} {Y : Nat → Option YI} {r : Nat → Option Nat} {e env : Env} {h : XH} {H : Hp}

/-- Two states that differ by names. -/
structure SR (D : Nat → Option XFn) (Y : Nat → Option YI) (r : Nat → Option Nat) (e : Env) (h : XH) (env : Env) (H : Hp) : Prop where
  sh : SH D Y r h H
  re : ∀ j, Rn D Y r (e j) (env j)

theorem SR.put {r' : Nat → Option Nat} {h' : XH} {H' : Hp} (sr : SR D Y r e h env H) (hs : Sub r r') (sh : SH D Y r' h' H') {v v' : AV} (hv : Rn D Y r' v v') (d : Option Nat) : SR D Y r' (updo e d v) h' (updo env d v') H' := by
  refine ⟨sh, fun j => ?_⟩
  cases d with
  | none => exact (sr.re j).mono hs
  | some d =>
    simp only [updo, upd]
    split
    · exact hv
    · exact (sr.re j).mono hs

theorem gd_rn (sr : SR D Y r e h env H) {o : DOper} {b : Bool} (hb : gd o e = some b) : gd o env = some b := by
  unfold gd at hb ⊢
  split at hb
  · exact hb
  · rename_i g want hg
    have hr := sr.re g
    split at hb
    · rename_i t ht
      rw [ht] at hr
      rw [rn_bool hr]; exact hb
    · rename_i vs ht
      rw [ht] at hr
      obtain ⟨ys, h1, _⟩ := rn_tup hr
      rw [h1]; exact hb
    · simp at hb

/-- What follows, at each state that differs by names. -/
def Foll (D : Nat → Option XFn) (Y : Nat → Option YI) (r : Nat → Option Nat) (e : Env) (h : XH) (K : Env → Hp → Prop) : Prop := ∀ r' env' H', Sub r r' → SR D Y r' e h env' H' → K env' H'

theorem xcoreQ_sound {run : XRun} {runY : YRun} (sr : SR D Y r e h env H) {d : Option Nat} {op : DOp} (hq : op.isQ = true) (hok : okOp op = true) {e' : Env} {h' : XH} (hx : xcore run runY d op e h = some (e', h')) {K : Env → Hp → Prop}
    (hK : Foll D Y r e' h' K) : coreW B P d op K env H := by
  have hx' : (match evalQ op e (hpOf h) with
    | some (.val v) => some (updo e d v, h)
    | some (.new own x f) => some (updo e d (f h.length), xNew h own (flagNew op e h) x)
    | none => none) = some (e', h') := by
    rw [← hx]
    cases op <;> first | rfl | (simp [DOp.isQ] at hq)
  rw [coreW_Q hq, optW_iff]
  split at hx'
  · rename_i v hv
    simp only [Option.some.injEq, Prod.mk.injEq] at hx'
    obtain ⟨rfl, rfl⟩ := hx'
    obtain ⟨eff', h1, h2⟩ := evalQ_rn sr.sh sr.re hok hv
    refine ⟨eff', h1, ?_⟩
    cases h2 with
    | val _ v' hv' => exact hK r _ _ (Sub.refl r) (sr.put (Sub.refl r) sr.sh hv' d)
  · rename_i own x f hv
    simp only [Option.some.injEq, Prod.mk.injEq] at hx'
    obtain ⟨rfl, rfl⟩ := hx'
    obtain ⟨eff', h1, h2⟩ := evalQ_rn sr.sh sr.re hok hv
    refine ⟨eff', h1, ?_⟩
    cases h2 with
    | new _ cs cs' _ hf hc hg ho =>
      intro b' hb'
      obtain ⟨k1, k2⟩ := sr.sh.fresh (own := own) (flagNew op e h) (x := .cells true cs) (y := .cells true cs') (b' := b') hb' (fun b hb => by
        obtain ⟨c, g', cs0, q1, q2⟩ := ho b hb
        exact ⟨c, _, q1, q2⟩) (fun c => .cells c _ true _ _ hc hg)
      exact hK _ _ _ k1 (sr.put k1 k2 (hf _ _ _ (by simp)) d)
    | newMap _ hf =>
      intro b' hb'
      obtain ⟨k1, k2⟩ := sr.sh.fresh (own := none) (flagNew op e h) (x := .map true []) (y := .map true []) (b' := b') (by simpa using hb') (fun b hb => by simp at hb) (fun c => .map c _ true _ _ ⟨rfl, by simp⟩ (fun _ p hp => by simp at hp))
      exact hK _ _ _ k1 (sr.put k1 k2 (hf _ _ _ (by simp)) d)
  · simp at hx'

theorem xcore_sound {run : XRun} {runY : YRun} (hf : FnS P B D Y run) (hy : YS P B D Y runY) (sr : SR D Y r e h env H) {d : Option Nat} {op : DOp} (hok : okOp op = true) {e' : Env} {h' : XH}
    (hx : xcore run runY d op e h = some (e', h')) {K : Env → Hp → Prop} (hK : Foll D Y r e' h' K) : coreW B P d op K env H := by
  by_cases hq : op.isQ = true
  · exact xcoreQ_sound sr hq hok hx hK
  · cases op with
    | store n p x l =>
      simp only [okOp, Bool.and_eq_true] at hok
      simp only [xcore, Option.map_eq_some_iff] at hx
      obtain ⟨h2, hs, heq⟩ := hx
      simp only [Prod.mk.injEq] at heq
      obtain ⟨rfl, rfl⟩ := heq
      obtain ⟨H', k1, k2, _⟩ := xStore_rn sr.sh (rn_evA sr.re hok.1) (rn_evA sr.re hok.2) hs
      simp only [coreW, k1, optW_some]
      exact hK r _ _ (Sub.refl r) (sr.put (Sub.refl r) k2 (.any _) d)
    | copy s x y =>
      simp only [okOp, Bool.and_eq_true] at hok
      simp only [xcore, Option.map_eq_some_iff] at hx
      obtain ⟨⟨n, h2⟩, hs, heq⟩ := hx
      simp only [Prod.mk.injEq] at heq
      obtain ⟨rfl, rfl⟩ := heq
      obtain ⟨H', k1, k2⟩ := xCopy_rn sr.sh (rn_evA sr.re hok.1) (rn_evA sr.re hok.2) hs
      simp only [coreW, k1, optW_some]
      exact hK r _ _ (Sub.refl r) (sr.put (Sub.refl r) k2 (.int _ _) d)
    | mapup q m k x =>
      simp only [okOp, Bool.and_eq_true] at hok
      simp only [xcore, Option.map_eq_some_iff] at hx
      obtain ⟨h2, hs, heq⟩ := hx
      simp only [Prod.mk.injEq] at heq
      obtain ⟨rfl, rfl⟩ := heq
      obtain ⟨H', k1, k2⟩ := xMapup_rn sr.sh (rn_evA sr.re hok.1.1) (rn_evA sr.re hok.1.2) (rn_evA sr.re hok.2) hs
      simp only [coreW, k1, optW_some]
      exact hK r _ _ (Sub.refl r) (sr.put (Sub.refl r) k2 (.any _) d)
    | callf q f xs l =>
      simp only [okOp, Bool.and_eq_true] at hok
      cases q with
      | true =>
        simp only [xcore, Option.map_eq_some_iff] at hx
        obtain ⟨v, hs, heq⟩ := hx
        simp only [Prod.mk.injEq] at heq
        obtain ⟨rfl, rfl⟩ := heq
        obtain ⟨k1, k2⟩ := callQ_sound (P := P) (B := B) hf sr.sh (rn_evA sr.re hok.1) (rn_args sr.re hok.2) hs
        exact ⟨v, k2, hK r _ _ (Sub.refl r) (sr.put (Sub.refl r) sr.sh k1.rn d)⟩
      | false =>
        simp only [xcore, Option.map_eq_some_iff] at hx
        obtain ⟨⟨v, h2⟩, hs, heq⟩ := hx
        simp only [Prod.mk.injEq] at heq
        obtain ⟨rfl, rfl⟩ := heq
        refine CallV.mono (callX_sound (P := P) (B := B) hf hy sr.sh (rn_evA sr.re hok.1) (rn_args sr.re hok.2) hs) ?_
        rintro v' H' ⟨⟨r', k1, k2, k3⟩, _⟩
        exact hK r' _ _ k1 (sr.put k1 k2 k3 d)
    | _ => exact absurd rfl hq

def okOps (ops : List DOper) : Bool := ops.all fun o => okOp o.op

theorem xops_sound {run : XRun} {runY : YRun} (hf : FnS P B D Y run) (hy : YS P B D Y runY) : ∀ (ops : List DOper) (r : Nat → Option Nat) (e : Env) (h : XH) (env : Env) (H : Hp) (e' : Env) (h' : XH) (K : Env → Hp → Prop), okOps ops = true → SR D Y r e h env H →
    xops run runY ops e h = some (e', h') → Foll D Y r e' h' K → RS B P ops K env H := by
  intro ops
  induction ops with
  | nil =>
    intro r e h env H e' h' K _ sr hx hK
    simp only [xops, Option.some.injEq, Prod.mk.injEq] at hx
    obtain ⟨rfl, rfl⟩ := hx
    exact hK r env H (Sub.refl r) sr
  | cons o ops ih =>
    intro r e h env H e' h' K hok sr hx hK
    simp only [okOps, List.all_cons, Bool.and_eq_true] at hok
    simp only [xops] at hx
    simp only [RS, opW]
    split at hx
    · rename_i hg
      rw [gd_rn sr hg]
      simp only [Option.bind_eq_some_iff] at hx
      obtain ⟨⟨e1, h1⟩, hx1, hx2⟩ := hx
      refine xcore_sound hf hy sr hok.1 hx1 fun r' env' H' hs sr' => ?_
      exact ih r' e1 h1 env' H' e' h' K hok.2 sr' hx2 fun r2 env2 H2 hs2 sr2 => hK r2 env2 H2 (hs.trans hs2) sr2
    · rename_i hg
      rw [gd_rn sr hg]
      simp only
      exact ih r _ h _ H e' h' K hok.2 (sr.put (Sub.refl r) sr.sh (.tup [] [] rfl (by simp)) o.dst) hx hK
    · simp at hx

/-! ### Regions that draw their order -/
/-- The two logs. -/
def LogR (r : Nat → Option Nat) (h : XH) (L : List (Nat × Nat)) (L' : Log) : Prop := (∀ q ∈ L, (hat h q.2).isSome = true) ∧ ∀ j c, L' j = some c → ∃ b, (j, b) ∈ L ∧ r b = some c

theorem coreD_W {ix : Nat} {d : Option Nat} {op : DOp} {K : KL} {L : Log} (h1 : ∀ n p x l, op ≠ .store n p x l) (h2 : ∀ f xs l, op ≠ .callf false f xs l) :
    coreD B P ix d op K env H L = coreW B P d op (fun e h => K e h (logOp ix op env L)) env H := by
  cases op <;> first
    | rfl
    | (exact absurd rfl (h1 _ _ _ _))
    | (rename_i q f xs l; cases q; exact absurd rfl (h2 _ _ _); rfl)

mutual
theorem sameA_eq {r' : Nat → Option Nat} (hs : Sub r r') : ∀ (x y x' y' : AV), sameA x y = true → Rn D Y r x x' → Rn D Y r' y y' → x' = y'
  | .int k n, .int k' n', x', y', h, h1, h2 => by simp [sameA] at h; obtain ⟨rfl, rfl⟩ := h; rw [rn_int h1, rn_int h2]
  | .bool a, .bool b, x', y', h, h1, h2 => by simp [sameA] at h; subst h; rw [rn_bool h1, rn_bool h2]
  | .str s, .str t, x', y', h, h1, h2 => by
    simp [sameA] at h
    have : s = t := by cases s; cases t; simp_all
    subst this; rw [rn_str h1, rn_str h2]
  | .agg xs, .agg ys, x', y', h, h1, h2 => by
    obtain ⟨xs', rfl, k1⟩ := rn_agg h1
    obtain ⟨ys', rfl, k2⟩ := rn_agg h2
    rw [sameL_eq hs xs ys xs' ys' (by simpa [sameA] using h) k1 k2]
  | .tup xs, .tup ys, x', y', h, h1, h2 => by
    obtain ⟨xs', rfl, k1⟩ := rn_tup h1
    obtain ⟨ys', rfl, k2⟩ := rn_tup h2
    rw [sameL_eq hs xs ys xs' ys' (by simpa [sameA] using h) k1 k2]
  | .sl b o s n, .sl b' o' s' n', x', y', h, h1, h2 => by
    simp [sameA] at h; obtain ⟨rfl, rfl, rfl, rfl⟩ := h
    obtain ⟨c, rfl, k1⟩ := rn_sl h1
    obtain ⟨c', rfl, k2⟩ := rn_sl h2
    rw [hs b c k1] at k2; simp at k2; rw [k2]
  | .pt b o, .pt b' o', x', y', h, h1, h2 => by
    simp [sameA] at h; obtain ⟨rfl, rfl⟩ := h
    obtain ⟨c, rfl, k1⟩ := rn_pt h1
    obtain ⟨c', rfl, k2⟩ := rn_pt h2
    rw [hs b c k1] at k2; simp at k2; rw [k2]
  | .mp b, .mp b', x', y', h, h1, h2 => by
    simp [sameA] at h; subst h
    obtain ⟨c, rfl, k1⟩ := rn_mp h1
    obtain ⟨c', rfl, k2⟩ := rn_mp h2
    rw [hs b c k1] at k2; simp at k2; rw [k2]
  | .nilsl, .nilsl, x', y', h, h1, h2 => by rw [rn_nilsl h1, rn_nilsl h2]
  | .nilpt, .nilpt, x', y', h, h1, h2 => by rw [rn_nilpt h1, rn_nilpt h2]
  | .nilmap, .nilmap, x', y', h, h1, h2 => by rw [rn_nilmap h1, rn_nilmap h2]
  | .nilfn, .nilfn, x', y', h, h1, h2 => by rw [rn_nilfn h1, rn_nilfn h2]
  | .nilifc, .nilifc, x', y', h, h1, h2 => by rw [rn_nilifc h1, rn_nilifc h2]
  | .fn f xs us, .fn g ys vs, x', y', h, h1, h2 => by
    simp only [sameA, Bool.and_eq_true, decide_eq_true_eq] at h
    obtain ⟨rfl, h3, h4⟩ := h
    cases h1 with
    | fn _ _ xs' _ us' hf1 a1 a2 a3 a4 =>
      cases h2 with
      | fn _ _ ys' _ vs' hf2 b1 b2 b3 b4 =>
        rw [sameL_eq hs xs ys xs' ys' h3 ⟨a1, a2⟩ ⟨b1, b2⟩, sameL_eq hs us vs us' vs' h4 ⟨a3, a4⟩ ⟨b3, b4⟩]
      | yield => exact absurd rfl (hf1 _)
    | yield l c hr =>
      cases h2 with
      | fn _ _ ys' _ vs' hf2 => exact absurd rfl (hf2 _)
      | yield _ c' hr' =>
        rw [hs l c hr] at hr'; simp at hr'; rw [hr']
  | .any, y, _, _, h, _, _ => by cases y <;> simp [sameA] at h
  | .fs _, y, _, _, h, _, _ => by cases y <;> simp [sameA] at h
  | .fp .., y, _, _, h, _, _ => by cases y <;> simp [sameA] at h
  | .ifc .., y, _, _, h, _, _ => by cases y <;> simp [sameA] at h
theorem sameL_eq {r' : Nat → Option Nat} (hs : Sub r r') : ∀ (xs ys xs' ys' : List AV), sameL xs ys = true → RnL D Y r xs xs' → RnL D Y r' ys ys' → xs' = ys'
  | [], [], xs', ys', _, h1, h2 => by rw [h1.nil_inv, h2.nil_inv]
  | x :: xs, y :: ys, xs', ys', h, h1, h2 => by
    simp only [sameL, Bool.and_eq_true] at h
    obtain ⟨x', xs2, rfl, k1, k2⟩ := h1.inv
    obtain ⟨y', ys2, rfl, k3, k4⟩ := h2.inv
    rw [sameA_eq hs x y x' y' h.1 k1 k3, sameL_eq hs xs ys xs2 ys2 h.2 k2 k4]
  | [], _ :: _, _, _, h, _, _ => by simp [sameL] at h
  | _ :: _, [], _, _, h, _, _ => by simp [sameL] at h
end
end
end Go.DL
