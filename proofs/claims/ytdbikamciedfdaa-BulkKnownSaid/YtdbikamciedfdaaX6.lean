/- Calls on two states that differ by names, further. No statement of the seed is proved here. -/
import Derived.Test.YtdbikamciedfdaaX5
namespace Go.DL

def Sub (r r' : Nat → Option Nat) : Prop := ∀ b c, r b = some c → r' b = some c
theorem Sub.refl (r : Nat → Option Nat) : Sub r r := fun _ _ h => h
theorem Sub.trans {r r' r'' : Nat → Option Nat} (h : Sub r r') (k : Sub r' r'') : Sub r r'' := fun b c hb => k b c (h b c hb)

/-- What is known behind a call. -/
def PostR (D : Nat → Option XFn) (Y : Nat → Option YI) (r : Nat → Option Nat) (v : AV) (h : XH) : AV → Hp → Prop := fun v' H' =>
  ∃ r', Sub r r' ∧ SH D Y r' h H' ∧ Rn D Y r' v v'

def FnS (P : Program) (B : Base) (D : Nat → Option XFn) (Y : Nat → Option YI) (run : XRun) : Prop :=
  ∀ (r : Nat → Option Nat) (h : XH) (H : Hp) (K : Nat) (as as' : List AV) (v : AV) (h' : XH), SH D Y r h H → RnL D Y r as as' → run K as h = some (v, h') → FnW B P K as' H (PostR D Y r v h')
def YS (P : Program) (B : Base) (D : Nat → Option XFn) (Y : Nat → Option YI) (runY : YRun) : Prop :=
  ∀ (r : Nat → Option Nat) (h : XH) (H : Hp) (fv fv' : AV) (as as' : List AV) (v : AV) (h' : XH), SH D Y r h H → Rn D Y r fv fv' → RnL D Y r as as' →
    runY fv as h = some (v, h') → CallV B P fv' as' H (PostR D Y r v h')

section
variable {P : Program} {B : Base} {D : Nat → Option XFn} {Y : Nat → Option YI} {r : Nat → Option Nat} {h : XH} {H : Hp}

theorem hat_drop (h : XH) (k b : Nat) : hat (h.drop k) b = hat h (k + b) := by
  unfold hat
  rw [List.getD_eq_getElem?_getD, List.getElem?_drop, List.getD_eq_getElem?_getD]

def locR (r : Nat → Option Nat) (acc : List Nat) : Nat → Option Nat := fun i => (acc[i]?).bind r

theorem local_sound (sh : SH D Y r h H) {acc : List Nat} (hn : acc.Nodup) (hlive : ∀ b ∈ acc, (hat h b).isSome = true) (S : Nat → Prop) [DecidablePred S] (hS : ∀ c, S c ↔ ∃ b ∈ acc, r b = some c) :
    SH D Y (locR r acc) (localH acc h) (fun c => if S c then H c else none) ∧ (∀ v v', Rn D Y r v v' → Rn D Y (locR r acc) (rnA (fun b => posOf b acc) v) v') ∧ (∀ v v', RnL D Y r v v' → RnL D Y (locR r acc) (rnL (fun b => posOf b acc) v) v') := by
  have hs : ∀ b c d, posOf b acc = some c → r b = some d → locR r acc c = some d := fun b c d h1 h2 => by
    simp only [locR, posOf_get h1, Option.bind_some, h2]
  refine ⟨⟨fun i c hi => ?_, fun i j c x y hx hy h1 h2 => ?_, fun i x hx => ?_⟩, fun v v' hv => hv.renum hs, fun v v' hv => hv.renum hs⟩
  · simp only [locR] at hi
    cases ha : acc[i]? with
    | none => rw [ha] at hi; simp at hi
    | some b => simpa [localH] using (List.getElem?_eq_some_iff.1 ha).1
  · simp only [locR] at h1 h2
    cases ha : acc[i]? with
    | none => rw [ha] at h1; simp at h1
    | some b => cases hb : acc[j]? with
      | none => rw [hb] at h2; simp at h2
      | some b' =>
        rw [ha] at h1; rw [hb] at h2
        simp only [Option.bind_some] at h1 h2
        obtain ⟨x1, hx1⟩ := Option.isSome_iff_exists.1 (hlive b (List.mem_of_getElem? ha))
        obtain ⟨x2, hx2⟩ := Option.isSome_iff_exists.1 (hlive b' (List.mem_of_getElem? hb))
        have := sh.inj b b' c x1 x2 hx1 hx2 h1 h2
        subst this
        exact nodup_get hn ha hb
  · unfold localH at hx
    rw [hat_local _ _ _ rfl] at hx
    split at hx
    · rename_i b hb
      obtain ⟨y, hy, rfl⟩ := rnO_some hx
      obtain ⟨c, z, h1, h2, h3⟩ := sh.blk b y hy
      refine ⟨c, z, by simp only [locR, hb, Option.bind_some, h1], ?_, h3.renum hs⟩
      rw [if_pos ((hS c).2 ⟨b, List.mem_of_getElem? hb, h1⟩)]
      exact h2
    · simp at hx

theorem merge_sound (sh : SH D Y r h H) {acc : List Nat} (hn : acc.Nodup) (hlive : ∀ b ∈ acc, (hat h b).isSome = true) {S : Nat → Prop} (hS : ∀ c, S c ↔ ∃ b ∈ acc, r b = some c)
    {rl : Nat → Option Nat} {hl : XH} {H' H'' : Hp} (hsub : Sub (locR r acc) rl) (sh' : SH D Y rl hl H') (e1 : ∀ c, S c ∨ H c = none → H'' c = H' c) (e2 : ∀ c, ¬ S c → ∀ x, H c = some x → H'' c = some x ∧ H' c = none) :
    ∃ r', Sub r r' ∧ SH D Y r' (mergeH acc h hl) H'' ∧ (∀ v v', Rn D Y rl v v' → Rn D Y r' (rnA (backS acc h.length) v) v') ∧ (∀ b c, r b = some c → (hat h b).isSome = true → b ∉ acc → H'' c = H c) := by
  obtain ⟨r', hr'⟩ : ∃ r' : Nat → Option Nat, r' = fun b => if b < h.length then r b else rl (b - h.length + acc.length) := ⟨_, rfl⟩
  have hlt : ∀ b ∈ acc, b < h.length := fun b hb => by
    obtain ⟨x, hx⟩ := Option.isSome_iff_exists.1 (hlive b hb)
    exact hat_lt hx
  have r1 : ∀ b, b < h.length → r' b = r b := fun b hb => by rw [hr']; simp [hb]
  have r2 : ∀ i, acc.length ≤ i → r' (h.length + (i - acc.length)) = rl i := fun i hi => by
    rw [hr']
    have e : h.length + (i - acc.length) - h.length + acc.length = i := by omega
    simp only [show ¬ (h.length + (i - acc.length) < h.length) by omega, if_false, e]
  -- a name of the caller's that is handed over
  have at1 : ∀ i b, acc[i]? = some b → ∃ c, r b = some c ∧ rl i = some c := fun i b hi => by
    obtain ⟨x, hx⟩ := Option.isSome_iff_exists.1 (hlive b (List.mem_of_getElem? hi))
    obtain ⟨c, y, h1, _, _⟩ := sh.blk b x hx
    exact ⟨c, h1, hsub i c (by simp only [locR, hi, Option.bind_some, h1])⟩
  have hs : ∀ i b d, backS acc h.length i = some b → rl i = some d → r' b = some d := fun i b d h1 h2 => by
    unfold backS at h1
    split at h1
    · obtain ⟨c, k1, k2⟩ := at1 i b h1
      rw [k2] at h2
      rw [r1 b (hlt b (List.mem_of_getElem? h1)), k1]
      exact h2
    · rename_i hi
      simp only [Option.some.injEq] at h1
      subst h1
      rw [r2 i (by omega)]; exact h2
  have len : (mergeH acc h hl).length = h.length + (hl.length - acc.length) := by simp [mergeH, setL_len]
  have hat1 : ∀ i b, acc[i]? = some b → hat (mergeH acc h hl) b = rnO (backS acc h.length) (hat hl i) := fun i b hi => by
    have hb := hlt b (List.mem_of_getElem? hi)
    have hi' := (List.getElem?_eq_some_iff.1 hi).1
    unfold mergeH
    rw [hat_append, setL_len, if_pos hb, hat_setL_at acc _ h i b hn (by simp) hlt hi, hat_map _ rfl, hat_padTake, if_pos hi']
  have hat2 : ∀ b, b < h.length → b ∉ acc → hat (mergeH acc h hl) b = hat h b := fun b hb hna => by
    unfold mergeH
    rw [hat_append, setL_len, if_pos hb, hat_setL_other _ _ _ _ hna]
  have hat3 : ∀ b, h.length ≤ b → hat (mergeH acc h hl) b = rnO (backS acc h.length) (hat hl (acc.length + (b - h.length))) := fun b hb => by
    unfold mergeH
    rw [hat_append, setL_len, if_neg (by omega), hat_map _ rfl, hat_drop]
  -- each living block of the new heap: where it comes from
  have from1 : ∀ b x, hat (mergeH acc h hl) b = some x → (b < h.length ∧ b ∉ acc ∧ hat h b = some x) ∨ ∃ i y, backS acc h.length i = some b ∧ hat hl i = some y ∧ x = rnB (backS acc h.length) y ∧ (b < h.length → b ∈ acc) := fun b x hx => by
    by_cases hb : b < h.length
    · by_cases ha : b ∈ acc
      · obtain ⟨i, hi⟩ := List.mem_iff_getElem?.1 ha
        rw [hat1 i b hi] at hx
        obtain ⟨y, hy, rfl⟩ := rnO_some hx
        refine .inr ⟨i, y, ?_, hy, rfl, fun _ => ha⟩
        unfold backS
        rw [if_pos (List.getElem?_eq_some_iff.1 hi).1]; exact hi
      · rw [hat2 b hb ha] at hx
        exact .inl ⟨hb, ha, hx⟩
    · rw [hat3 b (by omega)] at hx
      obtain ⟨y, hy, rfl⟩ := rnO_some hx
      refine .inr ⟨acc.length + (b - h.length), y, ?_, hy, rfl, fun h => absurd h hb⟩
      unfold backS
      rw [if_neg (by omega)]
      simp only [Option.some.injEq]; omega
  -- a block that was not handed over
  have far : ∀ b c, r b = some c → (hat h b).isSome = true → b ∉ acc → ¬ S c ∧ ∃ x, H c = some x := fun b c hb hl2 hna => by
    obtain ⟨x, hx⟩ := Option.isSome_iff_exists.1 hl2
    obtain ⟨c', y, h1, h2, _⟩ := sh.blk b x hx
    rw [hb] at h1; simp only [Option.some.injEq] at h1; subst h1
    refine ⟨fun hSc => ?_, y, h2⟩
    obtain ⟨b', h3, h4⟩ := (hS c).1 hSc
    obtain ⟨x', hx'⟩ := Option.isSome_iff_exists.1 (hlive b' h3)
    have := sh.inj b b' c x x' hx hx' hb h4
    exact hna (this ▸ h3)
  have bl : ∀ i y, hat hl i = some y → ∃ c z, rl i = some c ∧ H'' c = some z ∧ H' c = some z ∧ RnB D Y rl c y z := fun i y hy => by
    obtain ⟨c, z, h1, h2, h3⟩ := sh'.blk i y hy
    refine ⟨c, z, h1, ?_, h2, h3⟩
    by_cases hSc : S c ∨ H c = none
    · rw [e1 c hSc]; exact h2
    · simp only [not_or] at hSc
      obtain ⟨x, hx⟩ := Option.ne_none_iff_exists'.1 hSc.2
      rw [(e2 c hSc.1 x hx).2] at h2; simp at h2
  refine ⟨r', fun b c hb => by rw [r1 b (sh.dom b c hb)]; exact hb, ⟨fun b c hb => ?_, fun b b' c x x' hx hx' hb hb' => ?_, fun b x hx => ?_⟩, fun v v' hv => hv.renum hs, fun b c hb hl2 hna => ?_⟩
  · rw [len]
    by_cases hlt' : b < h.length
    · omega
    · rw [hr'] at hb
      simp only [hlt', if_false] at hb
      have := sh'.dom _ _ hb
      omega
  · rcases from1 b x hx with ⟨h1, h2, h3⟩ | ⟨i, y, h1, h2, _, _⟩
    · rcases from1 b' x' hx' with ⟨k1, k2, k3⟩ | ⟨j, y', k1, k2, _, k4⟩
      · rw [r1 b h1] at hb; rw [r1 b' k1] at hb'
        exact sh.inj b b' c x x' h3 k3 hb hb'
      · exfalso
        rw [r1 b h1] at hb
        obtain ⟨g1, z, g2⟩ := far b c hb (by simp [h3]) h2
        obtain ⟨c', z', g3, _, g5, _⟩ := bl j y' k2
        have := hs j b' c' k1 g3
        rw [hb'] at this; simp only [Option.some.injEq] at this; subst this
        rw [(e2 c g1 z g2).2] at g5; simp at g5
    · rcases from1 b' x' hx' with ⟨k1, k2, k3⟩ | ⟨j, y', k1, k2, _, _⟩
      · exfalso
        rw [r1 b' k1] at hb'
        obtain ⟨g1, z, g2⟩ := far b' c hb' (by simp [k3]) k2
        obtain ⟨c', z', g3, _, g5, _⟩ := bl i y h2
        have := hs i b c' h1 g3
        rw [hb] at this; simp only [Option.some.injEq] at this; subst this
        rw [(e2 c g1 z g2).2] at g5; simp at g5
      · obtain ⟨c1, _, g1, _⟩ := bl i y h2
        obtain ⟨c2, _, g2, _⟩ := bl j y' k2
        have e3 := hs i b c1 h1 g1
        have e4 := hs j b' c2 k1 g2
        rw [hb] at e3; rw [hb'] at e4
        simp only [Option.some.injEq] at e3 e4
        subst e3; subst e4
        have := sh'.inj i j c y y' h2 k2 g1 g2
        subst this
        rw [h1] at k1; simpa using k1
  · rcases from1 b x hx with ⟨h1, h2, h3⟩ | ⟨i, y, h1, h2, rfl, _⟩
    · obtain ⟨c, z, g1, g2, g3⟩ := sh.blk b x h3
      obtain ⟨k1, z', k2⟩ := far b c g1 (by simp [h3]) h2
      refine ⟨c, z, by rw [r1 b h1]; exact g1, (e2 c k1 z g2).1, g3.mono (fun b c hb => by rw [r1 b (sh.dom b c hb)]; exact hb) (fun _ => rfl)⟩
    · obtain ⟨c, z, g1, g2, _, g4⟩ := bl i y h2
      exact ⟨c, z, hs i b c h1 g1, g2, g4.renum hs⟩
  · obtain ⟨h1, x, h2⟩ := far b c hb hl2 hna
    rw [(e2 c h1 x h2).1, h2]

/-- What is known behind a call, with the blocks that it did not get. -/
def PostC (D : Nat → Option XFn) (Y : Nat → Option YI) (r : Nat → Option Nat) (h : XH) (H : Hp) (acc : List Nat) (v : AV) (h' : XH) : AV → Hp → Prop := fun v' H' =>
  PostR D Y r v h' v' H' ∧ ∀ b c, r b = some c → (hat h b).isSome = true → b ∉ acc → H' c = H c

theorem callX_part (sh : SH D Y r h H) {acc : List Nat} (hn : acc.Nodup) (hlive : ∀ b ∈ acc, (hat h b).isSome = true) {fv : AV} {as : List AV} {v : AV} {hl : XH}
    (hc : ∀ S : Nat → Prop, [DecidablePred S] → (∀ c, S c ↔ ∃ b ∈ acc, r b = some c) → CallV B P fv as (fun c => if S c then H c else none) (PostR D Y (locR r acc) v hl)) :
    CallV B P fv as H (PostC D Y r h H acc (rnA (backS acc h.length) v) (mergeH acc h hl)) := by
  classical
  refine CallV.mono (CallV.frameS (fun c => ∃ b ∈ acc, r b = some c) (hc _ fun c => Iff.rfl)) ?_
  rintro v' H'' ⟨H', ⟨rl, h1, h2, h3⟩, e1, e2⟩
  obtain ⟨r', k1, k2, k3, k4⟩ := merge_sound sh hn hlive (fun c => Iff.rfl) h1 h2 e1 e2
  exact ⟨⟨r', k1, k2, k3 v v' h3⟩, k4⟩

theorem callX_sound {run : XRun} {runY : YRun} (hf : FnS P B D Y run) (hy : YS P B D Y runY) (sh : SH D Y r h H) {fv fv' : AV} {as as' : List AV} (h1 : Rn D Y r fv fv') (h2 : RnL D Y r as as') {v : AV} {h' : XH}
    (hx : callX run runY fv as h = some (v, h')) : CallV B P fv' as' H (PostC D Y r h H (passedOf fv as h) v h') := by
  obtain ⟨hn, hlive⟩ := passedOf_ok fv as h
  unfold callX at hx
  split at hx
  · rename_i g first cap
    simp only [Option.map_eq_some_iff] at hx
    obtain ⟨⟨v0, hl⟩, hrun, hm⟩ := hx
    simp only [mergeR, Prod.mk.injEq] at hm
    obtain ⟨rfl, rfl⟩ := hm
    cases h1 with
    | fn _ _ ys _ vs hf0 hl1 k1 hl2 k2 =>
      refine callX_part sh hn hlive fun S _ hS => ?_
      obtain ⟨g1, g2, g3⟩ := local_sound sh hn hlive S hS
      have := hf _ _ _ g _ (ys ++ as' ++ vs) v0 hl g1 (g3 _ _ (RnL.append (RnL.append ⟨hl1, k1⟩ h2) ⟨hl2, k2⟩)) hrun
      exact this
  · rename_i l
    simp only [Option.map_eq_some_iff] at hx
    obtain ⟨⟨v0, hl⟩, hrun, hm⟩ := hx
    simp only [mergeR, Prod.mk.injEq] at hm
    obtain ⟨rfl, rfl⟩ := hm
    refine callX_part sh hn hlive fun S _ hS => ?_
    obtain ⟨g1, g2, g3⟩ := local_sound sh hn hlive S hS
    exact hy _ _ _ _ _ _ _ v0 hl g1 (g2 _ _ h1) (g3 _ _ h2) hrun
  · simp at hx
end
end Go.DL
