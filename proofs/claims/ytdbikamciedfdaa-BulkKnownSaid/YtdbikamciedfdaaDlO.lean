/- Regions that draw their order, the abstract half, end: whatever comes up is pulled ahead. No statement of the seed is proved here. -/
import Derived.Test.YtdbikamciedfdaaDlN
namespace Go.DL
variable {P : Program} {B : Base}

section
variable {ix iy : Nat} {dx dy : Option Nat} {opx opy : DOp} {K : KL} {env : Env} {H : Hp} {L : Log}

def away (ix : Nat) (x y : DOp) : Bool :=
  match x, y with
  | .load .., .store _ _ _ l => l.contains ix
  | .load .., .callf false _ _ l => l.contains ix
  | _, _ => false

theorem kind_le7 (op : DOp) : op.kind ≤ 7 := by
  cases op <;> simp [DOp.kind]
  case callf q f xs l => cases q <;> simp

theorem kind4 {op : DOp} (h : op.kind = 4) : ∃ f xs l, op = .callf true f xs l := by
  cases op <;> simp [DOp.kind] at h
  case callf q f xs l => cases q <;> simp at h; exact ⟨_, _, _, rfl⟩
theorem kind6 {op : DOp} (h : op.kind = 6) : ∃ f xs l, op = .callf false f xs l := by
  cases op <;> simp [DOp.kind] at h
  case callf q f xs l => cases q <;> simp at h; exact ⟨_, _, _, rfl⟩
theorem callF_kind {op : DOp} (h : op.kind ≠ 6) : isCallF op = false := by
  cases op <;> first | rfl | skip
  case callf q f xs l => cases q <;> first | rfl | simp [DOp.kind] at h

theorem swapCore (hf : FinH H) (hok : (kindsOk opx.kind opy.kind || away ix opx opy) = true) (hL : L ix = none) (hne : ix ≠ iy)
    (a1 : ∀ k, dx = some k → k ∉ opy.sees) (a2 : ∀ k, dy = some k → k ∉ opx.sees) (a3 : ∀ k, dx = some k → dy ≠ some k)
    (h : coreD B P ix dx opx (coreD B P iy dy opy K) env H L) : coreD B P iy dy opy (coreD B P ix dx opx K) env H L := by
  by_cases hx0 : opx.kind = 0
  · exact swap0 hf hx0 a1 a2 a3 h
  by_cases hk : kindsOk opx.kind opy.kind = true
  · have l1 := kind_le7 opx
    have l2 := kind_le7 opy
    have qq : (opx.kind ≤ 3 ∨ opx.kind = 7) → (opy.kind ≤ 3 ∨ opy.kind = 7) → ¬ (opy.kind = 3 ∧ opx.kind = 3) → coreD B P iy dy opy (coreD B P ix dx opx K) env H L :=
      fun h1 h2 h3 => swapQQ hf (kind_isQ h1) (kind_isQ h2) h3 hne a1 a2 a3 h
    by_cases hx6 : opx.kind = 6
    · obtain ⟨f, xs, l, rfl⟩ := kind6 hx6
      have hy : opy.kind = 7 := by simpa [hx6, kindsOk] using hk
      exact swapCall7 hy a2 a3 h
    by_cases hx5 : opx.kind = 5
    · have hy : opy.kind = 0 := by simpa [hx5, kindsOk] using hk
      exact swapN0 hf hy (callF_kind hx6) a1 a2 a3 h
    by_cases hx4 : opx.kind = 4
    · obtain ⟨f, xs, l, rfl⟩ := kind4 hx4
      have hy : opy.kind ≤ 4 ∨ opy.kind = 7 := by simpa [hx4, kindsOk] using hk
      by_cases hy4 : opy.kind = 4
      · obtain ⟨g, ys, m, rfl⟩ := kind4 hy4
        exact swapQuietQuiet a1 a2 a3 h
      · exact swapQuietQ (kind_isQ (by omega)) a1 a2 a3 h
    by_cases hx1 : opx.kind = 1
    · have hy : opy.kind ≤ 4 ∨ opy.kind = 7 := by simpa [hx1, kindsOk] using hk
      by_cases hy4 : opy.kind = 4
      · obtain ⟨g, ys, m, rfl⟩ := kind4 hy4
        exact swap1Quiet hx1 a1 a2 a3 h
      · exact qq (by omega) (by omega) (by omega)
    by_cases hx3 : opx.kind = 3
    · have hy : opy.kind ≤ 2 ∨ opy.kind = 7 := by simpa [hx3, kindsOk] using hk
      exact qq (by omega) (by omega) (by omega)
    · have hy : opy.kind ≤ 3 ∨ opy.kind = 7 := by
        have : opx.kind = 2 ∨ opx.kind = 7 := by omega
        rcases this with h1 | h1 <;> simpa [h1, kindsOk] using hk
      exact qq (by omega) (by omega) (by omega)
  · have ha : away ix opx opy = true := by simpa [hk] using hok
    unfold away at ha
    split at ha
    · exact swapAwayStore (by simpa using ha) hL a1 a2 a3 h
    · exact swapAwayCall (by simpa using ha) hL a1 a2 a3 h
    · simp at ha
end

theorem effOp_sees {g : Bool} {op : DOp} {k : Nat} (h : k ∉ op.sees) : k ∉ (effOp g op).sees := by
  cases g with
  | true => exact h
  | false => exact List.not_mem_nil

theorem effOp_kind {g : Bool} {op : DOp} : (effOp g op).kind = if g then op.kind else 0 := by cases g <;> rfl

theorem swapD {x y : DOper} {K : KL} {env : Env} {H : Hp} {L : Log} (hf : FinH H) (hok : swapOk x y = true) (hL : L x.ix = none) (hne : x.ix ≠ y.ix)
    (h : opD B P x (opD B P y K) env H L) : opD B P y (opD B P x K) env H L := by
  unfold swapOk apartD at hok
  simp only [Bool.and_eq_true] at hok
  obtain ⟨⟨hk, hA1, hA2⟩, h6⟩ := hok
  have b1 : ∀ k, x.dst = some k → k ∉ y.sees ∧ y.dst ≠ some k := fun k hk => by
    rw [hk] at hA1; simpa using hA1
  have b2 : ∀ k, y.dst = some k → k ∉ x.sees := fun k hk => by
    rw [hk] at hA2; simpa using hA2
  have s1 : ∀ (o : DOper) k, k ∉ o.sees → k ∉ o.op.sees := fun o k h hk => h (List.mem_append_left _ hk)
  unfold opD at h ⊢
  rw [optW_iff] at h
  obtain ⟨gx, hgx, h⟩ := h
  have h' : coreD B P x.ix x.dst (effOp gx x.op) (fun e h l => optW (gd y env) fun g => coreD B P y.ix y.dst (effOp g y.op) K e h l) env H L :=
    coreD_mono hf (fun u H' L' _ _ hK => by simpa only [opD, gd_updo fun k hk => (b1 k hk).1] using hK) h
  cases hgy : gd y env with
  | none =>
    simp only [hgy, optW_none] at h'
    refine (coreD_false hf ?_ h').elim
    cases gx with
    | false => rfl
    | true =>
      refine callF_kind fun h7 => ?_
      have hy : y.guard = none := by simpa [show x.op.kind = 6 from h7] using h6
      simp [gd, hy] at hgy
  | some gy =>
    simp only [hgy, optW_some] at h' ⊢
    refine coreD_mono hf (fun u H' L' _ _ hK => ?_) (swapCore hf ?_ hL hne (fun k hk => effOp_sees (s1 _ _ (b1 k hk).1)) (fun k hk => effOp_sees (s1 _ _ (b2 k hk))) (fun k hk => (b1 k hk).2) h')
    · simp only [opD, gd_updo b2, hgx, optW_some]; exact hK
    · cases gx with
      | false => simp [effOp_kind, kindsOk]
      | true =>
        cases gy with
        | true => exact hk
        | false =>
          have l1 := kind_le7 x.op
          have : x.op.kind ≠ 6 := fun h7 => by
            have hy : y.guard = none := by simpa [h7] using h6
            simp [gd, hy] at hgy
          simp only [effOp_kind, if_true, Bool.or_eq_true]
          left
          have : x.op.kind = 0 ∨ x.op.kind = 1 ∨ x.op.kind = 2 ∨ x.op.kind = 3 ∨ x.op.kind = 4 ∨ x.op.kind = 5 ∨ x.op.kind = 7 := by omega
          rcases this with h | h | h | h | h | h | h <;> simp [h, kindsOk]

/-- What comes up is pulled ahead. -/
theorem pull {y : DOper} {post : List DOper} {K : Env → Hp → Prop} : ∀ (pre : List DOper) (env : Env) (H : Hp) (L : Log), FinH H → (∀ x ∈ pre, swapOk x y = true) →
    ((pre ++ y :: post).map (·.ix)).Nodup → (∀ o ∈ pre ++ y :: post, L o.ix = none) → RD B P (pre ++ y :: post) K env H L → opD B P y (RD B P (pre ++ post) K) env H L := by
  intro pre
  induction pre with
  | nil => intro env H L _ _ _ _ h; exact h
  | cons x pre ih =>
    intro env H L hf hs hnd hL h
    simp only [List.cons_append, List.map_cons, List.nodup_cons] at hnd
    refine swapD hf (hs x (by simp)) (hL x (by simp)) (fun e => hnd.1 (by simp [e])) ?_
    refine opD_mono hf (fun e H' L' hf' hl hK => ih e H' L' hf' (fun z hz => hs z (by simp [hz])) hnd.2 (fun o ho => ?_) hK) h
    rw [hl _ fun e => hnd.1 (by rw [← e]; exact List.mem_map_of_mem ho)]
    exact hL o (by simp only [List.cons_append, List.mem_cons]; exact .inr ho)

/-- An operation with a log is an operation. -/
theorem opD_opW {o : DOper} {K : KL} {env : Env} {H : Hp} {L : Log} (h : opD B P o K env H L) : opW B P o (fun e h => ∃ L', (∀ j, j ≠ o.ix → L' j = L j) ∧ K e h L') env H := by
  unfold opD at h
  rw [optW_iff] at h
  obtain ⟨g, hg, h⟩ := h
  unfold opW
  rw [hg]
  cases g with
  | false =>
    simp only
    have : coreD B P o.ix o.dst (.mv (.c (.tup []))) K env H L := h
    rw [coreD_Q rfl] at this
    exact ⟨L, fun _ _ => rfl, this⟩
  | true =>
    simp only
    have h : coreD B P o.ix o.dst o.op K env H L := h
    revert h
    generalize o.op = op
    intro h
    cases op
    case store n p x l => exact optW_mono (fun H' hK => ⟨L, fun _ _ => rfl, hK⟩) h.2
    case copy s x y => exact optW_mono (fun r hK => ⟨L, fun _ _ => rfl, hK⟩) h
    case mapup q m k x => exact optW_mono (fun r hK => ⟨L, fun _ _ => rfl, hK⟩) h
    case callf q f xs l =>
      cases q with
      | true => obtain ⟨v, h1, h2⟩ := h; exact ⟨v, h1, L, fun _ _ => rfl, h2⟩
      | false => exact CallV.mono h fun v H' hq => ⟨L, fun _ _ => rfl, hq.2⟩
    all_goals
      rw [coreD_Q rfl] at h
      rw [coreW_Q rfl]
      exact optW_mono (fun e => effW_mono fun e' h' hK => ⟨_, fun j hj => logOp_other hj, hK⟩) h

end Go.DL
