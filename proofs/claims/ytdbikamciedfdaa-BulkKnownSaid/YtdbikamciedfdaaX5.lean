/- Calls on two states that differ by names. No statement of the seed is proved here. -/
import Derived.Test.YtdbikamciedfdaaX4
namespace Go.DL
section
variable {P : Program} {B : Base}

/-- The call is handed a part of the heap: the rest is as it was. -/
theorem CallV.frameS {fv : AV} {as : List AV} {H : Hp} {Q : AV → Hp → Prop} (S : Nat → Prop) [DecidablePred S] (h : CallV B P fv as (fun c => if S c then H c else none) Q) :
    CallV B P fv as H fun v H'' => ∃ H', Q v H' ∧ (∀ c, S c ∨ H c = none → H'' c = H' c) ∧ (∀ c, ¬ S c → ∀ x, H c = some x → H'' c = some x ∧ H' c = none) := by
  refine h.conv fun F w st => ?_
  have st1 : St F w (fun c => if S c then H c else none) := st.forget fun c x hc => by
    split at hc
    · exact hc
    · simp at hc
  refine ⟨st1, ?_⟩
  rintro e w' ⟨r, v, F', H', rfl, h2, h3, h4, h5⟩
  have hlow : ∀ c x, H c = some x → c < w.heap.size := fun c x hc => st.own_lt hc
  have hn : ∀ c, ¬ S c → ∀ x, H c = some x → H' c = none := fun c hs x hc => by
    cases hx : H' c with
    | none => rfl
    | some y =>
      rcases h2.hdom c (by simp [hx]) with h6 | h6
      · simp [hs] at h6
      · have := hlow c x hc; omega
  have hsame : ∀ c, ¬ S c → ∀ x, H c = some x → w'.heap[c]? = w.heap[c]? := fun c hs x hc => h2.same c (hlow c x hc) (by simp [wrH, hs])
  have hnF : ∀ c, ¬ S c → ∀ x, H c = some x → ¬ F' c := fun c hs x hc hF => by
    rcases h2.fnew c hF with h6 | h6 | h6
    · exact st.dis c x hc h6
    · simp [hs] at h6
    · have := hlow c x hc; omega
  obtain ⟨H'', hH⟩ : ∃ H'' : Hp, H'' = fun c => if ¬ S c ∧ (H c).isSome = true then H c else H' c := ⟨_, rfl⟩
  have e1 : ∀ c, S c ∨ H c = none → H'' c = H' c := fun c hc => by
    rw [hH]
    rcases hc with hc | hc
    · simp [hc]
    · simp [hc]
  have e2 : ∀ c, ¬ S c → ∀ x, H c = some x → H'' c = some x := fun c hs x hc => by rw [hH]; simp [hs, hc]
  have cas : ∀ c, (S c ∨ H c = none) ∨ (¬ S c ∧ ∃ x, H c = some x) := fun c => by
    by_cases hs : S c
    · exact .inl (.inl hs)
    · cases hx : H c with
      | none => exact .inl (.inr rfl)
      | some x => exact .inr ⟨hs, x, rfl⟩
  have hl : ∀ c, (if S c then H c else none).isSome = true → (H c).isSome = true := fun c hc => by
    split at hc
    · exact hc
    · simp at hc
  refine ⟨r, v, F', H'', rfl, ⟨h2.sub, fun c hc => ?_, fun c hc => ?_, fun c hc => ?_, h2.le, fun c hc hw => ?_, h2.cells, h2.io⟩, ⟨h3.lt, fun c x hc => ?_, fun c x hc => ?_⟩, h4, H', h5, e1, fun c hs x hc => ⟨e2 c hs x hc, hn c hs x hc⟩⟩
  · rcases h2.fnew c hc with h6 | h6 | h6
    · exact .inl h6
    · exact .inr (.inl (hl c h6))
    · exact .inr (.inr h6)
  · rcases cas c with h6 | ⟨h6, x, h7⟩
    · rw [e1 c h6] at hc
      rcases h2.hdom c hc with h8 | h8
      · exact .inl (hl c h8)
      · exact .inr h8
    · exact .inl (by simp [h7])
  · rcases cas c with h6 | ⟨h6, x, h7⟩
    · simp only [wrH, e1 c h6] at hc
      rcases h2.hnew c (by simpa only [wrH] using hc) with h8 | h8
      · left
        simp only [wrH] at h8 ⊢
        split at h8
        · rename_i y hy
          split at hy
          · rw [hy]; exact h8
          · simp at hy
        · simp at h8
      · exact .inr h8
    · left; simpa only [wrH, e2 c h6 x h7, h7] using hc
  · refine h2.same c hc ?_
    simp only [wrH] at hw ⊢
    by_cases hs : S c
    · simp only [hs, if_true]; exact hw
    · simp [hs]
  · rcases cas c with h6 | ⟨h6, y, h7⟩
    · rw [e1 c h6] at hc; exact h3.dis c x hc
    · exact hnF c h6 y h7
  · rcases cas c with h6 | ⟨h6, y, h7⟩
    · rw [e1 c h6] at hc; exact h3.blk c x hc
    · rw [e2 c h6 y h7] at hc
      simp only [Option.some.injEq] at hc
      subst hc
      obtain ⟨o, k1, k2⟩ := st.blk c y h7
      exact ⟨o, by rw [hsame c h6 y h7]; exact k1, k2.up (h2.up st1)⟩

end

/-! ### Lists of names -/
theorem reachX_ok (h : XH) (k : Nat) : ∀ (n : Nat) (todo acc : List Nat), acc.Nodup → (∀ b ∈ acc, (hat h b).isSome = true ∧ k ≤ b) → (reachX h k n todo acc).Nodup ∧ ∀ b ∈ reachX h k n todo acc, (hat h b).isSome = true ∧ k ≤ b := by
  intro n
  induction n with
  | zero => intro todo acc h1 h2; exact ⟨h1, h2⟩
  | succ n ih =>
    intro todo acc h1 h2
    cases todo with
    | nil => exact ⟨h1, h2⟩
    | cons b rest =>
      simp only [reachX]
      split
      · exact ih rest acc h1 h2
      · rename_i hb
        simp only [not_or] at hb
        cases hx : hat h b with
        | none => simpa only [hx] using ih rest acc h1 h2
        | some x =>
          simp only
          refine ih _ _ ?_ fun c hc => ?_
          · rw [List.nodup_append]
            exact ⟨h1, by simp, fun a ha c hc => by simp at hc; subst hc; intro e; subst e; exact hb.2 ha⟩
          · rcases List.mem_append.1 hc with hc | hc
            · exact h2 c hc
            · simp at hc; subst hc; exact ⟨by simp [hx], by omega⟩
theorem passed_ok (xs : List AV) (h : XH) : (passed xs h).Nodup ∧ ∀ b ∈ passed xs h, (hat h b).isSome = true := by
  obtain ⟨h1, h2⟩ := reachX_ok h 0 reachFuel (nmL xs) [] List.nodup_nil (by simp)
  exact ⟨h1, fun b hb => (h2 b hb).1⟩
theorem passedOf_ok (fv : AV) (xs : List AV) (h : XH) : (passedOf fv xs h).Nodup ∧ ∀ b ∈ passedOf fv xs h, (hat h b).isSome = true := by
  unfold passedOf
  split <;> exact passed_ok _ _

theorem posOf_get {b i : Nat} : ∀ {l : List Nat}, posOf b l = some i → l[i]? = some b := by
  intro l
  induction l generalizing i with
  | nil => intro h; simp [posOf] at h
  | cons c l ih =>
    intro h
    simp only [posOf] at h
    split at h
    · simp only [Option.some.injEq] at h; subst h; rename_i e; subst e; rfl
    · rw [Option.map_eq_some_iff] at h
      obtain ⟨j, h1, rfl⟩ := h
      simpa using ih h1
theorem nodup_get {l : List Nat} (h : l.Nodup) {i j b : Nat} (hi : l[i]? = some b) (hj : l[j]? = some b) : i = j := by
  obtain ⟨h1, h2⟩ := List.getElem?_eq_some_iff.1 hi
  obtain ⟨h3, h4⟩ := List.getElem?_eq_some_iff.1 hj
  have hp := List.pairwise_iff_getElem.1 h
  rcases Nat.lt_trichotomy i j with hlt | he | hlt
  · exact absurd (h2.trans h4.symm) (hp i j h1 h3 hlt)
  · exact he
  · exact absurd (h4.trans h2.symm) (hp j i h3 h1 hlt)

theorem hat_append (h l : XH) (b : Nat) : hat (h ++ l) b = if b < h.length then hat h b else hat l (b - h.length) := by
  unfold hat
  rw [List.getD_eq_getElem?_getD, List.getElem?_append]
  split
  · rw [List.getD_eq_getElem?_getD]
  · rw [List.getD_eq_getElem?_getD]
theorem hat_map (f : Option XB → Option XB) (hf : f none = none) (h : XH) (b : Nat) : hat (h.map f) b = f (hat h b) := by
  unfold hat
  rw [List.getD_eq_getElem?_getD, List.getElem?_map, List.getD_eq_getElem?_getD]
  cases h[b]? with
  | none => simp [hf]
  | some x => rfl
theorem hat_set (h : XH) (b : Nat) (x : Option XB) (c : Nat) : hat (h.set b x) c = if c = b ∧ b < h.length then x else hat h c := by
  unfold hat
  rw [List.getD_eq_getElem?_getD, List.getElem?_set, List.getD_eq_getElem?_getD]
  by_cases hbc : b = c
  · subst hbc
    by_cases hlt : b < h.length
    · simp [hlt]
    · simp [hlt]
  · have : ¬ (c = b ∧ b < h.length) := fun e => hbc e.1.symm
    simp [hbc, this]
theorem hat_lt {h : XH} {b : Nat} {x : XB} (hx : hat h b = some x) : b < h.length := by
  unfold hat at hx
  rw [List.getD_eq_getElem?_getD] at hx
  cases hb : h[b]? with
  | none => rw [hb] at hx; simp at hx
  | some y => exact (List.getElem?_eq_some_iff.1 hb).1
theorem hat_padTake : ∀ (k : Nat) (h : XH) (b : Nat), hat (padTake k h) b = if b < k then hat h b else none := by
  intro k
  induction k with
  | zero => intro h b; simp [padTake, hat]
  | succ k ih =>
    intro h b
    cases h with
    | nil =>
      cases b with
      | zero => simp [padTake, hat]
      | succ b =>
        have := ih [] b
        simp only [padTake, hat, List.getD_eq_getElem?_getD, List.getElem?_cons_succ] at this ⊢
        rw [this]; simp
    | cons x xs =>
      cases b with
      | zero => simp [padTake, hat]
      | succ b =>
        have := ih xs b
        simp only [padTake, hat, List.getD_eq_getElem?_getD, List.getElem?_cons_succ] at this ⊢
        rw [this]; simp
@[simp] theorem padTake_length : ∀ (k : Nat) (h : XH), (padTake k h).length = k := by
  intro k
  induction k with
  | zero => intro h; rfl
  | succ k ih => intro h; cases h <;> simp [padTake, ih]
theorem hat_local (f : Option XB → Option XB) (acc : List Nat) (h : XH) (hf : f none = none) (i : Nat) : hat (acc.map fun b => f (hat h b)) i = match acc[i]? with
    | some b => f (hat h b)
    | none => none := by
  unfold hat
  rw [List.getD_eq_getElem?_getD, List.getElem?_map]
  cases acc[i]? <;> rfl

theorem setL_len : ∀ (bs : List Nat) (xs h : XH), (setL h bs xs).length = h.length
  | [], _, h => by unfold setL; rfl
  | b :: bs, [], h => by unfold setL; rfl
  | b :: bs, x :: xs, h => by unfold setL; rw [setL_len bs xs]; simp
theorem hat_setL_other : ∀ (bs : List Nat) (xs h : XH) (c : Nat), c ∉ bs → hat (setL h bs xs) c = hat h c
  | [], _, h, c, _ => by unfold setL; rfl
  | b :: bs, [], h, c, _ => by unfold setL; rfl
  | b :: bs, x :: xs, h, c, hc => by
    unfold setL
    rw [hat_setL_other bs xs _ c (fun e => hc (by simp [e])), hat_set, if_neg (fun e => hc (by simp [e.1]))]
theorem hat_setL_at : ∀ (bs : List Nat) (xs h : XH) (i c : Nat), bs.Nodup → bs.length = xs.length → (∀ b ∈ bs, b < h.length) → bs[i]? = some c → hat (setL h bs xs) c = hat xs i
  | [], _, h, i, c, _, _, _, hi => by simp at hi
  | b :: bs, [], h, i, c, _, hl, _, _ => by simp at hl
  | b :: bs, x :: xs, h, i, c, hn, hl, hlt, hi => by
    unfold setL
    rw [List.nodup_cons] at hn
    cases i with
    | zero =>
      simp at hi; subst hi
      rw [hat_setL_other bs xs _ b hn.1, hat_set, if_pos ⟨rfl, hlt b (by simp)⟩]
      simp [hat]
    | succ i =>
      rw [hat_setL_at bs xs _ i c hn.2 (by simpa using hl) (fun b hb => by simpa using hlt b (by simp [hb])) (by simpa using hi)]
      simp [hat]

/-! ### Blocks under other names -/
section
variable {D : Nat → Option XFn} {Y : Nat → Option YI} {r : Nat → Option Nat}

theorem RnB.renum {r' : Nat → Option Nat} {s : Nat → Option Nat} (hs : ∀ b c d, s b = some c → r b = some d → r' c = some d) {c : Nat} {x : XB} {y : ABlk} (h : RnB D Y r c x y) : RnB D Y r' c (rnB s x) y := by
  cases h with
  | cells g w xs ys h hg =>
    cases g with
    | false => exact .cells c false w _ _ (h.renum hs) (by simp)
    | true =>
      obtain ⟨rfl, h2⟩ := h.same (hg rfl)
      exact .cells c true w _ _ (RnL.self fun x hx => (h2 x hx).rn) hg
  | map g w xs ys h hg =>
    cases g with
    | false =>
      refine .map c false w _ _ ⟨by simpa using h.1, fun i p q hp hq => ?_⟩ (by simp)
      rw [List.getElem?_map, Option.map_eq_some_iff] at hp
      obtain ⟨z, hz, rfl⟩ := hp
      exact ⟨(h.2 i z q hz hq).1.renum hs, (h.2 i z q hz hq).2.renum hs⟩
    | true =>
      refine .map c true w _ _ ⟨h.1, fun i p q hp hq => ?_⟩ hg
      obtain ⟨h1, h2⟩ := h.2 i p q hp hq
      obtain ⟨h3, h4⟩ := hg rfl p (List.mem_of_getElem? hp)
      obtain ⟨e1, g1⟩ := h1.same h3
      obtain ⟨e2, g2⟩ := h2.same h4
      rw [e1, e2]
      exact ⟨g1.rn, g2.rn⟩
  | loop i vs s o d L ps a b hY h hD hsite hv => exact .loop c i _ s o d L ps a b hY h hD hsite (hv.renum hs)
theorem RnB.mono {x : XB} {r' : Nat → Option Nat} {Y' : Nat → Option YI} (hr : ∀ b c, r b = some c → r' b = some c) {c : Nat} (hY : (∃ K s vs st, x = .loop K s vs st) → Y' c = Y c) {y : ABlk} (h : RnB D Y r c x y) : RnB D Y' r' c x y := by
  cases h with
  | cells g w xs ys h hg => exact .cells c g w _ _ (h.mono hr) hg
  | map g w xs ys h hg => exact .map c g w _ _ ⟨h.1, fun i p q hp hq => ⟨(h.2 i p q hp hq).1.mono hr, (h.2 i p q hp hq).2.mono hr⟩⟩ hg
  | loop i vs s o d L ps a b h1 h hD hsite hv => exact .loop c i _ s o d L ps a b (by rw [hY ⟨_, _, _, _, rfl⟩]; exact h1) h hD hsite (hv.mono hr)
theorem rnO_some {s : Nat → Option Nat} {o : Option XB} {x : XB} (h : rnO s o = some x) : ∃ y, o = some y ∧ x = rnB s y := by
  cases o with
  | none => simp [rnO] at h
  | some y => simp [rnO] at h; exact ⟨y, rfl, h.symm⟩
end
end Go.DL
