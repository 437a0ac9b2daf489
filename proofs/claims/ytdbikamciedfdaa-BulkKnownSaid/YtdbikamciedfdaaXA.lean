/- What is kept at a loop's head; what is frozen: on two states that differ by names. No statement of the seed is proved here. -/
import Derived.Test.YtdbikamciedfdaaX9
namespace Go.DL
section
variable {P : Program} {B : Base} {D : Nat → Option XFn} {Y : Nat → Option YI} {r : Nat → Option Nat} {e env : Env} {h : XH} {H : Hp}

/-- The first k names are as they were. -/
def Agree (k : Nat) (r r' : Nat → Option Nat) : Prop := ∀ b c, b < k → r b = some c → r' b = some c
theorem Agree.refl (k : Nat) (r : Nat → Option Nat) : Agree k r r := fun _ _ _ h => h
theorem Agree.trans {k : Nat} {r r' r'' : Nat → Option Nat} (h : Agree k r r') (g : Agree k r' r'') : Agree k r r'' := fun b c hb hr => g b c hb (h b c hb hr)
theorem Sub.agree {r r' : Nat → Option Nat} (h : Sub r r') (k : Nat) : Agree k r r' := fun b c _ hr => h b c hr

/-! ### What is kept -/
def keepR (k : Nat) (r : Nat → Option Nat) (acc : List Nat) : Nat → Option Nat := fun i => if i < k then r i else (acc[i - k]?).bind r

theorem keep_sound (sh : SH D Y r h H) {k : Nat} {acc : List Nat} (hn : acc.Nodup) (hok : ∀ b ∈ acc, (hat h b).isSome = true ∧ k ≤ b) :
    Agree k r (keepR k r acc) ∧ SH D Y (keepR k r acc) (keepH k acc h) H ∧ ∀ v v', Rn D Y r v v' → Rn D Y (keepR k r acc) (rnA (keepS k acc) v) v' := by
  have hs : ∀ b c d, keepS k acc b = some c → r b = some d → keepR k r acc c = some d := fun b c d h1 h2 => by
    unfold keepS at h1
    split at h1
    · simp only [Option.some.injEq] at h1; subst h1
      rename_i hb
      simp only [keepR, hb, if_true]; exact h2
    · rw [Option.map_eq_some_iff] at h1
      obtain ⟨p, h3, rfl⟩ := h1
      simp only [keepR, show ¬ (p + k < k) by omega, if_false, Nat.add_sub_cancel, posOf_get h3, Option.bind_some, h2]
  have hat1 : ∀ i x, hat (keepH k acc h) i = some x → ∃ b y, hat h b = some y ∧ x = rnB (keepS k acc) y ∧ keepR k r acc i = r b ∧ ((i < k ∧ b = i) ∨ (k ≤ i ∧ acc[i - k]? = some b)) := fun i x hx => by
    unfold keepH at hx
    rw [hat_append] at hx
    simp only [List.length_map, padTake_length] at hx
    split at hx
    · rename_i hi
      rw [hat_map _ rfl, hat_padTake, if_pos hi] at hx
      obtain ⟨y, hy, rfl⟩ := rnO_some hx
      exact ⟨i, y, hy, rfl, by simp only [keepR, hi, if_true], .inl ⟨hi, rfl⟩⟩
    · rename_i hi
      rw [hat_local _ _ _ rfl] at hx
      split at hx
      · rename_i b hb
        obtain ⟨y, hy, rfl⟩ := rnO_some hx
        exact ⟨b, y, hy, rfl, by simp only [keepR, hi, if_false, hb, Option.bind_some], .inr ⟨by omega, hb⟩⟩
      · simp at hx
  refine ⟨fun b c hb hr => by simp only [keepR, hb, if_true]; exact hr, ⟨fun i c hi => ?_, fun i j c x y hx hy h1 h2 => ?_, fun i x hx => ?_⟩, fun v v' hv => hv.renum hs⟩
  · unfold keepH
    simp only [List.length_append, List.length_map, padTake_length]
    by_cases hk : i < k
    · omega
    · simp only [keepR, hk, if_false] at hi
      cases ha : acc[i - k]? with
      | none => rw [ha] at hi; simp at hi
      | some b => have := (List.getElem?_eq_some_iff.1 ha).1; omega
  · obtain ⟨b1, y1, p1, _, p2, p3⟩ := hat1 i x hx
    obtain ⟨b2, y2, q1, _, q2, q3⟩ := hat1 j y hy
    rw [p2] at h1; rw [q2] at h2
    have := sh.inj b1 b2 c y1 y2 p1 q1 h1 h2
    subst this
    rcases p3 with ⟨p3, p4⟩ | ⟨p3, p4⟩
    · rcases q3 with ⟨q3, q4⟩ | ⟨q3, q4⟩
      · omega
      · have := (hok _ (List.mem_of_getElem? q4)).2; omega
    · rcases q3 with ⟨q3, q4⟩ | ⟨q3, q4⟩
      · have := (hok _ (List.mem_of_getElem? p4)).2; omega
      · have := nodup_get hn p4 q4; omega
  · obtain ⟨b, y, p1, rfl, p2, _⟩ := hat1 i x hx
    obtain ⟨c, z, q1, q2, q3⟩ := sh.blk b y p1
    exact ⟨c, z, by rw [p2]; exact q1, q2, q3.renum hs⟩

theorem keepAcc_ok (k : Nat) (vs : List AV) (h : XH) : (keepAcc k vs h).Nodup ∧ ∀ b ∈ keepAcc k vs h, (hat h b).isSome = true ∧ k ≤ b :=
  reachX_ok h k reachFuel _ [] List.nodup_nil (by simp)

theorem envL_map (f : Nat → AV) : ∀ (L : List Nat) (j : Nat), envL L (L.map f) j = f j ∨ envL L (L.map f) j = .any
  | [], j => .inr rfl
  | k :: L, j => by
    simp only [List.map_cons, envL]
    split
    · rename_i hj; subst hj; exact .inl rfl
    · exact envL_map f L j

theorem canon_sound (sr : SR D Y r e h env H) (k : Nat) (L : List Nat) : ∃ r', Agree k r r' ∧ SR D Y r' (canonE k L e h) (canonH k L e h) env H := by
  obtain ⟨h1, h2⟩ := keepAcc_ok k (L.map e) h
  obtain ⟨k1, k2, k3⟩ := keep_sound sr.sh h1 h2
  refine ⟨_, k1, k2, fun j => ?_⟩
  unfold canonE
  rw [rnL_map, List.map_map]
  rcases envL_map (rnA (keepS k (keepAcc k (L.map e) h)) ∘ e) L j with h3 | h3
  · rw [h3]; exact k3 _ _ (sr.re j)
  · rw [h3]; exact .any _

/-! ### What is frozen -/
theorem fzL_map (b : Nat) (cs : List AV) : ∀ l : List AV, fzL b cs l = l.map (fzA b cs)
  | [] => rfl
  | v :: l => by simp [fzL, fzL_map b cs l]

theorem list_ex {p : AV → AV → Prop} {q : AV → AV → Prop} : ∀ (xs ys : List AV), xs.length = ys.length → (∀ (i : Nat) (x y : AV), xs[i]? = some x → ys[i]? = some y → ∃ z, p y z ∧ q x z) →
    ∃ zs : List AV, ys.length = zs.length ∧ xs.length = zs.length ∧ (∀ (i : Nat) (y z : AV), ys[i]? = some y → zs[i]? = some z → p y z) ∧ ∀ (i : Nat) (x z : AV), xs[i]? = some x → zs[i]? = some z → q x z
  | [], [], _, _ => ⟨[], rfl, rfl, by simp, by simp⟩
  | [], _ :: _, hl, _ => by simp at hl
  | _ :: _, [], hl, _ => by simp at hl
  | x :: xs, y :: ys, hl, h => by
    obtain ⟨z, h1, h2⟩ := h 0 x y rfl rfl
    obtain ⟨zs, k1, k2, k3, k4⟩ := list_ex xs ys (by simpa using hl) fun i x y hx hy => h (i + 1) x y (by simpa using hx) (by simpa using hy)
    refine ⟨z :: zs, by simp [k1], by simp [k2], fun i y' z' hy hz => ?_, fun i x' z' hx hz => ?_⟩
    · cases i with
      | zero => simp at hy hz; subst hy hz; exact h1
      | succ i => exact k3 i y' z' (by simpa using hy) (by simpa using hz)
    · cases i with
      | zero => simp at hx hz; subst hx hz; exact h2
      | succ i => exact k4 i x' z' (by simpa using hx) (by simpa using hz)

theorem chunks_get {cs : List AV} {s : Nat} : ∀ {n o : Nat}, o + n * s ≤ cs.length → (chunks cs o s n).length = n ∧ (∀ row ∈ chunks cs o s n, row.length = s ∧ ∀ c ∈ row, c ∈ cs) ∧
    ∀ (i : Nat) (row : List AV) (j : Nat) (c : AV), (chunks cs o s n)[i]? = some row → row[j]? = some c → cs[o + i * s + j]? = some c
  | 0, o, _ => ⟨rfl, by simp [chunks], by simp [chunks]⟩
  | n + 1, o, hl => by
    rw [Nat.add_mul, Nat.one_mul] at hl
    obtain ⟨h1, h2, h3⟩ := chunks_get (cs := cs) (s := s) (n := n) (o := o + s) (by omega)
    refine ⟨by simp [chunks, h1], fun row hrow => ?_, fun i row j c hi hj => ?_⟩
    · simp only [chunks, List.mem_cons] at hrow
      rcases hrow with rfl | hrow
      · exact ⟨by simp; omega, fun c hc => List.mem_of_mem_drop (List.mem_of_mem_take hc)⟩
      · exact h2 row hrow
    · cases i with
      | zero =>
        simp only [chunks, List.getElem?_cons_zero, Option.some.injEq] at hi
        subst hi
        rw [List.getElem?_take] at hj
        split at hj
        · rw [List.getElem?_drop] at hj; simpa using hj
        · simp at hj
      | succ i =>
        simp only [chunks, List.getElem?_cons_succ] at hi
        have := h3 i row j c hi hj
        rw [Nat.add_mul, Nat.one_mul, show o + (i * s + s) + j = o + s + i * s + j by omega]
        exact this

theorem Rn.fz {b c : Nat} {cs : List AV} (hr : r b = some c) (hg : ∀ x ∈ cs, Gd x) {v v' : AV} (h : Rn D Y r v v') : ∃ v'', Fz c cs v' v'' ∧ Rn D Y r (fzA b cs v) v'' := by
  induction h with
  | any v => exact ⟨v, .same v, .any v⟩
  | int k n => exact ⟨_, .same _, .int k n⟩
  | bool b => exact ⟨_, .same _, .bool b⟩
  | str t => exact ⟨_, .same _, .str t⟩
  | agg xs ys hl _ ih =>
    obtain ⟨zs, k1, k2, k3, k4⟩ := list_ex xs ys hl ih
    refine ⟨.agg zs, .agg _ _ k1 k3, ?_⟩
    simp only [fzA, fzL_map]
    refine .agg _ _ (by simpa using k2) fun i x z hx hz => ?_
    rw [List.getElem?_map, Option.map_eq_some_iff] at hx
    obtain ⟨x0, hx0, rfl⟩ := hx
    exact k4 i x0 z hx0 hz
  | tup xs ys hl _ ih =>
    obtain ⟨zs, k1, k2, k3, k4⟩ := list_ex xs ys hl ih
    refine ⟨.tup zs, .tup _ _ k1 k3, ?_⟩
    simp only [fzA, fzL_map]
    refine .tup _ _ (by simpa using k2) fun i x z hx hz => ?_
    rw [List.getElem?_map, Option.map_eq_some_iff] at hx
    obtain ⟨x0, hx0, rfl⟩ := hx
    exact k4 i x0 z hx0 hz
  | fs rows h => exact ⟨_, .same _, .fs rows h⟩
  | fp rows i o h => exact ⟨_, .same _, .fp rows i o h⟩
  | sl b0 c0 o s n h0 =>
    simp only [fzA]
    split
    · rename_i hc
      obtain ⟨rfl, hle⟩ := hc
      rw [hr] at h0; simp only [Option.some.injEq] at h0; subst h0
      obtain ⟨m1, m2, m3⟩ := chunks_get hle
      exact ⟨_, .sl o s n (chunks cs o s n) m1 (fun row hrow => (m2 row hrow).1) m3, .fs _ fun row hrow c hc => hg c ((m2 row hrow).2 c hc)⟩
    · exact ⟨_, .same _, .sl b0 c0 o s n h0⟩
  | pt b0 c0 o h0 => exact ⟨_, .same _, .pt b0 c0 o h0⟩
  | mp b0 c0 h0 => exact ⟨_, .same _, .mp b0 c0 h0⟩
  | nilsl => exact ⟨_, .same _, .nilsl⟩
  | nilpt => exact ⟨_, .same _, .nilpt⟩
  | nilmap => exact ⟨_, .same _, .nilmap⟩
  | nilfn => exact ⟨_, .same _, .nilfn⟩
  | nilifc => exact ⟨_, .same _, .nilifc⟩
  | fn f xs ys us vs hf hl1 _ hl2 _ ih1 ih2 =>
    obtain ⟨zs, k1, k2, k3, k4⟩ := list_ex xs ys hl1 ih1
    obtain ⟨ws, j1, j2, j3, j4⟩ := list_ex us vs hl2 ih2
    refine ⟨.fn f zs ws, .fn f _ _ _ _ k1 k3 j1 j3, ?_⟩
    have e1 : fzA b cs (.fn f xs us) = .fn f (fzL b cs xs) (fzL b cs us) := by
      cases f <;> first | rfl | exact absurd rfl (hf _)
    rw [e1, fzL_map, fzL_map]
    refine .fn f _ _ _ _ hf (by simpa using k2) (fun i x z hx hz => ?_) (by simpa using j2) (fun i x z hx hz => ?_)
    · rw [List.getElem?_map, Option.map_eq_some_iff] at hx
      obtain ⟨x0, hx0, rfl⟩ := hx
      exact k4 i x0 z hx0 hz
    · rw [List.getElem?_map, Option.map_eq_some_iff] at hx
      obtain ⟨x0, hx0, rfl⟩ := hx
      exact j4 i x0 z hx0 hz
  | yield l c0 h0 => exact ⟨_, .same _, .yield l c0 h0⟩
  | ifc t x y h _ => exact ⟨_, .same _, .ifc t x y h⟩

theorem RnB.fz {b c d : Nat} {cs : List AV} (hr : r b = some c) (hg : ∀ x ∈ cs, Gd x) {x : XB} {y : ABlk} (h : RnB D Y r d x y) : ∃ z, FzB c cs y z ∧ RnB D Y r d (fzB b cs x) z := by
  cases h with
  | cells g w xs ys h hgr =>
    cases g with
    | true => exact ⟨_, .same _, .cells d true w xs ys h hgr⟩
    | false =>
      obtain ⟨zs, k1, k2, k3, k4⟩ := list_ex xs ys h.1 fun i x y hx hy => (h.2 i x y hx hy).fz hr hg
      refine ⟨.cells w zs, .cells w _ _ k1 k3, ?_⟩
      simp only [fzB]
      refine .cells d _ w _ _ ⟨by rw [fzL_map]; simpa using k2, fun i x z hx hz => ?_⟩ (fun h => h)
      rw [fzL_map, List.getElem?_map, Option.map_eq_some_iff] at hx
      obtain ⟨x0, hx0, rfl⟩ := hx
      exact k4 i x0 z hx0 hz
  | map g w xs ys h hgr =>
    cases g with
    | true => exact ⟨_, .same _, .map d true w xs ys h hgr⟩
    | false =>
      have hk : ∀ (i : Nat) (x y : AV), (xs.map (·.1))[i]? = some x → (ys.map (·.1))[i]? = some y → Rn D Y r x y := fun i x y hx hy => by
        rw [List.getElem?_map, Option.map_eq_some_iff] at hx hy
        obtain ⟨p, hp, rfl⟩ := hx
        obtain ⟨q, hq, rfl⟩ := hy
        exact (h.2 i p q hp hq).1
      have hv : ∀ (i : Nat) (x y : AV), (xs.map (·.2))[i]? = some x → (ys.map (·.2))[i]? = some y → Rn D Y r x y := fun i x y hx hy => by
        rw [List.getElem?_map, Option.map_eq_some_iff] at hx hy
        obtain ⟨p, hp, rfl⟩ := hx
        obtain ⟨q, hq, rfl⟩ := hy
        exact (h.2 i p q hp hq).2
      obtain ⟨zs, k1, k2, k3, k4⟩ := list_ex (xs.map (·.1)) (ys.map (·.1)) (by simpa using h.1) fun i x y hx hy => (hk i x y hx hy).fz hr hg
      obtain ⟨ws, j1, j2, j3, j4⟩ := list_ex (xs.map (·.2)) (ys.map (·.2)) (by simpa using h.1) fun i x y hx hy => (hv i x y hx hy).fz hr hg
      simp only [List.length_map] at k1 k2 j1 j2
      have hz : ∀ (i : Nat) (p : AV × AV), (zs.zip ws)[i]? = some p → zs[i]? = some p.1 ∧ ws[i]? = some p.2 := fun i p hp => by
        rw [List.getElem?_zip_eq_some] at hp; exact hp
      refine ⟨.map w (zs.zip ws), .map w _ _ (by simp; omega) fun i y p hy hp => ?_, ?_⟩
      · obtain ⟨h1, h2⟩ := hz i p hp
        exact ⟨k3 i y.1 p.1 (by simp [hy]) h1, j3 i y.2 p.2 (by simp [hy]) h2⟩
      · simp only [fzB]
        refine .map d false w _ _ ⟨by simp; omega, fun i x p hx hp => ?_⟩ (by simp)
        rw [List.getElem?_map, Option.map_eq_some_iff] at hx
        obtain ⟨x0, hx0, rfl⟩ := hx
        obtain ⟨h1, h2⟩ := hz i p hp
        exact ⟨k4 i x0.1 p.1 (by simp [hx0]) h1, j4 i x0.2 p.2 (by simp [hx0]) h2⟩
  | loop i vs s o d' L ps a b' hY h hD hs hv => exact ⟨_, .same _, .loop d i vs s o d' L ps a b' hY h hD hs hv⟩

theorem fz1_sound (sr : SR D Y r e h env H) (b : Nat) : ∃ env' H', Shift env H env' H' ∧ SR D Y r (fz1 b e h).1 (fz1 b e h).2 env' H' := by
  unfold fz1
  split
  · rename_i w cs hb
    obtain ⟨c, y, hr, h1, h2⟩ := sr.sh.blk b _ hb
    cases h2 with
    | cells _ _ _ ys h3 h4 =>
      obtain ⟨rfl, hg⟩ := h3.same (h4 rfl)
      obtain ⟨env', henv⟩ := Classical.skolem.1 fun j => (sr.re j).fz hr hg
      have hH : ∀ d, ∃ o : Option ABlk, (d = c → o = none) ∧ (d ≠ c → (o = none ∨ ∃ x y, H d = some x ∧ o = some y ∧ FzB c ys x y)) ∧ (∀ b' x, hat h b' = some x → b' ≠ b → r b' = some d → ∃ y, o = some y ∧ RnB D Y r d (fzB b ys x) y) := by
        intro d
        by_cases hd : d = c
        · refine ⟨none, fun _ => rfl, fun h => absurd hd h, fun b' x hx hne hr' => ?_⟩
          subst hd
          exact absurd (sr.sh.inj b' b d x _ hx hb hr' hr) hne
        · by_cases hex : ∃ b' x, hat h b' = some x ∧ r b' = some d
          · obtain ⟨b1, x1, k1, k2⟩ := hex
            obtain ⟨d', y1, k3, k4, k5⟩ := sr.sh.blk b1 x1 k1
            rw [k2] at k3; simp only [Option.some.injEq] at k3; subst k3
            obtain ⟨z, k6, k7⟩ := k5.fz hr hg
            refine ⟨some z, fun h => absurd h hd, fun _ => .inr ⟨y1, z, k4, rfl, k6⟩, fun b' x hx hne hr' => ?_⟩
            have := sr.sh.inj b' b1 d x x1 hx k1 hr' k2
            subst this
            rw [hx] at k1; simp only [Option.some.injEq] at k1; subst k1
            exact ⟨z, rfl, k7⟩
          · exact ⟨none, fun _ => rfl, fun _ => .inl rfl, fun b' x hx hne hr' => absurd ⟨b', x, hx, hr'⟩ hex⟩
      obtain ⟨H', hH'⟩ := Classical.skolem.1 hH
      refine ⟨env', H', Shift.freeze (b := c) (wr := w) (cs := ys) h1 (fun j => (henv j).1) ((hH' c).1 rfl) (fun d hd => (hH' d).2.1 hd), ⟨⟨fun b c hb => by simpa using sr.sh.dom b c hb, fun b1 b2 c' x1 x2 g1 g2 k1 k2 => ?_, fun b' x hx => ?_⟩, fun j => (henv j).2⟩⟩
      all_goals
        have live : ∀ b' x, hat ((h.map (fzO b ys)).set b none) b' = some x → b' ≠ b ∧ ∃ x0, hat h b' = some x0 ∧ x = fzB b ys x0 := fun b' x hx => by
          rw [hat_set] at hx
          split at hx
          · simp at hx
          · rename_i hc
            rw [hat_map _ rfl] at hx
            cases hx0 : hat h b' with
            | none => rw [hx0] at hx; simp [fzO] at hx
            | some x0 =>
              rw [hx0] at hx
              simp only [fzO, Option.some.injEq] at hx
              exact ⟨fun e => hc ⟨e, by simpa using hat_lt hb⟩, x0, rfl, hx.symm⟩
      · obtain ⟨_, y1, m1, _⟩ := live b1 x1 g1
        obtain ⟨_, y2, m2, _⟩ := live b2 x2 g2
        exact sr.sh.inj b1 b2 c' y1 y2 m1 m2 k1 k2
      · obtain ⟨hne, x0, m1, rfl⟩ := live b' x hx
        obtain ⟨c', y', m2, _, _⟩ := sr.sh.blk b' x0 m1
        obtain ⟨z, m3, m4⟩ := (hH' c').2.2 b' x0 m1 hne m2
        exact ⟨c', z, m2, m3, m4⟩
  · exact ⟨env, H, Shift.le (Le.refl _), sr⟩

theorem fzNs_sound : ∀ (ns : List Nat) (e : Env) (h : XH) (env : Env) (H : Hp), SR D Y r e h env H → ∃ env' H', Shift env H env' H' ∧ SR D Y r (fzNs ns e h).1 (fzNs ns e h).2 env' H'
  | [], e, h, env, H, sr => ⟨env, H, Shift.le (Le.refl _), sr⟩
  | b :: ns, e, h, env, H, sr => by
    obtain ⟨env1, H1, k1, k2⟩ := fz1_sound sr b
    obtain ⟨env2, H2, k3, k4⟩ := fzNs_sound ns _ _ env1 H1 k2
    exact ⟨env2, H2, k1.trans k3, k4⟩
theorem fzX_sound (sr : SR D Y r e h env H) (fz : List (Nat × Bool)) : ∃ env' H', Shift env H env' H' ∧ SR D Y r (fzX fz e h).1 (fzX fz e h).2 env' H' := fzNs_sound _ e h env H sr
end
end Go.DL
