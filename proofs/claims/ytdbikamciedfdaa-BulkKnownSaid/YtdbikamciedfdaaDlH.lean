/- How the model's operations run over abstract values: append, copy. No statement of the seed is proved here. -/
import Derived.Test.YtdbikamciedfdaaDlG
namespace Go.DL
variable {P : Program} {F F' : Nat → Prop} {w w' : World} {H : Hp} {env : Env} {a : Act}

theorem growBy_le (n : Nat) : ∀ (r c : Nat), Builtin.growBy n r c ≤ (c + 768) * 2 ^ r
  | 0, c => by simp [Builtin.growBy]
  | r + 1, c => by
    simp only [Builtin.growBy]
    split
    · have : 1 ≤ 2 ^ (r + 1) := Nat.one_le_two_pow
      calc c ≤ (c + 768) * 1 := by omega
        _ ≤ (c + 768) * 2 ^ (r + 1) := Nat.mul_le_mul_left _ this
    · refine Nat.le_trans (growBy_le n r _) ?_
      rw [Nat.pow_succ, Nat.mul_comm (2 ^ r) 2, ← Nat.mul_assoc]
      exact Nat.mul_le_mul_right _ (by omega)

theorem nextcap_le {n c : Nat} (h : c < n) : Builtin.nextslicecap n c ≤ (n + 768) * 16 := by
  unfold Builtin.nextslicecap
  split
  · omega
  · split
    · omega
    · exact Nat.le_trans (growBy_le n 4 c) (by rw [show (2 : Nat) ^ 4 = 16 from rfl]; exact Nat.mul_le_mul_right _ (by omega))

theorem run_choose_cap (need old : Nat) (e : TypeId) (w : World) (hn : need ≤ 1099511627776) :
    ∃ c, need ≤ c ∧ (choose (.appendCap need old e)).run P w = .ok c w.drew := by
  refine ⟨(Question.appendCap need old e).cut (w.tape w.drawn (.appendCap need old e)), ?_, ?_⟩
  · exact Nat.le_add_right _ _
  · simp [run_choose, Question.forced, World.drew_eq]

theorem rl_append {cs ds : List AV} {us vs : Array Value} (h : RL F w cs us) (k : RL F w ds vs) : RL F w (cs ++ ds) (us ++ vs) := by
  have hl := h.len
  refine ⟨by simp [h.len, k.len], fun i v hv => ?_, fun i c v hc hv => ?_⟩
  · rw [Array.getElem?_append] at hv
    split at hv
    · exact h.one _ _ hv
    · exact k.one _ _ hv
  · rw [Array.getElem?_append] at hv
    rw [List.getElem?_append] at hc
    split at hv
    · rename_i hi; rw [if_pos (by omega)] at hc; exact h.at_ _ _ _ hc hv
    · rename_i hi; rw [if_neg (by omega), hl] at hc; exact k.at_ _ _ _ hc hv

theorem rl_zeroCells {z : List AV} {v : Array Value} {n : Nat} (h : RL F w z v) : RL F w (List.replicate n z).flatten (Builtin.zeroCells v n) := by
  have := rl_zeros (n := n) h
  unfold Builtin.zeroCells
  rw [h.len] at this
  exact this

theorem up_drew (F : Nat → Prop) (w : World) : Up F w F w.drew := ⟨fun _ h => h, fun _ _ => rfl, fun _ c e fr h => ⟨c, e, fr, h, rfl⟩, Nat.le_refl _⟩

/-- The growing arm: what was there, what is new, and zeros behind them, in a new block. -/
theorem grow_row (st : St F w H) {e : TypeId} {cs new z : List AV} {us vs zv : Array Value} {need newCap s : Nat} (hc : RL F w cs us) (hn : RL F w new vs) (hz : RL F w z zv)
    (hzl : z.length = s) (hlen : cs.length + new.length = need * s) (hcap : need ≤ newCap) :
    ∃ c w', (newRow e (us ++ vs ++ Builtin.zeroCells zv (newCap - need))).run P w.drew = .ok c w' ∧ c = ⟨w.heap.size, 0, none⟩ ∧ H w.heap.size = none ∧
      Ext F w H F w' (hset H w.heap.size (.cells true (cs ++ new))) ∧ St F w' (hset H w.heap.size (.cells true (cs ++ new))) ∧
      Rv F w' (.sl w.heap.size 0 s need) (.slice (some ⟨w.heap.size, 0, none⟩) need newCap) := by
  have hz' := rl_zeroCells (n := newCap - need) hz
  have hall := (rl_append (rl_append hc hn) hz').up (up_drew F w)
  obtain ⟨h1, h2, h3, h4⟩ := new_row (st_drew st) e hall
  have hext := (ext_drew F w H).trans h2
  -- the abstract block ends where the new elements end
  have hsz : w.drew.heap.size = w.heap.size := rfl
  rw [hsz] at h1 h2 h3 h4 hext
  refine ⟨_, _, run_newRow' _ _ _, rfl, h1, ?_, ?_, ?_⟩
  · exact ⟨hext.sub, fun b hb => .inl hb, fun b hb => hext.hdom b (by
      by_cases h0 : b = w.heap.size
      · subst h0; simp
      · rwa [hset_other _ _ h0] at hb ⊢), fun b hb => hext.hnew b (by
      by_cases h0 : b = w.heap.size
      · subst h0; simp [wrH, ABlk.wr]
      · simpa only [wrH, hset_other _ _ h0] using hb), hext.le, hext.same, hext.cells, hext.io⟩
  · refine ⟨h3.lt, fun b x hb => ?_, fun b x hb => ?_⟩
    · by_cases h0 : b = w.heap.size
      · subst h0; exact h3.dis _ _ (hset_same _ _ _)
      · rw [hset_other _ _ h0] at hb; exact h3.dis b x (by rw [hset_other _ _ h0]; exact hb)
    · by_cases h0 : b = w.heap.size
      · subst h0
        simp only [hset_same, Option.some.injEq] at hb
        subst hb
        obtain ⟨o, ho, hr⟩ := h3.blk w.heap.size _ (hset_same _ _ _)
        refine ⟨o, ho, ?_⟩
        cases hr with
        | cells p cs0 c e fr hfr hl h1' h2' =>
          refine .cells true _ c e fr hfr (by simp at hl ⊢; omega) h1' (fun i x v hx hv => h2' i x v ?_ hv)
          rw [List.getElem?_append_left]
          · exact hx
          · exact (List.getElem?_eq_some_iff.1 hx).1
      · rw [hset_other _ _ h0] at hb
        exact h3.blk b x (by rw [hset_other _ _ h0]; exact hb)
  · refine .sl _ 0 s need newCap _ _ _ h4 ?_ hcap
    have e1 := hc.len
    have e2 := hn.len
    have e3 := hz'.len
    have e4 : (List.replicate (newCap - need) z).flatten.length = (newCap - need) * s := by rw [flat_len, hzl]
    simp only [Array.size_append]
    rw [← e1, ← e2, ← e3, e4, hlen, Nat.zero_add, Nat.sub_mul]
    have := Nat.mul_le_mul_right s hcap
    omega

theorem sim_app (st : St F w H) {t u e e' ty : TypeId} {i : TypeInfo} {z : List AV} {x y : AV} {vx vy : Value} {eff : Eff} (ht : P.underlying t = some (.slice e))
    (hu : P.underlying u = some (.slice e')) (hi : P.info? e = some i) (hz : zeroT P e = some z) (hzl : z.length = i.size) (hby : i.bytes ≤ 1048576)
    (hx : Rv F w x vx) (hy : Rv F w y vy) (ha : appA i.size i.bytes H x y = some eff) :
    match eff with
    | .val v => ∃ c, (Builtin.append_ #[t, u] ty #[vx, vy]).run P w = .ok c w ∧ Rv F w v c
    | .new own b f => ∃ j c w', (H j = none ∨ own = some j) ∧ (Builtin.append_ #[t, u] ty #[vx, vy]).run P w = .ok c w' ∧ Ext F w H F w' (hset H j b) ∧ St F w' (hset H j b) ∧ Rv F w' (f j) c := by
  obtain ⟨i', v, hi', hv, hzr⟩ := zero_rl (F := F) (w := w) hz
  rw [hi] at hi'
  obtain rfl : i = i' := by simpa using hi'
  have hsz : szT P e = some i.size := by simp [szT, hi]
  unfold appA at ha
  split at ha
  · simp at ha
  rename_i n new hsrc
  obtain ⟨s1, s2, us, s3, s4, _⟩ := sim_src (P := P) st hy hsrc
  obtain ⟨_, _, us2, r2, s5, _⟩ := sim_src (P := P) (st_drew st) (hy.up (up_drew F w)) hsrc
  have hti : ∀ w', (typeInfo e).run P w' = .ok i w' := fun w' => by simp [typeInfo, hi]
  have fits_some : ∀ (b o sLen sCap : Nat) (w' : World), sLen + n ≤ sCap → (storeCells ⟨b, o + sLen * i.size, none⟩ us.toList).run P w = .ok () w' →
      (Builtin.append_ #[t, u] ty #[.slice (some ⟨b, o, none⟩) sLen sCap, vy]).run P w = .ok (.slice (some ⟨b, o, none⟩) (sLen + n) sCap) w' := by
    intro b o sLen sCap w' hle hst
    unfold Builtin.append_
    simp only [List.getElem?_toArray, List.getElem?_cons_zero, List.getElem?_cons_succ, Sem.run_bind, run_underlying ht, Result.andThen_ok, run_sizeOf' hsz, run_underlying hu, Sem.run_pure,
      Bool.false_eq_true, if_false, s1, Bool.not_false, if_true, hle, s3, add_none, hst]
  have fits_none : ∀ (sLen sCap : Nat), sLen + n ≤ sCap →
      (Builtin.append_ #[t, u] ty #[.slice none sLen sCap, vy]).run P w = .ok (.slice none (sLen + n) sCap) w := by
    intro sLen sCap hle
    unfold Builtin.append_
    simp only [List.getElem?_toArray, List.getElem?_cons_zero, List.getElem?_cons_succ, Sem.run_bind, run_underlying ht, Result.andThen_ok, run_sizeOf' hsz, run_underlying hu, Sem.run_pure,
      Bool.false_eq_true, if_false, s1, Bool.not_false, if_true, hle, s3]
  have grows : ∀ (base : Option Addr) (sLen sCap : Nat) (old : Array Value), ¬ sLen + n ≤ sCap → (sLen + n) * i.bytes ≤ 1099511627776 → sLen + n ≤ 1099511627776 →
      (Builtin.firstCells i.size sLen (.slice base sLen sCap)).run P w.drew = .ok old w.drew →
      (∀ newCap, sLen + n ≤ newCap → ∃ c w', (newRow e (old ++ us2 ++ Builtin.zeroCells v.cells (newCap - (sLen + n)))).run P w.drew = .ok c w') →
      ∃ newCap c w', sLen + n ≤ newCap ∧ (newRow e (old ++ us2 ++ Builtin.zeroCells v.cells (newCap - (sLen + n)))).run P w.drew = .ok c w' ∧
        (Builtin.append_ #[t, u] ty #[.slice base sLen sCap, vy]).run P w = .ok (.slice (some c) (sLen + n) newCap) w' := by
    intro base sLen sCap old hle hb1 hb2 r1 hrow
    obtain ⟨newCap, hcap, hch⟩ := run_choose_cap (P := P) (sLen + n) sCap e w hb2
    obtain ⟨c, w', hr⟩ := hrow newCap hcap
    refine ⟨newCap, c, w', hcap, hr, ?_⟩
    have hn1 : ¬ (((sLen + n : Nat) : Int) > IntKind.i64.max ∧ (False ∨ i.bytes = 0)) := by
      rintro ⟨h1, _⟩
      have : IntKind.i64.max = 9223372036854775807 := by decide
      rw [this] at h1
      omega
    have hn2 : ¬ Builtin.nextslicecap (sLen + n) sCap * i.bytes > 2 ^ 48 := by
      have h1 := nextcap_le (show sCap < sLen + n by omega)
      have h2 : Builtin.nextslicecap (sLen + n) sCap * i.bytes ≤ (sLen + n + 768) * 16 * i.bytes := Nat.mul_le_mul_right _ h1
      have h3 : (sLen + n + 768) * 16 * i.bytes = 16 * ((sLen + n) * i.bytes) + 12288 * i.bytes := by
        rw [Nat.mul_assoc, Nat.add_mul, Nat.mul_left_comm, ← Nat.mul_assoc 768 16]
      have : (2 : Nat) ^ 48 = 281474976710656 := by decide
      omega
    unfold Builtin.append_
    simp only [List.getElem?_toArray, List.getElem?_cons_zero, List.getElem?_cons_succ, Sem.run_bind, run_underlying ht, Result.andThen_ok, run_sizeOf' hsz, run_underlying hu, Sem.run_pure,
      Bool.false_eq_true, if_false, s1, Bool.not_false, if_true, hle, Sem.run_ite, hti, false_or] at hn1 ⊢
    rw [if_neg hn1]
    simp only [Sem.run_pure, Result.andThen_ok, hn2, if_false, hch, run_askRoom, r1, r2, run_zero hi hv, hr]
  cases hx with
  | nilsl =>
    simp only at ha
    split at ha
    · rename_i hb
      split at ha
      · rename_i hn0
        simp only [Option.some.injEq] at ha
        subst ha hn0
        exact ⟨_, fits_none 0 0 (by omega), .nilsl⟩
      · rename_i hn0
        simp only [Option.some.injEq] at ha
        subst ha
        have gr := fun newCap hcap => grow_row (P := P) (s := i.size) st (e := e) (cs := []) (new := new) (us := #[]) (vs := us2) (need := 0 + n) (newCap := newCap) (z := z) rl_nil (s5.up (show Up F w.drew F w from ⟨fun _ h => h, fun _ _ => rfl, fun _ c e fr h => ⟨c, e, fr, h, rfl⟩, Nat.le_refl _⟩)) hzr hzl (by simp [s2]) hcap
        obtain ⟨newCap, c, w', hcap, hrow, hrun⟩ := grows none 0 0 #[] (by omega) (by simpa using hb.1) (by simpa using hb.2) (by simp [Builtin.firstCells]) (fun newCap hcap => by
          obtain ⟨c, w', h1, _⟩ := gr newCap hcap
          exact ⟨c, w', h1⟩)
        obtain ⟨c2, w2, g1, g2, g3, g4, g5, g6⟩ := gr newCap hcap
        rw [g1] at hrow
        simp only [Result.ok.injEq] at hrow
        obtain ⟨rfl, rfl⟩ := hrow
        subst g2
        simp only [Nat.zero_add, List.nil_append] at hrun g4 g5 g6
        exact ⟨w.heap.size, _, _, .inl g3, hrun, g4, g5, g6⟩
    · simp at ha
  | sl b o s' len cap c0 e0 fr0 hb0 hcap0 hlen0 =>
    cases o with
    | succ o => simp at ha
    | zero =>
    simp only at ha
    split at ha
    · rename_i cs hb
      split at ha
      · rename_i hc
        obtain ⟨es, hlen, hb1, hb2⟩ := hc
        simp only [Option.some.injEq] at ha
        subst ha
        subst es
        by_cases hfit : len + n ≤ cap
        · -- in its own block
          obtain ⟨ob, hob, hr⟩ := st.blk b _ hb
          cases hr with
          | cells p cs c e1 fr hfr hl h1 h2 =>
            rw [hob] at hb0
            simp only [Option.some.injEq, Obj.cells.injEq] at hb0
            obtain ⟨rfl, rfl, rfl⟩ := hb0
            have hsl := s4.len
            have hroom : len * i.size + n * i.size ≤ c.size := by
              have := Nat.mul_le_mul_right i.size hfit
              rw [Nat.add_mul] at this
              omega
            obtain ⟨w', c', g1, g2, g3, g4⟩ := run_storeCells' (P := P) b (0 + len * i.size) e1 fr us.toList 0 w c hob hfr (by simp; omega) (fun v hv' => by
              obtain ⟨j, hj⟩ := List.getElem?_of_mem hv'
              exact s4.one j v (by simpa using hj))
            simp only [Array.length_toList, Array.getElem?_toList, Nat.add_zero, Nat.zero_add] at g4
            have hET := ext_turn (w' := w') (y := .cells true (cs ++ new)) st hb rfl hob g2.1 g2.2 (fun c1 e2 fr1 h => by cases h; exact ⟨c', e1, fr, rfl, g3⟩) (fun F1 w1 hu => by
              refine .cells true _ c' e1 fr (fun j hj => hfr j (by omega)) (by rw [g3]; simp; omega) (fun j v hj => ?_) (fun j x v hx hj => ?_)
              · rw [g4] at hj
                split at hj
                · exact s4.one _ _ hj
                · exact h1 _ _ hj
              · rw [g4] at hj
                rw [List.getElem?_append] at hx
                split at hj
                · rename_i h3
                  rw [if_neg (by omega), ← hlen] at hx
                  exact (s4.at_ _ _ _ hx hj).up hu
                · rename_i h3
                  have hjl : j < (cs ++ new).length := by
                    have := (List.getElem?_eq_some_iff.1 (by rw [List.getElem?_append]; exact hx : (cs ++ new)[j]? = some x)).1
                    exact this
                  rw [List.length_append] at hjl
                  rw [if_pos (by omega)] at hx
                  exact (h2 _ _ _ hx hj).up hu)
            refine ⟨b, _, w', .inr rfl, fits_some b 0 len cap w' hfit g1, hET.1, hET.2, ?_⟩
            obtain ⟨c2, e2, f2, k1, k2⟩ := hET.1.cells b c e1 fr hob
            exact .sl b 0 i.size (len + n) cap c2 e2 f2 k1 (by omega) hfit
        · -- in a new one
          have hL : Lies F w cs b 0 := lies_cells st hb
          obtain ⟨old, o1, o2⟩ := run_loadCells_lies (P := P) (w := w.drew) (cs := cs) (b := b) (o := 0) (F := F) (fun j x hj => by
            obtain ⟨v1, q1, q2, q3⟩ := hL j x hj
            exact ⟨v1, q1, q2, q3.up (up_drew F w)⟩)
          have back : Up F w.drew F w := ⟨fun _ h => h, fun _ _ => rfl, fun _ c e fr h => ⟨c, e, fr, h, rfl⟩, Nat.le_refl _⟩
          have gr := fun newCap hcap => grow_row (P := P) (s := i.size) st (e := e) (cs := cs) (new := new) (us := old) (vs := us2) (need := len + n) (newCap := newCap) (z := z) (o2.up back) (s5.up back) hzr hzl (by rw [← hlen, s2, Nat.add_mul]) hcap
          obtain ⟨newCap, c, w', hcap, hrow, hrun⟩ := grows (some ⟨b, 0, none⟩) len cap old hfit hb1 hb2 (by rw [← hlen] at o1; simpa [Builtin.firstCells] using o1) (fun newCap hcap => by
            obtain ⟨c, w', h1, _⟩ := gr newCap hcap
            exact ⟨c, w', h1⟩)
          obtain ⟨c2, w2, g1, g2, g3, g4, g5, g6⟩ := gr newCap hcap
          rw [g1] at hrow
          simp only [Result.ok.injEq] at hrow
          obtain ⟨rfl, rfl⟩ := hrow
          subst g2
          exact ⟨w.heap.size, _, _, .inl g3, hrun, g4, g5, g6⟩
      · simp at ha
    · simp at ha
  | _ => simp at ha

theorem sim_copy (st : St F w H) {t u e ty : TypeId} {s n : Nat} {x y : AV} {vx vy : Value} {H' : Hp} (ht : P.underlying t = some (.slice e)) (hs : szT P e = some s)
    (hx : Rv F w x vx) (hy : Rv F w y vy) (hc : copyA s H x y = some (n, H')) :
    ∃ w', (Builtin.copy_ #[t, u] ty #[vx, vy]).run P w = .ok (.int .i64 (n : Int)) w' ∧ Ext F w H F w' H' ∧ St F w' H' := by
  unfold copyA at hc
  split at hc
  · rename_i b o s' len m new hsrc
    cases hx with
    | sl _ _ _ _ cap c0 e0 fr0 hb0 hcap0 hlen0 =>
    split at hc
    · rename_i cs hb
      split at hc
      · rename_i hle
        obtain ⟨rfl, hle⟩ := hle
        simp only [Option.some.injEq, Prod.mk.injEq] at hc
        obtain ⟨rfl, rfl⟩ := hc
        obtain ⟨s1, s2, _, _, _, s6⟩ := sim_src (P := P) st hy hsrc
        obtain ⟨us, s7, s8⟩ := s6 (min m len) (Nat.min_le_left _ _)
        have hlen : (new.take (min m len * s')).length = min m len * s' := by
          have := Nat.mul_le_mul_right s' (Nat.min_le_left m len)
          simp; omega
        have h3 := Nat.mul_le_mul_right s' (Nat.min_le_right m len)
        obtain ⟨w', h1, h2⟩ := run_write (P := P) st hb s8 (off := o) (by omega)
        refine ⟨w', ?_, h2⟩
        unfold Builtin.copy_
        simp only [List.getElem?_toArray, List.getElem?_cons_zero, List.getElem?_cons_succ, Sem.run_bind, run_underlying ht, Result.andThen_ok, run_sizeOf' hs, s1, Sem.run_pure]
        rw [show Nat.min m len = min m len from rfl, s7]
        simp only [Result.andThen_ok, Sem.run_bind, h1]
        rfl
      · simp at hc
    · simp at hc
  · simp at hc

end Go.DL
