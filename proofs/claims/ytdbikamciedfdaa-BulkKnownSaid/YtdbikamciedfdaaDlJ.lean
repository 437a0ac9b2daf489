/- How the model's operations run over abstract values: all that yield a value or a block, in one law. No statement of the seed is proved here. -/
import Derived.Test.YtdbikamciedfdaaDlI
namespace Go.DL
variable {P : Program} {F F' : Nat → Prop} {w w' : World} {H : Hp} {env : Env} {a : Act}

/-- What an operation's run must be, for what its reading yields. -/
def QSim (P : Program) (F : Nat → Prop) (w : World) (H : Hp) (a : Act) (o : Oper) : Eff → Prop
  | .val v => ∃ c, (execOp a.eval o).run P w = .ok (.value c) w ∧ Rv F w v c
  | .new own x f => ∃ j c w', (H j = none ∨ own = some j) ∧ (execOp a.eval o).run P w = .ok (.value c) w' ∧ Ext F w H F w' (hset H j x) ∧ St F w' (hset H j x) ∧ Rv F w' (f j) c

theorem rv_readA {g : Bool} {t : TypeId} {n o : Nat} {cs : List AV} {vs : Array Value} {v : AV} (hg : isAggT P t = some g) (hn : szT P t = some n)
    (hl : cs.length = vs.size) (ho : ∀ (i : Nat) (v : Value), vs[i]? = some v → v.oneCell' = true)
    (h : ∀ (i : Nat) (c : AV) (v : Value), cs[i]? = some c → vs[i]? = some v → Rv F w c v) (hr : readA g n cs o = some v) :
    ∃ c, (part t vs o).run P w = .ok c w ∧ Rv F w v c := by
  unfold readA at hr
  cases g with
  | true =>
    simp only [if_true] at hr
    split at hr
    · rename_i hle
      simp only [Option.some.injEq] at hr
      subst hr
      refine ⟨_, run_part_agg hg hn w, .agg _ _ (by simp; omega) (fun i v hv => ?_) (fun i c v hc hv => ?_)⟩
      · rw [Array.getElem?_extract] at hv
        split at hv
        · exact ho _ _ hv
        · simp at hv
      · rw [Array.getElem?_extract] at hv
        rw [List.getElem?_take] at hc
        split at hv
        · split at hc
          · rw [List.getElem?_drop] at hc; exact h _ _ _ hc hv
          · simp at hc
        · simp at hv
    · simp at hr
  | false =>
    simp only [Bool.false_eq_true, if_false] at hr
    have hlt : o < vs.size := by rw [← hl]; exact (List.getElem?_eq_some_iff.1 hr).1
    exact ⟨vs[o], run_part_cell hg (by simp [hlt]) w, h o v _ hr (by simp [hlt])⟩

theorem rv_coL (re : RE F w env a) {xs : Array Operand} {ys : List AO} (h : coL xs = some ys) :
    (ys.map (evA env)).length = (xs.map a.eval).size ∧ ∀ (i : Nat) (c : AV) (v : Value), (ys.map (evA env))[i]? = some c → (xs.map a.eval)[i]? = some v → Rv F w c v := by
  obtain ⟨h1, h2⟩ := mapM_some h
  refine ⟨by simp [h1], fun i c v hc hv => ?_⟩
  simp only [Array.getElem?_map] at hv
  cases hx : xs[i]? with
  | none => simp [hx] at hv
  | some x =>
    simp only [hx, Option.map_some, Option.some.injEq] at hv
    obtain ⟨y, h3, h4⟩ := h2 i x (by simpa using hx)
    simp only [List.getElem?_map, h4, Option.map_some, Option.some.injEq] at hc
    subst hc hv
    exact rv_co re h3

theorem bytes_beq (a b : ByteArray) : (a == b) = true ↔ a = b := by
  obtain ⟨⟨x⟩⟩ := a
  obtain ⟨⟨y⟩⟩ := b
  show ((⟨x⟩ : Array UInt8) == ⟨y⟩) = true ↔ _
  simp

theorem same_run {kd : TypeDesc} {q b : Bool} {k ka : AV} {vk va : Value} (hkd : (q = false ∧ ∃ x, kd = .int x) ∨ (q = true ∧ kd = .string)) (hk : Rv F w k vk) (ha : Rv F w ka va)
    (h : keyEqA q k ka = some b) : Instr.sameNow kd vk va = some b ∧ (b = true → va = vk ∧ Instr.sameBits 10000 vk vk = true) := by
  unfold keyEqA at h
  split at h
  · cases hk
    cases ha
    rcases hkd with ⟨_, y, rfl⟩ | ⟨h1, _⟩
    · split at h
      · rename_i hkk
        subst hkk
        refine ⟨by simpa [Instr.sameNow] using h, fun hb => ?_⟩
        subst hb
        simp at h
        exact ⟨by rw [h], by simp [Instr.sameBits]⟩
      · simp at h
    · simp at h1
  · cases hk
    cases ha
    rcases hkd with ⟨h1, _⟩ | ⟨_, rfl⟩
    · simp at h1
    · refine ⟨by simpa [Instr.sameNow] using h, fun hb => ?_⟩
      subst hb
      simp only [Option.some.injEq, bytes_beq] at h
      exact ⟨by rw [h], by simp only [Instr.sameBits, bytes_beq]⟩
  · simp at h

theorem find_run {kd : TypeDesc} {q : Bool} {k : AV} {vk : Value} (hkd : (q = false ∧ ∃ x, kd = .int x) ∨ (q = true ∧ kd = .string)) (hkv : Rv F w k vk) :
    ∀ {es : List (AV × AV)} {l : List MapEntry} {i : Nat} {r : Option AV}, es.length = l.length → (∀ (i : Nat) (a : AV × AV) (x : MapEntry), es[i]? = some a → l[i]? = some x → Rv F w a.1 x.key ∧ Rv F w a.2 x.val) →
      findA q k es = some r → ∃ c, Instr.findNow kd vk l i = some c ∧ (match r with
        | some v => ∃ j y, c = some (j, y) ∧ Rv F w v y
        | none => c = none)
  | [], [], i, r, _, _, hf => by simp [findA] at hf; subst hf; exact ⟨none, by simp [Instr.findNow], rfl⟩
  | (ka, va) :: es, x :: l, i, r, hl, h, hf => by
    obtain ⟨hka, hva⟩ := h 0 (ka, va) x rfl rfl
    simp only [findA] at hf
    split at hf
    · rename_i hb
      simp only [Option.some.injEq] at hf
      subst hf
      exact ⟨_, by simp only [Instr.findNow, (same_run hkd hkv hka hb).1], i, x.val, rfl, hva⟩
    · rename_i hb
      obtain ⟨c, h1, h2⟩ := find_run hkd hkv (i := i + 1) (by simpa using hl) (fun j a y ha hy => h (j + 1) a y (by simpa using ha) (by simpa using hy)) hf
      exact ⟨c, by simp only [Instr.findNow, (same_run hkd hkv hka hb).1]; exact h1, h2⟩
    · simp at hf
  | [], _ :: _, _, _, hl, _, _ => by simp at hl
  | _ :: _, [], _, _, hl, _, _ => by simp at hl

theorem put_run {kd : TypeDesc} {q : Bool} {k v : AV} {vk vv : Value} {clock : Nat} (hkd : (q = false ∧ ∃ x, kd = .int x) ∨ (q = true ∧ kd = .string)) (hkv : Rv F w k vk) (hvv : Rv F w v vv) :
    ∀ {es es' : List (AV × AV)} {l : List MapEntry} {i : Nat}, es.length = l.length → (∀ (i : Nat) (a : AV × AV) (x : MapEntry), es[i]? = some a → l[i]? = some x → Rv F w a.1 x.key ∧ Rv F w a.2 x.val) →
      putA q k v es = some es' → ∃ c, Instr.findNow kd vk l i = some c ∧ (match c with
        | some (j, _) => ∃ e, i ≤ j ∧ l[j - i]? = some e ∧ (e.key = vk ∧ Instr.sameBits 10000 vk vk = true) ∧ es'.length = l.length ∧
            ∀ (n : Nat) (a : AV × AV) (x : MapEntry), es'[n]? = some a → (if n = j - i then some { e with val := vv } else l[n]?) = some x → Rv F w a.1 x.key ∧ Rv F w a.2 x.val
        | none => es'.length = l.length + 1 ∧ ∀ (n : Nat) (a : AV × AV) (x : MapEntry), es'[n]? = some a → (l ++ [{ key := vk, val := vv, born := clock }])[n]? = some x → Rv F w a.1 x.key ∧ Rv F w a.2 x.val)
  | [], es', [], i, _, _, hf => by
    simp [putA] at hf; subst hf
    refine ⟨none, by simp [Instr.findNow], rfl, fun n a x ha hx => ?_⟩
    cases n with
    | zero => simp at ha hx; subst ha hx; exact ⟨hkv, hvv⟩
    | succ n => simp at ha
  | (ka, va) :: es, es', x :: l, i, hl, h, hf => by
    obtain ⟨hka, hva⟩ := h 0 (ka, va) x rfl rfl
    simp only [putA] at hf
    split at hf
    · rename_i hb
      simp only [Option.some.injEq] at hf
      subst hf
      obtain ⟨s1, s2⟩ := same_run hkd hkv hka hb
      refine ⟨some (i, x.val), by simp only [Instr.findNow, s1], x, Nat.le_refl _, by simp, s2 rfl, by simpa using hl, fun n a y ha hy => ?_⟩
      cases n with
      | zero => simp at ha hy; subst ha hy; exact ⟨hka, hvv⟩
      | succ n => simp at ha hy; exact h (n + 1) a y (by simpa using ha) (by simpa using hy)
    · rename_i hb
      obtain ⟨s1, _⟩ := same_run hkd hkv hka hb
      cases hp : putA q k v es with
      | none => simp [hp] at hf
      | some es0 =>
        simp only [hp, Option.map_some, Option.some.injEq] at hf
        subst hf
        obtain ⟨c, h1, h2⟩ := put_run hkd hkv hvv (i := i + 1) (clock := clock) (by simpa using hl) (fun j a y ha hy => h (j + 1) a y (by simpa using ha) (by simpa using hy)) hp
        refine ⟨c, by simp only [Instr.findNow, s1]; exact h1, ?_⟩
        cases c with
        | none =>
          simp only at h2 ⊢
          refine ⟨by simp [h2.1], fun n a y ha hy => ?_⟩
          cases n with
          | zero => simp at ha hy; subst ha hy; exact ⟨hka, hva⟩
          | succ n => simp at ha hy; exact h2.2 n a y ha hy
        | some c =>
          obtain ⟨j, c⟩ := c
          simp only at h2 ⊢
          obtain ⟨e, g1, g2, g3, g4, g5⟩ := h2
          refine ⟨e, by omega, ?_, g3, by simp [g4], fun n a y ha hy => ?_⟩
          · rw [show j - i = (j - (i + 1)) + 1 by omega, List.getElem?_cons_succ]; exact g2
          · cases n with
            | zero =>
              rw [if_neg (by omega)] at hy
              simp at ha hy; subst ha hy; exact ⟨hka, hva⟩
            | succ n =>
              simp at ha
              refine g5 n a y ha ?_
              by_cases hn : n + 1 = j - i
              · rw [if_pos hn] at hy; rw [if_pos (by omega)]; exact hy
              · rw [if_neg hn] at hy; rw [if_neg (by omega)]; simpa using hy
    · simp at hf
  | [], _, _ :: _, _, hl, _, _ => by simp at hl
  | _ :: _, _, [], _, hl, _, _ => by simp at hl

theorem checkKey_run {kd : TypeDesc} {kt : TypeId} {emp : Bool} {v : Value} {n : Nat} (hk : P.underlying kt = some kd) (hkd : (∃ x, kd = .int x) ∨ kd = .string) (w : World) :
    (Instr.checkKey emp (n + 1) kt v).run P w = .ok () w := by
  rcases hkd with ⟨x, rfl⟩ | rfl <;> simp [Instr.checkKey, run_underlying hk]

theorem map_obj (st : St F w H) {b : Nat} {p : Bool} {es : List (AV × AV)} (hb : H b = some (.map p es)) :
    ∃ m clock, w.heap[b]? = some (.map m clock) ∧ (getObj b).run P w = .ok (.map m clock) w ∧ es.length = m.toList.length ∧
      ∀ (i : Nat) (a : AV × AV) (x : MapEntry), es[i]? = some a → m.toList[i]? = some x → Rv F w a.1 x.key ∧ Rv F w a.2 x.val := by
  obtain ⟨o, ho, hr⟩ := st.blk b _ hb
  cases hr with
  | map p es m clock hl h =>
    refine ⟨m, clock, ho, by simp [getObj, Sem.run, ho], by simpa using hl, fun i a x ha hx => h i a x ha (by simpa using hx)⟩

theorem sim_mapup (st : St F w H) {t kt e : TypeId} {kd : TypeDesc} {q : Bool} {m k x : AV} {vm vk vx : Value} {H' : Hp} (ht : P.underlying t = some (.map kt e)) (hk : P.underlying kt = some kd)
    (hkd : (q = false ∧ ∃ x, kd = .int x) ∨ (q = true ∧ kd = .string)) (hm : Rv F w m vm) (hkv : Rv F w k vk) (hx : Rv F w x vx) (hs : mapupA q H m k x = some H') :
    ∃ w', (Instr.mapUpdate t vm vk vx).run P w = .ok () w' ∧ Ext F w H F w' H' ∧ St F w' H' := by
  unfold mapupA at hs
  split at hs
  · rename_i b
    cases hm
    split at hs
    · rename_i es hb
      cases hp : putA q k x es with
      | none => simp [hp] at hs
      | some es' =>
        simp only [hp, Option.map_some, Option.some.injEq] at hs
        subst hs
        obtain ⟨ms, clock, ho, hg, hl, hat⟩ := map_obj (P := P) st hb
        have hkd' : (∃ x, kd = .int x) ∨ kd = .string := by
          rcases hkd with ⟨_, h⟩ | ⟨_, h⟩
          · exact .inl h
          · exact .inr h
        obtain ⟨c, h1, h2⟩ := put_run (clock := clock) hkd hkv hx (i := 0) hl hat hp
        have hsetO : ∀ (o' : Obj) (w0 : World), w0.heap[b]? = some (.map ms clock) → (setObj b o').run P w0 = .ok () { w0 with heap := w0.heap.setIfInBounds b o' } := fun o' w0 h0 => by simp [setObj, Sem.run, h0]
        have fin : ∀ (m' : Array MapEntry) (clock' : Nat) (w' : World), w'.heap = w.heap.setIfInBounds b (.map m' clock') → SameIO w w' → es'.length = m'.size →
            (∀ (i : Nat) (a : AV × AV) (x : MapEntry), es'[i]? = some a → m'[i]? = some x → Rv F w a.1 x.key ∧ Rv F w a.2 x.val) →
            Ext F w H F w' (hset H b (.map true es')) ∧ St F w' (hset H b (.map true es')) := fun m' clock' w' hw hio h3 h4 =>
          ext_turn st hb rfl ho hw hio (fun c e fr h => by cases h) (fun F1 w1 hu => .map true es' m' clock' h3 fun i a x ha hx => ⟨(h4 i a x ha hx).1.up hu, (h4 i a x ha hx).2.up hu⟩)
        cases c with
        | none =>
          simp only at h2
          refine ⟨{ w with heap := w.heap.setIfInBounds b (.map (ms.push { key := vk, val := vx, born := clock }) (clock + 1)) }, ?_, fin (ms.push { key := vk, val := vx, born := clock }) (clock + 1) _ rfl ⟨rfl, rfl, rfl⟩ (by simp [h2.1]) (fun i a x ha hx => h2.2 i a x ha ?_)⟩
          · simp only [Instr.mapUpdate, Sem.run_bind, run_underlying ht, Result.andThen_ok, hg, checkKey_run hk hkd', Instr.findKey, run_underlying hk, h1, Sem.run_pure, hsetO _ w ho]
          · rw [← Array.getElem?_toList, Array.toList_push] at hx
            exact hx
        | some c =>
          obtain ⟨j, c⟩ := c
          simp only at h2
          obtain ⟨e0, _, g2, g3, g4, g5⟩ := h2
          simp only [Nat.sub_zero] at g2 g5
          have hj : ms[j]? = some e0 := by simpa using g2
          refine ⟨{ w with heap := w.heap.setIfInBounds b (.map (ms.modify j fun e => { e with key := vk, val := vx }) clock) }, ?_, fin (ms.modify j fun e => { e with key := vk, val := vx }) clock _ rfl ⟨rfl, rfl, rfl⟩ (by simpa using g4) (fun i a x ha hx => g5 i a x ha ?_)⟩
          · have hkeep : ∀ w, (Instr.keyThatStays vk vk).run P w = .ok vk w := fun w => by
              simp [Instr.keyThatStays, g3.2]
            simp only [Instr.mapUpdate, Sem.run_bind, run_underlying ht, Result.andThen_ok, hg, checkKey_run hk hkd', Instr.findKey, run_underlying hk, h1, Sem.run_pure, hj, Option.map_some, Option.getD_some, g3.1, hkeep, hsetO _ w ho]
          · rw [Array.getElem?_modify] at hx
            by_cases hi : j = i
            · subst hi
              rw [if_pos rfl]
              simp [hj] at hx
              rw [← hx, ← g3.1]
            · rw [if_neg (Ne.symm hi)]
              simpa [hi] using hx
    · simp at hs
  · simp at hs

end Go.DL
