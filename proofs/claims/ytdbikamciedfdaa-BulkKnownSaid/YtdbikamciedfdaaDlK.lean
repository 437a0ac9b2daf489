/- How the model's operations run over abstract values: one law for all that yield a value or a block. No statement of the seed is proved here. -/
import Derived.Test.YtdbikamciedfdaaDlJ
namespace Go.DL
variable {P : Program} {F F' : Nat → Prop} {w w' : World} {H : Hp} {env : Env} {a : Act}

theorem qs_val {o : Oper} {v : AV} {c : Value} (h : (execOp a.eval o).run P w = .ok (.value c) w) (hv : Rv F w v c) : QSim P F w H a o (.val v) := ⟨c, h, hv⟩

theorem co_map {α : Type} {x : Operand} {f : AO → α} {y : α} (h : (co x).map f = some y) : ∃ z, co x = some z ∧ y = f z := by
  cases hc : co x with
  | none => simp [hc] at h
  | some z => simp [hc] at h; exact ⟨z, rfl, h.symm⟩

theorem sim_int {op : BinOp} {k k' : IntKind} {n m : Int} {v : AV} {t : TypeId} (h : intA op k n k' m = some v) :
    ∃ c, (binOp op t (.int k n) (.int k' m)).run P w = .ok c w ∧ Rv F w v c := by
  cases op <;> simp only [intA] at h <;> (try (split at h <;> simp only [Option.some.injEq, reduceCtorEq] at h)) <;> subst h <;> rename_i hc
  all_goals first
    | (obtain ⟨rfl, hm⟩ := hc
       refine ⟨_, ?_, .int _ _⟩
       simp only [binOp, ne_eq, not_true_eq_false, if_false, Op.intDiv, hm, Sem.run_pure]; done)
    | (subst hc
       refine ⟨_, ?_, .int _ _⟩
       simp only [binOp, ne_eq, not_true_eq_false, if_false, Op.intArith, Op.intBits, bitsA, Sem.run_pure]; done)
    | (subst hc
       refine ⟨_, ?_, .bool _⟩
       simp only [binOp, ne_eq, not_true_eq_false, if_false, Op.intCmp, Sem.run_pure]
       try rfl
       done)
    | (refine ⟨_, ?_, .int _ _⟩
       simp only [binOp, Op.shift, hc, if_false, Sem.run_pure]; done)

theorem sim_str {op : BinOp} {s t : ByteArray} {v : AV} {ty : TypeId} (h : strA op s t = some v) : ∃ c, (binOp op ty (.string s) (.string t)).run P w = .ok c w ∧ Rv F w v c := by
  cases op <;> simp only [strA] at h <;> (try (split at h)) <;> simp only [Option.some.injEq, reduceCtorEq] at h <;> subst h
  · rename_i hc
    refine ⟨_, ?_, .str _⟩
    simp only [binOp, Op.stringOp, hc, if_false, Sem.run_pure]
  all_goals
    refine ⟨_, ?_, .bool _⟩
    simp only [binOp, Op.stringOp, Sem.run_pure]

theorem guard_int {op : BinOp} {t : TypeId} {x y : Operand} {k k' : IntKind} {n m : Int} (w : World) : (eqGuard op t x y (.int k n) (.int k' m)).run P w = .ok () w := by
  unfold eqGuard; cases op <;> simp
theorem guard_str {op : BinOp} {t : TypeId} {x y : Operand} {s u : ByteArray} (w : World) : (eqGuard op t x y (.string s) (.string u)).run P w = .ok () w := by
  unfold eqGuard; cases op <;> simp
theorem guard_bool {op : BinOp} {t : TypeId} {x y : Operand} {s u : Bool} (w : World) : (eqGuard op t x y (.bool s) (.bool u)).run P w = .ok () w := by
  unfold eqGuard; cases op <;> simp

theorem sim_binA {op : BinOp} {t : TypeId} {x y : Operand} {u v r : AV} {vu vv : Value} (hu : Rv F w u vu) (hv : Rv F w v vv) (h : binA op u v = some r) :
    ∃ c, ((do eqGuard op t x y vu vv; binOp op t vu vv) : Sem Value).run P w = .ok c w ∧ Rv F w r c := by
  unfold binA at h
  split at h
  · cases hu; cases hv
    obtain ⟨c, h1, h2⟩ := sim_int (P := P) (F := F) (w := w) (t := t) h
    exact ⟨c, by simp only [Sem.run_bind, guard_int, Result.andThen_ok, h1], h2⟩
  · cases hu; cases hv
    obtain ⟨c, h1, h2⟩ := sim_str (P := P) (F := F) (w := w) (ty := t) h
    exact ⟨c, by simp only [Sem.run_bind, guard_str, Result.andThen_ok, h1], h2⟩
  · simp at h

theorem sim_bool {t : TypeId} {x y : Operand} {neg p q : Bool} (hu : P.underlying t = some .bool) {op : BinOp} (hop : (op = .eql ∧ neg = false) ∨ (op = .neq ∧ neg = true)) :
    ((do eqGuard op t x y (.bool p) (.bool q); binOp op t (.bool p) (.bool q)) : Sem Value).run P w = .ok (.bool (if neg then p != q else p == q)) w := by
  rcases hop with ⟨rfl, rfl⟩ | ⟨rfl, rfl⟩ <;>
  simp only [Sem.run_bind, guard_bool, Result.andThen_ok, binOp, Op.equal, Op.maxDepth, run_equalIn_bool' w 9999 t p q hu, Sem.run_pure] <;> simp [bne]

def EqnT (P : Program) (t : TypeId) : Nat → Prop
  | 0 => ∃ e, P.underlying t = some (.slice e)
  | 1 => ∃ k e, P.underlying t = some (.map k e)
  | 2 => ∃ a b c, P.underlying t = some (.func a b c)
  | 3 => ∃ e, P.underlying t = some (.pointer e)
  | _ => ∃ ms, P.underlying t = some (.interface ms)
theorem sim_eqn {t : TypeId} {x y : Operand} {u v : AV} {vx vy : Value} {kd : Nat} {neg b : Bool} (hx : Rv F w u vx) (hy : Rv F w v vy) (hb : eqnA kd u v = some b)
    (hu : EqnT P t kd)
    {op : BinOp} (hop : (op = .eql ∧ neg = false) ∨ (op = .neq ∧ neg = true)) :
    ((do eqGuard op t x y vx vy; binOp op t vx vy) : Sem Value).run P w = .ok (.bool (if neg then !b else b)) w := by
  have key : ∀ {vx vy : Value} {b : Bool}, (∀ w, (eqGuard op t x y vx vy).run P w = .ok () w) → (binOp .eql t vx vy = do pure (.bool (← Op.equal t vx vy))) → (binOp .neq t vx vy = do pure (.bool !(← Op.equal t vx vy))) → (∀ d, (Op.equalIn (d + 1) t vx vy).run P w = .ok b w) →
      ((do eqGuard op t x y vx vy; binOp op t vx vy) : Sem Value).run P w = .ok (.bool (if neg then !b else b)) w := by
    intro vx vy b h1 h2 h3 h5
    have h4 : (Op.equal t vx vy).run P w = .ok b w := h5 9999
    rcases hop with ⟨rfl, rfl⟩ | ⟨rfl, rfl⟩
    · simp only [Sem.run_bind, h1, Result.andThen_ok, h2, h4, Sem.run_pure]; rfl
    · simp only [Sem.run_bind, h1, Result.andThen_ok, h3, h4, Sem.run_pure]; rfl
  unfold eqnA at hb
  split at hb <;> simp only [Option.some.injEq, reduceCtorEq] at hb <;> subst hb <;> cases hy <;> simp only [EqnT] at hu
  all_goals
    first
      | (obtain ⟨_, _, _, hu⟩ := hu; cases hx <;> refine key (fun w => by cases op <;> rfl) rfl rfl (fun d => ?_) <;> simp [Op.equalIn, run_underlying hu])
      | (obtain ⟨_, _, hu⟩ := hu; cases hx <;> refine key (fun w => by cases op <;> rfl) rfl rfl (fun d => ?_) <;> simp [Op.equalIn, run_underlying hu])
      | (obtain ⟨_, hu⟩ := hu; cases hx <;> refine key (fun w => by cases op <;> rfl) rfl rfl (fun d => ?_) <;> simp [Op.equalIn, run_underlying hu])

theorem fieldPlace_run {b o : Nat} {f : Field} {n : Nat} (hn : szT P f.type = some (n + 1)) (w : World) : (fieldPlace ⟨b, o, none⟩ f).run P w = .ok ⟨b, o + f.offset, none⟩ w := by
  simp [fieldPlace, run_sizeOf' hn, add_none]

theorem freeze_heap {b n : Nat} {c : Array Value} {e : TypeId} (h : w.heap[b]? = some (.cells c e (0, 0))) :
    (w.freeze ⟨b, n, none⟩ 1).heap = w.heap.setIfInBounds b (.cells c e (n, n + 1)) := by
  have hlt : b < w.heap.size := (Array.getElem?_eq_some_iff.1 h).1
  have hg : w.heap[b] = .cells c e (0, 0) := (Array.getElem?_eq_some_iff.1 h).2
  unfold World.freeze
  rw [if_neg (by simp)]
  apply Array.ext_getElem?
  intro i
  simp only [Array.getElem?_modify, Array.getElem?_setIfInBounds]
  by_cases hi : b = i
  · subst hi
    simp [hlt]
    rw [hg]
    simp
  · simp [hi]

theorem run_bytes (st : St F w H) {s : ByteArray} {e : TypeId} :
    ∃ c w', (Conv.stringToBytes e s).run P w = .ok c w' ∧ H w.heap.size = none ∧
      Ext F w H F w' (hset H w.heap.size (.cells true (s.data.toList.map fun b => .int .u8 (b.toNat : Int)))) ∧
      St F w' (hset H w.heap.size (.cells true (s.data.toList.map fun b => .int .u8 (b.toNat : Int)))) ∧ Rv F w' (.sl w.heap.size 0 1 s.size) c := by
  obtain ⟨cap, hcap⟩ : ∃ cap, (Question.appendCap s.size 0 e).cut (w.tape w.drawn (.appendCap s.size 0 e)) = cap := ⟨_, rfl⟩
  have hle : s.size ≤ cap := by rw [← hcap]; exact Nat.le_add_right _ _
  obtain ⟨row, hrow⟩ : ∃ row : Array Value, (s.data.map fun b => Value.int .u8 b.toNat) ++ Array.replicate (cap - s.size) (.int .u8 0) = row := ⟨_, rfl⟩
  have hsize : row.size = cap := by rw [← hrow]; simp; have : s.data.size = s.size := rfl; omega
  have hone : ∀ (i : Nat) (v : Value), row[i]? = some v → v.oneCell' = true := fun i v hv => by
    rw [← hrow, Array.getElem?_append] at hv
    split at hv
    · simp only [Array.getElem?_map] at hv
      cases hx : s.data[i]? with
      | none => simp [hx] at hv
      | some x => simp [hx] at hv; subst hv; rfl
    · rw [Array.getElem?_replicate] at hv
      split at hv
      · simp at hv; subst hv; rfl
      · simp at hv
  have hrl : ∀ F w, RL F w ((s.data.toList.map fun b => AV.int .u8 (b.toNat : Int)) ++ List.replicate (cap - s.size) (.int .u8 0)) row := fun F w => by
    refine ⟨by rw [hsize]; simp; have : s.data.size = s.size := rfl; omega, hone, fun i c v hc hv => ?_⟩
    rw [← hrow, Array.getElem?_append] at hv
    rw [List.getElem?_append] at hc
    simp only [List.length_map, Array.length_toList, Array.size_map] at hc hv
    split at hv
    · rename_i hi
      rw [if_pos hi] at hc
      simp only [List.getElem?_map, Array.getElem?_toList, Array.getElem?_map, Array.getElem?_eq_getElem hi, Option.map_some, Option.some.injEq] at hc hv
      subst hc hv
      exact .int _ _
    · rename_i hi
      rw [if_neg hi] at hc
      rw [Array.getElem?_replicate] at hv
      rw [List.getElem?_replicate] at hc
      split at hv
      · rename_i hlt
        rw [if_pos hlt] at hc
        simp at hc hv; subst hc hv; exact .int _ _
      · simp at hv
  obtain ⟨g1, g2, g3, g4⟩ := new_row (st_drew st) e (hrl F w.drew)
  have hsz : w.drew.heap.size = w.heap.size := rfl
  rw [hsz] at g1 g2 g3 g4
  obtain ⟨w1, hw1⟩ : ∃ w1, w.drew.alloc (.cells row e) = w1 := ⟨_, rfl⟩
  rw [hw1] at g2 g3 g4
  have hfh := freeze_heap (n := row.size) g4
  have ht := ext_turn (y := .cells true (s.data.toList.map fun b => .int .u8 (b.toNat : Int))) g3 (hset_same _ _ _) rfl g4 hfh (by unfold World.freeze; exact ⟨rfl, rfl, rfl⟩) (fun c e fr h => by cases h; exact ⟨row, _, _, rfl, rfl⟩)
    (fun F1 w1 hu => .cells true _ row e _ (fun i hi => by simp; omega) (by rw [hsize]; simp; have : s.data.size = s.size := rfl; omega) hone (fun i c v hc hv =>
      (hrl F1 w1).at_ i c v (by rw [List.getElem?_append_left]; exact hc; exact (List.getElem?_eq_some_iff.1 hc).1) hv))
  have hh : hset (hset H w.heap.size (.cells true ((s.data.toList.map fun b => AV.int .u8 (b.toNat : Int)) ++ List.replicate (cap - s.size) (.int .u8 0)))) w.heap.size (.cells true (s.data.toList.map fun b => .int .u8 (b.toNat : Int))) =
      hset H w.heap.size (.cells true (s.data.toList.map fun b => .int .u8 (b.toNat : Int))) := by
    funext j; unfold hset; split <;> rfl
  rw [hh] at ht
  have hext := ((ext_drew F w H).trans g2).trans ht.1
  refine ⟨.slice (some ⟨w.heap.size, 0, none⟩) s.size cap, _, ?_, g1, hext, ht.2, ?_⟩
  · have hshape : w1.shape? w.heap.size = some (e, row.size) := by simp [World.shape?, g4]
    unfold Conv.stringToBytes
    have hchoose : (choose (.appendCap s.size 0 e)).run P w = .ok cap w.drew := by
      simp only [run_choose, Question.forced, Bool.false_eq_true, if_false, hcap, World.drew_eq]
    simp only [Sem.run_bind, hchoose, Result.andThen_ok, hrow, run_newRow', markStringish, run_shape, hsz, hw1, hshape, run_freeze, Sem.run_pure]
  · refine .sl _ 0 1 s.size cap row e (row.size, row.size + 1) ?_ (by omega) hle
    rw [hfh]
    simp [(Array.getElem?_eq_some_iff.1 g4).1]

/-- All operations that yield a value or a block. -/
theorem simQ (st : St F w H) (re : RE F w env a) {o : Oper} {op : DOp} {e : Eff} (hc : comp0 P o = some op) (hq : evalQ op env H = some e) : QSim P F w H a o e := by
  obtain ⟨dst, oo, ty, pos, after, guard⟩ := o
  cases oo with
  | move x =>
    obtain ⟨y, hy, rfl⟩ := co_map hc
    simp only [evalQ, Option.some.injEq] at hq; subst hq
    exact qs_val (c := a.eval x) (by simp [execOp]) (rv_co re hy)
  | assign x =>
    obtain ⟨y, hy, rfl⟩ := co_map hc
    simp only [evalQ, Option.some.injEq] at hq; subst hq
    exact qs_val (c := a.eval x) (by simp [execOp]) (rv_co re hy)
  | pick c x y =>
    simp only [comp0] at hc
    split at hc <;> simp only [Option.some.injEq, reduceCtorEq] at hc
    rename_i c' x' y' h1 h2 h3
    subst hc
    simp only [evalQ] at hq
    split at hq <;> simp only [Option.some.injEq, reduceCtorEq] at hq
    rename_i t ht
    subst hq
    have hcv := rv_co re h1
    rw [ht] at hcv
    obtain ⟨vc, hvc⟩ : ∃ v, a.eval c = v := ⟨_, rfl⟩
    rw [hvc] at hcv
    cases hcv
    refine qs_val (c := if t then a.eval x else a.eval y) ?_ ?_
    · simp only [execOp, hvc, asBool, Sem.run_bind, Sem.run_pure, Result.andThen_ok]
    · cases t
      · exact rv_co re h3
      · exact rv_co re h2
  | alloc t =>
    simp only [comp0] at hc
    cases hz : zeroT P t with
    | none => simp [hz] at hc
    | some z =>
      simp only [hz, Option.map_some, Option.some.injEq] at hc
      subst hc
      simp only [evalQ, Option.some.injEq] at hq; subst hq
      obtain ⟨i, v, hi, hv, hzr⟩ := zero_rl (F := F) (w := w) hz
      obtain ⟨g1, g2, g3, g4⟩ := new_row st t hzr
      refine ⟨w.heap.size, .pointer (some ⟨w.heap.size, 0, none⟩), _, .inl g1, ?_, g2, g3, .pt _ _⟩
      simp only [execOp, Instr.alloc, newVar, Sem.run_bind, run_zero hi hv, Result.andThen_ok, run_newRow', Sem.run_pure]
  | box t x =>
    obtain ⟨y, hy, rfl⟩ := co_map hc
    simp only [evalQ] at hq
    split at hq <;> simp only [Option.some.injEq, reduceCtorEq] at hq
    rename_i cs hcs
    subst hq
    obtain ⟨g1, g2, g3, g4⟩ := new_row st t (rl_cellsOf (rv_co re hy) hcs)
    refine ⟨w.heap.size, .pointer (some ⟨w.heap.size, 0, none⟩), _, .inl g1, ?_, g2, g3, .pt _ _⟩
    simp only [execOp, Instr.box, newVar, Sem.run_bind, Result.andThen_ok, run_newRow', Sem.run_pure]
  | build t parts =>
    simp only [comp0] at hc
    split at hc
    · rename_i z ps hz hg hps
      have key : DOp.build z ps = op ∧ (∀ fields, P.underlying t = some (.struct fields) → (fields.toList.all fun f => (szT P f.type).isSome) = true) ∧
          (∀ n e, P.underlying t = some (.array n e) → (szT P e).isSome = true) := by
        split at hc
        · rename_i fields hu
          split at hc
          · rename_i hall
            exact ⟨by simpa using hc, fun f hf => by rw [hu] at hf; simp at hf; subst hf; exact hall, fun n e h => by rw [hu] at h; simp at h⟩
          · simp at hc
        · rename_i n e hu
          split at hc
          · rename_i hall
            exact ⟨by simpa using hc, fun f hf => by rw [hu] at hf; simp at hf, fun n' e' h => by rw [hu] at h; simp at h; rw [← h.2]; exact hall⟩
          · simp at hc
        · simp at hc
      obtain ⟨rfl, k1, k2⟩ := key
      simp only [evalQ] at hq
      split at hq <;> simp only [Option.some.injEq, reduceCtorEq] at hq
      rename_i cs hcs
      subst hq
      obtain ⟨c, h1, h2⟩ := sim_build (P := P) (w := w) re hz hg hps k1 k2 hcs
      refine qs_val (c := c) ?_ h2
      simp only [execOp, Sem.run_bind, h1, Result.andThen_ok, Sem.run_pure]
    · simp at hc
  | buildSlice t len parts =>
    simp only [comp0] at hc
    split at hc
    · rename_i e0 hu
      split at hc
      · rename_i s z hs hz
        split at hc
        · rename_i ps hps
          split at hc <;> simp only [Option.some.injEq, reduceCtorEq] at hc
          rename_i hle
          subst hc
          simp only [evalQ] at hq
          split at hq <;> simp only [Option.some.injEq, reduceCtorEq] at hq
          rename_i cs hcs
          subst hq
          obtain ⟨c, w', h1, h2, h3, h4, h5⟩ := sim_bslice (P := P) st re hu hs hz hps hle.1 hle.2 hcs
          refine ⟨w.heap.size, c, w', .inl h2, ?_, h3, h4, h5⟩
          simp only [execOp, Sem.run_bind, h1, Result.andThen_ok, Sem.run_pure]
        · simp at hc
      · simp at hc
    · simp at hc
  | load t x =>
    simp only [comp0] at hc
    split at hc <;> simp only [Option.some.injEq, reduceCtorEq] at hc
    rename_i g n y hg hn hy
    subst hc
    simp only [evalQ] at hq
    split at hq <;> simp only [Option.some.injEq, reduceCtorEq] at hq
    rename_i v hv
    subst hq
    obtain ⟨c, h1, h2⟩ := run_loadA (P := P) st hg hn (rv_co re hy) hv
    refine qs_val (c := c) ?_ h2
    simp only [execOp, Sem.run_bind, h1, Result.andThen_ok, Sem.run_pure]
  | nilCheck x =>
    obtain ⟨y, hy, rfl⟩ := co_map hc
    have hxv := rv_co re hy
    obtain ⟨vx, hvx⟩ : ∃ v, a.eval x = v := ⟨_, rfl⟩
    rw [hvx] at hxv
    simp only [evalQ] at hq
    split at hq <;> simp only [Option.some.injEq, reduceCtorEq] at hq
    · rename_i b o ht
      subst hq
      rw [ht] at hxv
      have hxv' := hxv
      cases hxv
      exact qs_val (by simp only [execOp, hvx, Sem.run_pure]) hxv'
    · rename_i r i o ht
      subst hq
      rw [ht] at hxv
      have hxv' := hxv
      cases hxv
      exact qs_val (by simp only [execOp, hvx, Sem.run_pure]) hxv'
  | binOp bop t x y yt =>
    simp only [comp0] at hc
    split at hc
    · rename_i x' y' hx hy
      have hxv := rv_co re hx
      have hyv := rv_co re hy
      have plain : ∀ {x' y' : AO} {r : AV}, binA bop (evA env x') (evA env y') = some r → Rv F w (evA env x') (a.eval x) → Rv F w (evA env y') (a.eval y) →
          QSim P F w H a ⟨dst, .binOp bop t x y yt, ty, pos, after, guard⟩ (.val r) := by
        intro x' y' r h hxv hyv
        obtain ⟨c, h1, h2⟩ := sim_binA (P := P) (t := t) (x := x) (y := y) hxv hyv h
        refine qs_val (c := c) ?_ h2
        simp only [execOp]
        rw [Sem.run_bind, h1]
        rfl
      have boolc : ∀ (neg : Bool) {e : Eff}, P.underlying t = some .bool → ((bop = .eql ∧ neg = false) ∨ (bop = .neq ∧ neg = true)) → evalQ (.binb neg x' y') env H = some e →
          QSim P F w H a ⟨dst, .binOp bop t x y yt, ty, pos, after, guard⟩ e := by
        intro neg e hu hop he
        simp only [evalQ] at he
        split at he <;> simp only [Option.some.injEq, reduceCtorEq] at he
        rename_i p q h1 h2
        subst he
        rw [h1] at hxv
        rw [h2] at hyv
        obtain ⟨vx, hvx⟩ : ∃ v, a.eval x = v := ⟨_, rfl⟩
        obtain ⟨vy, hvy⟩ : ∃ v, a.eval y = v := ⟨_, rfl⟩
        rw [hvx] at hxv
        rw [hvy] at hyv
        cases hxv
        cases hyv
        refine qs_val ?_ (.bool _)
        have := sim_bool (P := P) (w := w) (x := x) (y := y) (p := p) (q := q) hu hop
        simp only [execOp, hvx, hvy]
        rw [Sem.run_bind, this]
        rfl
      have aggc : ∀ (neg : Bool) {ks : List Nat} {e : Eff}, kindsT P t = some ks → ((bop = .eql ∧ neg = false) ∨ (bop = .neq ∧ neg = true)) → evalQ (.eqag neg ks x' y') env H = some e →
          QSim P F w H a ⟨dst, .binOp bop t x y yt, ty, pos, after, guard⟩ e := by
        intro neg ks e hk hop he
        simp only [evalQ] at he
        split at he
        · rename_i cs ds h1 h2
          split at he <;> simp only [Option.some.injEq, reduceCtorEq] at he
          rename_i b hb
          subst he
          rw [h1] at hxv
          rw [h2] at hyv
          refine qs_val ?_ (.bool _)
          have := sim_eqag (P := P) (x := x) (y := y) hk hxv hyv hb hop
          simp only [execOp]
          rw [Sem.run_bind, this]
          rfl
        · simp at he
      have nilc : ∀ (kd : Nat) (neg : Bool) {e : Eff}, EqnT P t kd →
          ((bop = .eql ∧ neg = false) ∨ (bop = .neq ∧ neg = true)) → evalQ (.eqn kd neg x' y') env H = some e → QSim P F w H a ⟨dst, .binOp bop t x y yt, ty, pos, after, guard⟩ e := by
        intro kd neg e hu hop he
        simp only [evalQ] at he
        split at he <;> simp only [Option.some.injEq, reduceCtorEq] at he
        rename_i b hb
        subst he
        refine qs_val ?_ (.bool _)
        have := sim_eqn (P := P) (x := x) (y := y) hxv hyv hb hu hop
        simp only [execOp]
        rw [Sem.run_bind, this]
        rfl
      split at hc
      · rename_i hu; simp only [Option.some.injEq] at hc; subst hc; exact boolc false hu (.inl ⟨rfl, rfl⟩) hq
      · rename_i hu; simp only [Option.some.injEq] at hc; subst hc; exact boolc true hu (.inr ⟨rfl, rfl⟩) hq
      · cases hk : kindsT P t with
        | none => simp [hk] at hc
        | some ks => simp [hk] at hc; subst hc; exact aggc false hk (.inl ⟨rfl, rfl⟩) hq
      · cases hk : kindsT P t with
        | none => simp [hk] at hc
        | some ks => simp [hk] at hc; subst hc; exact aggc false hk (.inl ⟨rfl, rfl⟩) hq
      · cases hk : kindsT P t with
        | none => simp [hk] at hc
        | some ks => simp [hk] at hc; subst hc; exact aggc true hk (.inr ⟨rfl, rfl⟩) hq
      · cases hk : kindsT P t with
        | none => simp [hk] at hc
        | some ks => simp [hk] at hc; subst hc; exact aggc true hk (.inr ⟨rfl, rfl⟩) hq
      · rename_i hu; simp only [Option.some.injEq] at hc; subst hc; exact nilc 0 false (by exact ⟨_, hu⟩) (.inl ⟨rfl, rfl⟩) hq
      · rename_i hu; simp only [Option.some.injEq] at hc; subst hc; exact nilc 0 true (by exact ⟨_, hu⟩) (.inr ⟨rfl, rfl⟩) hq
      · rename_i hu; simp only [Option.some.injEq] at hc; subst hc; exact nilc 1 false (by exact ⟨_, _, hu⟩) (.inl ⟨rfl, rfl⟩) hq
      · rename_i hu; simp only [Option.some.injEq] at hc; subst hc; exact nilc 1 true (by exact ⟨_, _, hu⟩) (.inr ⟨rfl, rfl⟩) hq
      · rename_i hu; simp only [Option.some.injEq] at hc; subst hc; exact nilc 2 false (by exact ⟨_, _, _, hu⟩) (.inl ⟨rfl, rfl⟩) hq
      · rename_i hu; simp only [Option.some.injEq] at hc; subst hc; exact nilc 2 true (by exact ⟨_, _, _, hu⟩) (.inr ⟨rfl, rfl⟩) hq
      · rename_i hu; simp only [Option.some.injEq] at hc; subst hc; exact nilc 3 false (by exact ⟨_, hu⟩) (.inl ⟨rfl, rfl⟩) hq
      · rename_i hu; simp only [Option.some.injEq] at hc; subst hc; exact nilc 3 true (by exact ⟨_, hu⟩) (.inr ⟨rfl, rfl⟩) hq
      · rename_i hu; simp only [Option.some.injEq] at hc; subst hc; exact nilc 4 false (by exact ⟨_, hu⟩) (.inl ⟨rfl, rfl⟩) hq
      · rename_i hu; simp only [Option.some.injEq] at hc; subst hc; exact nilc 4 true (by exact ⟨_, hu⟩) (.inr ⟨rfl, rfl⟩) hq
      · simp only [Option.some.injEq] at hc
        subst hc
        simp only [evalQ] at hq
        split at hq <;> simp only [Option.some.injEq, reduceCtorEq] at hq
        rename_i r hr
        subst hq
        exact plain hr hxv hyv
    · simp at hc
  | unOp uop t x =>
    cases uop with
    | not =>
      obtain ⟨y, hy, rfl⟩ := co_map hc
      have hxv := rv_co re hy
      obtain ⟨vx, hvx⟩ : ∃ v, a.eval x = v := ⟨_, rfl⟩
      rw [hvx] at hxv
      simp only [evalQ] at hq
      split at hq <;> simp only [Option.some.injEq, reduceCtorEq] at hq
      rename_i b ht
      subst hq
      rw [ht] at hxv
      cases hxv
      exact qs_val (by simp only [execOp, hvx, Op.unary, Sem.run_bind, Sem.run_pure, Result.andThen_ok]) (.bool _)
    | neg =>
      obtain ⟨y, hy, rfl⟩ := co_map hc
      have hxv := rv_co re hy
      obtain ⟨vx, hvx⟩ : ∃ v, a.eval x = v := ⟨_, rfl⟩
      rw [hvx] at hxv
      simp only [evalQ] at hq
      split at hq <;> simp only [Option.some.injEq, reduceCtorEq] at hq
      rename_i k n ht
      subst hq
      rw [ht] at hxv
      cases hxv
      exact qs_val (by simp only [execOp, hvx, Op.unary, Op.intArith, Sem.run_bind, Sem.run_pure, Result.andThen_ok]) (.int _ _)
    | _ => simp [comp0] at hc
  | convert src dt x =>
    simp only [comp0] at hc
    split at hc
    · rename_i k0 k x' h1 h2 h3
      simp only [Option.some.injEq] at hc
      subst hc
      have hxv := rv_co re h3
      obtain ⟨vx, hvx⟩ : ∃ v, a.eval x = v := ⟨_, rfl⟩
      rw [hvx] at hxv
      simp only [evalQ] at hq
      split at hq <;> simp only [Option.some.injEq, reduceCtorEq] at hq
      rename_i k1 n ht
      subst hq
      rw [ht] at hxv
      cases hxv
      exact qs_val (by simp only [execOp, hvx, convert, Sem.run_bind, run_underlying h1, run_underlying h2, Conv.intToInt, Sem.run_pure, Result.andThen_ok]) (.int _ _)
    · rename_i e0 x' h1 h2 h3
      split at hc
      · rename_i h4
        simp only [Option.some.injEq] at hc
        subst hc
        have hxv := rv_co re h3
        obtain ⟨vx, hvx⟩ : ∃ v, a.eval x = v := ⟨_, rfl⟩
        rw [hvx] at hxv
        simp only [evalQ] at hq
        split at hq <;> simp only [Option.some.injEq, reduceCtorEq] at hq
        rename_i s ht
        subst hq
        rw [ht] at hxv
        cases hxv
        obtain ⟨c, w', g1, g2, g3, g4, g5⟩ := run_bytes (P := P) (e := e0) (s := s) st
        refine ⟨w.heap.size, c, w', .inl g2, ?_, g3, g4, g5⟩
        simp only [execOp, hvx, convert, Sem.run_bind, run_underlying h1, run_underlying h2, run_underlying h4, g1, Sem.run_pure, Result.andThen_ok]
      · simp at hc
    · simp at hc
  | makeFunc fn first cap =>
    simp only [comp0] at hc
    split at hc <;> simp only [Option.some.injEq, reduceCtorEq] at hc
    rename_i f c h1 h2
    subst hc
    simp only [evalQ, Option.some.injEq] at hq; subst hq
    obtain ⟨g1, g2⟩ := rv_coL re h1
    obtain ⟨g3, g4⟩ := rv_coL re h2
    exact qs_val (by simp only [execOp, Instr.makeFunc, Sem.run_bind, Sem.run_pure, Result.andThen_ok]) (.fn fn _ _ _ _ g1 g3 g2 g4)
  | fieldAddr s x fd =>
    simp only [comp0] at hc
    split at hc
    · rename_i fields x' h1 h2
      split at hc
      · rename_i f hf
        split at hc <;> simp only [Option.some.injEq, reduceCtorEq] at hc
        rename_i n hn
        subst hc
        have hxv := rv_co re h2
        obtain ⟨vx, hvx⟩ : ∃ v, a.eval x = v := ⟨_, rfl⟩
        rw [hvx] at hxv
        simp only [evalQ] at hq
        split at hq <;> simp only [Option.some.injEq, reduceCtorEq] at hq
        · rename_i b o ht
          subst hq
          rw [ht] at hxv
          cases hxv
          exact qs_val (by simp only [execOp, hvx, Instr.fieldAt, Sem.run_bind, run_underlying h1, hf, Instr.sureAddr, fieldPlace_run hn, Sem.run_pure, Result.andThen_ok]) (.pt _ _)
        · rename_i r i o ht
          subst hq
          rw [ht] at hxv
          cases hxv with
          | fp _ _ _ blk off s' g hF hs hcc ho h =>
            refine qs_val (c := .pointer (some ⟨blk, off + i * s' + (o + f.offset), none⟩)) (by simp only [execOp, hvx, Instr.fieldAt, Sem.run_bind, run_underlying h1, hf, Instr.sureAddr, fieldPlace_run hn, Sem.run_pure, Result.andThen_ok, Nat.add_assoc]) ?_
            exact .fp r i (o + f.offset) blk off s' g hF hs hcc ho h
      · simp at hc
    · simp at hc
  | field s x fd =>
    simp only [comp0] at hc
    split at hc
    · rename_i fields x' h1 h2
      split at hc
      · rename_i f hf
        split at hc <;> simp only [Option.some.injEq, reduceCtorEq] at hc
        rename_i g n hg hn
        subst hc
        have hxv := rv_co re h2
        obtain ⟨vx, hvx⟩ : ∃ v, a.eval x = v := ⟨_, rfl⟩
        rw [hvx] at hxv
        simp only [evalQ] at hq
        split at hq
        · rename_i cs ht
          split at hq <;> simp only [Option.some.injEq, reduceCtorEq] at hq
          rename_i v hv
          subst hq
          rw [ht] at hxv
          cases hxv with
          | agg _ vs hl ho h =>
            obtain ⟨c, g1, g2⟩ := rv_readA (P := P) hg hn hl ho h hv
            exact qs_val (by simp only [execOp, hvx, Instr.field, Sem.run_bind, run_underlying h1, hf, asAgg, g1, Sem.run_pure, Result.andThen_ok]) g2
        · simp at hq
      · simp at hc
    · simp at hc
  | indexAddr t x i =>
    have idx : ∀ {b o len s : Nat} {k : IntKind} {n : Int} {e0 : TypeId}, szT P e0 = some s → 0 ≤ n → ((⟨b, o, none⟩ : Addr).add (n.toNat * s)) = ⟨b, o + n.toNat * s, none⟩ := fun _ _ => add_none _ _ _
    simp only [comp0] at hc
    split at hc
    · rename_i len e0 x' i' h1 h2 h3
      cases hs : szT P e0 with
      | none => simp [hs] at hc
      | some s =>
        simp only [hs, Option.map_some, Option.some.injEq] at hc
        subst hc
        have hxv := rv_co re h2
        have hiv := rv_co re h3
        obtain ⟨vx, hvx⟩ : ∃ v, a.eval x = v := ⟨_, rfl⟩
        obtain ⟨vi, hvi⟩ : ∃ v, a.eval i = v := ⟨_, rfl⟩
        rw [hvx] at hxv
        rw [hvi] at hiv
        simp only [evalQ] at hq
        split at hq
        · rename_i b o k n hx hi
          split at hq <;> simp only [Option.some.injEq, reduceCtorEq] at hq
          rename_i hle
          subst hq
          rw [hx] at hxv
          rw [hi] at hiv
          cases hxv
          cases hiv
          refine qs_val ?_ (.pt _ _)
          simp only [execOp, hvx, hvi, Instr.indexAt, asIntOf, Sem.run_bind, run_underlying h1, Instr.sureAddr, Sem.run_pure, Result.andThen_ok, Sem.run_ite]
          rw [if_pos hle]
          simp only [Sem.run_bind, run_sizeOf' hs, Sem.run_pure, Result.andThen_ok, add_none]
        · rename_i r j o k n hx hi
          split at hq <;> simp only [Option.some.injEq, reduceCtorEq] at hq
          rename_i hle
          subst hq
          rw [hx] at hxv
          rw [hi] at hiv
          cases hiv
          cases hxv with
          | fp _ _ _ blk off s' g hF hs' hcc ho h =>
            refine qs_val (c := .pointer (some ⟨blk, off + j * s' + (o + n.toNat * s), none⟩)) ?_ (.fp r j (o + n.toNat * s) blk off s' g hF hs' hcc ho h)
            simp only [execOp, hvx, hvi, Instr.indexAt, asIntOf, Sem.run_bind, run_underlying h1, Instr.sureAddr, Sem.run_pure, Result.andThen_ok, Sem.run_ite]
            rw [if_pos hle]
            simp only [Sem.run_bind, run_sizeOf' hs, Sem.run_pure, Result.andThen_ok, add_none, Nat.add_assoc]
        · simp at hq
    · rename_i e0 x' i' h1 h2 h3
      cases hs : szT P e0 with
      | none => simp [hs] at hc
      | some s =>
        simp only [hs, Option.map_some, Option.some.injEq] at hc
        subst hc
        have hxv := rv_co re h2
        have hiv := rv_co re h3
        obtain ⟨vx, hvx⟩ : ∃ v, a.eval x = v := ⟨_, rfl⟩
        obtain ⟨vi, hvi⟩ : ∃ v, a.eval i = v := ⟨_, rfl⟩
        rw [hvx] at hxv
        rw [hvi] at hiv
        simp only [evalQ] at hq
        split at hq
        · rename_i b o s' len k n hx hi
          split at hq <;> simp only [Option.some.injEq, reduceCtorEq] at hq
          rename_i hle
          obtain ⟨rfl, hle⟩ := hle
          subst hq
          rw [hx] at hxv
          rw [hi] at hiv
          cases hxv
          cases hiv
          refine qs_val ?_ (.pt _ _)
          simp only [execOp, hvx, hvi, Instr.indexAt, asIntOf, Sem.run_bind, run_underlying h1, Sem.run_pure, Result.andThen_ok, Sem.run_ite]
          rw [if_pos hle]
          simp only [Sem.run_bind, run_sizeOf' hs, Sem.run_pure, Result.andThen_ok, add_none]
        · rename_i rows k n hx hi
          split at hq <;> simp only [Option.some.injEq, reduceCtorEq] at hq
          rename_i hle
          obtain ⟨hle1, hle2, hle3⟩ := hle
          subst hq
          rw [hx] at hxv
          rw [hi] at hiv
          cases hiv
          cases hxv with
          | fs0 ad cap => simp at hle2; omega
          | fs _ blk off s' cap g hcap hF hs' hcc ho h =>
            have hlt : n.toNat < rows.length := by omega
            have es : s' = s := by
              rw [← hle3, List.getD_eq_getElem?_getD, List.getElem?_eq_getElem hlt]
              exact (hs' _ (List.getElem_mem hlt)).symm
            subst es
            refine qs_val (c := .pointer (some ⟨blk, off + n.toNat * s' + 0, none⟩)) ?_ (.fp rows n.toNat 0 blk off s' g hF hs' hcc ho h)
            simp only [execOp, hvx, hvi, Instr.indexAt, asIntOf, Sem.run_bind, run_underlying h1, Sem.run_pure, Result.andThen_ok, Sem.run_ite]
            rw [if_pos ⟨hle1, hle2⟩]
            simp only [Sem.run_bind, run_sizeOf' hs, Sem.run_pure, Result.andThen_ok, add_none, Nat.add_zero]
        · simp at hq
    · simp at hc
  | index t x i =>
    simp only [comp0] at hc
    split at hc
    · rename_i len e0 x' i' h1 h2 h3
      split at hc <;> simp only [Option.some.injEq, reduceCtorEq] at hc
      rename_i g s hg hs
      subst hc
      have hxv := rv_co re h2
      have hiv := rv_co re h3
      obtain ⟨vx, hvx⟩ : ∃ v, a.eval x = v := ⟨_, rfl⟩
      obtain ⟨vi, hvi⟩ : ∃ v, a.eval i = v := ⟨_, rfl⟩
      rw [hvx] at hxv
      rw [hvi] at hiv
      simp only [evalQ] at hq
      split at hq
      · rename_i cs k n hx hi
        split at hq
        · rename_i hle
          split at hq <;> simp only [Option.some.injEq, reduceCtorEq] at hq
          rename_i v hv
          subst hq
          rw [hx] at hxv
          rw [hi] at hiv
          cases hiv
          cases hxv with
          | agg _ vs hl ho h =>
            obtain ⟨c, g1, g2⟩ := rv_readA (P := P) hg hs hl ho h hv
            refine qs_val (c := c) ?_ g2
            simp only [execOp, hvx, hvi, Instr.index, asIntOf, Sem.run_bind, run_underlying h1, Sem.run_pure, Result.andThen_ok, Sem.run_ite]
            rw [if_pos hle]
            simp only [Sem.run_bind, run_sizeOf' hs, Result.andThen_ok, g1, Sem.run_pure]
        · simp at hq
      · simp at hq
    · rename_i x' i' h1 h2 h3
      simp only [Option.some.injEq] at hc
      subst hc
      have hxv := rv_co re h2
      have hiv := rv_co re h3
      obtain ⟨vx, hvx⟩ : ∃ v, a.eval x = v := ⟨_, rfl⟩
      obtain ⟨vi, hvi⟩ : ∃ v, a.eval i = v := ⟨_, rfl⟩
      rw [hvx] at hxv
      rw [hvi] at hiv
      simp only [evalQ] at hq
      split at hq
      · rename_i s k n hx hi
        split at hq <;> simp only [Option.some.injEq, reduceCtorEq] at hq
        rename_i hle
        subst hq
        rw [hx] at hxv
        rw [hi] at hiv
        cases hiv
        cases hxv
        have hlt : n.toNat < s.size := by omega
        have hget : s[n.toNat]? = some (s.data.toList.getD n.toNat 0) := by
          rw [List.getD_eq_getElem?_getD, Array.getElem?_toList]
          have : s[n.toNat]? = some s[n.toNat] := by simp [hlt]
          rw [this]
          have h2 : n.toNat < s.data.size := hlt
          rw [Array.getElem?_eq_getElem h2]
          rfl
        refine qs_val (c := .int .u8 ((s.data.toList.getD n.toNat 0).toNat : Int)) ?_ (.int _ _)
        simp only [execOp, hvx, hvi, Instr.index, asIntOf, Sem.run_bind, run_underlying h1, Sem.run_pure, Result.andThen_ok]
        rw [if_pos hle.1, hget]
        simp
      · simp at hq
    · simp at hc
  | makeSlice t l c =>
    simp only [comp0] at hc
    split at hc
    · rename_i e0 l' c' h1 h2 h3
      split at hc
      · rename_i i z hi hz
        split at hc <;> simp only [Option.some.injEq, reduceCtorEq] at hc
        rename_i hzs
        subst hc
        have hlv := rv_co re h2
        have hcv := rv_co re h3
        obtain ⟨vl, hvl⟩ : ∃ v, a.eval l = v := ⟨_, rfl⟩
        obtain ⟨vc, hvc⟩ : ∃ v, a.eval c = v := ⟨_, rfl⟩
        rw [hvl] at hlv
        rw [hvc] at hcv
        simp only [evalQ] at hq
        split at hq
        · rename_i l0 c0 hl hcc
          split at hq <;> simp only [Option.some.injEq, reduceCtorEq] at hq
          rename_i hle
          subst hq
          rw [hl] at hlv
          rw [hcc] at hcv
          cases hlv
          cases hcv
          obtain ⟨v, w', g1, g2, g3, g4, g5⟩ := sim_mksl (P := P) st h1 hi hz hzs hle.1 hle.2.1 hle.2.2.1 hle.2.2.2
          refine ⟨w.heap.size, v, w', .inl g2, ?_, g3, g4, g5⟩
          simp only [execOp, hvl, hvc, Sem.run_bind, g1, Result.andThen_ok, Sem.run_pure]
        · simp at hq
      · simp at hc
    · simp at hc
  | slice t x lo hi mx =>
    cases mx with
    | some m => simp [comp0] at hc
    | none =>
    simp only [comp0] at hc
    split at hc
    · rename_i len e0 x' lo' hi' h1 h2 h3 h4
      cases hs : szT P e0 with
      | none => simp [hs] at hc
      | some s =>
        simp only [hs, Option.map_some, Option.some.injEq] at hc
        subst hc
        have hxv := rv_co re h2
        obtain ⟨vx, hvx⟩ : ∃ v, a.eval x = v := ⟨_, rfl⟩
        rw [hvx] at hxv
        simp only [evalQ] at hq
        split at hq
        · rename_i b o hx
          split at hq
          · rename_i p cs h hb hh
            split at hq
            · rename_i l hl
              split at hq <;> simp only [Option.some.injEq, reduceCtorEq] at hq
              rename_i hle
              subst hq
              rw [hx] at hxv
              cases hxv
              obtain ⟨b1, b2, b3⟩ := run_bounds (P := P) (w := w) (len := len) (cap := len) false re h3 h4 hh hl (Nat.le_refl _)
              obtain ⟨ob, hob, hr⟩ := st.blk b _ hb
              cases hr with
              | cells _ _ c e1 fr hfr hcl ho hcc =>
                refine qs_val (c := .slice (some ⟨b, o + l * s, none⟩) (h - l) (len - l)) ?_ (.sl b (o + l * s) s (h - l) (len - l) c e1 fr hob ?_ (Nat.sub_le_sub_right b3 l))
                · simp only [execOp, hvx, Instr.sliceAt, Instr.sureAddr, Option.map_none, Sem.run_bind, run_underlying h1, b1, run_sizeOf' hs, Sem.run_pure, Result.andThen_ok]
                  rw [if_neg (by omega), add_none]
                · rw [Nat.sub_mul]
                  have := Nat.mul_le_mul_right s (show l ≤ len by omega)
                  omega
            · simp at hq
          · simp at hq
        · simp at hq
    · rename_i e0 x' lo' hi' h1 h2 h3 h4
      cases hs : szT P e0 with
      | none => simp [hs] at hc
      | some s =>
        simp only [hs, Option.map_some, Option.some.injEq] at hc
        subst hc
        have hxv := rv_co re h2
        simp only [evalQ] at hq
        split at hq <;> simp only [Option.some.injEq, reduceCtorEq] at hq
        rename_i r hr
        subst hq
        obtain ⟨c, g1, g2⟩ := sim_slsl (P := P) re h1 hs h3 h4 hxv hr
        exact qs_val (by simp only [execOp, Option.map_none, Sem.run_bind, g1, Result.andThen_ok, Sem.run_pure]) g2
    · rename_i x' lo' hi' h1 h2 h3 h4
      simp only [Option.some.injEq] at hc
      subst hc
      have hxv := rv_co re h2
      obtain ⟨vx, hvx⟩ : ∃ v, a.eval x = v := ⟨_, rfl⟩
      rw [hvx] at hxv
      simp only [evalQ] at hq
      split at hq
      · rename_i s hx
        split at hq
        · rename_i h hh
          split at hq <;> simp only [Option.some.injEq, reduceCtorEq] at hq
          rename_i l hl
          subst hq
          rw [hx] at hxv
          cases hxv
          obtain ⟨b1, b2, b3⟩ := run_bounds (P := P) (w := w) (len := s.size) (cap := s.size) false re h3 h4 hh hl (Nat.le_refl _)
          refine qs_val ?_ (.str _)
          simp only [execOp, hvx, Instr.sliceAt, Instr.slice, Sem.run_bind, run_underlying h1, Option.map_none, Option.isSome_none, Bool.false_eq_true, if_false, Sem.run_ite, b1, Sem.run_pure, Result.andThen_ok]
        · simp at hq
      · simp at hq
    · simp at hc
  | makeMap t r =>
    cases r with
    | some r => simp [comp0] at hc
    | none =>
      simp only [comp0, Option.some.injEq] at hc
      subst hc
      simp only [evalQ, Option.some.injEq] at hq
      subst hq
      obtain ⟨h1, h2⟩ := ext_alloc st (x := .map true []) (o := .map #[] 0) (.map true [] #[] 0 rfl (fun i a x ha hx => by simp at ha)) st.size_none
      have hn : H w.heap.size = none := by
        cases hb : H w.heap.size with
        | none => rfl
        | some x => exact absurd (st.own_lt hb) (by omega)
      refine ⟨w.heap.size, .map (some w.heap.size), _, .inl hn, ?_, h1, h2, .mp _⟩
      simp only [execOp, Instr.makeMap, Option.map_none, Sem.run_bind, run_newObj, Sem.run_pure, Result.andThen_ok, World.alloc_eq]
  | lookup t m k ok =>
    simp only [comp0] at hc
    split at hc
    · rename_i kt e0 m' k' h1 h2 h3
      have key : ∀ (q : Bool) (kd : TypeDesc) (z : AV), P.underlying kt = some kd → ((q = false ∧ ∃ x, kd = .int x) ∨ (q = true ∧ kd = .string)) → zeroT1 P e0 = some z →
          evalQ (.lookup q ok z m' k') env H = some e → QSim P F w H a ⟨dst, .lookup t m k ok, ty, pos, after, guard⟩ e := by
        intro q kd z hk hkd hz he
        have hmv := rv_co re h2
        have hkv := rv_co re h3
        obtain ⟨vm, hvm⟩ : ∃ v, a.eval m = v := ⟨_, rfl⟩
        rw [hvm] at hmv
        obtain ⟨i, zv, hi, hzv, hzone⟩ : ∃ i zv, P.info? e0 = some i ∧ i.zero = some zv ∧ Rv F w z zv := by
          unfold zeroT1 at hz
          split at hz
          · rename_i i hi
            split at hz
            · rename_i v hv
              split at hz
              · simp only [Option.some.injEq] at hz
                subst hz
                exact ⟨i, v, hi, hv, rv_ofVal1 v⟩
              · simp at hz
            · simp at hz
          · simp at hz
        have hkd' : (∃ x, kd = .int x) ∨ kd = .string := by
          rcases hkd with ⟨_, h⟩ | ⟨_, h⟩
          · exact .inl h
          · exact .inr h
        have tupR : ∀ {v : AV} {y : Value} {b : Bool}, Rv F w v y → Rv F w (.tup [v, .bool b]) (.tuple #[y, .bool b]) := fun {v y b} h => .tup _ _ rfl (fun i c v hc hv => by
          match i with
          | 0 => simp at hc hv; subst hc hv; exact h
          | 1 => simp at hc hv; subst hc hv; exact .bool b
          | i + 2 => simp at hc)
        have run : ∀ (es : Array MapEntry) (c : Option (Nat × Value)), (vm = .map none ∧ es = #[] ∨ ∃ b clock, vm = .map (some b) ∧ (getObj b).run P w = .ok (.map es clock) w) →
            Instr.findNow kd (a.eval k) es.toList 0 = some c → (Instr.lookup t vm (a.eval k) ok).run P w = (match c with
              | some (_, v) => .ok (if ok then .tuple #[v, .bool true] else v) w
              | none => .ok (if ok then .tuple #[zv, .bool false] else zv) w) := by
          intro es c hm hf
          rcases hm with ⟨rfl, rfl⟩ | ⟨b, clock, rfl, hg⟩
          · cases c with
            | none => simp only [Instr.lookup, Sem.run_bind, run_underlying h1, Result.andThen_ok, Sem.run_pure, checkKey_run hk hkd', Instr.findKey, run_underlying hk, hf, run_zero hi hzv]
            | some c => obtain ⟨j, v⟩ := c; simp only [Instr.lookup, Sem.run_bind, run_underlying h1, Result.andThen_ok, Sem.run_pure, checkKey_run hk hkd', Instr.findKey, run_underlying hk, hf]
          · cases c with
            | none => simp only [Instr.lookup, Sem.run_bind, run_underlying h1, Result.andThen_ok, Sem.run_pure, hg, checkKey_run hk hkd', Instr.findKey, run_underlying hk, hf, run_zero hi hzv]
            | some c => obtain ⟨j, v⟩ := c; simp only [Instr.lookup, Sem.run_bind, run_underlying h1, Result.andThen_ok, Sem.run_pure, hg, checkKey_run hk hkd', Instr.findKey, run_underlying hk, hf]
        simp only [evalQ] at he
        split at he <;> simp only [Option.some.injEq, reduceCtorEq] at he
        rename_i r hr
        subst he
        obtain ⟨y, hy⟩ : ∃ y, evA env m' = y := ⟨_, rfl⟩
        rw [hy] at hr hmv
        have fin : ∀ (es : Array MapEntry) (c : Option (Nat × Value)), (vm = .map none ∧ es = #[] ∨ ∃ b clock, vm = .map (some b) ∧ (getObj b).run P w = .ok (.map es clock) w) →
            Instr.findNow kd (a.eval k) es.toList 0 = some c → (∀ v, r = some v → ∃ j y, c = some (j, y) ∧ Rv F w v y) → (r = none → c = none) →
            QSim P F w H a ⟨dst, .lookup t m k ok, ty, pos, after, guard⟩ (.val (lookR ok z r)) := by
          intro es c f1 f2 f3 f4
          have f5 := run es c f1 f2
          cases r with
          | none =>
            rw [f4 rfl] at f5
            exact qs_val (c := if ok then .tuple #[zv, .bool false] else zv) (by simp only [execOp, hvm, Sem.run_bind, f5, Result.andThen_ok, Sem.run_pure]) (by
              cases ok
              · exact hzone
              · exact tupR hzone)
          | some v =>
            obtain ⟨j, y, rfl, hy⟩ := f3 v rfl
            exact qs_val (c := if ok then .tuple #[y, .bool true] else y) (by simp only [execOp, hvm, Sem.run_bind, f5, Result.andThen_ok, Sem.run_pure]) (by
              cases ok
              · exact hy
              · exact tupR hy)
        cases hmv with
        | mp b =>
          simp only [lookA] at hr
          split at hr
          · rename_i p es hH
            obtain ⟨ms, clock, ho, hg', hl, hat⟩ := map_obj (P := P) st hH
            obtain ⟨c, g1, g2⟩ := find_run hkd hkv (i := 0) hl hat hr
            exact fin ms c (.inr ⟨b, clock, rfl, hg'⟩) g1 (fun v hv => by subst hv; exact g2) (fun hv => by subst hv; exact g2)
          · simp at hr
        | nilmap =>
          simp only [lookA, Option.some.injEq] at hr
          subst hr
          exact fin #[] none (.inl ⟨rfl, rfl⟩) rfl (fun v hv => by simp at hv) (fun _ => rfl)
        | _ => simp [lookA] at hr
      split at hc
      · rename_i z k0 hz hk
        simp only [Option.some.injEq] at hc
        subst hc
        exact key false _ z hk (.inl ⟨rfl, _, rfl⟩) hz hq
      · rename_i z hz hk
        simp only [Option.some.injEq] at hc
        subst hc
        exact key true _ z hk (.inr ⟨rfl, rfl⟩) hz hq
      · simp at hc
    · simp at hc
  | extract x i =>
    obtain ⟨y, hy, rfl⟩ := co_map hc
    have hxv := rv_co re hy
    obtain ⟨vx, hvx⟩ : ∃ v, a.eval x = v := ⟨_, rfl⟩
    rw [hvx] at hxv
    simp only [evalQ] at hq
    split at hq
    · rename_i vs ht
      split at hq <;> simp only [Option.some.injEq, reduceCtorEq] at hq
      rename_i v hv
      subst hq
      rw [ht] at hxv
      cases hxv with
      | tup _ us hl h =>
        have hlt : i < us.size := by rw [← hl]; exact (List.getElem?_eq_some_iff.1 hv).1
        exact qs_val (c := us[i]) (by simp [execOp, hvx, Instr.extract, hlt]) (h i v _ hv (by simp [hlt]))
    · simp at hq
  | makeInterface t x =>
    simp only [comp0] at hc
    split at hc
    · simp at hc
    · rename_i d x' hne h1 h2
      simp only [Option.some.injEq] at hc
      subst hc
      simp only [evalQ, Option.some.injEq] at hq
      subst hq
      refine qs_val (c := .iface t (a.eval x)) ?_ (.ifc t _ _ (rv_co re h2))
      simp only [execOp, Instr.makeInterface, Sem.run_bind, run_underlying h1, Result.andThen_ok]
      cases d <;> first | (rename_i ms; exact absurd h1 (hne ms)) | simp
    · simp at hc
  | call c =>
    simp only [comp0] at hc
    unfold compCall at hc
    obtain ⟨callee, args, argTypes⟩ := c
    have res : ∀ (b : Builtin) (vs : Array Value) (r : Sem Value) (cv : Value) (w' : World), callee = .builtin b → args.map a.eval = vs →
        (∀ cs, builtin b argTypes ty cs vs = do pure (.value (← r))) → r.run P w = .ok cv w' →
        (execOp a.eval ⟨dst, .call { callee := callee, args := args, argTypes := argTypes }, ty, pos, after, guard⟩).run P w = .ok (.value cv) w' := by
      intro b vs r cv w' hb hvs hbu hr
      subst hb
      simp only [execOp, resolve, Sem.run_bind, Sem.run_pure, Result.andThen_ok, invoke, hvs, hbu, hr]
    have arr : ∀ {α : Type} {xs : Array α} {l : List α}, xs.toList = l → xs = l.toArray := fun h => by rw [← h]
    split at hc
    · rename_i hcal
      simp only at hcal hc
      split at hc
      · rename_i x t hx ht
        have e1 := arr hx
        have e2 := arr ht
        subst e1 e2
        split at hc <;> simp only [Option.some.injEq, reduceCtorEq] at hc
        · rename_i n e0 hu
          subst hc
          simp only [evalQ, evA, Option.some.injEq] at hq
          subst hq
          refine qs_val (res .len #[a.eval x] _ _ w hcal (by simp) (fun cs => rfl) ?_) (.int .i64 (n : Int))
          simp [Builtin.len_, run_underlying hu, goInt]
        · rename_i x' hu hxx
          subst hc
          have hxv := rv_co re hxx
          obtain ⟨vx, hvx⟩ : ∃ v, a.eval x = v := ⟨_, rfl⟩
          rw [hvx] at hxv
          simp only [evalQ] at hq
          split at hq <;> simp only [Option.some.injEq, reduceCtorEq] at hq
          · rename_i s _ hh
            subst hq
            rw [hh] at hxv
            cases hxv
            refine qs_val (res .len #[.string s] _ _ w hcal (by simp [hvx]) (fun cs => rfl) ?_) (.int .i64 (s.size : Int))
            simp [Builtin.len_, run_underlying hu, goInt]
          all_goals simp_all
        · rename_i e0 x' hu hxx
          subst hc
          have hxv := rv_co re hxx
          obtain ⟨vx, hvx⟩ : ∃ v, a.eval x = v := ⟨_, rfl⟩
          rw [hvx] at hxv
          have key : ∀ (ad : Option Addr) (n cap : Nat), vx = .slice ad n cap → QSim P F w H a ⟨dst, .call { callee := callee, args := [x].toArray, argTypes := [t].toArray }, ty, pos, after, guard⟩ (.val (.int .i64 (n : Int))) := by
            intro ad n cap hv
            subst hv
            refine qs_val (res .len #[.slice ad n cap] _ _ w hcal (by simp [hvx]) (fun cs => rfl) ?_) (.int .i64 (n : Int))
            simp [Builtin.len_, run_underlying hu, goInt]
          simp only [evalQ] at hq
          split at hq <;> simp only [Option.some.injEq, reduceCtorEq] at hq
          · simp_all
          · rename_i rows hh
            subst hq
            rw [hh] at hxv
            cases hxv
            · exact key _ 0 _ rfl
            · exact key _ _ _ rfl
          · rename_i hh
            subst hq
            rw [hh] at hxv
            cases hxv
            exact key _ _ _ rfl
          · rename_i hh
            subst hq
            rw [hh] at hxv
            cases hxv
            exact key _ 0 _ rfl
      · simp at hc
    · rename_i hcal
      simp only at hcal hc
      split at hc
      · rename_i x y t u hx ht
        have e1 := arr hx
        have e2 := arr ht
        subst e1 e2
        split at hc
        · rename_i e0 x' y' hu hxx hyy
          split at hc
          · rename_i i e1 z hi hu2 hz
            split at hc <;> simp only [Option.some.injEq, reduceCtorEq] at hc
            rename_i hzl
            subst hc
            simp only [evalQ] at hq
            have hs := sim_app (P := P) (ty := ty) st hu hu2 hi hz hzl.1 hzl.2 (rv_co re hxx) (rv_co re hyy) hq
            cases e with
            | val v =>
              obtain ⟨c, h1, h2⟩ := hs
              exact qs_val (res .append #[a.eval x, a.eval y] _ _ w hcal (by simp) (fun cs => rfl) h1) h2
            | new own b f =>
              obtain ⟨j, c, w', h1, h2, h3⟩ := hs
              exact ⟨j, c, w', h1, res .append #[a.eval x, a.eval y] _ _ w' hcal (by simp) (fun cs => rfl) h2, h3⟩
          · simp at hc
        · simp at hc
      · simp at hc
    · split at hc
      · split at hc
        · rename_i e0 x' y' hu hxx hyy
          cases hs : szT P e0 with
          | none => simp [hs] at hc
          | some s => simp only [hs, Option.map_some, Option.some.injEq] at hc; subst hc; simp [evalQ] at hq
        · simp at hc
      · simp at hc
    · rename_i hcal
      simp only at hcal hc
      split at hc
      · rename_i x y hx
        have e1 := arr hx
        subst e1
        split at hc <;> simp only [Option.some.injEq, reduceCtorEq] at hc
        rename_i x' y' hxx hyy
        subst hc
        have hxv := rv_co re hxx
        have hyv := rv_co re hyy
        obtain ⟨vx, hvx⟩ : ∃ v, a.eval x = v := ⟨_, rfl⟩
        obtain ⟨vy, hvy⟩ : ∃ v, a.eval y = v := ⟨_, rfl⟩
        rw [hvx] at hxv
        rw [hvy] at hyv
        simp only [evalQ] at hq
        split at hq <;> simp only [Option.some.injEq, reduceCtorEq] at hq
        rename_i k n k' m h1 h2
        subst hq
        rw [h1] at hxv
        rw [h2] at hyv
        cases hxv
        cases hyv
        refine qs_val (res .min #[.int k n, .int k' m] _ _ w hcal (by simp [hvx, hvy]) (fun cs => rfl) ?_) (.int _ _)
        simp [Builtin.min_, Builtin.min2]
      · simp at hc
    · rename_i hcal
      simp only at hcal hc
      split at hc
      · rename_i x y hx
        have e1 := arr hx
        subst e1
        split at hc <;> simp only [Option.some.injEq, reduceCtorEq] at hc
        rename_i x' y' hxx hyy
        subst hc
        have hxv := rv_co re hxx
        have hyv := rv_co re hyy
        obtain ⟨vx, hvx⟩ : ∃ v, a.eval x = v := ⟨_, rfl⟩
        obtain ⟨vy, hvy⟩ : ∃ v, a.eval y = v := ⟨_, rfl⟩
        rw [hvx] at hxv
        rw [hvy] at hyv
        simp only [evalQ] at hq
        split at hq <;> simp only [Option.some.injEq, reduceCtorEq] at hq
        rename_i k n k' m h1 h2
        subst hq
        rw [h1] at hxv
        rw [h2] at hyv
        cases hxv
        cases hyv
        refine qs_val (res .max #[.int k n, .int k' m] _ _ w hcal (by simp [hvx, hvy]) (fun cs => rfl) ?_) (.int _ _)
        simp [Builtin.max_, Builtin.max2]
      · simp at hc
    · split at hc <;> simp only [Option.some.injEq, reduceCtorEq] at hc
      subst hc
      simp [evalQ] at hq
    · simp at hc
  | store t x y =>
    simp only [comp0] at hc
    split at hc <;> simp only [Option.some.injEq, reduceCtorEq] at hc
    subst hc
    simp [evalQ] at hq
  | mapUpdate t m k x =>
    simp only [comp0] at hc
    split at hc
    · split at hc <;> simp only [Option.some.injEq, reduceCtorEq] at hc <;> subst hc <;> simp [evalQ] at hq
    · simp at hc
  | _ => simp [comp0] at hc

end Go.DL
