/- Operations on two states that differ by names: all that yield a value or a block. No statement of the seed is proved here. -/
import Derived.Test.YtdbikamciedfdaaX3
namespace Go.DL
section
variable {D : Nat → Option XFn} {Y : Nat → Option YI} {r : Nat → Option Nat} {e env : Env} {h : XH} {H : Hp}

theorem lookA_rn (sh : SH D Y r h H) {q : Bool} {k k' m m' : AV} {o : Option AV} (hk : Rn D Y r k k') (hm : Rn D Y r m m') (hl : lookA q (hpOf h) k m = some o) :
    ∃ o', lookA q H k' m' = some o' ∧ RnOp D Y r o o' := by
  unfold lookA at hl
  split at hl
  · rename_i b
    split at hl
    · rename_i w es hb
      obtain ⟨c, rfl, hr⟩ := rn_mp hm
      obtain ⟨g, es', _, h1, h2, _⟩ := sh.map hr hb
      simp only [lookA, h1]
      exact findA_rn hk es es' o h2 hl
    · simp at hl
  · rw [rn_nilmap hm]
    simp only [Option.some.injEq] at hl; subst hl
    exact ⟨none, rfl, trivial⟩
  · simp at hl

theorem lookR_rn {ok : Bool} {z : AV} (hz : okA z = true) {o o' : Option AV} (ho : RnOp D Y r o o') : Rn D Y r (lookR ok z o) (lookR ok z o') := by
  have two : ∀ {v v' : AV} (b : Bool), Rn D Y r v v' → Rn D Y r (.tup [v, .bool b]) (.tup [v', .bool b]) := fun b h => by
    have := RnL.cons h (RnL.cons (.bool b) RnL.nil)
    exact .tup _ _ this.1 this.2
  cases o with
  | none => cases o' with
    | none => unfold lookR; simp only; split; exact two false (okA_rn z hz); exact okA_rn z hz
    | some v' => exact ho.elim
  | some v => cases o' with
    | none => exact ho.elim
    | some v' => unfold lookR; simp only; split; exact two true ho; exact ho

theorem flatten_rep {z z' : List AV} (hz : RnL D Y r z z') : ∀ n : Nat, RnL D Y r (List.replicate n z).flatten (List.replicate n z').flatten
  | 0 => RnL.nil
  | n + 1 => by simpa [List.replicate_succ] using hz.append (flatten_rep hz n)
theorem grL_append {xs ys : List AV} (h1 : grL xs = true) (h2 : grL ys = true) : grL (xs ++ ys) = true := grL_of fun x hx => by
  rcases List.mem_append.1 hx with hx | hx
  · exact grL_mem h1 x hx
  · exact grL_mem h2 x hx
theorem grL_splice {z cs : List AV} {o : Nat} (h1 : grL z = true) (h2 : grL cs = true) : grL (splice z o cs) = true := grL_of fun x hx => by
  unfold splice at hx
  rcases List.mem_append.1 hx with hx | hx
  · rcases List.mem_append.1 hx with hx | hx
    · exact grL_mem h1 x (List.mem_of_mem_take hx)
    · exact grL_mem h2 x hx
  · exact grL_mem h1 x (List.mem_of_mem_drop hx)
theorem cellsOf_gr {v : AV} {cs : List AV} (hc : cellsOf v = some cs) (hg : grA v = true) : grL cs = true := by
  cases v <;> simp only [cellsOf, Option.some.injEq, reduceCtorEq] at hc <;> subst hc <;> first | (simp [grA] at hg; done) | (simpa [grA] using hg) | simp_all [grL]
theorem fillA_gr : ∀ (ps : List (Nat × Nat × AO)) (z cs : List AV), (ps.all fun p => grA (evA e p.2.2)) = true → grL z = true → fillA z (ps.map fun p => (p.1, p.2.1, evA e p.2.2)) = some cs → grL cs = true := by
  intro ps
  induction ps with
  | nil => intro z cs _ hz hf; simp [fillA] at hf; subst hf; exact hz
  | cons p ps ih =>
    intro z cs hok hz hf
    simp only [List.all_cons, Bool.and_eq_true] at hok
    simp only [List.map_cons, fillA] at hf
    split at hf
    · rename_i vs hvs
      split at hf
      · exact ih _ _ hok.2 (grL_splice hz (cellsOf_gr hvs hok.1)) hf
      · simp at hf
    · simp at hf
theorem grL_rep {z : List AV} (hz : grL z = true) (n : Nat) : grL (List.replicate n z).flatten = true := grL_of fun x hx => by
  obtain ⟨row, h1, h2⟩ := List.mem_flatten.1 hx
  rw [List.mem_replicate] at h1
  rw [h1.2] at h2
  exact grL_mem hz x h2

theorem appA_rn (sh : SH D Y r h H) {s n : Nat} {x x' y y' : AV} {eff : Eff} (hx : Rn D Y r x x') (hy : Rn D Y r y y') (ha : appA s n (hpOf h) x y = some eff) :
    ∃ eff', appA s n H x' y' = some eff' ∧ RnE D Y r h (flagH h x && flagH h y) eff eff' := by
  unfold appA at ha
  split at ha
  · simp at ha
  · rename_i m new hs
    obtain ⟨new', k1, k2, k3⟩ := srcA_rn sh hy hs
    split at ha
    · rw [rn_nilsl hx]
      split at ha
      · rename_i hc
        split at ha <;> simp only [Option.some.injEq] at ha <;> subst ha
        · rename_i h0
          subst h0
          refine ⟨_, by simp only [appA, k1]; rw [if_pos hc]; rfl, .val _ _ .nilsl⟩
        · rename_i h0
          refine ⟨_, by simp only [appA, k1]; rw [if_pos hc, if_neg h0]; rfl, .new none new new' _ (fun q b c hq => .sl _ _ _ _ _ hq) k2 (fun hg => ?_) (by simp)⟩
          simp only [Bool.and_eq_true] at hg
          exact k3 hg.2
      · simp at ha
    · rename_i b s' len
      obtain ⟨c, rfl, hr⟩ := rn_sl hx
      split at ha
      · rename_i cs hb
        obtain ⟨g, cs', h0, h1, h2, h3⟩ := sh.cells hr hb
        split at ha
        · rename_i hc
          simp only [Option.some.injEq] at ha
          subst ha
          refine ⟨_, by simp only [appA, k1, h1]; rw [if_pos (by rw [← h2.1]; exact hc)]; simp only [Option.bind_some, hr], .new (some b) (cs ++ new) (cs' ++ new') _ (fun q b c hq => .sl _ _ _ _ _ hq) (h2.append k2) (fun hg => ?_) (fun c hc' => ?_)⟩
          · simp only [Bool.and_eq_true, flagH, h0] at hg
            exact grL_append (h3 hg.1) (k3 hg.2)
          · simp only [Option.some.injEq] at hc'
            subst hc'
            exact ⟨c, g, cs, hr, h0⟩
        · simp at ha
      · simp at ha
    · simp at ha

theorem evalQ_rn (sh : SH D Y r h H) (re : ∀ j, Rn D Y r (e j) (env j)) {op : DOp} (hok : okOp op = true) {eff : Eff} (he : evalQ op e (hpOf h) = some eff) :
    ∃ eff', evalQ op env H = some eff' ∧ RnE D Y r h (flagNew op e h) eff eff' := by
  cases op with
  | mv x =>
    simp only [evalQ, Option.some.injEq] at he; subst he
    exact ⟨_, rfl, .val _ _ (rn_evA re hok)⟩
  | pick c a b =>
    simp only [okOp, Bool.and_eq_true] at hok
    simp only [evalQ] at he
    split at he <;> simp only [Option.some.injEq, reduceCtorEq] at he
    rename_i t ht
    subst he
    have hc := rn_evA re hok.1.1
    rw [ht] at hc
    refine ⟨_, by simp only [evalQ, rn_bool hc]; rfl, .val _ _ ?_⟩
    cases t
    · exact rn_evA re hok.2
    · exact rn_evA re hok.1.2
  | alloc z =>
    simp only [evalQ, Option.some.injEq] at he; subst he
    exact ⟨_, rfl, .new none z z _ (fun q b c hq => .pt _ _ _ hq) (okL_rn z hok) (fun hg => hg) (by simp)⟩
  | box x =>
    simp only [evalQ] at he
    split at he <;> simp only [Option.some.injEq, reduceCtorEq] at he
    rename_i cs hc
    subst he
    obtain ⟨cs', h1, h2⟩ := cellsOf_rn (rn_evA re hok) hc
    exact ⟨_, by simp only [evalQ, h1]; rfl, .new none cs cs' _ (fun q b c hq => .pt _ _ _ hq) h2 (fun hg => cellsOf_gr hc hg) (by simp)⟩
  | build z ps =>
    simp only [okOp, Bool.and_eq_true] at hok
    simp only [evalQ] at he
    split at he <;> simp only [Option.some.injEq, reduceCtorEq] at he
    rename_i cs hc
    subst he
    obtain ⟨cs', h1, h2⟩ := fillA_rn (parts := ps) re ps z z cs hok.2 (okL_rn z hok.1) hc
    exact ⟨_, by simp only [evalQ, h1], .val _ _ (.agg _ _ h2.1 h2.2)⟩
  | bslice s len z ps =>
    simp only [okOp, Bool.and_eq_true] at hok
    simp only [evalQ] at he
    split at he <;> simp only [Option.some.injEq, reduceCtorEq] at he
    rename_i cs hc
    subst he
    obtain ⟨cs', h1, h2⟩ := fillA_rn (parts := ps) re ps _ _ cs hok.2 (flatten_rep (okL_rn z hok.1) len) hc
    refine ⟨_, by simp only [evalQ, h1]; rfl, .new none cs cs' _ (fun q b c hq => .sl _ _ _ _ _ hq) h2 (fun hg => ?_) (by simp)⟩
    simp only [flagNew, Bool.and_eq_true] at hg
    exact fillA_gr ps _ _ hg.2 (grL_rep hg.1 len) hc
  | load g n x =>
    simp only [evalQ] at he
    split at he <;> simp only [Option.some.injEq, reduceCtorEq] at he
    rename_i v hv
    subst he
    obtain ⟨v', h1, h2⟩ := loadA_rn sh (rn_evA re hok) hv
    exact ⟨_, by simp only [evalQ, h1], .val _ _ h2⟩
  | nilck x =>
    have hx := rn_evA re (x := x) hok
    simp only [evalQ] at he
    split at he <;> simp only [Option.some.injEq, reduceCtorEq] at he <;> rename_i h1 <;> subst he <;> rw [h1] at hx
    · obtain ⟨c, e1, hr⟩ := rn_pt hx
      exact ⟨_, by simp only [evalQ, e1], .val _ _ (.pt _ _ _ hr)⟩
    · exact ⟨_, by simp only [evalQ, (rn_fp hx).1], .val _ _ (.fp _ _ _ (rn_fp hx).2)⟩
  | bin op x y =>
    simp only [okOp, Bool.and_eq_true] at hok
    simp only [evalQ] at he
    split at he <;> simp only [Option.some.injEq, reduceCtorEq] at he
    rename_i v hv
    subst he
    obtain ⟨h1, h2⟩ := binA_rn (rn_evA re hok.1) (rn_evA re hok.2) hv
    exact ⟨_, by simp only [evalQ, h1], .val _ _ h2⟩
  | binb neg x y =>
    simp only [okOp, Bool.and_eq_true] at hok
    have hx := rn_evA re hok.1
    have hy := rn_evA re hok.2
    simp only [evalQ] at he
    split at he <;> simp only [Option.some.injEq, reduceCtorEq] at he
    rename_i a b h1 h2
    subst he
    rw [h1] at hx; rw [h2] at hy
    exact ⟨_, by simp only [evalQ, rn_bool hx, rn_bool hy], .val _ _ (.bool _)⟩
  | eqag neg ks x y =>
    simp only [okOp, Bool.and_eq_true] at hok
    have hx := rn_evA re hok.1
    have hy := rn_evA re hok.2
    simp only [evalQ] at he
    split at he
    · rename_i cs ds h1 h2
      rw [h1] at hx; rw [h2] at hy
      obtain ⟨cs', e1, k1⟩ := rn_agg hx
      obtain ⟨ds', e2, k2⟩ := rn_agg hy
      split at he <;> simp only [Option.some.injEq, reduceCtorEq] at he
      rename_i b hb
      subst he
      exact ⟨_, by simp only [evalQ, e1, e2, cellsEq_rn _ _ _ _ _ _ k1 k2 hb], .val _ _ (.bool _)⟩
    · simp at he
  | eqn kd neg x y =>
    simp only [okOp, Bool.and_eq_true] at hok
    simp only [evalQ] at he
    split at he <;> simp only [Option.some.injEq, reduceCtorEq] at he
    rename_i b hb
    subst he
    exact ⟨_, by simp only [evalQ, eqnA_rn (rn_evA re hok.1) (rn_evA re hok.2) hb], .val _ _ (.bool _)⟩
  | not x =>
    have hx := rn_evA re (x := x) hok
    simp only [evalQ] at he
    split at he <;> simp only [Option.some.injEq, reduceCtorEq] at he
    rename_i b h1
    subst he
    rw [h1] at hx
    exact ⟨_, by simp only [evalQ, rn_bool hx], .val _ _ (.bool _)⟩
  | neg x =>
    have hx := rn_evA re (x := x) hok
    simp only [evalQ] at he
    split at he <;> simp only [Option.some.injEq, reduceCtorEq] at he
    rename_i k n h1
    subst he
    rw [h1] at hx
    exact ⟨_, by simp only [evalQ, rn_int hx], .val _ _ (.int ..)⟩
  | conv k x =>
    have hx := rn_evA re (x := x) hok
    simp only [evalQ] at he
    split at he <;> simp only [Option.some.injEq, reduceCtorEq] at he
    rename_i k n h1
    subst he
    rw [h1] at hx
    exact ⟨_, by simp only [evalQ, rn_int hx], .val _ _ (.int ..)⟩
  | mkf f c1 c2 =>
    simp only [okOp, Bool.and_eq_true] at hok
    simp only [evalQ, Option.some.injEq] at he; subst he
    have h1 := rn_args re hok.2.1
    have h2 := rn_args re hok.2.2
    exact ⟨_, rfl, .val _ _ (.fn f _ _ _ _ (fun l e => by subst e; simp at hok) h1.1 h1.2 h2.1 h2.2)⟩
  | fld off x =>
    have hx := rn_evA re (x := x) hok
    simp only [evalQ] at he
    split at he <;> simp only [Option.some.injEq, reduceCtorEq] at he <;> rename_i h1 <;> subst he <;> rw [h1] at hx
    · obtain ⟨c, e1, hr⟩ := rn_pt hx
      exact ⟨_, by simp only [evalQ, e1], .val _ _ (.pt _ _ _ hr)⟩
    · exact ⟨_, by simp only [evalQ, (rn_fp hx).1], .val _ _ (.fp _ _ _ (rn_fp hx).2)⟩
  | fldv agg off n x =>
    have hx := rn_evA re (x := x) hok
    simp only [evalQ] at he
    split at he
    · rename_i cs h1
      rw [h1] at hx
      obtain ⟨cs', e1, k1⟩ := rn_agg hx
      split at he <;> simp only [Option.some.injEq, reduceCtorEq] at he
      rename_i v hv
      subst he
      obtain ⟨v', h2, h3⟩ := readA_rn k1 hv
      exact ⟨_, by simp only [evalQ, e1, h2], .val _ _ h3⟩
    · simp at he
  | idxa len s x i =>
    simp only [okOp, Bool.and_eq_true] at hok
    have hx := rn_evA re hok.1
    have hi := rn_evA re hok.2
    simp only [evalQ] at he
    split at he
    · rename_i b o k n h1 h2
      rw [h1] at hx; rw [h2] at hi
      split at he <;> simp only [Option.some.injEq, reduceCtorEq] at he
      rename_i hc
      subst he
      obtain ⟨c, e1, hr⟩ := rn_pt hx
      exact ⟨_, by simp only [evalQ, e1, rn_int hi]; rw [if_pos hc], .val _ _ (.pt _ _ _ hr)⟩
    · rename_i rows j o k n h1 h2
      rw [h1] at hx; rw [h2] at hi
      split at he <;> simp only [Option.some.injEq, reduceCtorEq] at he
      rename_i hc
      subst he
      exact ⟨_, by simp only [evalQ, (rn_fp hx).1, rn_int hi]; rw [if_pos hc], .val _ _ (.fp _ _ _ (rn_fp hx).2)⟩
    · simp at he
  | idx s x i =>
    simp only [okOp, Bool.and_eq_true] at hok
    have hx := rn_evA re hok.1
    have hi := rn_evA re hok.2
    simp only [evalQ] at he
    split at he
    · rename_i b o s' len k n h1 h2
      rw [h1] at hx; rw [h2] at hi
      split at he <;> simp only [Option.some.injEq, reduceCtorEq] at he
      rename_i hc
      subst he
      obtain ⟨c, e1, hr⟩ := rn_sl hx
      exact ⟨_, by simp only [evalQ, e1, rn_int hi]; rw [if_pos hc], .val _ _ (.pt _ _ _ hr)⟩
    · rename_i rows k n h1 h2
      rw [h1] at hx; rw [h2] at hi
      split at he <;> simp only [Option.some.injEq, reduceCtorEq] at he
      rename_i hc
      subst he
      exact ⟨_, by simp only [evalQ, (rn_fs hx).1, rn_int hi]; rw [if_pos hc], .val _ _ (.fp _ _ _ (rn_fs hx).2)⟩
    · simp at he
  | idxv agg len s x i =>
    simp only [okOp, Bool.and_eq_true] at hok
    have hx := rn_evA re hok.1
    have hi := rn_evA re hok.2
    simp only [evalQ] at he
    split at he
    · rename_i cs k n h1 h2
      rw [h1] at hx; rw [h2] at hi
      obtain ⟨cs', e1, k1⟩ := rn_agg hx
      split at he
      · rename_i hc
        split at he <;> simp only [Option.some.injEq, reduceCtorEq] at he
        rename_i v hv
        subst he
        obtain ⟨v', h3, h4⟩ := readA_rn k1 hv
        exact ⟨_, by simp only [evalQ, e1, rn_int hi]; rw [if_pos hc, h3], .val _ _ h4⟩
      · simp at he
    · simp at he
  | idxs x i =>
    simp only [okOp, Bool.and_eq_true] at hok
    have hx := rn_evA re hok.1
    have hi := rn_evA re hok.2
    simp only [evalQ] at he
    split at he
    · rename_i t k n h1 h2
      rw [h1] at hx; rw [h2] at hi
      split at he <;> simp only [Option.some.injEq, reduceCtorEq] at he
      rename_i hc
      subst he
      exact ⟨_, by simp only [evalQ, rn_str hx, rn_int hi]; rw [if_pos hc], .val _ _ (.int ..)⟩
    · simp at he
  | mksl s bytes z l c =>
    simp only [okOp, Bool.and_eq_true] at hok
    have hl := rn_evA re hok.2.1
    have hc := rn_evA re hok.2.2
    simp only [evalQ] at he
    split at he
    · rename_i l c h1 h2
      rw [h1] at hl; rw [h2] at hc
      split at he <;> simp only [Option.some.injEq, reduceCtorEq] at he
      rename_i hcond
      subst he
      exact ⟨_, by simp only [evalQ, rn_int hl, rn_int hc]; rw [if_pos hcond]; rfl, .new none _ _ _ (fun q b c hq => .sl _ _ _ _ _ hq) (flatten_rep (okL_rn z hok.1) _) (fun hg => grL_rep (by simpa [flagNew] using hg) _) (by simp)⟩
    · simp at he
  | slarr len s x lo hi =>
    simp only [okOp, Bool.and_eq_true] at hok
    have hx := rn_evA re hok.1
    simp only [evalQ] at he
    split at he
    · rename_i b o h1
      rw [h1] at hx
      obtain ⟨c, e1, hr⟩ := rn_pt hx
      split at he
      · rename_i w cs m hb hm
        obtain ⟨g, cs', h0, k1, k2, k3⟩ := sh.cells hr hb
        split at he
        · rename_i l hl
          split at he <;> simp only [Option.some.injEq, reduceCtorEq] at he
          rename_i hc
          subst he
          exact ⟨_, by simp only [evalQ, e1, k1, boundA_rn re hok.2.2 hm, boundA_rn re hok.2.1 hl]; rw [if_pos (by rw [← k2.1]; exact hc)], .val _ _ (.sl _ _ _ _ _ hr)⟩
        · simp at he
      · simp at he
    · simp at he
  | slsl s x lo hi =>
    simp only [okOp, Bool.and_eq_true] at hok
    simp only [evalQ] at he
    split at he <;> simp only [Option.some.injEq, reduceCtorEq] at he
    rename_i v hv
    subst he
    obtain ⟨v', h1, h2⟩ := slslA_rn re hok.2.1 hok.2.2 (rn_evA re hok.1) hv
    exact ⟨_, by simp only [evalQ, h1], .val _ _ h2⟩
  | slstr x lo hi =>
    simp only [okOp, Bool.and_eq_true] at hok
    have hx := rn_evA re hok.1
    simp only [evalQ] at he
    split at he
    · rename_i t h1
      rw [h1] at hx
      split at he
      · rename_i m hm
        split at he <;> simp only [Option.some.injEq, reduceCtorEq] at he
        rename_i l hl
        subst he
        exact ⟨_, by simp only [evalQ, rn_str hx, boundA_rn re hok.2.2 hm, boundA_rn re hok.2.1 hl], .val _ _ (.str _)⟩
      · simp at he
    · simp at he
  | mkmap =>
    simp only [evalQ, Option.some.injEq] at he; subst he
    exact ⟨_, rfl, .newMap _ (fun q b c hq => .mp _ _ hq)⟩
  | lookup q ok z m k =>
    simp only [okOp, Bool.and_eq_true] at hok
    simp only [evalQ] at he
    split at he <;> simp only [Option.some.injEq, reduceCtorEq] at he
    rename_i o ho
    subst he
    obtain ⟨o', h1, h2⟩ := lookA_rn sh (rn_evA re hok.2.2) (rn_evA re hok.2.1) ho
    exact ⟨_, by simp only [evalQ, h1], .val _ _ (lookR_rn hok.1 h2)⟩
  | ext x i =>
    have hx := rn_evA re (x := x) hok
    simp only [evalQ] at he
    split at he
    · rename_i vs h1
      rw [h1] at hx
      obtain ⟨vs', e1, k1⟩ := rn_tup hx
      split at he <;> simp only [Option.some.injEq, reduceCtorEq] at he
      rename_i v hv
      subst he
      obtain ⟨v', h2, h3⟩ := k1.get hv
      exact ⟨_, by simp only [evalQ, e1, h2], .val _ _ h3⟩
    · simp at he
  | len q x =>
    have hx := rn_evA re (x := x) hok
    simp only [evalQ] at he
    split at he <;> simp only [Option.some.injEq, reduceCtorEq] at he <;> rename_i h1 <;> subst he <;> rw [h1] at hx
    · exact ⟨_, by simp only [evalQ, rn_str hx], .val _ _ (.int ..)⟩
    · exact ⟨_, by simp only [evalQ, (rn_fs hx).1], .val _ _ (.int ..)⟩
    · obtain ⟨c, e1, hr⟩ := rn_sl hx
      exact ⟨_, by simp only [evalQ, e1], .val _ _ (.int ..)⟩
    · exact ⟨_, by simp only [evalQ, rn_nilsl hx], .val _ _ (.int ..)⟩
  | app s n x y =>
    simp only [okOp, Bool.and_eq_true] at hok
    simp only [evalQ] at he ⊢
    obtain ⟨eff', h1, h2⟩ := appA_rn sh (rn_evA re hok.1) (rn_evA re hok.2) he
    exact ⟨eff', h1, h2⟩
  | mm mx x y =>
    simp only [okOp, Bool.and_eq_true] at hok
    have hx := rn_evA re hok.1
    have hy := rn_evA re hok.2
    simp only [evalQ] at he
    split at he <;> simp only [Option.some.injEq, reduceCtorEq] at he
    rename_i k a k' b h1 h2
    subst he
    rw [h1] at hx; rw [h2] at hy
    exact ⟨_, by simp only [evalQ, rn_int hx, rn_int hy], .val _ _ (.int ..)⟩
  | mkifc t x =>
    simp only [evalQ, Option.some.injEq] at he; subst he
    exact ⟨_, rfl, .val _ _ (.ifc t _ _ (rn_evA re hok))⟩
  | bytes x =>
    have hx := rn_evA re (x := x) hok
    simp only [evalQ] at he
    split at he <;> simp only [Option.some.injEq, reduceCtorEq] at he
    rename_i t h1
    subst he
    rw [h1] at hx
    have hg : ∀ x ∈ (t.data.toList.map fun b => AV.int .u8 (b.toNat : Int)), Gd x := fun x hx => by
      obtain ⟨b, _, rfl⟩ := List.mem_map.1 hx
      exact .int ..
    exact ⟨_, by simp only [evalQ, rn_str hx]; rfl, .new none _ _ _ (fun q b c hq => .sl _ _ _ _ _ hq) (RnL.self fun x hx => (hg x hx).rn) (fun _ => grL_of fun x hx => by
      obtain ⟨b, _, rfl⟩ := List.mem_map.1 hx
      rfl) (by simp)⟩
  | stuck => simp [evalQ] at he
  | store n p x l => simp [evalQ] at he
  | copy s x y => simp [evalQ] at he
  | mapup q m k x => simp [evalQ] at he
  | callf q f xs l => simp [evalQ] at he
end
end Go.DL
