/- Parts of a proof, joined: K42 K43. No statement of the seed is proved here. -/
import Derived.Test.YtdbikamciedfdaaV5
set_option linter.unusedSimpArgs false
set_option linter.unusedVariables false
set_option linter.unusedSectionVars false
namespace Go.Proofs.Ytdbikamciedfdaa
open Go Go.DL
set_option maxRecDepth 100000
set_option maxHeartbeats 1000000

/-- A flow as a plant may have it. -/
structure OkF (n : Nat) (x : Fl) : Prop where
  fr : -1 ≤ x.fr ∧ x.fr < n
  to : -1 ≤ x.to ∧ x.to < n
  ne : x.fr ≠ x.to
  ma : x.me = true → ∀ k, 0 ≤ cmp k x.m ∧ cmp k x.m ≤ 1000000000
theorem within_of {x : Ms} (h : ∀ k, 0 ≤ cmp k x ∧ cmp k x ≤ 1000000000) : x.within 0 1000000000 = true := by
  have h0 := h 0
  have h1 := h 1
  have h2 := h 2
  have h3 := h 3
  simp only [cmp] at h0 h1 h2 h3
  simp only [Ms.within, btw, Bool.and_eq_true, decide_eq_true_eq]
  omega
theorem chkF_of {n : Nat} (hn : n ≤ 8) {x : Fl} (h : OkF n x) : chkF n x = 0 := by
  obtain ⟨⟨a, b⟩, ⟨c, d⟩, e, g⟩ := h
  have w : wr ((n : Int) - 1) = (n : Int) - 1 := wrap_ok (by omega) (by omega)
  have h1 : btw (-1) x.fr (wr ((n : Int) - 1)) = true := by rw [w]; simp only [btw, Bool.and_eq_true, decide_eq_true_eq]; omega
  have h2 : btw (-1) x.to (wr ((n : Int) - 1)) = true := by rw [w]; simp only [btw, Bool.and_eq_true, decide_eq_true_eq]; omega
  unfold chkF
  rw [h1, h2, if_neg e]
  cases hm : x.me with
  | false => rfl
  | true => rw [within_of (g hm)]; rfl
theorem firstE_of {u : Int} : ∀ {l : List Fl}, (∀ x ∈ l, chkF u x = 0) → firstE u l = 0
  | [], _ => rfl
  | x :: r, h => by
    rw [firstE, if_pos (h x (by simp))]
    exact firstE_of fun y hy => h y (by simp [hy])
theorem checkP_of {n : Nat} (h1 : 1 ≤ n) (hn : n ≤ 8) {l : List Fl} (hl : l.length ≤ 20) (h : ∀ x ∈ l, OkF n x) : checkP n l = 0 := by
  have hb : btw 1 (n : Int) 8 = true := by simp only [btw, Bool.and_eq_true, decide_eq_true_eq]; omega
  unfold checkP
  rw [hb, if_pos rfl, if_neg (by omega)]
  exact firstE_of fun x hx => chkF_of hn (h x hx)
/-! ### What is left -/
def netT (m : Mi) (u k : Nat) : Nat → Int
  | 0 => 0
  | i + 1 => match m.ends[i]? with
    | some e => netT m u k i + (bi (decide (e2I m e = u)) - bi (decide (e1I m e = u))) * mval m i k
    | none => netT m u k i
theorem addK_at {t : Int} (ht : -1 ≤ t) {k k' u : Nat} (hk : k < 4) (hk' : k' < 4) (v : Int) (r : Nat → Int) : addK t k v r (u * 4 + k') = if t = u ∧ k = k' then wr (r (u * 4 + k') + v) else r (u * 4 + k') := by
  unfold addK
  by_cases h0 : 0 ≤ t
  · rw [if_pos h0]
    unfold upN
    by_cases h : t = u ∧ k = k'
    · rw [if_pos h, if_pos (by omega), show t.toNat * 4 + k = u * 4 + k' by omega]
    · rw [if_neg h, if_neg (by omega)]
  · rw [if_neg h0, if_neg (by omega)]
theorem subK_at {t : Int} (ht : -1 ≤ t) {k k' u : Nat} (hk : k < 4) (hk' : k' < 4) (v : Int) (r : Nat → Int) : subK t k v r (u * 4 + k') = if t = u ∧ k = k' then wr (r (u * 4 + k') - v) else r (u * 4 + k') := by
  unfold subK
  by_cases h0 : 0 ≤ t
  · rw [if_pos h0]
    unfold upN
    by_cases h : t = u ∧ k = k'
    · rw [if_pos h, if_pos (by omega), show t.toNat * 4 + k = u * 4 + k' by omega]
    · rw [if_neg h, if_neg (by omega)]
  · rw [if_neg h0, if_neg (by omega)]
theorem stepK_at {fr to : Int} (hf : -1 ≤ fr) (ht : -1 ≤ to) (m : Mi) (i : Nat) {k k' u : Nat} (hk : k < 4) (hk' : k' < 4) (r : Nat → Int) :
    stepK fr to m i k r (u * 4 + k') = if k = k' then (if fr = u then wr ((if to = u then wr (r (u * 4 + k') + mval m i k) else r (u * 4 + k')) - mval m i k) else (if to = u then wr (r (u * 4 + k') + mval m i k) else r (u * 4 + k'))) else r (u * 4 + k') := by
  unfold stepK
  rw [subK_at hf hk hk', addK_at ht hk hk']
  by_cases h : k = k'
  · subst h; simp
  · simp [h]
theorem net_bd {m : Mi} (h : m.Ok) (u k : Nat) : ∀ i : Nat, -(255 * (i : Int)) ≤ netT m u k i ∧ netT m u k i ≤ 255 * (i : Int)
  | 0 => by simp [netT]
  | i + 1 => by
    have ih := net_bd h u k i
    have b := mval_bd h i k
    rw [netT]
    split
    · unfold bi
      split <;> split <;> simp only [Int.sub_self, Int.zero_mul, Int.sub_zero, Int.one_mul, Int.zero_sub] <;> omega
    · omega
theorem rsT_net {m : Mi} (h : m.Ok) (u : Nat) {k : Nat} (hk : k < 4) : ∀ i : Nat, i ≤ 6 → rsT m i (u * 4 + k) = netT m u k i
  | 0, _ => rfl
  | i + 1, hi => by
    have ih := rsT_net h u hk i (by omega)
    have nb := net_bd h u k i
    rw [rsT, netT]
    cases he : m.ends[i]? with
    | none => exact ih
    | some e =>
      have hm := List.mem_of_getElem? he
      obtain ⟨h1, h2⟩ := h.ends e hm
      obtain ⟨b1, b2, b3, b4, b5⟩ := ends_bd (m := m) h1 h2
      have b := mval_bd h i k
      have key : (if e1I m e = u then wr ((if e2I m e = u then wr (netT m u k i + mval m i k) else netT m u k i) - mval m i k) else (if e2I m e = u then wr (netT m u k i + mval m i k) else netT m u k i)) = netT m u k i + (bi (decide (e2I m e = u)) - bi (decide (e1I m e = u))) * mval m i k := by
        by_cases c1 : e1I m e = u
        · have c2 : ¬ e2I m e = u := fun hc => b5 (by rw [c1, hc])
          rw [if_pos c1, if_neg c2, decide_eq_true c1, decide_eq_false c2, show wr (netT m u k i - mval m i k) = netT m u k i - mval m i k from wrap_ok (by omega) (by omega)]
          simp [bi]
          omega
        · rw [if_neg c1, decide_eq_false c1]
          by_cases c2 : e2I m e = u
          · rw [if_pos c2, decide_eq_true c2, show wr (netT m u k i + mval m i k) = netT m u k i + mval m i k from wrap_ok (by omega) (by omega)]
            simp [bi]
          · rw [if_neg c2, decide_eq_false c2]
            simp [bi]
      simp only []
      rw [← key, ← ih]
      match k, hk with
      | 0, hk => simp only [stepK_at b1 b3 m i (show 3 < 4 by decide) hk, stepK_at b1 b3 m i (show 2 < 4 by decide) hk, stepK_at b1 b3 m i (show 1 < 4 by decide) hk, stepK_at b1 b3 m i (show 0 < 4 by decide) hk]; simp
      | 1, hk => simp only [stepK_at b1 b3 m i (show 3 < 4 by decide) hk, stepK_at b1 b3 m i (show 2 < 4 by decide) hk, stepK_at b1 b3 m i (show 1 < 4 by decide) hk, stepK_at b1 b3 m i (show 0 < 4 by decide) hk]; simp
      | 2, hk => simp only [stepK_at b1 b3 m i (show 3 < 4 by decide) hk, stepK_at b1 b3 m i (show 2 < 4 by decide) hk, stepK_at b1 b3 m i (show 1 < 4 by decide) hk, stepK_at b1 b3 m i (show 0 < 4 by decide) hk]; simp
      | 3, hk => simp only [stepK_at b1 b3 m i (show 3 < 4 by decide) hk, stepK_at b1 b3 m i (show 2 < 4 by decide) hk, stepK_at b1 b3 m i (show 1 < 4 by decide) hk, stepK_at b1 b3 m i (show 0 < 4 by decide) hk]; simp
theorem cmp_4 (k : Nat) (m : Ms) : cmp k m = m.a ∨ cmp k m = m.b ∨ cmp k m = m.c ∨ cmp k m = m.d := by
  unfold cmp
  split
  · exact .inl rfl
  · exact .inr (.inl rfl)
  · exact .inr (.inr (.inl rfl))
  · exact .inr (.inr (.inr rfl))
/-- What is made: as a plant may have it, and small. -/
structure OkM (n : Nat) (x : Fl) : Prop where
  fr : -1 ≤ x.fr ∧ x.fr < n
  to : -1 ≤ x.to ∧ x.to < n
  ne : x.fr ≠ x.to
  ma : ∀ k, 0 ≤ cmp k x.m ∧ cmp k x.m ≤ 2000
theorem cmp_mass4 {m : Mi} (h : m.Ok) (i k : Nat) : 0 ≤ cmp k (mass4 m i) ∧ cmp k (mass4 m i) ≤ 2000 := by
  have := mval_bd h i 0
  have := mval_bd h i 1
  have := mval_bd h i 2
  have := mval_bd h i 3
  rcases cmp_4 k (mass4 m i) with e | e | e | e <;> rw [e] <;> unfold mass4 <;> dsimp only <;> omega
theorem cmp_zero (k : Nat) : cmp k Ms.zero = 0 := by unfold cmp; split <;> rfl
theorem flT_okM {m : Mi} (h : m.Ok) : ∀ i, i ≤ 6 → ∀ x ∈ flT m i, OkM m.n x
  | 0, _, x, hx => by simp [flT] at hx
  | i + 1, hi, x, hx => by
    rw [flT] at hx
    cases he : m.ends[i]? with
    | none => rw [he] at hx; exact flT_okM h i (by omega) x hx
    | some e =>
      rw [he] at hx
      rcases List.mem_append.1 hx with hx | hx
      · exact flT_okM h i (by omega) x hx
      · simp only [List.mem_cons, List.not_mem_nil, or_false] at hx
        obtain ⟨h1, h2⟩ := h.ends e (List.mem_of_getElem? he)
        obtain ⟨b1, b2, b3, b4, b5⟩ := ends_bd (m := m) h1 h2
        subst hx
        refine ⟨⟨b1, b2⟩, ⟨b3, b4⟩, b5, fun k => ?_⟩
        show 0 ≤ cmp k (if meB m.kn i then mass4 m i else Ms.zero) ∧ _
        unfold mkF
        dsimp only
        split
        · exact cmp_mass4 h i k
        · rw [cmp_zero]; omega
theorem c_le (m : Mi) : m.c ≤ 6 := by unfold Mi.c; omega
theorem flU_okM {m : Mi} (h : m.Ok) : ∀ u, u ≤ m.n → ∀ x ∈ flU m u, OkM m.n x
  | 0, _, x, hx => flT_okM h m.c (c_le m) x hx
  | u + 1, hu, x, hx => by
    rw [flU] at hx
    rcases List.mem_append.1 hx with hx | hx
    · exact flU_okM h u (by omega) x hx
    · simp only [List.mem_cons, List.not_mem_nil, or_false] at hx
      subst hx
      refine ⟨⟨by show -1 ≤ (u : Int); omega, by show (u : Int) < m.n; omega⟩, ⟨by show (-1 : Int) ≤ -1; omega, by show (-1 : Int) < m.n; omega⟩, by show (u : Int) ≠ -1; omega, fun k => ?_⟩
      unfold mkC
      dsimp only
      split
      · rename_i hme
        unfold mkMe at hme
        simp only [Bool.and_eq_true, decide_eq_true_eq] at hme
        obtain ⟨_, g0, g1, g2, g3⟩ := hme
        have c6 := c_le m
        have n0 := rsT_net h u (k := 0) (by decide) m.c c6
        have n1 := rsT_net h u (k := 1) (by decide) m.c c6
        have n2 := rsT_net h u (k := 2) (by decide) m.c c6
        have n3 := rsT_net h u (k := 3) (by decide) m.c c6
        have d0 := net_bd h u 0 m.c
        have d1 := net_bd h u 1 m.c
        have d2 := net_bd h u 2 m.c
        have d3 := net_bd h u 3 m.c
        rw [Nat.add_zero] at n0
        rcases cmp_4 k (rw4 (rsT m m.c) u) with e | e | e | e <;> rw [e] <;> unfold rw4 <;> dsimp only <;> omega
      · rw [cmp_zero]; omega
theorem okF_of {n : Nat} {x : Fl} (h : OkM n x) : OkF n x := ⟨h.fr, h.to, h.ne, fun _ k => by have := h.ma k; omega⟩
theorem N_le (m : Mi) : m.N ≤ 10 ∧ 1 ≤ m.N := by
  have := n_bd m
  have := c_le m
  unfold Mi.N; omega
theorem fl_len (m : Mi) : (flU m m.n).length = m.N := flU_len m m.n
end Go.Proofs.Ytdbikamciedfdaa
namespace Go.Proofs.Ytdbikamciedfdaa
open Go Go.DL
set_option maxRecDepth 100000
set_option maxHeartbeats 4000000

theorem cF_get {l : List Fl} {i : Nat} {x : Fl} (h : l[i]? = some x) {c : Nat} (hc : c < 7) : (cF l)[i * 7 + c]? = x.row[c]? := by
  induction l generalizing i with
  | nil => simp at h
  | cons y r ih =>
    have e : cF (y :: r) = y.row ++ cF r := rfl
    cases i with
    | zero =>
      simp only [List.getElem?_cons_zero, Option.some.injEq] at h
      subst h
      rw [e, Nat.zero_mul, Nat.zero_add, List.getElem?_append_left (by simpa using hc)]
    | succ i =>
      simp only [List.getElem?_cons_succ] at h
      rw [e, List.getElem?_append_right (by simp only [Fl.row, List.length_cons, List.length_nil]; omega), ← ih h]
      congr 1
      simp only [Fl.row, List.length_cons, List.length_nil]; omega
def setM (k : Nat) (v : Int) (m : Ms) : Ms := match k with
  | 0 => ⟨v, m.b, m.c, m.d⟩
  | 1 => ⟨m.a, v, m.c, m.d⟩
  | 2 => ⟨m.a, m.b, v, m.d⟩
  | _ => ⟨m.a, m.b, m.c, v⟩
theorem setM_cmp (k k' : Nat) (v : Int) (m : Ms) : cmp k' (setM k v m) = v ∨ cmp k' (setM k v m) = cmp k' m := by
  unfold setM
  split <;> (unfold cmp; split <;> simp)
theorem cF_set {l : List Fl} {i : Nat} {x : Fl} (h : l[i]? = some x) {k : Nat} (hk : k < 4) (v : Int) : (cF l).set (i * 7 + (3 + k)) (I v) = cF (l.set i ⟨x.fr, x.to, x.me, setM k v x.m⟩) := by
  induction l generalizing i with
  | nil => simp at h
  | cons y r ih =>
    have e : cF (y :: r) = y.row ++ cF r := rfl
    cases i with
    | zero =>
      simp only [List.getElem?_cons_zero, Option.some.injEq] at h
      subst h
      rw [e, Nat.zero_mul, Nat.zero_add, List.set_append_left _ _ (by simp only [Fl.row, List.length_cons, List.length_nil]; omega), List.set_cons_zero]
      match k, hk with
      | 0, _ => rfl
      | 1, _ => rfl
      | 2, _ => rfl
      | 3, _ => rfl
    | succ i =>
      simp only [List.getElem?_cons_succ] at h
      rw [e, List.set_append_right _ _ (by simp only [Fl.row, List.length_cons, List.length_nil]; omega), List.set_cons_succ, show cF (y :: r.set i ⟨x.fr, x.to, x.me, setM k v x.m⟩) = y.row ++ cF (r.set i ⟨x.fr, x.to, x.me, setM k v x.m⟩) from rfl, ← ih h]
      congr 2
      simp only [Fl.row, List.length_cons, List.length_nil]; omega
theorem cF_ch (l : List Fl) : chunks (cF l) 0 7 l.length = l.map Fl.row := by
  have := rows_chunks (fl_ok l)
  rw [List.length_map] at this
  exact this
theorem cF_spl {l : List Fl} {i : Nat} {x : Fl} (h : l[i]? = some x) {k : Nat} (hk : k < 4) (v : Int) : splice (cF l) (i * 7 + 3 + k) [I v] = cF (l.set i ⟨x.fr, x.to, x.me, setM k v x.m⟩) := by
  have hi : i < l.length := by rw [List.getElem?_eq_some_iff] at h; exact h.1
  rw [← cF_set h hk, ← setX_set (by rw [cF_len]; omega), Nat.add_assoc]
  simp [splice, setX]

theorem cl_len {g : Int → Int} {U : Nat} {l : List Fl} {r : List Int × Int} (h : clF g U l U = some r) : r.1.length ≤ U := by
  obtain ⟨n, h1, h2, ⟨h3, h4⟩ | ⟨us, k, h3, h4, h5, h6, h7⟩⟩ := cl_ix g U l
  · rw [h4] at h; simp at h
  · rw [h7, Option.some.injEq] at h
    subst h
    rw [h5]
    exact usI_len ..
/-- The flow that is measured wrong. -/
def wrF (l : List Fl) (i : Nat) (b : Int) : List Fl := match l[i]? with
  | some x => if x.me then l.set i ⟨x.fr, x.to, x.me, setM (b.toNat % 4) (cmp (b.toNat % 4) x.m + (1 + b.tdiv 4)) x.m⟩ else l
  | none => l
theorem w6 {m : Mi} (h : m.Ok) (w b : Int) (hw : 0 ≤ w ∧ w ≤ 255) (hb : 0 ≤ b ∧ b ≤ 255) : runW progX 6 [miA m, .int .u8 w, .int .u8 b] [] = some (.bool true, []) := by
  have e29 := w29 h
  have hok := flU_okM h m.n (Nat.le_refl _)
  have hlen := fl_len m
  obtain ⟨n1, n2⟩ := N_le m
  generalize flU m m.n = l at *
  generalize rlU m m.n = rl at *
  generalize m.N = N at *
  obtain ⟨i, hi⟩ : ∃ i : Nat, i = w.toNat % N := ⟨_, rfl⟩
  obtain ⟨k, hk⟩ : ∃ k : Nat, k = b.toNat % 4 := ⟨_, rfl⟩
  have a1 : IntKind.i64.wrap w = w := wrap_ok (by omega) (by omega)
  have a2 : IntKind.i64.wrap b = b := wrap_ok (by omega) (by omega)
  have a3 : w.tmod (N : Int) = (i : Int) := by
    rw [hi, show w = ((w.toNat : Nat) : Int) by omega, tmod_nat]; rfl
  have a4 : b.tmod 4 = (k : Int) := by
    rw [hk, show b = ((b.toNat : Nat) : Int) by omega]
    exact tmod_nat _ 4
  have hiN : i < N := by rw [hi]; exact Nat.mod_lt _ (by omega)
  have a5 : ((i : Int) < (N : Int)) = True := eq_true (by omega)
  have a6 : ((N : Int) = 0) = False := eq_false (by omega)
  obtain ⟨x, hx⟩ := at_ix (l := l) (i := i) (by omega)
  have c2 : (cF l)[i * 7 + 2]? = some (.bool x.me) := by rw [cF_get hx (by omega)]; rfl
  have c3 := cF_get hx (c := 3 + k) (by omega)
  have c4 : x.row[3 + k]? = some (I (cmp k x.m)) := by
    have : k < 4 := by omega
    match k, this with
    | 0, _ => rfl
    | 1, _ => rfl
    | 2, _ => rfl
    | 3, _ => rfl
  rw [c4, ← Nat.add_assoc] at c3
  have cs := fun v => cF_spl hx (k := k) (by omega) v
  have x1 := (hok x (List.mem_of_getElem? hx)).ma k
  have t0 : 0 ≤ b.tdiv 4 ∧ b.tdiv 4 ≤ 63 := by
    rw [Int.tdiv_eq_ediv_of_nonneg hb.1]; omega
  have a75 : IntKind.i64.wrap (b.tdiv 4) = b.tdiv 4 := wrap_ok (by omega) (by omega)
  have a7 : IntKind.i64.wrap (1 + b.tdiv 4) = 1 + b.tdiv 4 := wrap_ok (by omega) (by omega)
  have a8 : IntKind.i64.wrap (cmp k x.m + (1 + b.tdiv 4)) = cmp k x.m + (1 + b.tdiv 4) := wrap_ok (by omega) (by omega)
  have a9 : ((k : Int) < 4) = True := eq_true (by omega)
  have b1 : (i * 7 + 3 + k + 1 ≤ (cF l).length) = True := eq_true (by rw [cF_len]; omega)
  have hl' : ∃ l', wrF l i b = l' ∧ l'.length = N ∧ checkP m.n l' = 0 := by
    refine ⟨_, rfl, ?_, ?_⟩
    · unfold wrF; rw [hx]; dsimp only
      split
      · rw [List.length_set, hlen]
      · exact hlen
    · obtain ⟨m1, m2⟩ := n_bd m
      unfold wrF; rw [hx]; dsimp only
      split
      · refine checkP_of m1 (by omega) (by rw [List.length_set]; omega) fun y hy => ?_
        rcases List.mem_or_eq_of_mem_set hy with hy | hy
        · exact okF_of (hok y hy)
        · have hx2 := hok x (List.mem_of_getElem? hx)
          rw [hy]
          refine ⟨hx2.fr, hx2.to, hx2.ne, fun _ k' => ?_⟩
          have := hx2.ma k'
          rcases setM_cmp (b.toNat % 4) k' (cmp (b.toNat % 4) x.m + (1 + b.tdiv 4)) x.m with e | e
          · dsimp only; rw [e]; rw [← hk]; omega
          · dsimp only; rw [e]; omega
      · exact checkP_of m1 (by omega) (by omega) fun y hy => okF_of (hok y hy)
  obtain ⟨l', hw', hll, hck⟩ := hl'
  unfold wrF at hw'
  rw [hx] at hw'
  simp only [← hk] at hw'
  have b2 := cF_ch l'
  have b3 : (N * 7 ≤ (cF l').length) = True := eq_true (by rw [cF_len]; omega)
  rw [hll] at b2
  have e13 := w13 m.n l' (by omega)
  rw [ptE, if_pos hck] at e13
  have b4 : (oI (gI (-1) l' l'.length) m.n m.n).length = m.n := oI_len ..
  generalize hps : oI (gI (-1) l' l'.length) m.n m.n = ps at *
  have z0 := zf5 (n := (m.n : Int))
  have rd6 := fun (u : Nat) hu => round6 hck (by omega) (u := u) hu ps hps.symm
  have ex : ((clF (gI (-1) l' l'.length) m.n l' m.n).isSome = false ∧ runW progX 23 [plA m.n l'] [] = some (.tup [rK (knT l' l'.length), I 0], []) ∧ runW progX 25 [plA m.n l'] [] = some (.tup [.fs [], I 0, I 5], [])) ∨
      (∃ us kk, (clF (gI (-1) l' l'.length) m.n l' m.n).isSome = true ∧ runW progX 23 [plA m.n l'] [] = some (.tup [.fs [], I 12], []) ∧ runW progX 25 [plA m.n l'] [] = some (.tup [rI us, I kk, I 0], []) ∧ runW progX 28 [plA m.n l', rI us, I kk] [] = some (I 0, [])) := by
    have e23 := w23 m.n l' (by omega)
    have e25 := w25 m.n l' (by omega)
    unfold knR clE at e23
    unfold prR at e25
    rw [if_pos hck] at e23 e25
    cases hc : clF (gI (-1) l' l'.length) m.n l' m.n with
    | none =>
      rw [hc] at e23 e25
      exact .inl ⟨rfl, e23, e25⟩
    | some r =>
      rw [hc] at e23 e25
      have hp := prove_ok hck hc
      have hle : r.1.length < 1000000 := by
        have := cl_len hc
        have := n_bd m
        omega
      have e28 := w28 m.n l' r.1 r.2 (by omega) hle
      rw [hp] at e28
      exact .inr ⟨r.1, r.2, rfl, e23, e25, e28⟩
  cases hme : x.me
  · rw [hme] at hw' c2
    simp only [Bool.false_eq_true, if_false] at hw'
    subst hw'
    rw [r6 (by simp)]; unfold x6; dsimp only
    sym =>
      simp [etaM, etaF, z00,z01,z02,z05,z06,z07,z08,z09,z0b,z0c,z0f,z0h,z0i,z0j,z0n,z0o,z0q,z0r,z0v,z0z,z11,z12,z14,z15,z1e,z1f,z1j,z1k,z1m,z1n,z1o,z1p,z1q,z1r,z1u,z20,z21,z22,z23,z26,z28,z29,z2b,z2c,z2f,z2i,z2j,z2m,z2n,z2t,z2u,z2v,z33,z34,z3h,z3p,z40,z4l,z4m,z4o,z4q,z4t,z54,z57,z59,z5b,z5e,z66,z67,z69,z6a,z6b,z6d,z6e,z6p,z6q,z6u,z6w,z78,z7f,z7g,z7r,z7s,z7u,z7w,z8a,z8d,z91,z9d,z9e,z9g,z9i,z9j,z9k,z9l,z9m,z9n,z9p,z9r,z9v,z9w,z9x,z9y,za0,za1,za2,za3,za5,za6,za7,za8,za9,zaa,zab,zae,zaf,zal,zaq,zas,zat,zav,zb4,zb5,zb9,zba,zbb,zbc,zbd,zbe,zbf,zbg,zbj,zbk,zbm,zbn,zbp,zbt,zbu,zbw,zbx,zby,zbz,zc0,zc3,zc4,zc5,zc6,zc8,zca,zcc,zcd,zce,zcf,zcg,zch,zcj,zcn,zco,zcp,zcq,zcr,zct,zcu,zcv,zcw,zcy,zd2,zd3,zd5,zd6,zd7,zd8,zdc,zdd,zdj,zdk,zdl,zdm,zdn,zdo,zds,zdt,zdu,zdv,zdw,zdx,zdy,zdz,ze0,ze1,ze2,ze3,ze9,zeo,zep,zf5,zf6,zf7,zfa,zfb,zfc,zfd,zfg,zfm,zfo,zfp,zfq,zfr,zfs,zft,zfu,zfv,zfy,zfz,zg0,zg1,zhd,zhe,zhf,zj8, e29, a1, a2, a3, a4, a5, a6, cF_gr, cF_nm, cF_sl, cM_gr, cM_nm, cM_sl, c2, b2, b3, b4, e13]
      tactic =>
        unfold x6l3
        rw [loop_rule m.n (fun u => [.pt 0 0, rI ps, .bool (clF (gI (-1) l l.length) m.n l u).isSome, I (cntI (gI (-1) l l.length) u), I (u : Nat)]) (fun _ => hP m.n l)]
        · rcases ex with ⟨y0, y1, y2⟩ | ⟨us, kk, y0, y1, y2, y3⟩
          · rw [y0]; (sym => (simp [etaM, etaF, z00,z01,z02,z05,z06,z07,z08,z09,z0b,z0c,z0f,z0h,z0i,z0j,z0n,z0o,z0q,z0r,z0v,z0z,z11,z12,z14,z15,z1e,z1f,z1j,z1k,z1m,z1n,z1o,z1p,z1q,z1r,z1u,z20,z21,z22,z23,z26,z28,z29,z2b,z2c,z2f,z2i,z2j,z2m,z2n,z2t,z2u,z2v,z33,z34,z3h,z3p,z40,z4l,z4m,z4o,z4q,z4t,z54,z57,z59,z5b,z5e,z66,z67,z69,z6a,z6b,z6d,z6e,z6p,z6q,z6u,z6w,z78,z7f,z7g,z7r,z7s,z7u,z7w,z8a,z8d,z91,z9d,z9e,z9g,z9i,z9j,z9k,z9l,z9m,z9n,z9p,z9r,z9v,z9w,z9x,z9y,za0,za1,za2,za3,za5,za6,za7,za8,za9,zaa,zab,zae,zaf,zal,zaq,zas,zat,zav,zb4,zb5,zb9,zba,zbb,zbc,zbd,zbe,zbf,zbg,zbj,zbk,zbm,zbn,zbp,zbt,zbu,zbw,zbx,zby,zbz,zc0,zc3,zc4,zc5,zc6,zc8,zca,zcc,zcd,zce,zcf,zcg,zch,zcj,zcn,zco,zcp,zcq,zcr,zct,zcu,zcv,zcw,zcy,zd2,zd3,zd5,zd6,zd7,zd8,zdc,zdd,zdj,zdk,zdl,zdm,zdn,zdo,zds,zdt,zdu,zdv,zdw,zdx,zdy,zdz,ze0,ze1,ze2,ze3,ze9,zeo,zep,zf5,zf6,zf7,zfa,zfb,zfc,zfd,zfg,zfm,zfo,zfp,zfq,zfr,zfs,zft,zfu,zfv,zfy,zfz,zg0,zg1,zhd,zhe,zhf,zj8, z0, y1, y2, works_w]; all_goals tactic => exact rfl))
          · rw [y0]; (sym => (simp [etaM, etaF, z00,z01,z02,z05,z06,z07,z08,z09,z0b,z0c,z0f,z0h,z0i,z0j,z0n,z0o,z0q,z0r,z0v,z0z,z11,z12,z14,z15,z1e,z1f,z1j,z1k,z1m,z1n,z1o,z1p,z1q,z1r,z1u,z20,z21,z22,z23,z26,z28,z29,z2b,z2c,z2f,z2i,z2j,z2m,z2n,z2t,z2u,z2v,z33,z34,z3h,z3p,z40,z4l,z4m,z4o,z4q,z4t,z54,z57,z59,z5b,z5e,z66,z67,z69,z6a,z6b,z6d,z6e,z6p,z6q,z6u,z6w,z78,z7f,z7g,z7r,z7s,z7u,z7w,z8a,z8d,z91,z9d,z9e,z9g,z9i,z9j,z9k,z9l,z9m,z9n,z9p,z9r,z9v,z9w,z9x,z9y,za0,za1,za2,za3,za5,za6,za7,za8,za9,zaa,zab,zae,zaf,zal,zaq,zas,zat,zav,zb4,zb5,zb9,zba,zbb,zbc,zbd,zbe,zbf,zbg,zbj,zbk,zbm,zbn,zbp,zbt,zbu,zbw,zbx,zby,zbz,zc0,zc3,zc4,zc5,zc6,zc8,zca,zcc,zcd,zce,zcf,zcg,zch,zcj,zcn,zco,zcp,zcq,zcr,zct,zcu,zcv,zcw,zcy,zd2,zd3,zd5,zd6,zd7,zd8,zdc,zdd,zdj,zdk,zdl,zdm,zdn,zdo,zds,zdt,zdu,zdv,zdw,zdx,zdy,zdz,ze0,ze1,ze2,ze3,ze9,zeo,zep,zf5,zf6,zf7,zfa,zfb,zfc,zfd,zfg,zfm,zfo,zfp,zfq,zfr,zfs,zft,zfu,zfv,zfy,zfz,zg0,zg1,zhd,zhe,zhf,zj8, z0, y1, y2, y3, works_w]; all_goals tactic => exact rfl))
        · (sym => (simp [etaM, etaF, z00,z01,z02,z05,z06,z07,z08,z09,z0b,z0c,z0f,z0h,z0i,z0j,z0n,z0o,z0q,z0r,z0v,z0z,z11,z12,z14,z15,z1e,z1f,z1j,z1k,z1m,z1n,z1o,z1p,z1q,z1r,z1u,z20,z21,z22,z23,z26,z28,z29,z2b,z2c,z2f,z2i,z2j,z2m,z2n,z2t,z2u,z2v,z33,z34,z3h,z3p,z40,z4l,z4m,z4o,z4q,z4t,z54,z57,z59,z5b,z5e,z66,z67,z69,z6a,z6b,z6d,z6e,z6p,z6q,z6u,z6w,z78,z7f,z7g,z7r,z7s,z7u,z7w,z8a,z8d,z91,z9d,z9e,z9g,z9i,z9j,z9k,z9l,z9m,z9n,z9p,z9r,z9v,z9w,z9x,z9y,za0,za1,za2,za3,za5,za6,za7,za8,za9,zaa,zab,zae,zaf,zal,zaq,zas,zat,zav,zb4,zb5,zb9,zba,zbb,zbc,zbd,zbe,zbf,zbg,zbj,zbk,zbm,zbn,zbp,zbt,zbu,zbw,zbx,zby,zbz,zc0,zc3,zc4,zc5,zc6,zc8,zca,zcc,zcd,zce,zcf,zcg,zch,zcj,zcn,zco,zcp,zcq,zcr,zct,zcu,zcv,zcw,zcy,zd2,zd3,zd5,zd6,zd7,zd8,zdc,zdd,zdj,zdk,zdl,zdm,zdn,zdo,zds,zdt,zdu,zdv,zdw,zdx,zdy,zdz,ze0,ze1,ze2,ze3,ze9,zeo,zep,zf5,zf6,zf7,zfa,zfb,zfc,zfd,zfg,zfm,zfo,zfp,zfq,zfr,zfs,zft,zfu,zfv,zfy,zfz,zg0,zg1,zhd,zhe,zhf,zj8]; all_goals tactic => exact rfl))
        · exact rd6
        · (sym => (simp [etaM, etaF, z00,z01,z02,z05,z06,z07,z08,z09,z0b,z0c,z0f,z0h,z0i,z0j,z0n,z0o,z0q,z0r,z0v,z0z,z11,z12,z14,z15,z1e,z1f,z1j,z1k,z1m,z1n,z1o,z1p,z1q,z1r,z1u,z20,z21,z22,z23,z26,z28,z29,z2b,z2c,z2f,z2i,z2j,z2m,z2n,z2t,z2u,z2v,z33,z34,z3h,z3p,z40,z4l,z4m,z4o,z4q,z4t,z54,z57,z59,z5b,z5e,z66,z67,z69,z6a,z6b,z6d,z6e,z6p,z6q,z6u,z6w,z78,z7f,z7g,z7r,z7s,z7u,z7w,z8a,z8d,z91,z9d,z9e,z9g,z9i,z9j,z9k,z9l,z9m,z9n,z9p,z9r,z9v,z9w,z9x,z9y,za0,za1,za2,za3,za5,za6,za7,za8,za9,zaa,zab,zae,zaf,zal,zaq,zas,zat,zav,zb4,zb5,zb9,zba,zbb,zbc,zbd,zbe,zbf,zbg,zbj,zbk,zbm,zbn,zbp,zbt,zbu,zbw,zbx,zby,zbz,zc0,zc3,zc4,zc5,zc6,zc8,zca,zcc,zcd,zce,zcf,zcg,zch,zcj,zcn,zco,zcp,zcq,zcr,zct,zcu,zcv,zcw,zcy,zd2,zd3,zd5,zd6,zd7,zd8,zdc,zdd,zdj,zdk,zdl,zdm,zdn,zdo,zds,zdt,zdu,zdv,zdw,zdx,zdy,zdz,ze0,ze1,ze2,ze3,ze9,zeo,zep,zf5,zf6,zf7,zfa,zfb,zfc,zfd,zfg,zfm,zfo,zfp,zfq,zfr,zfs,zft,zfu,zfv,zfy,zfz,zg0,zg1,zhd,zhe,zhf,zj8, z0]; all_goals tactic => exact rfl))
  · rw [hme] at hw' c2
    simp only [if_true] at hw'
    have cs := cs (cmp k x.m + (1 + b.tdiv 4))
    rw [hme, hw'] at cs
    rw [r6 (by simp)]; unfold x6; dsimp only
    sym =>
      simp [etaM, etaF, z00,z01,z02,z05,z06,z07,z08,z09,z0b,z0c,z0f,z0h,z0i,z0j,z0n,z0o,z0q,z0r,z0v,z0z,z11,z12,z14,z15,z1e,z1f,z1j,z1k,z1m,z1n,z1o,z1p,z1q,z1r,z1u,z20,z21,z22,z23,z26,z28,z29,z2b,z2c,z2f,z2i,z2j,z2m,z2n,z2t,z2u,z2v,z33,z34,z3h,z3p,z40,z4l,z4m,z4o,z4q,z4t,z54,z57,z59,z5b,z5e,z66,z67,z69,z6a,z6b,z6d,z6e,z6p,z6q,z6u,z6w,z78,z7f,z7g,z7r,z7s,z7u,z7w,z8a,z8d,z91,z9d,z9e,z9g,z9i,z9j,z9k,z9l,z9m,z9n,z9p,z9r,z9v,z9w,z9x,z9y,za0,za1,za2,za3,za5,za6,za7,za8,za9,zaa,zab,zae,zaf,zal,zaq,zas,zat,zav,zb4,zb5,zb9,zba,zbb,zbc,zbd,zbe,zbf,zbg,zbj,zbk,zbm,zbn,zbp,zbt,zbu,zbw,zbx,zby,zbz,zc0,zc3,zc4,zc5,zc6,zc8,zca,zcc,zcd,zce,zcf,zcg,zch,zcj,zcn,zco,zcp,zcq,zcr,zct,zcu,zcv,zcw,zcy,zd2,zd3,zd5,zd6,zd7,zd8,zdc,zdd,zdj,zdk,zdl,zdm,zdn,zdo,zds,zdt,zdu,zdv,zdw,zdx,zdy,zdz,ze0,ze1,ze2,ze3,ze9,zeo,zep,zf5,zf6,zf7,zfa,zfb,zfc,zfd,zfg,zfm,zfo,zfp,zfq,zfr,zfs,zft,zfu,zfv,zfy,zfz,zg0,zg1,zhd,zhe,zhf,zj8, e29, a1, a2, a3, a5, a6, cF_gr, cF_nm, cF_sl, cM_gr, cM_nm, cM_sl, c2]
      tactic =>
        simp only [a4]
        sym =>
          simp [etaM, etaF, z00,z01,z02,z05,z06,z07,z08,z09,z0b,z0c,z0f,z0h,z0i,z0j,z0n,z0o,z0q,z0r,z0v,z0z,z11,z12,z14,z15,z1e,z1f,z1j,z1k,z1m,z1n,z1o,z1p,z1q,z1r,z1u,z20,z21,z22,z23,z26,z28,z29,z2b,z2c,z2f,z2i,z2j,z2m,z2n,z2t,z2u,z2v,z33,z34,z3h,z3p,z40,z4l,z4m,z4o,z4q,z4t,z54,z57,z59,z5b,z5e,z66,z67,z69,z6a,z6b,z6d,z6e,z6p,z6q,z6u,z6w,z78,z7f,z7g,z7r,z7s,z7u,z7w,z8a,z8d,z91,z9d,z9e,z9g,z9i,z9j,z9k,z9l,z9m,z9n,z9p,z9r,z9v,z9w,z9x,z9y,za0,za1,za2,za3,za5,za6,za7,za8,za9,zaa,zab,zae,zaf,zal,zaq,zas,zat,zav,zb4,zb5,zb9,zba,zbb,zbc,zbd,zbe,zbf,zbg,zbj,zbk,zbm,zbn,zbp,zbt,zbu,zbw,zbx,zby,zbz,zc0,zc3,zc4,zc5,zc6,zc8,zca,zcc,zcd,zce,zcf,zcg,zch,zcj,zcn,zco,zcp,zcq,zcr,zct,zcu,zcv,zcw,zcy,zd2,zd3,zd5,zd6,zd7,zd8,zdc,zdd,zdj,zdk,zdl,zdm,zdn,zdo,zds,zdt,zdu,zdv,zdw,zdx,zdy,zdz,ze0,ze1,ze2,ze3,ze9,zeo,zep,zf5,zf6,zf7,zfa,zfb,zfc,zfd,zfg,zfm,zfo,zfp,zfq,zfr,zfs,zft,zfu,zfv,zfy,zfz,zg0,zg1,zhd,zhe,zhf,zj8, a1, a2, a3, a5, a6, a9, b1, c2, c3]
          tactic =>
            simp only [a75, a7, a8, cs]
            sym =>
              simp [etaM, etaF, z00,z01,z02,z05,z06,z07,z08,z09,z0b,z0c,z0f,z0h,z0i,z0j,z0n,z0o,z0q,z0r,z0v,z0z,z11,z12,z14,z15,z1e,z1f,z1j,z1k,z1m,z1n,z1o,z1p,z1q,z1r,z1u,z20,z21,z22,z23,z26,z28,z29,z2b,z2c,z2f,z2i,z2j,z2m,z2n,z2t,z2u,z2v,z33,z34,z3h,z3p,z40,z4l,z4m,z4o,z4q,z4t,z54,z57,z59,z5b,z5e,z66,z67,z69,z6a,z6b,z6d,z6e,z6p,z6q,z6u,z6w,z78,z7f,z7g,z7r,z7s,z7u,z7w,z8a,z8d,z91,z9d,z9e,z9g,z9i,z9j,z9k,z9l,z9m,z9n,z9p,z9r,z9v,z9w,z9x,z9y,za0,za1,za2,za3,za5,za6,za7,za8,za9,zaa,zab,zae,zaf,zal,zaq,zas,zat,zav,zb4,zb5,zb9,zba,zbb,zbc,zbd,zbe,zbf,zbg,zbj,zbk,zbm,zbn,zbp,zbt,zbu,zbw,zbx,zby,zbz,zc0,zc3,zc4,zc5,zc6,zc8,zca,zcc,zcd,zce,zcf,zcg,zch,zcj,zcn,zco,zcp,zcq,zcr,zct,zcu,zcv,zcw,zcy,zd2,zd3,zd5,zd6,zd7,zd8,zdc,zdd,zdj,zdk,zdl,zdm,zdn,zdo,zds,zdt,zdu,zdv,zdw,zdx,zdy,zdz,ze0,ze1,ze2,ze3,ze9,zeo,zep,zf5,zf6,zf7,zfa,zfb,zfc,zfd,zfg,zfm,zfo,zfp,zfq,zfr,zfs,zft,zfu,zfv,zfy,zfz,zg0,zg1,zhd,zhe,zhf,zj8, cF_gr, cF_nm, cF_sl, cM_gr, cM_nm, cM_sl, b2, b3, b4, e13]
              tactic =>
                unfold x6l3
                rw [loop_rule m.n (fun u => [.pt 0 0, rI ps, .bool (clF (gI (-1) l' l'.length) m.n l' u).isSome, I (cntI (gI (-1) l' l'.length) u), I (u : Nat)]) (fun _ => hP m.n l')]
                · rcases ex with ⟨y0, y1, y2⟩ | ⟨us, kk, y0, y1, y2, y3⟩
                  · rw [y0]; (sym => (simp [etaM, etaF, z00,z01,z02,z05,z06,z07,z08,z09,z0b,z0c,z0f,z0h,z0i,z0j,z0n,z0o,z0q,z0r,z0v,z0z,z11,z12,z14,z15,z1e,z1f,z1j,z1k,z1m,z1n,z1o,z1p,z1q,z1r,z1u,z20,z21,z22,z23,z26,z28,z29,z2b,z2c,z2f,z2i,z2j,z2m,z2n,z2t,z2u,z2v,z33,z34,z3h,z3p,z40,z4l,z4m,z4o,z4q,z4t,z54,z57,z59,z5b,z5e,z66,z67,z69,z6a,z6b,z6d,z6e,z6p,z6q,z6u,z6w,z78,z7f,z7g,z7r,z7s,z7u,z7w,z8a,z8d,z91,z9d,z9e,z9g,z9i,z9j,z9k,z9l,z9m,z9n,z9p,z9r,z9v,z9w,z9x,z9y,za0,za1,za2,za3,za5,za6,za7,za8,za9,zaa,zab,zae,zaf,zal,zaq,zas,zat,zav,zb4,zb5,zb9,zba,zbb,zbc,zbd,zbe,zbf,zbg,zbj,zbk,zbm,zbn,zbp,zbt,zbu,zbw,zbx,zby,zbz,zc0,zc3,zc4,zc5,zc6,zc8,zca,zcc,zcd,zce,zcf,zcg,zch,zcj,zcn,zco,zcp,zcq,zcr,zct,zcu,zcv,zcw,zcy,zd2,zd3,zd5,zd6,zd7,zd8,zdc,zdd,zdj,zdk,zdl,zdm,zdn,zdo,zds,zdt,zdu,zdv,zdw,zdx,zdy,zdz,ze0,ze1,ze2,ze3,ze9,zeo,zep,zf5,zf6,zf7,zfa,zfb,zfc,zfd,zfg,zfm,zfo,zfp,zfq,zfr,zfs,zft,zfu,zfv,zfy,zfz,zg0,zg1,zhd,zhe,zhf,zj8, z0, y1, y2, works_w]; all_goals tactic => exact rfl))
                  · rw [y0]; (sym => (simp [etaM, etaF, z00,z01,z02,z05,z06,z07,z08,z09,z0b,z0c,z0f,z0h,z0i,z0j,z0n,z0o,z0q,z0r,z0v,z0z,z11,z12,z14,z15,z1e,z1f,z1j,z1k,z1m,z1n,z1o,z1p,z1q,z1r,z1u,z20,z21,z22,z23,z26,z28,z29,z2b,z2c,z2f,z2i,z2j,z2m,z2n,z2t,z2u,z2v,z33,z34,z3h,z3p,z40,z4l,z4m,z4o,z4q,z4t,z54,z57,z59,z5b,z5e,z66,z67,z69,z6a,z6b,z6d,z6e,z6p,z6q,z6u,z6w,z78,z7f,z7g,z7r,z7s,z7u,z7w,z8a,z8d,z91,z9d,z9e,z9g,z9i,z9j,z9k,z9l,z9m,z9n,z9p,z9r,z9v,z9w,z9x,z9y,za0,za1,za2,za3,za5,za6,za7,za8,za9,zaa,zab,zae,zaf,zal,zaq,zas,zat,zav,zb4,zb5,zb9,zba,zbb,zbc,zbd,zbe,zbf,zbg,zbj,zbk,zbm,zbn,zbp,zbt,zbu,zbw,zbx,zby,zbz,zc0,zc3,zc4,zc5,zc6,zc8,zca,zcc,zcd,zce,zcf,zcg,zch,zcj,zcn,zco,zcp,zcq,zcr,zct,zcu,zcv,zcw,zcy,zd2,zd3,zd5,zd6,zd7,zd8,zdc,zdd,zdj,zdk,zdl,zdm,zdn,zdo,zds,zdt,zdu,zdv,zdw,zdx,zdy,zdz,ze0,ze1,ze2,ze3,ze9,zeo,zep,zf5,zf6,zf7,zfa,zfb,zfc,zfd,zfg,zfm,zfo,zfp,zfq,zfr,zfs,zft,zfu,zfv,zfy,zfz,zg0,zg1,zhd,zhe,zhf,zj8, z0, y1, y2, y3, works_w]; all_goals tactic => exact rfl))
                · (sym => (simp [etaM, etaF, z00,z01,z02,z05,z06,z07,z08,z09,z0b,z0c,z0f,z0h,z0i,z0j,z0n,z0o,z0q,z0r,z0v,z0z,z11,z12,z14,z15,z1e,z1f,z1j,z1k,z1m,z1n,z1o,z1p,z1q,z1r,z1u,z20,z21,z22,z23,z26,z28,z29,z2b,z2c,z2f,z2i,z2j,z2m,z2n,z2t,z2u,z2v,z33,z34,z3h,z3p,z40,z4l,z4m,z4o,z4q,z4t,z54,z57,z59,z5b,z5e,z66,z67,z69,z6a,z6b,z6d,z6e,z6p,z6q,z6u,z6w,z78,z7f,z7g,z7r,z7s,z7u,z7w,z8a,z8d,z91,z9d,z9e,z9g,z9i,z9j,z9k,z9l,z9m,z9n,z9p,z9r,z9v,z9w,z9x,z9y,za0,za1,za2,za3,za5,za6,za7,za8,za9,zaa,zab,zae,zaf,zal,zaq,zas,zat,zav,zb4,zb5,zb9,zba,zbb,zbc,zbd,zbe,zbf,zbg,zbj,zbk,zbm,zbn,zbp,zbt,zbu,zbw,zbx,zby,zbz,zc0,zc3,zc4,zc5,zc6,zc8,zca,zcc,zcd,zce,zcf,zcg,zch,zcj,zcn,zco,zcp,zcq,zcr,zct,zcu,zcv,zcw,zcy,zd2,zd3,zd5,zd6,zd7,zd8,zdc,zdd,zdj,zdk,zdl,zdm,zdn,zdo,zds,zdt,zdu,zdv,zdw,zdx,zdy,zdz,ze0,ze1,ze2,ze3,ze9,zeo,zep,zf5,zf6,zf7,zfa,zfb,zfc,zfd,zfg,zfm,zfo,zfp,zfq,zfr,zfs,zft,zfu,zfv,zfy,zfz,zg0,zg1,zhd,zhe,zhf,zj8]; all_goals tactic => exact rfl))
                · exact rd6
                · (sym => (simp [etaM, etaF, z00,z01,z02,z05,z06,z07,z08,z09,z0b,z0c,z0f,z0h,z0i,z0j,z0n,z0o,z0q,z0r,z0v,z0z,z11,z12,z14,z15,z1e,z1f,z1j,z1k,z1m,z1n,z1o,z1p,z1q,z1r,z1u,z20,z21,z22,z23,z26,z28,z29,z2b,z2c,z2f,z2i,z2j,z2m,z2n,z2t,z2u,z2v,z33,z34,z3h,z3p,z40,z4l,z4m,z4o,z4q,z4t,z54,z57,z59,z5b,z5e,z66,z67,z69,z6a,z6b,z6d,z6e,z6p,z6q,z6u,z6w,z78,z7f,z7g,z7r,z7s,z7u,z7w,z8a,z8d,z91,z9d,z9e,z9g,z9i,z9j,z9k,z9l,z9m,z9n,z9p,z9r,z9v,z9w,z9x,z9y,za0,za1,za2,za3,za5,za6,za7,za8,za9,zaa,zab,zae,zaf,zal,zaq,zas,zat,zav,zb4,zb5,zb9,zba,zbb,zbc,zbd,zbe,zbf,zbg,zbj,zbk,zbm,zbn,zbp,zbt,zbu,zbw,zbx,zby,zbz,zc0,zc3,zc4,zc5,zc6,zc8,zca,zcc,zcd,zce,zcf,zcg,zch,zcj,zcn,zco,zcp,zcq,zcr,zct,zcu,zcv,zcw,zcy,zd2,zd3,zd5,zd6,zd7,zd8,zdc,zdd,zdj,zdk,zdl,zdm,zdn,zdo,zds,zdt,zdu,zdv,zdw,zdx,zdy,zdz,ze0,ze1,ze2,ze3,ze9,zeo,zep,zf5,zf6,zf7,zfa,zfb,zfc,zfd,zfg,zfm,zfo,zfp,zfq,zfr,zfs,zft,zfu,zfv,zfy,zfz,zg0,zg1,zhd,zhe,zhf,zj8, z0]; all_goals tactic => exact rfl))
end Go.Proofs.Ytdbikamciedfdaa
