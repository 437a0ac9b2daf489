/- Regions: in the text's order, and with an order that is drawn. No statement of the seed is proved here. -/
import Derived.Test.YtdbikamciedfdaaDlO
namespace Go.DL
variable {P : Program} {B : Base} {F : Nat → Prop} {w : World} {H : Hp} {env : Env} {a : Act}

theorem mapM_back {α β : Type} {f : α → Option β} : ∀ {l : List α} {r : List β}, l.mapM f = some r → r.length = l.length ∧ ∀ (i : Nat) (y : β), r[i]? = some y → ∃ x, l[i]? = some x ∧ f x = some y := by
  intro l
  induction l with
  | nil => intro r h; simp at h; subst h; simp
  | cons x l ih =>
    intro r h
    rw [List.mapM_cons] at h
    cases hx : f x with
    | none => rw [hx] at h; simp at h
    | some y =>
      rw [hx] at h
      cases hl : l.mapM f with
      | none => rw [hl] at h; simp at h
      | some ys =>
        rw [hl] at h
        simp at h
        subst h
        obtain ⟨h1, h2⟩ := ih hl
        refine ⟨by simp [h1], fun i z hz => ?_⟩
        cases i with
        | zero => simp at hz; subst hz; exact ⟨x, rfl, hx⟩
        | succ i => exact h2 i z (by simpa using hz)

theorem compO_reads {ops : Array Oper} {i : Nat} {o : Oper} {d : DOper} (ho : ops[i]? = some o) (h : compO P ops o = some d) : Reads P ops i d := by
  unfold compO at h
  split at h
  · simp at h
  · rename_i hnd
    refine ⟨o, ho, ?_⟩
    split at h
    · rename_i hg
      simp only [Option.some.injEq] at h
      subst h
      exact ⟨rfl, by simp [hg], .inl rfl, hnd⟩
    · rename_i j want hg
      split at h
      · rename_i t ht
        simp only [Option.some.injEq] at h
        subst h
        exact ⟨rfl, by simp only [hg]; exact ⟨t, ht, rfl⟩, .inl rfl, hnd⟩
      · simp at h

theorem compR_reads {ops : Array Oper} {l : List DOper} (h : compR P ops = some l) : l.length = ops.size ∧ ∀ i d, l[i]? = some d → Reads P ops i d := by
  unfold compR at h
  obtain ⟨h1, h2⟩ := mapM_back h
  refine ⟨by simpa using h1, fun i d hd => ?_⟩
  obtain ⟨o, h3, h4⟩ := h2 i d hd
  exact compO_reads (by simpa using h3) h4

def dstLt (N : Nat) (d : DOper) : Prop := ∀ k, d.dst = some k → k < N
theorem dstOk_lt {N : Nat} {l : List DOper} (h : dstOk N l = true) : ∀ d ∈ l, dstLt N d := by
  intro d hd k hk
  unfold dstOk at h
  rw [List.all_eq_true] at h
  have := h d hd
  rw [hk] at this
  simpa using this

/-- What a code does, seen from its beginning. -/
def Ends (N : Nat) (a : Act) (F : Nat → Prop) (w : World) (H : Hp) (K : Env → Hp → Prop) (Q : Act → World → Prop) : Prop :=
  ∀ a' F' w' env' H', a'.tmps.size = N → a'.defers = a.defers → Ext F w H F' w' H' → St F' w' H' → RE F' w' env' a' → K env' H' → Q a' w'

theorem Base.Up.step {F' : Nat → Prop} {w' : World} {H' : Hp} (hB : B.Up F w) (st : St F w H) (h : Ext F w H F' w' H') : B.Up F' w' := Go.DL.Up.trans hB (h.up st)

theorem Ends.step {N : Nat} {K : Env → Hp → Prop} {Q : Act → World → Prop} {a' : Act} {F' : Nat → Prop} {w' : World} {H' : Hp} (h : Ends N a F w H K Q) (hd : a'.defers = a.defers) (he : Ext F w H F' w' H') :
    Ends N a' F' w' H' K Q := fun a'' F'' w'' env'' H'' h1 h2 h3 h4 h5 h6 => h a'' F'' w'' env'' H'' h1 (h2.trans hd) (he.trans h3) h4 h5 h6

theorem region_seq {ops : Array Oper} {r : Option Nat} {N : Nat} {Q : Exit → Act → World → Prop} {K : Env → Hp → Prop} : ∀ (l : List DOper) (i : Nat), (∀ j d, l[j]? = some d → Reads P ops (i + j) d) → (∀ d ∈ l, dstLt N d) →
    ∀ (F : Nat → Prop) (w : World) (H : Hp) (env : Env) (a : Act), a.tmps.size = N → B.Up F w → St F w H → RE F w env a → RS B P l K env H → Ends N a F w H K (Q .normal) →
    wpOpsIn (FW r) 0 P ops Q (List.range' i l.length) a w := by
  intro l
  induction l with
  | nil => intro i _ _ F w H env a hsz hB st re h hQ; exact hQ a F w env H hsz rfl (Ext.refl _ _ _) st re h
  | cons d l ih =>
    intro i hr hd F w H env a hsz hB st re h hQ
    rw [List.length_cons, List.range'_succ, wpOpsIn_cons]
    refine simOp (hr 0 d rfl) (hd d (by simp)) hsz hB st re h ?_
    intro a' F' w' env' H' h1 h2 h3 h4 h5 h6
    exact ih (i + 1) (fun j d' hj => by have := hr (j + 1) d' (by simpa using hj); rwa [Nat.add_assoc, Nat.add_comm 1 j]) (fun d' hd' => hd d' (by simp [hd'])) F' w' H' env' a' h1 (hB.step st h3) h4 h5 h6 (hQ.step h2 h3)

theorem Reads.congr {ops : Array Oper} {i : Nat} {d e : DOper} (h : Reads P ops i d) (h1 : e.dst = d.dst) (h2 : e.guard = d.guard) (h3 : e.op = d.op ∨ (∃ n p x l l', d.op = .store n p x l ∧ e.op = .store n p x l') ∨ (∃ q q' f xs l l', d.op = .callf q f xs l ∧ e.op = .callf q' f xs l')) : Reads P ops i e := by
  obtain ⟨o, ho, g1, g2, g3, g4⟩ := h.get
  refine ⟨o, ho, h1.trans g1, by rw [h2]; exact g2, ?_, g4⟩
  rcases h3 with h3 | ⟨n, p, x, l, l', h3, h4⟩ | ⟨q, q', f, xs, l, l', h3, h4⟩
  · rw [h3]; exact g3
  · rw [h3] at g3
    rw [h4]
    rcases g3 with g3 | ⟨n', p', x', l'', g3, g5⟩ | ⟨q, f, xs, l'', g3, g5⟩
    · unfold comp at g3
      cases hc : comp0 P o with
      | none => rw [hc] at g3; simp at g3
      | some y =>
        rw [hc] at g3; simp at g3; subst g3
        rcases inv_special hc rfl with ⟨t, pa, xa, n', p', x', _, _, _, _, hh⟩ | ⟨t, m, k, xx, m', k', x', kt, e, _, _, _, _, _, ⟨_, _, hh⟩ | ⟨_, hh⟩⟩ | ⟨c, _, hh⟩
        · simp only [DOp.store.injEq] at hh; obtain ⟨rfl, rfl, rfl, rfl⟩ := hh
          exact .inr (.inl ⟨_, _, _, l', by unfold comp; rw [hc]; rfl, rfl⟩)
        · simp at hh
        · simp at hh
        · rcases inv_call hh rfl with ⟨_, _, _, _, _, _, _, _, _, _, _, _, _, _, _, hh⟩ | ⟨_, _, _, _, _, _, hh⟩ <;> simp at hh
    · simp only [DOp.store.injEq] at g5; obtain ⟨rfl, rfl, rfl, _⟩ := g5
      exact .inr (.inl ⟨_, _, _, l', g3, rfl⟩)
    · simp at g5
  · rw [h3] at g3
    rw [h4]
    rcases g3 with g3 | ⟨n', p', x', l'', g3, g5⟩ | ⟨q1, f1, xs1, l'', g3, g5⟩
    · unfold comp at g3
      cases hc : comp0 P o with
      | none => rw [hc] at g3; simp at g3
      | some y =>
        rw [hc] at g3; simp at g3; subst g3
        rcases inv_special hc rfl with ⟨t, pa, xa, n', p', x', _, _, _, _, hh⟩ | ⟨t, m, k, xx, m', k', x', kt, e, _, _, _, _, _, ⟨_, _, hh⟩ | ⟨_, hh⟩⟩ | ⟨c, _, hh⟩
        · simp at hh
        · simp at hh
        · simp at hh
        · rcases inv_call hh rfl with ⟨_, _, _, _, _, _, _, _, _, _, _, _, _, _, _, hh⟩ | ⟨_, _, _, _, _, _, hh⟩
          · simp at hh
          · simp only [DOp.callf.injEq] at hh; obtain ⟨rfl, rfl, rfl, rfl⟩ := hh
            exact .inr (.inr ⟨q', _, _, l', by unfold comp; rw [hc]; rfl, rfl⟩)
    · simp at g5
    · simp only [DOp.callf.injEq] at g5; obtain ⟨_, rfl, rfl, _⟩ := g5
      exact .inr (.inr ⟨q', _, _, l', g3, rfl⟩)

theorem tuneO_reads {ops : Array Oper} {cl : List Nat} {b r : List DOper} {o : DOper} (h : Reads P ops o.ix o) : Reads P ops (tuneO cl b r o).ix (tuneO cl b r o) ∧ (tuneO cl b r o).dst = o.dst := by
  unfold tuneO
  simp only
  split
  · rename_i n p x l hop
    exact ⟨h.congr rfl rfl (.inr (.inl ⟨_, _, _, _, _, hop, rfl⟩)), rfl⟩
  · rename_i q f xs l hop
    split
    · exact ⟨h.congr rfl rfl (.inr (.inr ⟨_, _, _, _, _, _, hop, rfl⟩)), rfl⟩
    · exact ⟨h.congr rfl rfl (.inr (.inr ⟨_, _, _, _, _, _, hop, rfl⟩)), rfl⟩
  · exact ⟨h, rfl⟩

theorem tune_mem {cl : List Nat} : ∀ (l b : List DOper) (d : DOper), d ∈ tune cl b l → ∃ o b' r', o ∈ l ∧ d = tuneO cl b' r' o := by
  intro l
  induction l with
  | nil => intro b d h; simp [tune] at h
  | cons o l ih =>
    intro b d h
    simp only [tune, List.mem_cons] at h
    rcases h with rfl | h
    · exact ⟨o, b, l, by simp, rfl⟩
    · obtain ⟨o', b', r', h1, h2⟩ := ih _ d h
      exact ⟨o', b', r', by simp [h1], h2⟩

theorem compG_parts {N : Nat} {ops : Array Oper} {l : List DOper} (h : compG P N ops true = some l) :
    (∀ d ∈ l, Reads P ops d.ix d ∧ dstLt N d) ∧ afterOk (ops.toList.map afterOf) = true ∧ pairsOk (closure (ops.toList.map afterOf)) l = true ∧ l.length = ops.size ∧ nodupB (l.map (·.ix)) = true ∧
    ∀ i, i < ops.size → i ∈ l.map (·.ix) := by
  unfold compG at h
  split at h
  · simp at h
  · rename_i l0 hl0
    obtain ⟨hlen, hreads⟩ := compR_reads hl0
    split at h
    · simp at h
    · rename_i hdst
      simp only [Bool.not_eq_true', Bool.not_eq_false] at hdst
      simp only [if_true] at h
      split at h
      · rename_i hc
        simp only [Option.some.injEq] at h
        simp only [Bool.and_eq_true, beq_iff_eq, List.all_eq_true, List.mem_range, List.contains_iff_mem] at hc
        obtain ⟨⟨⟨⟨c1, c2⟩, c3⟩, c4⟩, c5⟩ := hc
        rw [h] at c2 c3 c4 c5
        refine ⟨fun d hd => ?_, c1, c2, by simpa [hlen] using c3, c4, fun i hi => c5 i (by omega)⟩
        rw [← h] at hd
        obtain ⟨o, b', r', h1, h2⟩ := tune_mem _ _ _ hd
        unfold byLevel at h1
        rw [List.mem_flatMap] at h1
        obtain ⟨_, _, h1⟩ := h1
        have h3 : o ∈ numbered l0 := (List.mem_filter.1 h1).1
        unfold numbered at h3
        rw [List.mem_map] at h3
        obtain ⟨⟨o0, i⟩, h3, h4⟩ := h3
        have h5 : l0[i]? = some o0 := by
          have := List.mem_zipIdx h3
          simp at this
          rw [List.getElem?_eq_some_iff]
          exact ⟨this.1, this.2.symm⟩
        have hro : Reads P ops o.ix o := by
          subst h4
          exact (hreads i o0 h5).congr rfl rfl (.inl rfl)
        obtain ⟨h6, h7⟩ := tuneO_reads (cl := closure (ops.toList.map afterOf)) (b := b') (r := r') hro
        rw [h2]
        refine ⟨h6, fun k hk => ?_⟩
        rw [h7] at hk
        subst h4
        exact dstOk_lt hdst o0 (List.mem_of_getElem? h5) k hk
      · simp at h

theorem closure_sound (afs : List (List Nat)) (S : Nat → Prop) (hS : ∀ i, S i → ∀ m ∈ afs.getD i [], S m) :
    ∀ i j, (∀ m ∈ afs.getD i [], S m) → ((closure afs).getD i 0).testBit j = true → S j := by
  have bits : ∀ (acc : List Nat), (∀ i j, (∀ m ∈ afs.getD i [], S m) → (acc.getD i 0).testBit j = true → S j) → ∀ (o : List Nat) (s : Nat) (j : Nat), (∀ m ∈ o, S m) →
      (o.foldl (fun s j => s ||| (2 ^ j ||| acc.getD j 0)) s).testBit j = true → s.testBit j = true ∨ S j := by
    intro acc hacc o
    induction o with
    | nil => intro s j _ h; exact .inl h
    | cons m o ih =>
      intro s j ho h
      rw [List.foldl_cons] at h
      rcases ih _ j (fun m hm => ho m (by simp [hm])) h with h1 | h1
      · rw [Nat.testBit_or, Nat.testBit_or, Bool.or_eq_true, Bool.or_eq_true] at h1
        rcases h1 with h1 | h1 | h1
        · exact .inl h1
        · right
          rw [Nat.testBit_two_pow] at h1
          have : m = j := by simpa using h1
          rw [← this]; exact ho m (by simp)
        · right
          exact hacc m j (hS m (ho m (by simp))) h1
      · exact .inr h1
  have main : ∀ (rest : List (List Nat)) (acc : List Nat), (∀ k, rest.getD k [] = afs.getD (acc.length + k) []) → (∀ i j, (∀ m ∈ afs.getD i [], S m) → (acc.getD i 0).testBit j = true → S j) →
      ∀ i j, (∀ m ∈ afs.getD i [], S m) → ((rest.foldl (fun acc o => acc ++ [o.foldl (fun s j => s ||| (2 ^ j ||| acc.getD j 0)) 0]) acc).getD i 0).testBit j = true → S j := by
    intro rest
    induction rest with
    | nil => intro acc _ hacc; exact hacc
    | cons o rest ih =>
      intro acc hr hacc
      rw [List.foldl_cons]
      refine ih _ (fun k => ?_) fun i j hi hb => ?_
      · have := hr (k + 1)
        simp only [List.getD_cons_succ] at this
        rw [this, List.length_append, List.length_singleton, Nat.add_assoc, Nat.add_comm 1 k]
      · by_cases h1 : i < acc.length
        · refine hacc i j hi ?_
          rwa [List.getD_eq_getElem?_getD, List.getElem?_append_left h1, ← List.getD_eq_getElem?_getD] at hb
        · by_cases h2 : i = acc.length
          · subst h2
            rw [List.getD_eq_getElem?_getD, List.getElem?_append_right (Nat.le_refl _)] at hb
            simp only [Nat.sub_self, List.getElem?_cons_zero, Option.getD_some] at hb
            have ho : ∀ m ∈ o, S m := by
              have := hr 0
              simp only [List.getD_cons_zero, Nat.add_zero] at this
              rw [this]; exact hi
            rcases bits acc hacc o 0 j ho hb with h3 | h3
            · simp at h3
            · exact h3
          · exfalso
            rw [List.getD_eq_getElem?_getD, List.getElem?_eq_none (by simp; omega)] at hb
            simp at hb
  exact main afs [] (fun k => by simp) fun i j _ hb => by simp at hb

theorem nodupB_nodup : ∀ {l : List Nat}, nodupB l = true → l.Nodup := by
  intro l
  induction l with
  | nil => intro _; simp
  | cons x r ih =>
    intro h
    simp only [nodupB, Bool.and_eq_true, Bool.not_eq_true', List.contains_eq_mem, decide_eq_false_iff_not] at h
    exact List.nodup_cons.2 ⟨h.1, ih h.2⟩

def PairR (cl : List Nat) (x y : DOper) : Prop := (cl.getD y.ix 0).testBit x.ix = true ∨ swapOk x y = true
theorem pairsOk_pairwise {cl : List Nat} : ∀ {l : List DOper}, pairsOk cl l = true → l.Pairwise (PairR cl) := by
  intro l
  induction l with
  | nil => intro _; simp
  | cons x r ih =>
    intro h
    simp only [pairsOk, Bool.and_eq_true, List.all_eq_true, Bool.or_eq_true] at h
    exact List.pairwise_cons.2 ⟨fun y hy => (h.1 y hy).2, ih h.2⟩

theorem exists_min : ∀ (l : List DOper), l ≠ [] → ∃ y ∈ l, ∀ z ∈ l, y.ix ≤ z.ix := by
  intro l
  induction l with
  | nil => intro h; exact absurd rfl h
  | cons x r ih =>
    intro _
    by_cases hr : r = []
    · subst hr; exact ⟨x, by simp, by simp⟩
    · obtain ⟨y, h1, h2⟩ := ih hr
      by_cases hxy : x.ix ≤ y.ix
      · exact ⟨x, by simp, fun z hz => by
          rcases List.mem_cons.1 hz with rfl | hz
          · exact Nat.le_refl _
          · exact Nat.le_trans hxy (h2 z hz)⟩
      · exact ⟨y, by simp [h1], fun z hz => by
          rcases List.mem_cons.1 hz with rfl | hz
          · omega
          · exact h2 z hz⟩

/-- Where a drawn region stands. -/
structure Drawn (P : Program) (N : Nat) (ops : Array Oper) (l : List DOper) (listed : Array Bool) : Prop where
  reads : ∀ y ∈ l, Reads P ops y.ix y ∧ dstLt N y
  open_ : ∀ y ∈ l, listed.getD y.ix true = false
  all : ∀ i, listed.getD i true = false → ∃ y ∈ l, y.ix = i
  nodup : (l.map (·.ix)).Nodup
  pairs : l.Pairwise (PairR (closure (ops.toList.map afterOf)))
  closed : ∀ i, listed.getD i false = true → ∀ m ∈ (ops.toList.map afterOf).getD i [], listed.getD m false = true
  size : listed.size = ops.size

theorem afs_get {ops : Array Oper} {i : Nat} {o : Oper} (h : ops[i]? = some o) : (ops.toList.map afterOf).getD i [] = afterOf o := by
  rw [List.getD_eq_getElem?_getD, List.getElem?_map, Array.getElem?_toList, h]
  rfl

theorem mem_afterOf {o : Oper} {m : Nat} : m ∈ afterOf o ↔ ∃ e ∈ o.after, Region.binds .any e = true ∧ e.on = m := by
  unfold afterOf
  simp only [List.mem_map, List.mem_filter, Array.mem_toList_iff]
  constructor
  · rintro ⟨e, ⟨h1, h2⟩, h3⟩; exact ⟨e, h1, h2, h3⟩
  · rintro ⟨e, h1, h2, h3⟩; exact ⟨e, ⟨h1, h2⟩, h3⟩

theorem mem_ready' {ops : Array Oper} {j : Nat} {listed : Array Bool} : j ∈ Region.ready .any ops listed ↔
    listed.getD j true = false ∧ j < ops.size ∧ ∀ m ∈ (ops.toList.map afterOf).getD j [], listed.getD m false = true := by
  rw [mem_ready]
  constructor
  · rintro ⟨h1, o, ho, h2⟩
    refine ⟨h1, (Array.getElem?_eq_some_iff.1 ho).1, fun m hm => ?_⟩
    rw [afs_get ho, mem_afterOf] at hm
    obtain ⟨e, h3, h4, rfl⟩ := hm
    exact h2 e h3 h4
  · rintro ⟨h1, hlt, h2⟩
    have ho : ops[j]? = some ops[j] := Array.getElem?_eq_getElem hlt
    refine ⟨h1, ops[j], ho, fun e he hb => h2 _ ?_⟩
    rw [afs_get ho, mem_afterOf]
    exact ⟨e, he, hb, rfl⟩

theorem getD_dflt {listed : Array Bool} {i : Nat} (h : i < listed.size) : listed.getD i true = listed.getD i false := by
  simp [h]

theorem Drawn.ready_ne {N : Nat} {ops : Array Oper} {l : List DOper} {listed : Array Bool} (hd : Drawn P N ops l listed) (ha : afterOk (ops.toList.map afterOf) = true) (hl : l ≠ []) : Region.ready .any ops listed ≠ [] := by
  obtain ⟨y, hy, hmin⟩ := exists_min l hl
  obtain ⟨o, ho, _⟩ := (hd.reads y hy).1.get
  have hlt : y.ix < ops.size := (Array.getElem?_eq_some_iff.1 ho).1
  have : y.ix ∈ Region.ready .any ops listed := by
    rw [mem_ready']
    refine ⟨hd.open_ y hy, hlt, fun m hm => ?_⟩
    have hm' : m < y.ix := by
      unfold afterOk at ha
      rw [List.all_eq_true] at ha
      have := ha y.ix (by simp [hlt])
      rw [List.all_eq_true] at this
      simpa using this m hm
    rw [← getD_dflt (by rw [hd.size]; omega)]
    cases hx : listed.getD m true with
    | true => rfl
    | false =>
      obtain ⟨z, hz, hzm⟩ := hd.all m hx
      have := hmin z hz
      omega
  intro hnil
  rw [hnil] at this
  simp at this

theorem region_any {ops : Array Oper} {r : Option Nat} {N : Nat} {Q : Exit → Act → World → Prop} {K : Env → Hp → Prop} (ha : afterOk (ops.toList.map afterOf) = true) :
    ∀ (fuel : Nat) (l : List DOper) (listed : Array Bool) (F : Nat → Prop) (w : World) (H : Hp) (env : Env) (a : Act) (L : Log), l.length ≤ fuel → Drawn P N ops l listed → (∀ o ∈ l, L o.ix = none) →
      a.tmps.size = N → B.Up F w → St F w H → RE F w env a → RD B P l K env H L → Ends N a F w H K (Q .normal) → wpAnyIn (FW r) 0 P .any ops Q fuel listed a w := by
  intro fuel
  induction fuel with
  | zero =>
    intro l listed F w H env a L hl hd _ hsz hB st re h hQ
    have hnil : l = [] := List.length_eq_zero_iff.1 (by omega)
    subst hnil
    refine ⟨?_, hQ a F w env H hsz rfl (Ext.refl _ _ _) st re h⟩
    cases hr : Region.ready .any ops listed with
    | nil => rfl
    | cons i rs =>
      have hi : i ∈ Region.ready .any ops listed := by rw [hr]; simp
      obtain ⟨y, hy, _⟩ := hd.all i (mem_ready'.1 hi).1
      simp at hy
  | succ fuel ih =>
    intro l listed F w H env a L hl hd hL hsz hB st re h hQ
    refine ⟨fun hr => ?_, fun i hi => ?_⟩
    · have hnil : l = [] := by
        cases l with
        | nil => rfl
        | cons x r => exact absurd hr (hd.ready_ne ha (by simp))
      subst hnil
      exact hQ a F w env H hsz rfl (Ext.refl _ _ _) st re h
    · obtain ⟨h1, hlt, h2⟩ := mem_ready'.1 hi
      obtain ⟨y, hy, rfl⟩ := hd.all i h1
      obtain ⟨pre, post, rfl⟩ := List.append_of_mem hy
      have hsw : ∀ x ∈ pre, swapOk x y = true := fun x hx => by
        have hp := (List.pairwise_append.1 hd.pairs).2.2 x hx y (by simp)
        rcases hp with hp | hp
        · exfalso
          have := closure_sound _ (fun i => listed.getD i false = true) hd.closed y.ix x.ix h2 hp
          have hx' := hd.open_ x (by simp [hx])
          have hxl : x.ix < listed.size := by
            obtain ⟨o, ho, _⟩ := (hd.reads x (by simp [hx])).1.get
            rw [hd.size]; exact (Array.getElem?_eq_some_iff.1 ho).1
          rw [getD_dflt hxl, this] at hx'
          simp at hx'
        · exact hp
      have hp := pull pre env H L st.fin hsw hd.nodup hL h
      refine simOp (hd.reads y hy).1 (hd.reads y hy).2 hsz hB st re (opD_opW hp) ?_
      rintro a' F' w' env' H' k1 k2 k3 k4 k5 ⟨L', k6, k7⟩
      have hsub : (pre ++ post).Sublist (pre ++ y :: post) := List.Sublist.append_left (List.sublist_cons_self _ _) _
      have hnd : ∀ z ∈ pre ++ post, z.ix ≠ y.ix := by
        intro z hz e
        have hn := hd.nodup
        rw [List.map_append, List.map_cons, List.nodup_append] at hn
        rcases List.mem_append.1 hz with hz | hz
        · exact hn.2.2 z.ix (List.mem_map_of_mem hz) y.ix (by simp) e
        · exact (List.nodup_cons.1 hn.2.1).1 (by rw [← e]; exact List.mem_map_of_mem hz)
      refine ih (pre ++ post) _ F' w' H' env' a' L' (by simp at hl ⊢; omega) ⟨fun z hz => hd.reads z (hsub.mem hz), fun z hz => ?_, fun j hj => ?_, hd.nodup.sublist (hsub.map _), hd.pairs.sublist hsub, fun j hj m hm => ?_, by simp [hd.size]⟩
        (fun z hz => by rw [k6 _ (hnd z hz)]; exact hL z (hsub.mem hz)) k1 (hB.step st k3) k4 k5 k7 (hQ.step k2 k3)
      · rw [getD_set_ne true (Ne.symm (hnd z hz))]; exact hd.open_ z (hsub.mem hz)
      · by_cases hjy : j = y.ix
        · subst hjy
          have : y.ix < listed.size := by rw [hd.size]; exact hlt
          simp [this] at hj
        · rw [getD_set_ne true (Ne.symm hjy)] at hj
          obtain ⟨z, hz, hzj⟩ := hd.all j hj
          refine ⟨z, ?_, hzj⟩
          simp only [List.mem_append, List.mem_cons] at hz ⊢
          rcases hz with hz | rfl | hz
          · exact .inl hz
          · exact absurd hzj.symm hjy
          · exact .inr hz
      · by_cases hjy : j = y.ix
        · subst hjy; exact getD_set_true (h2 m hm)
        · rw [getD_set_ne false (Ne.symm hjy)] at hj
          exact getD_set_true (hd.closed j hj m hm)

/-- A region, as it was read. -/
theorem sim_region {ops : Array Oper} {r : Option Nat} {N : Nat} {draw : Bool} {id : Nat} {l : List DOper} {Q : Exit → Act → World → Prop} {K : Env → Hp → Prop} (hm : P.follows .mixedOrders = true)
    (hc : compG P N ops draw = some l) (hsz : a.tmps.size = N) (hB : B.Up F w) (st : St F w H) (re : RE F w env a)
    (h : if draw then RD B P l K env H noL else RS B P l K env H) (hQ : Ends N a F w H K (Q .normal)) : (Code.region id ops draw).wpIn (FW r) 0 P Q a w := by
  cases draw with
  | false =>
    refine wpIn_region ?_
    unfold compG at hc
    split at hc
    · simp at hc
    · rename_i l0 hl0
      obtain ⟨hlen, hreads⟩ := compR_reads hl0
      split at hc
      · simp at hc
      · rename_i hdst
        simp only [Bool.not_eq_true', Bool.not_eq_false] at hdst
        simp only [Bool.false_eq_true, if_false, Option.some.injEq] at hc
        subst hc
        rw [← hlen, List.range_eq_range']
        exact region_seq l0 0 (fun j d hj => by rw [Nat.zero_add]; exact hreads j d hj) (dstOk_lt hdst) F w H env a hsz hB st re h hQ
  | true =>
    obtain ⟨c1, c2, c3, c4, c5, c6⟩ := compG_parts hc
    refine wpIn_region_any hm ?_
    have hlist : ∀ i, (Array.replicate ops.size false).getD i true = false ↔ i < ops.size := fun i => by
      by_cases h : i < ops.size <;> simp [h]
    refine region_any c2 ops.size l _ F w.drew H env a noL (by omega) ⟨c1, fun y hy => ?_, fun i hi => ?_, nodupB_nodup c5, pairsOk_pairwise c3, fun i hi => ?_, by simp⟩ (fun _ _ => rfl) hsz
      (hB.step st (ext_drew F w H)) (st_drew st) (re.up ((ext_drew F w H).up st)) h (hQ.step rfl (ext_drew F w H))
    · obtain ⟨o, ho, _⟩ := (c1 y hy).1.get
      exact (hlist _).2 (Array.getElem?_eq_some_iff.1 ho).1
    · have := c6 i ((hlist i).1 hi)
      rw [List.mem_map] at this
      exact this
    · exfalso
      simp only [Array.getD_eq_getD_getElem?, Array.getElem?_replicate] at hi
      split at hi <;> simp at hi

end Go.DL
