/- Parts of a proof, joined: K46 K47. No statement of the seed is proved here. -/
import Derived.Test.YtdbikamciedfdaaU5
set_option linter.unusedSimpArgs false
set_option linter.unusedVariables false
set_option linter.unusedSectionVars false
namespace Go.Proofs.Ytdbikamciedfdaa
open Go Go.DL
set_option maxRecDepth 100000
set_option maxHeartbeats 4000000

abbrev rM (rl : List Ms) : AV := .fs (rl.map Ms.row)
theorem w56 (x : Fl) (r : List Fl) (hn : r.length < 1000) : runW progX 56 [.fs ((x :: r).map Fl.row)] [] = some (.sl 0 0 7 (r.length + 1), [some (.blk true (.cells true (cF (x :: r))))]) := by
  have e : cF (x :: r) = x.row ++ cF r := rfl
  have q1 : ((r.map Fl.row).all fun r => r.length == 7) = true := by
    rw [List.all_eq_true]
    intro y hy
    obtain ⟨z, _, rfl⟩ := List.mem_map.1 hy
    rfl
  have q2 : (x.row :: r.map Fl.row).length = r.length + 1 := by simp
  have q3 : (x.row :: r.map Fl.row).flatten = I x.fr :: I x.to :: .bool x.me :: I x.m.a :: I x.m.b :: I x.m.c :: I x.m.d :: cF r := rfl
  have m5 : ((r.length + 1) * 56 ≤ 1099511627776) = True := eq_true (by omega)
  have m6 : (r.length + 1 ≤ 1099511627776) = True := eq_true (by omega)
  rw [e]
  simp only [List.map_cons]
  rw [r56 (by simp)]; unfold x56; dsimp only
  (sym => (simp [etaM, etaF, z00,z01,z05,z07,z0b,z0c,z0f,z0n,z0t,z0y,z1z,z46,z4s,z54,z55,z6d,z9d,z9e,z9g,z9i,z9n,z9r,z9v,z9w,z9y,za0,za1,za3,za6,za7,za8,za9,zae,zaf,zal,zbt,zbu,zbv,zby,zbz,zc0,zc3,zc4,zc5,zc6,zc8,zce,zcg,zco,zcp,zcq,zcr,zct,zcu,zcv,zcw,zcy,zd3,zdd,zdj,zdm,zdn,zdo,zds,zdt,zdw,zdx,zea,zeq,zer,zes,zet,zey,zf1,zf3,zf4,zfg,zfh,zfi,zfj,zfk,zfo,zfp,zfq,zft,zg0,zg1,zga,zhe,zhf, m5, m6, q1, q2, q3, cF_gr, cF_nm, cF_sl]; all_goals tactic => exact rfl))
theorem w63 (m : Ms) (h : ∀ k, -1000000000000 ≤ cmp k m ∧ cmp k m ≤ 1000000000000) : runW progX 63 [.agg m.row] [] = some (.bool false, []) := by
  have h0 := h 0
  have h1 := h 1
  have h2 := h 2
  have h3 := h 3
  simp only [cmp] at h0 h1 h2 h3
  have e : Ms.within m (-1000000000000) 1000000000000 = true := by
    simp only [Ms.within, btw, Bool.and_eq_true, decide_eq_true_eq]
    omega
  have c := w55 m.a m.b m.c m.d (-1000000000000) 1000000000000
  rw [show Ms.within ⟨m.a, m.b, m.c, m.d⟩ (-1000000000000) 1000000000000 = true from e] at c
  rw [r63 (by simp)]; unfold x63; dsimp only
  (sym => (simp [etaM, etaF, z00,z01,z05,z06,z07,z09,z0b,z0c,z0f,z0n,z0r,z0z,z1j,z1r,z1u,z20,z21,z26,z4l,z4m,z4o,z54,z57,z66,z67,z69,z6q,z7r,z7s,z7u,z8d,z9d,z9e,z9g,z9j,z9k,z9l,z9m,z9n,z9y,za2,za3,za5,za6,za7,za8,zaa,zab,zaq,zas,zat,zba,zbc,zbd,zbf,zbg,zbk,zbt,zbu,zbw,zbx,zby,zbz,zc0,zc3,zc4,zc5,zc6,zc8,zcj,zcn,zco,zcq,zcr,zct,zcu,zcv,zd3,zd6,zdo,zds,zdt,zdu,zdv,zdw,zdx,ze2,ze3,zeo,zep,zf6,zf7,zfa,zfg,zfo,zfp,zft,zg0,zg1, c]; all_goals tactic => exact rfl))
theorem w76 (rl : List Ms) (hn : rl.length < 1000000) (h : ∀ m ∈ rl, ∀ k, -1000000000000 ≤ cmp k m ∧ cmp k m ≤ 1000000000000) : runW progX 76 [rM rl, .fn (.func 63) [] []] [] = some (I (-1), []) := by
  have g0 := pad
  have g1 := pad
  have g2 := pad
  have e := pad
  have gz := zf5 (n := (rl.length : Int))
  rw [r76 (by simp)]; unfold x76; dsimp only
  sym =>
    simp [etaM, etaF, z00,z01,z05,z07,z0b,z0c,z0n,z0v,z15,z1f,z1j,z1r,z1u,z20,z21,z2b,z2g,z2h,z2j,z2v,z33,z34,z3h,z4l,z4o,z4q,z4y,z66,z67,z69,z6b,z6j,z6p,z7r,z7w,z84,z9j,z9k,z9l,z9m,z9n,z9y,za2,za3,za5,za7,za8,zaa,zab,zaq,zas,zat,zba,zbt,zbu,zbw,zbx,zby,zbz,zc0,zc3,zc4,zc5,zc6,zc8,zca,zcc,zcd,zce,zcf,zcg,zch,zcj,zcn,zco,zcq,zcr,zct,zcu,zcv,zcw,zcx,zcy,zdd,zdk,zdl,zdo,zds,zdt,zdu,zdv,ze2,ze3,zf5,zf8,zf9,zfa,zfm,zfo,zfp,zfq,zfr,zfs,zft,zfu,zfw,zfy,zfz,zg0,zg1]
    tactic =>
      unfold x76l0
      rw [loop_rule rl.length (fun i => [rM rl, .fn (.func 63) [] [], I rl.length, I (i : Nat)]) (fun _ => [])]
      case' hs =>
        intro i hi
        obtain ⟨m, g0⟩ := at_ix hi
        have g1 := up_ix hi (by omega)
        have g2 := lt_ix hi
        have e := w63 m (h m (List.mem_of_getElem? g0))
      all_goals (sym => (simp [etaM, etaF, z00,z01,z05,z07,z0b,z0c,z0n,z0v,z15,z1f,z1j,z1r,z1u,z20,z21,z2b,z2g,z2h,z2j,z2v,z33,z34,z3h,z4l,z4o,z4q,z4y,z66,z67,z69,z6b,z6j,z6p,z7r,z7w,z84,z9j,z9k,z9l,z9m,z9n,z9y,za2,za3,za5,za7,za8,zaa,zab,zaq,zas,zat,zba,zbt,zbu,zbw,zbx,zby,zbz,zc0,zc3,zc4,zc5,zc6,zc8,zca,zcc,zcd,zce,zcf,zcg,zch,zcj,zcn,zco,zcq,zcr,zct,zcu,zcv,zcw,zcx,zcy,zdd,zdk,zdl,zdo,zds,zdt,zdu,zdv,ze2,ze3,zf5,zf8,zf9,zfa,zfm,zfo,zfp,zfq,zfr,zfs,zft,zfu,zfw,zfy,zfz,zg0,zg1, g0, g1, g2, e, gz]; all_goals tactic => exact rfl))
theorem w62 (rl : List Ms) (hn : rl.length < 1000000) (h : ∀ m ∈ rl, ∀ k, -1000000000000 ≤ cmp k m ∧ cmp k m ≤ 1000000000000) : runW progX 62 [rM rl, .fn (.func 63) [] []] [] = some (.bool false, []) := by
  have e := w76 rl hn h
  rw [r62 (by simp)]; unfold x62; dsimp only
  (sym => (simp [etaM, etaF, z00,z01,z05,z06,z07,z09,z0b,z0c,z0n,z0v,z1r,z1u,z20,z21,z2y,z4m,z4q,z4y,z66,z67,z6b,z6j,z6q,z6u,z72,z7s,z7w,z84,z9m,z9n,z9y,za2,za3,za5,za7,za8,zaa,zab,zaq,zas,zat,zba,zbc,zbd,zbe,zbt,zbu,zbw,zbx,zby,zbz,zc0,zc3,zc4,zc5,zc6,zc8,zcj,zcn,zco,zcq,zcr,zct,zcv,zdl,zdo,zds,zdt,zdu,zdv,ze2,ze3,zfm,zfo,zfp,zft,zg0,zg1, e]; all_goals tactic => exact rfl))
theorem w64 (u v : Int) : runW progX 64 [I v, .pt 0 0] [some (.blk true (.cells true [I u]))] = some (.bool (decide (v = u)), [some (.blk true (.cells true [I u]))]) := by
  rw [r64 (by simp)]; unfold x64; dsimp only
  (sym => (simp [etaM, etaF, z00,z01,z05,z07,z0b,z0c,z0n,z0v,z1j,z2t,z4m,z67,z6q,z7r,z7s,z7z,z9d,z9e,z9g,z9n,z9p,z9y,za3,za5,za6,za7,za8,zae,zaf,zak,zal,zba,zbt,zbu,zbw,zbx,zby,zbz,zc0,zc3,zc4,zc5,zc6,zc8,zcj,zcn,zco,zcr,zcs,zct,zcu,zcv,zdo,zds,zdt,ze2,ze3,zf6,zf7,zfb,zfm,zfo,zfp,zft,zg0,zg1]; all_goals tactic => exact rfl))
theorem w39C (u : Int) (l : List Fl) (wo : Int) (g : Nat) (c : Int) (f : Int → Bool) (hn : l.length < 1000000) (hf : ∀ u, runW progX g (I u :: [.pt 0 0]) [some (.blk true (.cells true [I c]))] = some (.bool (f u), [some (.blk true (.cells true [I c]))])) :
    runW progX 39 [plA u l, I wo, .fn (.func g) [] [.pt 0 0]] [some (.blk true (.cells true [I c]))] = some (.agg [I (exI f wo l l.length).a, I (exI f wo l l.length).b, I (exI f wo l l.length).c, I (exI f wo l l.length).d], [some (.blk true (.cells true [I c]))]) := by
  rw [r39 (by simp)]; unfold x39; dsimp only
  have g0 := pad
  have g1 := pad
  have g2 := pad
  have g3 := pad
  have g4 := pad
  have g5 := pad
  have g6 := pad
  sym =>
    simp [etaM, etaF, z00,z01,z02,z03,z04,z05,z06,z07,z09,z0a,z0b,z0c,z0f,z0h,z0j,z0l,z0n,z0o,z0q,z0r,z0v,z0w,z0z,z12,z15,z1f,z1j,z1k,z1m,z1n,z1o,z1p,z1r,z1u,z1v,z1w,z20,z21,z22,z23,z24,z26,z29,z2b,z2g,z2h,z2j,z2t,z2v,z33,z34,z3h,z4l,z4o,z4q,z4t,z4y,z54,z55,z57,z59,z66,z67,z69,z6b,z6e,z6j,z6p,z6s,z7r,z7u,z7w,z84,z8d,z9d,z9e,z9g,z9i,z9j,z9k,z9l,z9m,z9n,z9p,z9r,z9s,z9t,z9v,z9w,z9y,za0,za1,za2,za3,za5,za6,za7,za8,za9,zaa,zab,zac,zae,zaf,zak,zal,zaq,zas,zat,zau,zav,zaw,zax,zaz,zb1,zb2,zb3,zba,zbc,zbd,zbf,zbg,zbk,zbt,zbu,zbw,zbx,zby,zbz,zc0,zc3,zc4,zc5,zc7,zc8,zca,zcc,zcd,zce,zcf,zcg,zch,zcj,zcn,zco,zcp,zcq,zcr,zcs,zct,zcu,zcv,zcw,zcx,zcy,zd3,zd6,zd7,zd8,zd9,zdb,zdd,zdj,zdk,zdl,zdm,zdn,zdo,zds,zdt,zdu,zdv,zdw,zdx,zdy,zdz,ze2,ze3,ze9,zeo,zep,zf5,zf6,zf7,zf8,zf9,zfa,zfb,zfc,zfd,zfg,zfm,zfo,zfp,zfq,zfr,zfs,zft,zfu,zfw,zfy,zfz,zg0,zg1]
    tactic =>
      unfold x39l0
      rw [loop_rule l.length (fun i => [I wo, .fn (.func g) [] [.pt 0 0], .pt 1 0, .pt 2 0, .fs (l.map Fl.row), I l.length, I (i : Nat)]) (fun i => [some (.blk true (.cells true [I c]))] ++ [some (.blk true (.cells true [I 0, I 0, I 0, I 0])), some (.blk true (.cells true [I (exI f wo l i).a, I (exI f wo l i).b, I (exI f wo l i).c, I (exI f wo l i).d]))])]
      case' hs =>
        intro i hi
        obtain ⟨x, g0⟩ := at_ix hi
        have g1 := up_ix hi (by omega)
        have g2 := lt_ix hi
        have e3 : exI f wo l (i + 1) = exStep f wo i x (exI f wo l i) := by simp [exI, g0]
        simp only [e3, exStep]
        rcases ptf ((i : Int) = wo) with g3 | g3 <;> cases g4 : x.me <;> cases g5 : f x.to <;> cases g6 : f x.fr
      all_goals (sym => (simp [etaM, etaF, z00,z01,z02,z03,z04,z05,z06,z07,z09,z0a,z0b,z0c,z0f,z0h,z0j,z0l,z0n,z0o,z0q,z0r,z0v,z0w,z0z,z12,z15,z1f,z1j,z1k,z1m,z1n,z1o,z1p,z1r,z1u,z1v,z1w,z20,z21,z22,z23,z24,z26,z29,z2b,z2g,z2h,z2j,z2t,z2v,z33,z34,z3h,z4l,z4o,z4q,z4t,z4y,z54,z55,z57,z59,z66,z67,z69,z6b,z6e,z6j,z6p,z6s,z7r,z7u,z7w,z84,z8d,z9d,z9e,z9g,z9i,z9j,z9k,z9l,z9m,z9n,z9p,z9r,z9s,z9t,z9v,z9w,z9y,za0,za1,za2,za3,za5,za6,za7,za8,za9,zaa,zab,zac,zae,zaf,zak,zal,zaq,zas,zat,zau,zav,zaw,zax,zaz,zb1,zb2,zb3,zba,zbc,zbd,zbf,zbg,zbk,zbt,zbu,zbw,zbx,zby,zbz,zc0,zc3,zc4,zc5,zc7,zc8,zca,zcc,zcd,zce,zcf,zcg,zch,zcj,zcn,zco,zcp,zcq,zcr,zcs,zct,zcu,zcv,zcw,zcx,zcy,zd3,zd6,zd7,zd8,zd9,zdb,zdd,zdj,zdk,zdl,zdm,zdn,zdo,zds,zdt,zdu,zdv,zdw,zdx,zdy,zdz,ze2,ze3,ze9,zeo,zep,zf5,zf6,zf7,zf8,zf9,zfa,zfb,zfc,zfd,zfg,zfm,zfo,zfp,zfq,zfr,zfs,zft,zfu,zfw,zfy,zfz,zg0,zg1, hf, g0, g1, g2, g3, g4, g5, g6, w61]; all_goals tactic => exact rfl))

/-! ### The whole plant -/
theorem cF_splg {l : List Fl} {i : Nat} {x : Fl} (h : l[i]? = some x) {o : Nat} {vs : List AV} {y : Fl} (ho : o + vs.length ≤ 7) (hy : splice x.row o vs = y.row) : splice (cF l) (i * 7 + o) vs = cF (l.set i y) := by
  induction l generalizing i with
  | nil => simp at h
  | cons z r ih =>
    have e : ∀ (a : Fl) (b : List Fl), cF (a :: b) = a.row ++ cF b := fun _ _ => rfl
    have hz : ∀ a : Fl, a.row.length = 7 := fun _ => rfl
    cases i with
    | zero =>
      simp only [List.getElem?_cons_zero, Option.some.injEq] at h
      subst h
      rw [List.set_cons_zero, e, e, ← hy, Nat.zero_mul, Nat.zero_add]
      unfold splice
      rw [List.take_append_of_le_length (by rw [hz]; omega), List.drop_append_of_le_length (by rw [hz]; omega)]
      simp only [List.append_assoc]
    | succ i =>
      simp only [List.getElem?_cons_succ] at h
      rw [List.set_cons_succ, e, e, ← ih h]
      unfold splice
      have e7 : (i + 1) * 7 + o = z.row.length + (i * 7 + o) := by rw [hz]; omega
      rw [e7, List.take_length_add_append, Nat.add_assoc, List.drop_length_add_append]
      simp only [List.append_assoc]
def whL (l : List Fl) (rl : List Ms) : Nat → List Fl
  | 0 => l
  | i + 1 => match l[i]? with
    | some x => (whL l rl i).set i ⟨x.fr, x.to, true, rl.getD i Ms.zero⟩
    | none => whL l rl i
theorem whL_len (l : List Fl) (rl : List Ms) : ∀ i, (whL l rl i).length = l.length
  | 0 => rfl
  | i + 1 => by
    rw [whL]
    split
    · rw [List.length_set, whL_len l rl i]
    · exact whL_len l rl i
theorem whL_ge (l : List Fl) (rl : List Ms) : ∀ i j, i ≤ j → (whL l rl i)[j]? = l[j]?
  | 0, _, _ => rfl
  | i + 1, j, h => by
    have ih := whL_ge l rl i j (by omega)
    rw [whL]
    split
    · rw [List.getElem?_set_ne (by omega), ih]
    · exact ih
theorem whL_lt (l : List Fl) (rl : List Ms) : ∀ i j (x : Fl), j < i → l[j]? = some x → (whL l rl i)[j]? = some ⟨x.fr, x.to, true, rl.getD j Ms.zero⟩
  | i + 1, j, x, h, hx => by
    have hj : j < l.length := by rw [List.getElem?_eq_some_iff] at hx; exact hx.1
    rw [whL]
    by_cases hij : j = i
    · subst hij
      rw [hx]
      dsimp only
      rw [List.getElem?_set_self (by rw [whL_len]; exact hj)]
    · have ih := whL_lt l rl i j x (by omega) hx
      split
      · rw [List.getElem?_set_ne (fun e => hij e.symm), ih]
      · exact ih
theorem wh_lin (l : List Fl) (rl : List Ms) (S : Int → Bool) (k : Nat) : ∀ n, linI S (-1) (whL l rl l.length) k n = linR S l rl k n
  | 0 => rfl
  | n + 1 => by
    have ih := wh_lin l rl S k n
    simp only [linI, linR, ih]
    cases hx : l[n]? with
    | none => rw [← whL_ge l rl l.length n (by rw [List.getElem?_eq_none_iff] at hx; exact hx)] at hx; rw [hx]
    | some x =>
      have hj : n < l.length := by rw [List.getElem?_eq_some_iff] at hx; exact hx.1
      rw [whL_lt l rl l.length n x hj hx]
      have hd : decide ((n : Int) = -1) = false := decide_eq_false (by omega)
      simp [hd]
theorem wh_zero {l : List Fl} {rl : List Ms} (hl : l.length < 1000) (b : Bal l rl) (hb : ∀ j k, -1000000000 ≤ cmp k (rl.getD j Ms.zero) ∧ cmp k (rl.getD j Ms.zero) ≤ 1000000000) {S : Int → Bool} (hS : S (-1) = false) : exI S (-1) (whL l rl l.length) l.length = Ms.zero := by
  apply ms_ext
  intro k
  have hbl : boundL (whL l rl l.length) := by
    intro y hy hme k
    obtain ⟨j, hj, he⟩ := List.mem_iff_getElem.1 hy
    rw [whL_len] at hj
    obtain ⟨x, hx⟩ := at_ix hj
    have := whL_lt l rl l.length j x hj hx
    rw [List.getElem?_eq_getElem (by rw [whL_len]; exact hj), he, Option.some.injEq] at this
    rw [this]
    exact hb j k
  rw [ex_lin hbl k l.length (by omega), wh_lin, b.zero S hS k, cmp_zero]

abbrev h34 (U : Nat) (l L : List Fl) : XH := [some (.blk true (.cells true [I U, .fs (l.map Fl.row)])), some (.blk false (.cells true [I U, .sl 2 0 7 l.length])), some (.blk true (.cells true (cF L)))]
theorem round34 {U : Nat} {l : List Fl} {rl : List Ms} (hl : rl.length = l.length) (hn : l.length < 1000) (b : Bal l rl) {i : Nat} (hi : i < l.length) :
    headX 0 [2, 7, 32, 33, 34] (execW progX 34 0 none (match x34l0 with | .loop _ a => a | c => c) (envL [2, 7, 32, 33, 34] [.pt 0 0, .pt 1 0, rM rl, I l.length, I (i : Nat)]) (h34 U l (whL l rl i))) =
      some ([.pt 0 0, .pt 1 0, rM rl, I l.length, I (i + 1 : Nat)], h34 U l (whL l rl (i + 1))) := by
  obtain ⟨x, hx⟩ := at_ix hi
  obtain ⟨r, hr⟩ := at_ix (l := rl) (i := i) (by omega)
  have hrd : rl.getD i Ms.zero = r := by rw [List.getD_eq_getElem?_getD, hr]; rfl
  have ha := b.agree i x hx
  rw [hrd] at ha
  have hL := whL_ge l rl i i (Nat.le_refl i)
  rw [hx] at hL
  have hLl := whL_len l rl i
  have e1 : whL l rl (i + 1) = (whL l rl i).set i ⟨x.fr, x.to, true, r⟩ := by rw [whL, hx, hrd]
  rw [e1]
  generalize whL l rl i = L at *
  have c1 := cF_splg hL (o := 2) (vs := [.bool true]) (y := ⟨x.fr, x.to, true, x.m⟩) (by simp) rfl
  have hL2 : (L.set i ⟨x.fr, x.to, true, x.m⟩)[i]? = some ⟨x.fr, x.to, true, x.m⟩ := by rw [List.getElem?_set_self (by omega)]
  have c2 := cF_splg hL2 (o := 3) (vs := [I r.a, I r.b, I r.c, I r.d]) (y := ⟨x.fr, x.to, true, r⟩) (by simp) rfl
  rw [List.set_set] at c2
  have a1 := lt_ix hi
  have a2 := up_ix hi (by omega)
  have a3 := eq_true (show i * 7 + 2 + 1 ≤ (cF L).length by rw [cF_len]; omega)
  have a4 := eq_true (show i * 7 + 3 + 4 ≤ (cF (L.set i ⟨x.fr, x.to, true, x.m⟩)).length by rw [cF_len, List.length_set]; omega)
  have a5 : ((i : Int) < (rl.length : Int)) = True := eq_true (by omega)
  unfold x34l0
  dsimp only
  cases hme : x.me
  · (sym => (simp [etaM, etaF, z00,z01,z02,z03,z04,z05,z07,z08,z0b,z0c,z0h,z0i,z0k,z0n,z0o,z0q,z0v,z0x,z12,z15,z1j,z1k,z1l,z1m,z1n,z1o,z1p,z1q,z22,z23,z29,z2a,z2f,z2g,z2h,z2j,z2v,z33,z34,z44,z45,z4l,z4q,z4s,z4t,z54,z55,z66,z6b,z6d,z6e,z8b,z8d,z91,z9d,z9e,z9g,z9i,z9j,z9k,z9l,z9m,z9p,z9r,z9s,z9v,z9w,z9y,za0,za1,za3,za6,za7,za8,za9,zae,zaf,zag,zal,zam,zav,zaw,zca,zcc,zcd,zce,zcf,zcg,zcn,zco,zcp,zcq,zcr,zct,zcu,zcv,zcw,zcx,zcy,zd3,zd6,zd7,zd8,zd9,zdd,zdj,zdk,zdl,zdm,zdn,zds,zdt,zdu,zdv,zdw,zdx,ze9,zed,zeg,zeh,zei,zf6,zf7,zf8,zf9,zfa,zfb,zfc,zfd,zfm,zfo,zfq,zfs,zft,zfw,zfz,zg0,zg1,zhe,zhf,zj8, a1, a2, a3, a4, a5, hx, hr, hme, c1, c2, cF_gr, cF_nm, cF_sl]; all_goals tactic => exact rfl))
  · have ha := ha hme
    subst ha
    (sym => (simp [etaM, etaF, z00,z01,z02,z03,z04,z05,z07,z08,z0b,z0c,z0h,z0i,z0k,z0n,z0o,z0q,z0v,z0x,z12,z15,z1j,z1k,z1l,z1m,z1n,z1o,z1p,z1q,z22,z23,z29,z2a,z2f,z2g,z2h,z2j,z2v,z33,z34,z44,z45,z4l,z4q,z4s,z4t,z54,z55,z66,z6b,z6d,z6e,z8b,z8d,z91,z9d,z9e,z9g,z9i,z9j,z9k,z9l,z9m,z9p,z9r,z9s,z9v,z9w,z9y,za0,za1,za3,za6,za7,za8,za9,zae,zaf,zag,zal,zam,zav,zaw,zca,zcc,zcd,zce,zcf,zcg,zcn,zco,zcp,zcq,zcr,zct,zcu,zcv,zcw,zcx,zcy,zd3,zd6,zd7,zd8,zd9,zdd,zdj,zdk,zdl,zdm,zdn,zds,zdt,zdu,zdv,zdw,zdx,ze9,zed,zeg,zeh,zei,zf6,zf7,zf8,zf9,zfa,zfb,zfc,zfd,zfm,zfo,zfq,zfs,zft,zfw,zfz,zg0,zg1,zhe,zhf,zj8, a1, a2, a3, a4, a5, hx, hr, hme, c1, c2, cF_gr, cF_nm, cF_sl]; all_goals tactic => exact rfl))
abbrev h34u (U N : Nat) (L : List Fl) (u : Nat) : XH := if u = 0 then [some (.blk false (.cells true [I U, .sl 1 0 7 N])), some (.blk true (.cells true (cF L)))] else [some (.blk true (.cells true [I U, .fs (L.map Fl.row)]))]
theorem round34u {U N : Nat} {L : List Fl} (hU : U < 1000) (hL : L.length = N) (hN : N < 1000) (hz : ∀ S : Int → Bool, S (-1) = false → exI S (-1) L N = Ms.zero) {u : Nat} (hu : u < U) :
    headX 0 [7, 68, 69] (execW progX 34 0 none (match x34l1 with | .loop _ a => a | c => c) (envL [7, 68, 69] [.pt 0 0, I U, I (u : Nat)]) (h34u U N L u)) =
      some ([.pt 0 0, I U, I (u + 1 : Nat)], h34u U N L (u + 1)) := by
  have a1 : ((u : Int) < (U : Int)) = True := eq_true (by omega)
  have a2 : IntKind.i64.wrap ((u : Int) + 1) = ((u + 1 : Nat) : Int) := by rw [wrap_ok (by omega) (by omega)]; omega
  have e := w39C U L (-1) 64 u (fun v => decide (v = u)) (by omega) (fun v => w64 u v)
  rw [hL, hz (fun v => decide (v = u)) (decide_eq_false (by omega))] at e
  have e : runW progX 39 [plA U L, I (-1), .fn (.func 64) [] [.pt 0 0]] [some (.blk true (.cells true [I u]))] = some (.agg [I 0, I 0, I 0, I 0], [some (.blk true (.cells true [I u]))]) := e
  have b2 := cF_ch L
  have b3 := eq_true (show N * 7 ≤ (cF L).length by rw [cF_len]; omega)
  rw [hL] at b2
  have s1 : h34u U N L (u + 1) = [some (.blk true (.cells true [I U, .fs (L.map Fl.row)]))] := if_neg (by omega)
  rw [s1]
  unfold x34l1
  dsimp only
  by_cases hu0 : u = 0
  · subst hu0
    have a3 : IntKind.i64.wrap 1 = 1 := rfl
    have a4 : ((0 : Int) < (U : Int)) = True := a1
    have e : runW progX 39 [plA U L, I (-1), .fn (.func 64) [] [.pt 0 0]] [some (.blk true (.cells true [I 0]))] = some (.agg [I 0, I 0, I 0, I 0], [some (.blk true (.cells true [I 0]))]) := e
    unfold h34u
    rw [if_pos rfl]
    (sym => (simp [etaM, etaF, z00,z01,z02,z05,z06,z07,z09,z0b,z0c,z0n,z0o,z0p,z0s,z0v,z0x,z1j,z1n,z1o,z1r,z1u,z20,z21,z2j,z2v,z36,z3h,z3j,z44,z45,z4f,z4l,z4o,z4q,z4t,z4y,z54,z59,z66,z69,z6b,z6e,z6j,z6p,z6w,z78,z7f,z7g,z8a,z9d,z9e,z9g,z9i,z9j,z9k,z9l,z9m,z9r,z9t,z9v,z9w,z9y,za0,za1,za2,za3,za5,za6,za7,za8,za9,zaa,zab,zac,zae,zaf,zal,zaq,zas,zat,zau,zb4,zb5,zb9,zba,zbb,zbc,zbd,zbf,zbg,zbj,zbk,zbm,zbn,zbp,zca,zcc,zcd,zce,zcf,zcg,zcn,zco,zcp,zcq,zcr,zct,zcu,zcv,zcy,zd3,zd6,zdd,zdj,zdk,zdo,zds,zdt,zdu,zdv,zdw,zdx,zdy,zdz,ze0,ze1,ze9,zea,zed,zeg,zeh,zei,zf6,zf7,zfa,zfc,zfd,zfm,zfo,zfq,zfs,zft,zfw,zfz,zg0,zg1,zhe,zhf, a3, a4, e, b2, b3, cF_gr, cF_nm, cF_sl]; all_goals tactic => exact rfl))
  · unfold h34u
    rw [if_neg hu0]
    (sym => (simp [etaM, etaF, z00,z01,z02,z05,z06,z07,z09,z0b,z0c,z0n,z0o,z0p,z0s,z0v,z0x,z1j,z1n,z1o,z1r,z1u,z20,z21,z2j,z2v,z36,z3h,z3j,z44,z45,z4f,z4l,z4o,z4q,z4t,z4y,z54,z59,z66,z69,z6b,z6e,z6j,z6p,z6w,z78,z7f,z7g,z8a,z9d,z9e,z9g,z9i,z9j,z9k,z9l,z9m,z9r,z9t,z9v,z9w,z9y,za0,za1,za2,za3,za5,za6,za7,za8,za9,zaa,zab,zac,zae,zaf,zal,zaq,zas,zat,zau,zb4,zb5,zb9,zba,zbb,zbc,zbd,zbf,zbg,zbj,zbk,zbm,zbn,zbp,zca,zcc,zcd,zce,zcf,zcg,zcn,zco,zcp,zcq,zcr,zct,zcu,zcv,zcy,zd3,zd6,zdd,zdj,zdk,zdo,zds,zdt,zdu,zdv,zdw,zdx,zdy,zdz,ze0,ze1,ze9,zea,zed,zeg,zeh,zei,zf6,zf7,zfa,zfc,zfd,zfm,zfo,zfq,zfs,zft,zfw,zfz,zg0,zg1,zhe,zhf, a1, a2, e]; all_goals tactic => exact rfl))
theorem w34 {U : Nat} {l : List Fl} {rl : List Ms} (hck : checkP U l = 0) (hl : rl.length = l.length) (h0 : l ≠ []) (b : Bal l rl) (hb : ∀ r ∈ rl, ∀ k, -1000000000 ≤ cmp k r ∧ cmp k r ≤ 1000000000) : runW progX 34 [plA U l, rM rl] [] = some (.tup [I 0, I 0], []) := by
  obtain ⟨u1, u2, u3, u4⟩ := checkP_u hck
  have e20 := w20 U l (by omega)
  rw [hck] at e20
  have e62 := w62 rl (by omega) (fun m hm k => by have := hb m hm k; omega)
  have hb2 : ∀ j k, -1000000000 ≤ cmp k (rl.getD j Ms.zero) ∧ cmp k (rl.getD j Ms.zero) ≤ 1000000000 := by
    intro j k
    rw [List.getD_eq_getElem?_getD]
    cases hr : rl[j]? with
    | none => simp only [Option.getD_none, cmp_zero]; omega
    | some r => exact hb r (List.mem_of_getElem? hr) k
  have hz := fun S hS => wh_zero (by omega) b hb2 (S := S) hS
  have r1 := fun (i : Nat) hi => round34 (U := U) hl (by omega) b (i := i) hi
  have r2 := fun (u : Nat) hu => round34u (U := U) (L := whL l rl l.length) (by omega) (whL_len ..) (by omega) hz (u := u) hu
  have e56 : runW progX 56 [.fs (l.map Fl.row)] [] = some (.sl 0 0 7 l.length, [some (.blk true (.cells true (cF l)))]) := by
    cases l with
    | nil => exact absurd rfl h0
    | cons x r => exact w56 x r (by simp at u3; omega)
  have z1 := zf5 (n := (l.length : Int))
  have z2 := zf5 (n := (U : Int))
  have w0 : whL l rl 0 = l := rfl
  have hU0 : ¬ U = 0 := by omega
  generalize hL : whL l rl l.length = L at *
  rw [r34 (by simp)]; unfold x34; dsimp only
  sym =>
    simp [etaM, etaF, z00,z01,z02,z03,z04,z05,z06,z07,z08,z09,z0b,z0c,z0f,z0n,z0o,z0r,z0s,z0v,z12,z1f,z1j,z1k,z1m,z1n,z1p,z1q,z1r,z1u,z1v,z1w,z20,z21,z29,z2b,z2u,z2v,z3h,z4f,z4l,z4o,z4p,z4q,z4s,z4t,z4y,z54,z57,z59,z5b,z5e,z66,z67,z69,z6a,z6b,z6d,z6e,z6j,z6p,z6t,z6u,z7r,z7u,z7v,z7w,z8a,z8d,z8h,z91,z9d,z9e,z9g,z9i,z9j,z9k,z9l,z9m,z9n,z9p,z9r,z9s,z9v,z9w,z9x,z9y,za0,za1,za2,za3,za5,za6,za7,za8,za9,zaa,zab,zae,zaf,zag,zal,zam,zaq,zas,zat,zav,zaw,zax,zaz,zba,zbc,zbd,zbe,zbf,zbg,zbk,zbt,zbu,zbw,zbx,zby,zbz,zc2,zc3,zc4,zc5,zc6,zc8,zca,zcc,zcd,zce,zcg,zch,zcj,zcn,zco,zcp,zcq,zcr,zct,zcu,zcv,zcw,zcy,zd3,zd5,zd6,zd7,zd8,zd9,zdd,zdj,zdk,zdl,zdm,zdn,zdo,zds,zdt,zdu,zdv,zdw,zdx,zdy,zdz,ze2,ze3,ze9,zea,zeb,zec,zeo,zep,zf5,zf6,zf7,zfa,zfb,zfc,zfd,zfg,zfm,zfo,zfp,zfq,zfr,zfs,zft,zfu,zfw,zfy,zfz,zg0,zg1,zhf,zj8, e20, e62, e56, hl, cF_gr, cF_nm, cF_sl]
    tactic =>
      unfold x34l0
      rw [loop_rule l.length (fun i => [.pt 0 0, .pt 1 0, rM rl, I l.length, I (i : Nat)]) (fun i => h34 U l (whL l rl i))]
      · rw [hL]
        sym =>
          simp [etaM, etaF, z00,z01,z02,z03,z04,z05,z06,z07,z08,z09,z0b,z0c,z0f,z0n,z0o,z0r,z0s,z0v,z12,z1f,z1j,z1k,z1m,z1n,z1p,z1q,z1r,z1u,z1v,z1w,z20,z21,z29,z2b,z2u,z2v,z3h,z4f,z4l,z4o,z4p,z4q,z4s,z4t,z4y,z54,z57,z59,z5b,z5e,z66,z67,z69,z6a,z6b,z6d,z6e,z6j,z6p,z6t,z6u,z7r,z7u,z7v,z7w,z8a,z8d,z8h,z91,z9d,z9e,z9g,z9i,z9j,z9k,z9l,z9m,z9n,z9p,z9r,z9s,z9v,z9w,z9x,z9y,za0,za1,za2,za3,za5,za6,za7,za8,za9,zaa,zab,zae,zaf,zag,zal,zam,zaq,zas,zat,zav,zaw,zax,zaz,zba,zbc,zbd,zbe,zbf,zbg,zbk,zbt,zbu,zbw,zbx,zby,zbz,zc2,zc3,zc4,zc5,zc6,zc8,zca,zcc,zcd,zce,zcg,zch,zcj,zcn,zco,zcp,zcq,zcr,zct,zcu,zcv,zcw,zcy,zd3,zd5,zd6,zd7,zd8,zd9,zdd,zdj,zdk,zdl,zdm,zdn,zdo,zds,zdt,zdu,zdv,zdw,zdx,zdy,zdz,ze2,ze3,ze9,zea,zeb,zec,zeo,zep,zf5,zf6,zf7,zfa,zfb,zfc,zfd,zfg,zfm,zfo,zfp,zfq,zfr,zfs,zft,zfu,zfw,zfy,zfz,zg0,zg1,zhf,zj8, z1]
          tactic =>
            unfold x34l1
            rw [loop_rule U (fun u => [.pt 0 0, I U, I (u : Nat)]) (fun u => h34u U l.length L u)]
            · unfold h34u; rw [if_neg hU0]; (sym => (simp [etaM, etaF, z00,z01,z02,z03,z04,z05,z06,z07,z08,z09,z0b,z0c,z0f,z0n,z0o,z0r,z0s,z0v,z12,z1f,z1j,z1k,z1m,z1n,z1p,z1q,z1r,z1u,z1v,z1w,z20,z21,z29,z2b,z2u,z2v,z3h,z4f,z4l,z4o,z4p,z4q,z4s,z4t,z4y,z54,z57,z59,z5b,z5e,z66,z67,z69,z6a,z6b,z6d,z6e,z6j,z6p,z6t,z6u,z7r,z7u,z7v,z7w,z8a,z8d,z8h,z91,z9d,z9e,z9g,z9i,z9j,z9k,z9l,z9m,z9n,z9p,z9r,z9s,z9v,z9w,z9x,z9y,za0,za1,za2,za3,za5,za6,za7,za8,za9,zaa,zab,zae,zaf,zag,zal,zam,zaq,zas,zat,zav,zaw,zax,zaz,zba,zbc,zbd,zbe,zbf,zbg,zbk,zbt,zbu,zbw,zbx,zby,zbz,zc2,zc3,zc4,zc5,zc6,zc8,zca,zcc,zcd,zce,zcg,zch,zcj,zcn,zco,zcp,zcq,zcr,zct,zcu,zcv,zcw,zcy,zd3,zd5,zd6,zd7,zd8,zd9,zdd,zdj,zdk,zdl,zdm,zdn,zdo,zds,zdt,zdu,zdv,zdw,zdx,zdy,zdz,ze2,ze3,ze9,zea,zeb,zec,zeo,zep,zf5,zf6,zf7,zfa,zfb,zfc,zfd,zfg,zfm,zfo,zfp,zfq,zfr,zfs,zft,zfu,zfw,zfy,zfz,zg0,zg1,zhf,zj8, z2]; all_goals tactic => exact rfl))
            · unfold h34u; rw [if_pos rfl]; (sym => (simp [etaM, etaF, z00,z01,z02,z03,z04,z05,z06,z07,z08,z09,z0b,z0c,z0f,z0n,z0o,z0r,z0s,z0v,z12,z1f,z1j,z1k,z1m,z1n,z1p,z1q,z1r,z1u,z1v,z1w,z20,z21,z29,z2b,z2u,z2v,z3h,z4f,z4l,z4o,z4p,z4q,z4s,z4t,z4y,z54,z57,z59,z5b,z5e,z66,z67,z69,z6a,z6b,z6d,z6e,z6j,z6p,z6t,z6u,z7r,z7u,z7v,z7w,z8a,z8d,z8h,z91,z9d,z9e,z9g,z9i,z9j,z9k,z9l,z9m,z9n,z9p,z9r,z9s,z9v,z9w,z9x,z9y,za0,za1,za2,za3,za5,za6,za7,za8,za9,zaa,zab,zae,zaf,zag,zal,zam,zaq,zas,zat,zav,zaw,zax,zaz,zba,zbc,zbd,zbe,zbf,zbg,zbk,zbt,zbu,zbw,zbx,zby,zbz,zc2,zc3,zc4,zc5,zc6,zc8,zca,zcc,zcd,zce,zcg,zch,zcj,zcn,zco,zcp,zcq,zcr,zct,zcu,zcv,zcw,zcy,zd3,zd5,zd6,zd7,zd8,zd9,zdd,zdj,zdk,zdl,zdm,zdn,zdo,zds,zdt,zdu,zdv,zdw,zdx,zdy,zdz,ze2,ze3,ze9,zea,zeb,zec,zeo,zep,zf5,zf6,zf7,zfa,zfb,zfc,zfd,zfg,zfm,zfo,zfp,zfq,zfr,zfs,zft,zfu,zfw,zfy,zfz,zg0,zg1,zhf,zj8, cF_gr, cF_nm, cF_sl]; all_goals tactic => exact rfl))
            · exact r2
            · unfold h34u; rw [if_neg hU0]; (sym => (simp [etaM, etaF, z00,z01,z02,z03,z04,z05,z06,z07,z08,z09,z0b,z0c,z0f,z0n,z0o,z0r,z0s,z0v,z12,z1f,z1j,z1k,z1m,z1n,z1p,z1q,z1r,z1u,z1v,z1w,z20,z21,z29,z2b,z2u,z2v,z3h,z4f,z4l,z4o,z4p,z4q,z4s,z4t,z4y,z54,z57,z59,z5b,z5e,z66,z67,z69,z6a,z6b,z6d,z6e,z6j,z6p,z6t,z6u,z7r,z7u,z7v,z7w,z8a,z8d,z8h,z91,z9d,z9e,z9g,z9i,z9j,z9k,z9l,z9m,z9n,z9p,z9r,z9s,z9v,z9w,z9x,z9y,za0,za1,za2,za3,za5,za6,za7,za8,za9,zaa,zab,zae,zaf,zag,zal,zam,zaq,zas,zat,zav,zaw,zax,zaz,zba,zbc,zbd,zbe,zbf,zbg,zbk,zbt,zbu,zbw,zbx,zby,zbz,zc2,zc3,zc4,zc5,zc6,zc8,zca,zcc,zcd,zce,zcg,zch,zcj,zcn,zco,zcp,zcq,zcr,zct,zcu,zcv,zcw,zcy,zd3,zd5,zd6,zd7,zd8,zd9,zdd,zdj,zdk,zdl,zdm,zdn,zdo,zds,zdt,zdu,zdv,zdw,zdx,zdy,zdz,ze2,ze3,ze9,zea,zeb,zec,zeo,zep,zf5,zf6,zf7,zfa,zfb,zfc,zfd,zfg,zfm,zfo,zfp,zfq,zfr,zfs,zft,zfu,zfw,zfy,zfz,zg0,zg1,zhf,zj8, z2]; all_goals tactic => exact rfl))
      · rw [w0]; (sym => (simp [etaM, etaF, z00,z01,z02,z03,z04,z05,z06,z07,z08,z09,z0b,z0c,z0f,z0n,z0o,z0r,z0s,z0v,z12,z1f,z1j,z1k,z1m,z1n,z1p,z1q,z1r,z1u,z1v,z1w,z20,z21,z29,z2b,z2u,z2v,z3h,z4f,z4l,z4o,z4p,z4q,z4s,z4t,z4y,z54,z57,z59,z5b,z5e,z66,z67,z69,z6a,z6b,z6d,z6e,z6j,z6p,z6t,z6u,z7r,z7u,z7v,z7w,z8a,z8d,z8h,z91,z9d,z9e,z9g,z9i,z9j,z9k,z9l,z9m,z9n,z9p,z9r,z9s,z9v,z9w,z9x,z9y,za0,za1,za2,za3,za5,za6,za7,za8,za9,zaa,zab,zae,zaf,zag,zal,zam,zaq,zas,zat,zav,zaw,zax,zaz,zba,zbc,zbd,zbe,zbf,zbg,zbk,zbt,zbu,zbw,zbx,zby,zbz,zc2,zc3,zc4,zc5,zc6,zc8,zca,zcc,zcd,zce,zcg,zch,zcj,zcn,zco,zcp,zcq,zcr,zct,zcu,zcv,zcw,zcy,zd3,zd5,zd6,zd7,zd8,zd9,zdd,zdj,zdk,zdl,zdm,zdn,zdo,zds,zdt,zdu,zdv,zdw,zdx,zdy,zdz,ze2,ze3,ze9,zea,zeb,zec,zeo,zep,zf5,zf6,zf7,zfa,zfb,zfc,zfd,zfg,zfm,zfo,zfp,zfq,zfr,zfs,zft,zfu,zfw,zfy,zfz,zg0,zg1,zhf,zj8, cF_gr, cF_nm, cF_sl]; all_goals tactic => exact rfl))
      · exact r1
      · (sym => (simp [etaM, etaF, z00,z01,z02,z03,z04,z05,z06,z07,z08,z09,z0b,z0c,z0f,z0n,z0o,z0r,z0s,z0v,z12,z1f,z1j,z1k,z1m,z1n,z1p,z1q,z1r,z1u,z1v,z1w,z20,z21,z29,z2b,z2u,z2v,z3h,z4f,z4l,z4o,z4p,z4q,z4s,z4t,z4y,z54,z57,z59,z5b,z5e,z66,z67,z69,z6a,z6b,z6d,z6e,z6j,z6p,z6t,z6u,z7r,z7u,z7v,z7w,z8a,z8d,z8h,z91,z9d,z9e,z9g,z9i,z9j,z9k,z9l,z9m,z9n,z9p,z9r,z9s,z9v,z9w,z9x,z9y,za0,za1,za2,za3,za5,za6,za7,za8,za9,zaa,zab,zae,zaf,zag,zal,zam,zaq,zas,zat,zav,zaw,zax,zaz,zba,zbc,zbd,zbe,zbf,zbg,zbk,zbt,zbu,zbw,zbx,zby,zbz,zc2,zc3,zc4,zc5,zc6,zc8,zca,zcc,zcd,zce,zcg,zch,zcj,zcn,zco,zcp,zcq,zcr,zct,zcu,zcv,zcw,zcy,zd3,zd5,zd6,zd7,zd8,zd9,zdd,zdj,zdk,zdl,zdm,zdn,zdo,zds,zdt,zdu,zdv,zdw,zdx,zdy,zdz,ze2,ze3,ze9,zea,zeb,zec,zeo,zep,zf5,zf6,zf7,zfa,zfb,zfc,zfd,zfg,zfm,zfo,zfp,zfq,zfr,zfs,zft,zfu,zfw,zfy,zfz,zg0,zg1,zhf,zj8, z1]; all_goals tactic => exact rfl))
end Go.Proofs.Ytdbikamciedfdaa
namespace Go.Proofs.Ytdbikamciedfdaa
open Go Go.DL
set_option maxRecDepth 100000
set_option maxHeartbeats 4000000

theorem cM_get {rl : List Ms} {i : Nat} {r : Ms} (h : rl[i]? = some r) : ((cM rl).drop (i * 4)).take 4 = [I r.a, I r.b, I r.c, I r.d] := by
  induction rl generalizing i with
  | nil => simp at h
  | cons z q ih =>
    have e : cM (z :: q) = z.row ++ cM q := rfl
    have hz : z.row.length = 4 := rfl
    cases i with
    | zero =>
      simp only [List.getElem?_cons_zero, Option.some.injEq] at h
      subst h
      rw [e, Nat.zero_mul, List.drop_zero]
      rfl
    | succ i =>
      simp only [List.getElem?_cons_succ] at h
      rw [e, show (i + 1) * 4 = z.row.length + i * 4 by rw [hz]; omega, List.drop_length_add_append]
      exact ih h
theorem knT_get {l : List Fl} {j : Nat} {x : Fl} (hx : l[j]? = some x) : ∀ i, i ≤ l.length → j < i → (knT l i)[j]? = some (knAt l j x)
  | 0, _, h => by omega
  | i + 1, hi, h => by
    obtain ⟨y, hy⟩ := at_ix (l := l) (i := i) (by omega)
    have hl := knT_len (l := l) i (by omega)
    rw [knT, hy]
    dsimp only
    by_cases hj : j = i
    · subst hj
      rw [hx, Option.some.injEq] at hy
      subst hy
      rw [List.getElem?_append_right (by omega), hl, Nat.sub_self]; rfl
    · rw [List.getElem?_append_left (by omega)]
      exact knT_get hx i (by omega) (by omega)
abbrev h11 (n : Nat) (l : List Fl) (rl : List Ms) : XH := [some (.blk true (.cells true [I n, .fs (l.map Fl.row)])), some (.blk true (.cells true (cM rl)))]
theorem round11 {n : Nat} {l : List Fl} {rl : List Ms} (h : checkP n l = 0) (b : Bal l rl) (hl : rl.length = l.length) (un kk : Int) {kn : List Kn} (hkn : kn = knT l l.length) {i : Nat} (hi : i < l.length) :
    headX 0 [1, 2, 7, 8, 9, 51, 52, 53] (execW progX 11 0 none (match x11l0 with | .loop _ a => a | c => c) (envL [1, 2, 7, 8, 9, 51, 52, 53] [.int .u8 un, .int .u8 kk, .pt 0 0, .sl 1 0 4 l.length, rK kn, .fs (l.map Fl.row), I l.length, I (i : Nat)]) (h11 n l rl)) =
      some ([.int .u8 un, .int .u8 kk, .pt 0 0, .sl 1 0 4 l.length, rK kn, .fs (l.map Fl.row), I l.length, I (i + 1 : Nat)], h11 n l rl) := by
  obtain ⟨u1, u2, u3, u4⟩ := checkP_u h
  have hr := rngL_of h
  obtain ⟨x, hx⟩ := at_ix hi
  obtain ⟨x1, x2, x3, x4⟩ := hr x (List.mem_of_getElem? hx)
  obtain ⟨r, hrr⟩ := at_ix (l := rl) (i := i) (by omega)
  have hrd : rl.getD i Ms.zero = r := by rw [List.getD_eq_getElem?_getD, hrr]; rfl
  have ha := b.agree i x hx
  rw [hrd] at ha
  have e30 := w30 n l x.fr x.to i (by omega) (by omega) hr x1 x2 x3 x4
  have hk : kn[i]? = some (knAt l i x) := by rw [hkn]; exact knT_get hx _ (Nat.le_refl _) hi
  have hkl : kn.length = l.length := by rw [hkn]; exact knT_len _ (Nat.le_refl _)
  have hkf : ∀ (hm : x.me = false), ¬ gI i l l.length x.fr = gI i l l.length x.to → knAt l i x = ⟨2, rl.getD i Ms.zero⟩ := fun hm hg => bal_found h b hx hm hg
  rw [hrd] at hkf
  clear hkn
  have a1 := lt_ix hi
  have a2 := up_ix hi (by omega)
  have a3 : ((i : Int) < (kn.length : Int)) = True := eq_true (by omega)
  have a4 := cM_get hrr
  have a5 := eq_true (show i * 4 + 4 ≤ (cM rl).length by rw [cM_len]; omega)
  generalize hy : knAt l i x = y at *
  unfold x11l0
  dsimp only
  cases hme : x.me
  · rcases ptf (gI i l l.length x.fr = gI i l l.length x.to) with g | g
    · have hk2 := kn_open hme (of_eq_true g)
      rw [hy] at hk2
      have k0 : y.s = 3 := by rw [hk2]
      have k1 : y.m.a = 0 := by rw [hk2]; rfl
      have k2 : y.m.b = 0 := by rw [hk2]; rfl
      have k3 : y.m.c = 0 := by rw [hk2]; rfl
      have k4 : y.m.d = 0 := by rw [hk2]; rfl
      (sym => (simp [etaM, etaF, z00,z01,z02,z05,z06,z07,z08,z09,z0b,z0c,z0h,z0i,z0j,z0k,z0n,z0o,z0q,z0s,z0v,z0x,z12,z15,z1j,z1k,z1l,z1m,z1n,z1o,z1r,z1u,z20,z21,z22,z23,z29,z2a,z2f,z2g,z2h,z2j,z2t,z2u,z2v,z33,z34,z44,z45,z4f,z4l,z4o,z4q,z4s,z4t,z54,z55,z66,z67,z69,z6b,z6d,z6e,z8d,z9d,z9e,z9g,z9i,z9j,z9k,z9l,z9m,z9p,z9r,z9s,z9v,z9w,z9y,za0,za1,za2,za3,za5,za6,za7,za8,za9,zaa,zab,zae,zaf,zal,zaq,zas,zat,zba,zbc,zbd,zbf,zbg,zbk,zca,zcc,zcd,zce,zcf,zcg,zcn,zco,zcp,zcq,zcr,zct,zcu,zcv,zcw,zcx,zcy,zd3,zd6,zd7,zdd,zdj,zdk,zdl,zdo,zds,zdt,zdu,zdv,zdw,zdx,ze9,zea,zed,zeg,zeh,zei,zf6,zf7,zf8,zf9,zfa,zfb,zfc,zfd,zfm,zfo,zfq,zfs,zft,zfw,zfz,zg0,zg1,zhe,zhf, a1, a2, a3, a4, a5, hx, hme, e30, g, hk, k0, k1, k2, k3, k4, cM_gr, cM_nm, cM_sl]; all_goals tactic => exact rfl))
    · have hk2 := hkf hme (of_eq_false g)
      have k0 : y.s = 2 := by rw [hk2]
      have k1 : y.m.a = r.a := by rw [hk2]
      have k2 : y.m.b = r.b := by rw [hk2]
      have k3 : y.m.c = r.c := by rw [hk2]
      have k4 : y.m.d = r.d := by rw [hk2]
      (sym => (simp [etaM, etaF, z00,z01,z02,z05,z06,z07,z08,z09,z0b,z0c,z0h,z0i,z0j,z0k,z0n,z0o,z0q,z0s,z0v,z0x,z12,z15,z1j,z1k,z1l,z1m,z1n,z1o,z1r,z1u,z20,z21,z22,z23,z29,z2a,z2f,z2g,z2h,z2j,z2t,z2u,z2v,z33,z34,z44,z45,z4f,z4l,z4o,z4q,z4s,z4t,z54,z55,z66,z67,z69,z6b,z6d,z6e,z8d,z9d,z9e,z9g,z9i,z9j,z9k,z9l,z9m,z9p,z9r,z9s,z9v,z9w,z9y,za0,za1,za2,za3,za5,za6,za7,za8,za9,zaa,zab,zae,zaf,zal,zaq,zas,zat,zba,zbc,zbd,zbf,zbg,zbk,zca,zcc,zcd,zce,zcf,zcg,zcn,zco,zcp,zcq,zcr,zct,zcu,zcv,zcw,zcx,zcy,zd3,zd6,zd7,zdd,zdj,zdk,zdl,zdo,zds,zdt,zdu,zdv,zdw,zdx,ze9,zea,zed,zeg,zeh,zei,zf6,zf7,zf8,zf9,zfa,zfb,zfc,zfd,zfm,zfo,zfq,zfs,zft,zfw,zfz,zg0,zg1,zhe,zhf, a1, a2, a3, a4, a5, hx, hme, e30, g, hk, k0, k1, k2, k3, k4, cM_gr, cM_nm, cM_sl]; all_goals tactic => exact rfl))
  · have hk2 := kn_me (l := l) (j := i) hme
    have ha := ha hme
    rw [hy, ha] at hk2
    have k0 : y.s = 1 := by rw [hk2]
    have k1 : y.m.a = r.a := by rw [hk2]
    have k2 : y.m.b = r.b := by rw [hk2]
    have k3 : y.m.c = r.c := by rw [hk2]
    have k4 : y.m.d = r.d := by rw [hk2]
    (sym => (simp [etaM, etaF, z00,z01,z02,z05,z06,z07,z08,z09,z0b,z0c,z0h,z0i,z0j,z0k,z0n,z0o,z0q,z0s,z0v,z0x,z12,z15,z1j,z1k,z1l,z1m,z1n,z1o,z1r,z1u,z20,z21,z22,z23,z29,z2a,z2f,z2g,z2h,z2j,z2t,z2u,z2v,z33,z34,z44,z45,z4f,z4l,z4o,z4q,z4s,z4t,z54,z55,z66,z67,z69,z6b,z6d,z6e,z8d,z9d,z9e,z9g,z9i,z9j,z9k,z9l,z9m,z9p,z9r,z9s,z9v,z9w,z9y,za0,za1,za2,za3,za5,za6,za7,za8,za9,zaa,zab,zae,zaf,zal,zaq,zas,zat,zba,zbc,zbd,zbf,zbg,zbk,zca,zcc,zcd,zce,zcf,zcg,zcn,zco,zcp,zcq,zcr,zct,zcu,zcv,zcw,zcx,zcy,zd3,zd6,zd7,zdd,zdj,zdk,zdl,zdo,zds,zdt,zdu,zdv,zdw,zdx,ze9,zea,zed,zeg,zeh,zei,zf6,zf7,zf8,zf9,zfa,zfb,zfc,zfd,zfm,zfo,zfq,zfs,zft,zfw,zfz,zg0,zg1,zhe,zhf, a1, a2, a3, a4, a5, hx, hme, hk, k0, k1, k2, k3, k4, cM_gr, cM_nm, cM_sl]; all_goals tactic => exact rfl))
theorem cM_ch (rl : List Ms) : chunks (cM rl) 0 4 rl.length = rl.map Ms.row := by
  have := rows_chunks (ms_ok rl)
  rw [List.length_map] at this
  exact this
theorem round11u {n : Nat} {l : List Fl} (hn : n ≤ 4) (un kk : Int) {v : Nat} (hv : v < n) :
    headX 0 [1, 2, 7, 18, 19] (execW progX 11 0 none (match x11l1 with | .loop _ a => a | c => c) (envL [1, 2, 7, 18, 19] [.int .u8 un, .int .u8 kk, .pt 0 0, oS 1 (setU un v), I (v : Nat)]) (hP n l ++ oG (setU un v))) =
      some ([.int .u8 un, .int .u8 kk, .pt 0 0, oS 1 (setU un (v + 1)), I (v + 1 : Nat)], hP n l ++ oG (setU un (v + 1))) := by
  have a1 : ((v : Int) < (n : Int)) = True := eq_true (by omega)
  have a2 : IntKind.i64.wrap ((v : Int) + 1) = (v : Int) + 1 := wrap_ok (by omega) (by omega)
  have a3 : ((v : Int) < 0) = False := eq_false (by omega)
  have bt : ((bitsA .and .u8 (un.fdiv (2 ^ min v IntKind.u8.bits)) 1 = 1) = True ∧ bit8 un v = true) ∨ ((bitsA .and .u8 (un.fdiv (2 ^ min v IntKind.u8.bits)) 1 = 1) = False ∧ bit8 un v = false) := by
    by_cases hq : bitsA .and .u8 (un.fdiv (2 ^ min v IntKind.u8.bits)) 1 = 1
    · exact .inl ⟨eq_true hq, decide_eq_true hq⟩
    · exact .inr ⟨eq_false hq, decide_eq_false hq⟩
  have ul := setU_len un v
  rw [setU_succ]
  unfold x11l1
  dsimp only
  have m5 := pad
  have m6 := pad
  rcases hu2 : setU un v with _ | ⟨a, r⟩
  rotate_left
  have m5 : ((r.length + 1 + 1) * 8 ≤ 1099511627776) = True := eq_true (by rw [hu2, List.length_cons] at ul; omega)
  have m6 : (r.length + 1 + 1 ≤ 1099511627776) = True := eq_true (by rw [hu2, List.length_cons] at ul; omega)
  all_goals rcases bt with ⟨x1, x2⟩ | ⟨x1, x2⟩
  all_goals rw [x2]
  all_goals simp only [if_true, Bool.false_eq_true, if_false]
  all_goals (sym => (simp [etaM, etaF, z00,z01,z03,z04,z05,z07,z0b,z0c,z0f,z0n,z0t,z0v,z12,z1j,z1z,z29,z2j,z2o,z2s,z2t,z2v,z34,z4l,z4s,z4t,z4v,z54,z66,z6d,z6e,z6g,z8a,z9d,z9e,z9g,z9i,z9j,z9k,z9l,z9m,z9p,z9r,z9s,z9v,z9w,z9y,za0,za1,za3,za6,za7,za8,za9,zae,zaf,zal,zca,zcc,zcd,zce,zcf,zcg,zcn,zco,zcp,zcq,zcr,zct,zcu,zcv,zcw,zcy,zd3,zdd,zdj,zdk,zdl,zdm,zdn,zds,zdt,zdu,zdv,zdw,zdx,ze9,zea,zeb,zec,zeq,zer,zes,zet,zez,zf0,zf1,zf2,zf3,zf4,zf6,zf7,zfb,zfg,zfh,zfi,zfj,zfl,zfm,zfo,zfq,zfs,zft,zfw,zfz,zg0,zg1,zhb,zhc,zhd,zhf,zhp,zi8,zi9,zia,zib, a1, a2, a3, x1, m5, m6]; all_goals tactic => exact rfl))
/-- Truth proves nothing wrong. -/
theorem true_refutes {n : Nat} {l : List Fl} {rl : List Ms} (h : checkP n l = 0) (b : Bal l rl) {us : List Int} (hu : us ≠ []) (h1 : us.Pairwise (· < ·)) (h2 : ∀ u ∈ us, 0 ≤ u ∧ u < n) {k : Int} (hk : btw 0 k 3 = true) : refP n l us k = 11 := by
  obtain ⟨u1, u2, u3, u4⟩ := checkP_u h
  have hc0 : chE n l us = 0 := by
    rw [chE, if_pos h, if_neg hu]
    exact selE_ok u1 u2 us (-1) h1 fun u hu => by have := h2 u hu; omega
  have hz : ¬ refP n l us k = 0 := fun hz => by
    obtain ⟨⟨r, hr⟩, _⟩ := refutes_clash h hk (fun hm => by have := h2 _ hm; omega) hz
    have := bal_noclash h b
    unfold NoClash at this
    rw [this] at hr
    simp at hr
  have e1 : refP n l us k = if exK (exU l us) k = 0 then 11 else if l.any (crossP us) then 11 else 0 := by rw [refP, if_pos hc0, if_pos hk]
  rw [e1] at hz ⊢
  split
  · rfl
  · rename_i q1
    rw [if_neg q1] at hz
    split
    · rfl
    · rename_i q2
      rw [if_neg q2] at hz
      exact absurd rfl hz
theorem cmp_net {m : Mi} (h : m.Ok) (u k : Nat) : -2000 ≤ cmp k (rw4 (rsT m m.c) u) ∧ cmp k (rw4 (rsT m m.c) u) ≤ 2000 := by
  have e : cmp k (rw4 (rsT m m.c) u) = netT m u (min k 3) m.c := by
    rw [← rsT_net h u (k := min k 3) (by omega) m.c (c_le m)]
    exact cmp_mk k (fun j => rsT m m.c (u * 4 + j))
  have := net_bd h u (min k 3) m.c
  have := c_le m
  omega
theorem rlU_bd {m : Mi} (h : m.Ok) : ∀ u, ∀ r ∈ rlU m u, ∀ k, -2000 ≤ cmp k r ∧ cmp k r ≤ 2000
  | 0, r, hr, k => by
    have key : ∀ i, ∀ r ∈ rlT m i, -2000 ≤ cmp k r ∧ cmp k r ≤ 2000 := by
      intro i
      induction i with
      | zero => intro r hr; simp [rlT] at hr
      | succ i ih =>
        intro r hr
        rw [rlT] at hr
        rcases List.mem_append.1 hr with hr | hr
        · exact ih r hr
        · simp only [List.mem_cons, List.not_mem_nil, or_false] at hr
          subst hr
          have := cmp_mass4 h i k
          omega
    exact key m.c r hr
  | u + 1, r, hr, k => by
    rw [rlU] at hr
    rcases List.mem_append.1 hr with hr | hr
    · exact rlU_bd h u r hr k
    · simp only [List.mem_cons, List.not_mem_nil, or_false] at hr
      subst hr
      exact cmp_net h u k
theorem w11 {m : Mi} (h : m.Ok) (un kk : Int) (hkk : 0 ≤ kk ∧ kk ≤ 255) : runW progX 11 [miA m, .int .u8 un, .int .u8 kk] [] = some (.bool true, []) := by
  have e29 := w29 h
  have hlen := fl_len m
  obtain ⟨n1, n2⟩ := N_le m
  obtain ⟨p1, p2⟩ := n_bd m
  have hck := made_check h
  have hb := made_bal h
  have hrl : (rlU m m.n).length = m.N := rlU_len m m.n
  have hbd := rlU_bd h m.n
  generalize flU m m.n = l at *
  generalize rlU m m.n = rl at *
  have hl0 : l ≠ [] := fun e => by rw [e] at hlen; simp at hlen; omega
  rw [← hlen] at e29 hrl n1 n2
  have hnc : clF (gI (-1) l l.length) m.n l m.n = none := bal_noclash hck hb
  have e23 := w23 m.n l (by omega)
  have e25 := w25 m.n l (by omega)
  have e34 := w34 hck hrl hl0 hb fun r hr k => by have := hbd r hr k; omega
  unfold knR clE at e23
  unfold prR at e25
  rw [if_pos hck, hnc] at e23 e25
  have e23 : runW progX 23 [plA m.n l] [] = some (.tup [rK (knT l l.length), I 0], []) := e23
  have e25 : runW progX 25 [plA m.n l] [] = some (.tup [.fs [], I 0, I 5], []) := e25
  have hkl : (knT l l.length).length = l.length := knT_len _ (Nat.le_refl _)
  have r1 := fun (i : Nat) hi => round11 hck hb hrl un kk (kn := knT l l.length) rfl (i := i) hi
  generalize knT l l.length = kn at *
  have ru := fun (v : Nat) hv => round11u (n := m.n) (l := l) p2 un kk (v := v) hv
  obtain ⟨k, hk⟩ : ∃ k : Nat, k = kk.toNat % 4 := ⟨_, rfl⟩
  have a1 : IntKind.i64.wrap kk = kk := wrap_ok (by omega) (by omega)
  have a4 : kk.tmod 4 = (k : Int) := by
    rw [hk, show kk = ((kk.toNat : Nat) : Int) by omega]
    exact tmod_nat _ 4
  have hbk : btw 0 (k : Int) 3 = true := by simp only [btw, Bool.and_eq_true, decide_eq_true_eq]; omega
  have b2 := cF_ch l
  have b3 : (l.length * 7 ≤ (cF l).length) = True := eq_true (by rw [cF_len]; omega)
  have b4 := cM_ch rl
  have b5 : (l.length * 4 ≤ (cM rl).length) = True := eq_true (by rw [cM_len]; omega)
  rw [hrl] at b4
  have z0 := zf5 (n := (m.n : Int))
  have z1 := zf5 (n := (l.length : Int))
  have hpl : (setU un m.n).length ≤ m.n := setU_len ..
  have e28 := w28 m.n l (setU un m.n) k (by omega) (by omega)
  have ce : setU un m.n = [] ∨ (∃ a r, setU un m.n = a :: r ∧ refP m.n l (setU un m.n) k = 11) := by
    cases hu : setU un m.n with
    | nil => exact .inl rfl
    | cons a r =>
      refine .inr ⟨a, r, rfl, ?_⟩
      rw [← hu]
      exact true_refutes hck hb (by rw [hu]; simp) (setU_sorted ..) (fun u hu => setU_mem _ _ _ hu) hbk
  rw [r11 (by simp)]; unfold x11; dsimp only
  sym =>
    simp [etaM, etaF, z00,z01,z02,z05,z06,z07,z09,z0b,z0c,z0f,z0h,z0i,z0j,z0n,z0o,z0q,z0r,z0v,z11,z12,z1e,z1f,z1j,z1n,z1o,z1r,z1u,z20,z21,z22,z23,z28,z29,z2b,z2c,z2d,z2i,z2n,z2t,z2u,z2v,z3h,z4l,z4m,z4o,z4q,z4s,z4t,z4v,z54,z57,z59,z5b,z5e,z66,z67,z69,z6a,z6b,z6d,z6e,z6g,z6p,z6q,z6w,z78,z7f,z7g,z7r,z7s,z7u,z7w,z8d,z9d,z9e,z9g,z9i,z9j,z9k,z9l,z9m,z9n,z9p,z9r,z9s,z9v,z9w,z9x,z9y,za0,za1,za2,za3,za5,za6,za7,za8,za9,zaa,zab,zae,zaf,zal,zaq,zas,zat,zb4,zb5,zb9,zba,zbb,zbc,zbd,zbe,zbf,zbg,zbj,zbk,zbm,zbn,zbp,zbt,zbu,zbw,zbx,zby,zbz,zc0,zc3,zc4,zc5,zc6,zc8,zca,zcc,zcd,zce,zcf,zcg,zch,zcj,zcn,zco,zcp,zcq,zcr,zct,zcu,zcv,zcw,zcy,zd3,zd5,zd6,zdd,zde,zdj,zdk,zdl,zdo,zds,zdt,zdu,zdv,zdw,zdx,zdy,zdz,ze0,ze1,ze2,ze3,ze9,zeo,zep,zf5,zf6,zf7,zfa,zfb,zfc,zfd,zfg,zfm,zfo,zfp,zfq,zfr,zfs,zft,zfu,zfv,zfy,zfz,zg0,zg1,zhd,zhe,zhf,zhg,zi8,zi9,zia,zib,zic, e29, b2, b3, e23, e25, hkl, z1, cF_gr, cF_nm, cF_sl, cM_gr, cM_nm, cM_sl]
    tactic =>
      unfold x11l0
      rw [loop_rule l.length (fun i => [.int .u8 un, .int .u8 kk, .pt 0 0, .sl 1 0 4 l.length, rK kn, .fs (l.map Fl.row), I l.length, I (i : Nat)]) (fun _ => h11 m.n l rl)]
      · sym =>
          simp [etaM, etaF, z00,z01,z02,z05,z06,z07,z09,z0b,z0c,z0f,z0h,z0i,z0j,z0n,z0o,z0q,z0r,z0v,z11,z12,z1e,z1f,z1j,z1n,z1o,z1r,z1u,z20,z21,z22,z23,z28,z29,z2b,z2c,z2d,z2i,z2n,z2t,z2u,z2v,z3h,z4l,z4m,z4o,z4q,z4s,z4t,z4v,z54,z57,z59,z5b,z5e,z66,z67,z69,z6a,z6b,z6d,z6e,z6g,z6p,z6q,z6w,z78,z7f,z7g,z7r,z7s,z7u,z7w,z8d,z9d,z9e,z9g,z9i,z9j,z9k,z9l,z9m,z9n,z9p,z9r,z9s,z9v,z9w,z9x,z9y,za0,za1,za2,za3,za5,za6,za7,za8,za9,zaa,zab,zae,zaf,zal,zaq,zas,zat,zb4,zb5,zb9,zba,zbb,zbc,zbd,zbe,zbf,zbg,zbj,zbk,zbm,zbn,zbp,zbt,zbu,zbw,zbx,zby,zbz,zc0,zc3,zc4,zc5,zc6,zc8,zca,zcc,zcd,zce,zcf,zcg,zch,zcj,zcn,zco,zcp,zcq,zcr,zct,zcu,zcv,zcw,zcy,zd3,zd5,zd6,zdd,zde,zdj,zdk,zdl,zdo,zds,zdt,zdu,zdv,zdw,zdx,zdy,zdz,ze0,ze1,ze2,ze3,ze9,zeo,zep,zf5,zf6,zf7,zfa,zfb,zfc,zfd,zfg,zfm,zfo,zfp,zfq,zfr,zfs,zft,zfu,zfv,zfy,zfz,zg0,zg1,zhd,zhe,zhf,zhg,zi8,zi9,zia,zib,zic, z1, b4, b5, e34, cM_gr, cM_nm, cM_sl]
          tactic =>
            unfold x11l1
            rw [loop_rule m.n (fun v => [.int .u8 un, .int .u8 kk, .pt 0 0, oS 1 (setU un v), I (v : Nat)]) (fun v => hP m.n l ++ oG (setU un v))]
            · generalize setU un m.n = us at *
              rcases ce with rfl | ⟨a, r, rfl, h11⟩
              · (sym => (simp [etaM, etaF, z00,z01,z02,z05,z06,z07,z09,z0b,z0c,z0f,z0h,z0i,z0j,z0n,z0o,z0q,z0r,z0v,z11,z12,z1e,z1f,z1j,z1n,z1o,z1r,z1u,z20,z21,z22,z23,z28,z29,z2b,z2c,z2d,z2i,z2n,z2t,z2u,z2v,z3h,z4l,z4m,z4o,z4q,z4s,z4t,z4v,z54,z57,z59,z5b,z5e,z66,z67,z69,z6a,z6b,z6d,z6e,z6g,z6p,z6q,z6w,z78,z7f,z7g,z7r,z7s,z7u,z7w,z8d,z9d,z9e,z9g,z9i,z9j,z9k,z9l,z9m,z9n,z9p,z9r,z9s,z9v,z9w,z9x,z9y,za0,za1,za2,za3,za5,za6,za7,za8,za9,zaa,zab,zae,zaf,zal,zaq,zas,zat,zb4,zb5,zb9,zba,zbb,zbc,zbd,zbe,zbf,zbg,zbj,zbk,zbm,zbn,zbp,zbt,zbu,zbw,zbx,zby,zbz,zc0,zc3,zc4,zc5,zc6,zc8,zca,zcc,zcd,zce,zcf,zcg,zch,zcj,zcn,zco,zcp,zcq,zcr,zct,zcu,zcv,zcw,zcy,zd3,zd5,zd6,zdd,zde,zdj,zdk,zdl,zdo,zds,zdt,zdu,zdv,zdw,zdx,zdy,zdz,ze0,ze1,ze2,ze3,ze9,zeo,zep,zf5,zf6,zf7,zfa,zfb,zfc,zfd,zfg,zfm,zfo,zfp,zfq,zfr,zfs,zft,zfu,zfv,zfy,zfz,zg0,zg1,zhd,zhe,zhf,zhg,zi8,zi9,zia,zib,zic, z0, works_w]; all_goals tactic => exact rfl))
              · rw [h11] at e28
                simp only [rI, List.map_cons] at e28
                have rlz : (((r.length + 1 : Nat) : Int) = 0) = False := eq_false (by omega)
                sym =>
                  simp [etaM, etaF, z00,z01,z02,z05,z06,z07,z09,z0b,z0c,z0f,z0h,z0i,z0j,z0n,z0o,z0q,z0r,z0v,z11,z12,z1e,z1f,z1j,z1n,z1o,z1r,z1u,z20,z21,z22,z23,z28,z29,z2b,z2c,z2d,z2i,z2n,z2t,z2u,z2v,z3h,z4l,z4m,z4o,z4q,z4s,z4t,z4v,z54,z57,z59,z5b,z5e,z66,z67,z69,z6a,z6b,z6d,z6e,z6g,z6p,z6q,z6w,z78,z7f,z7g,z7r,z7s,z7u,z7w,z8d,z9d,z9e,z9g,z9i,z9j,z9k,z9l,z9m,z9n,z9p,z9r,z9s,z9v,z9w,z9x,z9y,za0,za1,za2,za3,za5,za6,za7,za8,za9,zaa,zab,zae,zaf,zal,zaq,zas,zat,zb4,zb5,zb9,zba,zbb,zbc,zbd,zbe,zbf,zbg,zbj,zbk,zbm,zbn,zbp,zbt,zbu,zbw,zbx,zby,zbz,zc0,zc3,zc4,zc5,zc6,zc8,zca,zcc,zcd,zce,zcf,zcg,zch,zcj,zcn,zco,zcp,zcq,zcr,zct,zcu,zcv,zcw,zcy,zd3,zd5,zd6,zdd,zde,zdj,zdk,zdl,zdo,zds,zdt,zdu,zdv,zdw,zdx,zdy,zdz,ze0,ze1,ze2,ze3,ze9,zeo,zep,zf5,zf6,zf7,zfa,zfb,zfc,zfd,zfg,zfm,zfo,zfp,zfq,zfr,zfs,zft,zfu,zfv,zfy,zfz,zg0,zg1,zhd,zhe,zhf,zhg,zi8,zi9,zia,zib,zic, z0, a1, rlz]
                  tactic =>
                    simp only [a4]
                    (sym => (simp [etaM, etaF, z00,z01,z02,z05,z06,z07,z09,z0b,z0c,z0f,z0h,z0i,z0j,z0n,z0o,z0q,z0r,z0v,z11,z12,z1e,z1f,z1j,z1n,z1o,z1r,z1u,z20,z21,z22,z23,z28,z29,z2b,z2c,z2d,z2i,z2n,z2t,z2u,z2v,z3h,z4l,z4m,z4o,z4q,z4s,z4t,z4v,z54,z57,z59,z5b,z5e,z66,z67,z69,z6a,z6b,z6d,z6e,z6g,z6p,z6q,z6w,z78,z7f,z7g,z7r,z7s,z7u,z7w,z8d,z9d,z9e,z9g,z9i,z9j,z9k,z9l,z9m,z9n,z9p,z9r,z9s,z9v,z9w,z9x,z9y,za0,za1,za2,za3,za5,za6,za7,za8,za9,zaa,zab,zae,zaf,zal,zaq,zas,zat,zb4,zb5,zb9,zba,zbb,zbc,zbd,zbe,zbf,zbg,zbj,zbk,zbm,zbn,zbp,zbt,zbu,zbw,zbx,zby,zbz,zc0,zc3,zc4,zc5,zc6,zc8,zca,zcc,zcd,zce,zcf,zcg,zch,zcj,zcn,zco,zcp,zcq,zcr,zct,zcu,zcv,zcw,zcy,zd3,zd5,zd6,zdd,zde,zdj,zdk,zdl,zdo,zds,zdt,zdu,zdv,zdw,zdx,zdy,zdz,ze0,ze1,ze2,ze3,ze9,zeo,zep,zf5,zf6,zf7,zfa,zfb,zfc,zfd,zfg,zfm,zfo,zfp,zfq,zfr,zfs,zft,zfu,zfv,zfy,zfz,zg0,zg1,zhd,zhe,zhf,zhg,zi8,zi9,zia,zib,zic, e28, works_w]; all_goals tactic => exact rfl))
            · (sym => (simp [etaM, etaF, z00,z01,z02,z05,z06,z07,z09,z0b,z0c,z0f,z0h,z0i,z0j,z0n,z0o,z0q,z0r,z0v,z11,z12,z1e,z1f,z1j,z1n,z1o,z1r,z1u,z20,z21,z22,z23,z28,z29,z2b,z2c,z2d,z2i,z2n,z2t,z2u,z2v,z3h,z4l,z4m,z4o,z4q,z4s,z4t,z4v,z54,z57,z59,z5b,z5e,z66,z67,z69,z6a,z6b,z6d,z6e,z6g,z6p,z6q,z6w,z78,z7f,z7g,z7r,z7s,z7u,z7w,z8d,z9d,z9e,z9g,z9i,z9j,z9k,z9l,z9m,z9n,z9p,z9r,z9s,z9v,z9w,z9x,z9y,za0,za1,za2,za3,za5,za6,za7,za8,za9,zaa,zab,zae,zaf,zal,zaq,zas,zat,zb4,zb5,zb9,zba,zbb,zbc,zbd,zbe,zbf,zbg,zbj,zbk,zbm,zbn,zbp,zbt,zbu,zbw,zbx,zby,zbz,zc0,zc3,zc4,zc5,zc6,zc8,zca,zcc,zcd,zce,zcf,zcg,zch,zcj,zcn,zco,zcp,zcq,zcr,zct,zcu,zcv,zcw,zcy,zd3,zd5,zd6,zdd,zde,zdj,zdk,zdl,zdo,zds,zdt,zdu,zdv,zdw,zdx,zdy,zdz,ze0,ze1,ze2,ze3,ze9,zeo,zep,zf5,zf6,zf7,zfa,zfb,zfc,zfd,zfg,zfm,zfo,zfp,zfq,zfr,zfs,zft,zfu,zfv,zfy,zfz,zg0,zg1,zhd,zhe,zhf,zhg,zi8,zi9,zia,zib,zic]; all_goals tactic => exact rfl))
            · exact ru
            · rcases setU un m.n with _ | ⟨a, r⟩ <;> (sym => (simp [etaM, etaF, z00,z01,z02,z05,z06,z07,z09,z0b,z0c,z0f,z0h,z0i,z0j,z0n,z0o,z0q,z0r,z0v,z11,z12,z1e,z1f,z1j,z1n,z1o,z1r,z1u,z20,z21,z22,z23,z28,z29,z2b,z2c,z2d,z2i,z2n,z2t,z2u,z2v,z3h,z4l,z4m,z4o,z4q,z4s,z4t,z4v,z54,z57,z59,z5b,z5e,z66,z67,z69,z6a,z6b,z6d,z6e,z6g,z6p,z6q,z6w,z78,z7f,z7g,z7r,z7s,z7u,z7w,z8d,z9d,z9e,z9g,z9i,z9j,z9k,z9l,z9m,z9n,z9p,z9r,z9s,z9v,z9w,z9x,z9y,za0,za1,za2,za3,za5,za6,za7,za8,za9,zaa,zab,zae,zaf,zal,zaq,zas,zat,zb4,zb5,zb9,zba,zbb,zbc,zbd,zbe,zbf,zbg,zbj,zbk,zbm,zbn,zbp,zbt,zbu,zbw,zbx,zby,zbz,zc0,zc3,zc4,zc5,zc6,zc8,zca,zcc,zcd,zce,zcf,zcg,zch,zcj,zcn,zco,zcp,zcq,zcr,zct,zcu,zcv,zcw,zcy,zd3,zd5,zd6,zdd,zde,zdj,zdk,zdl,zdo,zds,zdt,zdu,zdv,zdw,zdx,zdy,zdz,ze0,ze1,ze2,ze3,ze9,zeo,zep,zf5,zf6,zf7,zfa,zfb,zfc,zfd,zfg,zfm,zfo,zfp,zfq,zfr,zfs,zft,zfu,zfv,zfy,zfz,zg0,zg1,zhd,zhe,zhf,zhg,zi8,zi9,zia,zib,zic, z0]; all_goals tactic => exact rfl))
      · (sym => (simp [etaM, etaF, z00,z01,z02,z05,z06,z07,z09,z0b,z0c,z0f,z0h,z0i,z0j,z0n,z0o,z0q,z0r,z0v,z11,z12,z1e,z1f,z1j,z1n,z1o,z1r,z1u,z20,z21,z22,z23,z28,z29,z2b,z2c,z2d,z2i,z2n,z2t,z2u,z2v,z3h,z4l,z4m,z4o,z4q,z4s,z4t,z4v,z54,z57,z59,z5b,z5e,z66,z67,z69,z6a,z6b,z6d,z6e,z6g,z6p,z6q,z6w,z78,z7f,z7g,z7r,z7s,z7u,z7w,z8d,z9d,z9e,z9g,z9i,z9j,z9k,z9l,z9m,z9n,z9p,z9r,z9s,z9v,z9w,z9x,z9y,za0,za1,za2,za3,za5,za6,za7,za8,za9,zaa,zab,zae,zaf,zal,zaq,zas,zat,zb4,zb5,zb9,zba,zbb,zbc,zbd,zbe,zbf,zbg,zbj,zbk,zbm,zbn,zbp,zbt,zbu,zbw,zbx,zby,zbz,zc0,zc3,zc4,zc5,zc6,zc8,zca,zcc,zcd,zce,zcf,zcg,zch,zcj,zcn,zco,zcp,zcq,zcr,zct,zcu,zcv,zcw,zcy,zd3,zd5,zd6,zdd,zde,zdj,zdk,zdl,zdo,zds,zdt,zdu,zdv,zdw,zdx,zdy,zdz,ze0,ze1,ze2,ze3,ze9,zeo,zep,zf5,zf6,zf7,zfa,zfb,zfc,zfd,zfg,zfm,zfo,zfp,zfq,zfr,zfs,zft,zfu,zfv,zfy,zfz,zg0,zg1,zhd,zhe,zhf,zhg,zi8,zi9,zia,zib,zic, cM_gr, cM_nm, cM_sl]; all_goals tactic => exact rfl))
      · exact r1
      · (sym => (simp [etaM, etaF, z00,z01,z02,z05,z06,z07,z09,z0b,z0c,z0f,z0h,z0i,z0j,z0n,z0o,z0q,z0r,z0v,z11,z12,z1e,z1f,z1j,z1n,z1o,z1r,z1u,z20,z21,z22,z23,z28,z29,z2b,z2c,z2d,z2i,z2n,z2t,z2u,z2v,z3h,z4l,z4m,z4o,z4q,z4s,z4t,z4v,z54,z57,z59,z5b,z5e,z66,z67,z69,z6a,z6b,z6d,z6e,z6g,z6p,z6q,z6w,z78,z7f,z7g,z7r,z7s,z7u,z7w,z8d,z9d,z9e,z9g,z9i,z9j,z9k,z9l,z9m,z9n,z9p,z9r,z9s,z9v,z9w,z9x,z9y,za0,za1,za2,za3,za5,za6,za7,za8,za9,zaa,zab,zae,zaf,zal,zaq,zas,zat,zb4,zb5,zb9,zba,zbb,zbc,zbd,zbe,zbf,zbg,zbj,zbk,zbm,zbn,zbp,zbt,zbu,zbw,zbx,zby,zbz,zc0,zc3,zc4,zc5,zc6,zc8,zca,zcc,zcd,zce,zcf,zcg,zch,zcj,zcn,zco,zcp,zcq,zcr,zct,zcu,zcv,zcw,zcy,zd3,zd5,zd6,zdd,zde,zdj,zdk,zdl,zdo,zds,zdt,zdu,zdv,zdw,zdx,zdy,zdz,ze0,ze1,ze2,ze3,ze9,zeo,zep,zf5,zf6,zf7,zfa,zfb,zfc,zfd,zfg,zfm,zfo,zfp,zfq,zfr,zfs,zft,zfu,zfv,zfy,zfz,zg0,zg1,zhd,zhe,zhf,zhg,zi8,zi9,zia,zib,zic, z1]; all_goals tactic => exact rfl))
end Go.Proofs.Ytdbikamciedfdaa
