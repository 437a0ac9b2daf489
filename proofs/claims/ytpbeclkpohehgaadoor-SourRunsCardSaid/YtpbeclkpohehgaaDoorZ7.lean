/- Parts of a proof, joined: K11 K12. No statement of the seed is proved here. -/
import Derived.Test.YtpbeclkpohehgaaDoorZ6
set_option linter.unusedSimpArgs false
set_option linter.unusedVariables false
set_option linter.unusedSectionVars false
namespace Go.Proofs.YtpbeclkpohehgaaDoor
open Go Go.DL
set_option maxRecDepth 100000
set_option maxHeartbeats 2000000

/-- Lists of a length that a machine can have: all of a line's. -/
structure Li.Fit2 (l : Li) : Prop where
  ks : l.ks.length ≤ 9223372036854775807
  ls : l.ls.length ≤ 9223372036854775807
  ts : l.ts.length ≤ 9223372036854775807
  each : ∀ t ∈ l.ts, t.length ≤ 9223372036854775807
theorem Li.Fit2.fit {l : Li} (h : l.Fit2) : l.Fit := ⟨h.ts, h.each⟩
def lg0 (l : Li) : Bool := decide (20 < l.ks.length) || (decide (30 < l.ls.length) || decide (30 < l.ts.length))
def lgK (l : Li) : Nat → Bool
  | 0 => lg0 l
  | i + 1 => lgK l i || decide (20 < (l.ks.getD i []).length)
def lgT (l : Li) : Nat → Bool
  | 0 => lgK l l.ks.length
  | i + 1 => lgT l i || decide (30 < (l.ts.getD i []).length)
/-- Whether a line is large. -/
def largeB (l : Li) : Bool := lgT l l.ts.length
theorem lgK_f {l : Li} : ∀ {i}, lgK l i = false → lg0 l = false ∧ ∀ j, j < i → (l.ks.getD j []).length ≤ 20
  | 0, h => ⟨h, fun j hj => by omega⟩
  | i + 1, h => by
    simp only [lgK, Bool.or_eq_false_iff, decide_eq_false_iff_not] at h
    obtain ⟨h1, h2⟩ := lgK_f h.1
    refine ⟨h1, fun j hj => ?_⟩
    by_cases hji : j = i
    · rw [hji]; omega
    · exact h2 j (by omega)
theorem lgT_f {l : Li} : ∀ {i}, lgT l i = false → lgK l l.ks.length = false ∧ ∀ j, j < i → (l.ts.getD j []).length ≤ 30
  | 0, h => ⟨h, fun j hj => by omega⟩
  | i + 1, h => by
    simp only [lgT, Bool.or_eq_false_iff, decide_eq_false_iff_not] at h
    obtain ⟨h1, h2⟩ := lgT_f h.1
    refine ⟨h1, fun j hj => ?_⟩
    by_cases hji : j = i
    · rw [hji]; omega
    · exact h2 j (by omega)
/-- A line that is not large. -/
structure Small (l : Li) : Prop where
  ks : l.ks.length ≤ 20
  ls : l.ls.length ≤ 30
  ts : l.ts.length ≤ 30
  eachK : ∀ k ∈ l.ks, k.length ≤ 20
  eachT : ∀ t ∈ l.ts, t.length ≤ 30
theorem small_of {l : Li} (h : largeB l = false) : Small l := by
  obtain ⟨h1, h2⟩ := lgT_f h
  obtain ⟨h3, h4⟩ := lgK_f h1
  simp only [lg0, Bool.or_eq_false_iff, decide_eq_false_iff_not] at h3
  refine ⟨by omega, by omega, by omega, fun k hk => ?_, fun t ht => ?_⟩
  · obtain ⟨i, hi⟩ := List.getElem?_of_mem hk
    have := h4 i (lt_of hi)
    rw [getD_of hi] at this
    exact this
  · obtain ⟨i, hi⟩ := List.getElem?_of_mem ht
    have := h2 i (lt_of hi)
    rw [getD_of hi] at this
    exact this
theorem Small.fit {l : Li} (h : Small l) : l.Fit := ⟨by have := h.ts; omega, fun t ht => by have := h.eachT t ht; omega⟩
theorem w14 (l : Li) (hf : l.Fit2) : runW progX 14 [.agg l.c] [] = some (.bool (largeB l), []) := by
  have z := zf5 (n := (l.ks.length : Int))
  have z2 := zf5 (n := (l.ts.length : Int))
  have rdk : ∀ i, i < l.ks.length → headX 0 [1, 3, 4] (execW progX 14 0 none (match x14l0 with | .loop _ a => a | c => c) (envL [1, 3, 4] [.pt 0 0, .bool (lgK l i), I (i : Nat)]) (hL l)) = some ([.pt 0 0, .bool (lgK l (i + 1)), I (i + 1 : Nat)], hL l) := by
    intro i hi
    obtain ⟨k, hk⟩ := at_ix hi
    have a1 := lt_ix hi
    have a2 := up_ix hi hf.ks
    rw [lgK, getD_of hk]
    unfold x14l0
    dsimp only
    cases lgK l i
    · by_cases h : 20 < k.length
      · have g : ((20 : Int) < (k.length : Int)) = True := eq_true (by omega)
        rw [decide_eq_true h]
        (sym => (simp [cS_gr, cS_nm, cS_sl, cS_len, z00,z01,z05,z07,z0b,z0c,z0f,z0h,z0j,z0l,z0n,z0q,z0r,z0v,z12,z15,z1f,z1j,z22,z23,z29,z2b,z2g,z2h,z2j,z2v,z2x,z33,z34,z3h,z4l,z4m,z4t,z54,z57,z59,z66,z67,z6e,z6q,z7r,z7s,z7u,z7w,z8d,z9d,z9e,z9g,z9n,z9p,z9r,z9v,z9w,z9y,za0,za1,za3,za6,za7,za8,za9,zae,zaf,zal,zba,zbt,zbu,zbw,zbx,zby,zbz,zc0,zc3,zc4,zc5,zc6,zc8,zca,zcc,zcd,zce,zcf,zcg,zch,zcj,zcn,zco,zcq,zcr,zct,zcu,zcv,zcw,zcx,zcy,zd3,zd9,zdb,zdd,zdj,zdk,zdl,zds,zdt,zdu,zdv,zdw,zdx,ze2,ze3,zeo,zep,zf5,zf6,zf7,zf8,zf9,zfb,zfg,zfm,zfo,zfp,zfq,zfr,zfs,zft,zfu,zfw,zfy,zfz,zg0,zg1,zhf,zje, a1, a2, hk, g]; all_goals tactic => exact rfl))
      · have g : ((20 : Int) < (k.length : Int)) = False := eq_false (by omega)
        rw [decide_eq_false h]
        (sym => (simp [cS_gr, cS_nm, cS_sl, cS_len, z00,z01,z05,z07,z0b,z0c,z0f,z0h,z0j,z0l,z0n,z0q,z0r,z0v,z12,z15,z1f,z1j,z22,z23,z29,z2b,z2g,z2h,z2j,z2v,z2x,z33,z34,z3h,z4l,z4m,z4t,z54,z57,z59,z66,z67,z6e,z6q,z7r,z7s,z7u,z7w,z8d,z9d,z9e,z9g,z9n,z9p,z9r,z9v,z9w,z9y,za0,za1,za3,za6,za7,za8,za9,zae,zaf,zal,zba,zbt,zbu,zbw,zbx,zby,zbz,zc0,zc3,zc4,zc5,zc6,zc8,zca,zcc,zcd,zce,zcf,zcg,zch,zcj,zcn,zco,zcq,zcr,zct,zcu,zcv,zcw,zcx,zcy,zd3,zd9,zdb,zdd,zdj,zdk,zdl,zds,zdt,zdu,zdv,zdw,zdx,ze2,ze3,zeo,zep,zf5,zf6,zf7,zf8,zf9,zfb,zfg,zfm,zfo,zfp,zfq,zfr,zfs,zft,zfu,zfw,zfy,zfz,zg0,zg1,zhf,zje, a1, a2, hk, g]; all_goals tactic => exact rfl))
    · rw [Bool.true_or]
      (sym => (simp [cS_gr, cS_nm, cS_sl, cS_len, z00,z01,z05,z07,z0b,z0c,z0f,z0h,z0j,z0l,z0n,z0q,z0r,z0v,z12,z15,z1f,z1j,z22,z23,z29,z2b,z2g,z2h,z2j,z2v,z2x,z33,z34,z3h,z4l,z4m,z4t,z54,z57,z59,z66,z67,z6e,z6q,z7r,z7s,z7u,z7w,z8d,z9d,z9e,z9g,z9n,z9p,z9r,z9v,z9w,z9y,za0,za1,za3,za6,za7,za8,za9,zae,zaf,zal,zba,zbt,zbu,zbw,zbx,zby,zbz,zc0,zc3,zc4,zc5,zc6,zc8,zca,zcc,zcd,zce,zcf,zcg,zch,zcj,zcn,zco,zcq,zcr,zct,zcu,zcv,zcw,zcx,zcy,zd3,zd9,zdb,zdd,zdj,zdk,zdl,zds,zdt,zdu,zdv,zdw,zdx,ze2,ze3,zeo,zep,zf5,zf6,zf7,zf8,zf9,zfb,zfg,zfm,zfo,zfp,zfq,zfr,zfs,zft,zfu,zfw,zfy,zfz,zg0,zg1,zhf,zje, a1, a2, hk]; all_goals tactic => exact rfl))
  have rdt : ∀ i, i < l.ts.length → headX 0 [1, 3, 5] (execW progX 14 0 none (match x14l1 with | .loop _ a => a | c => c) (envL [1, 3, 5] [.pt 0 0, .bool (lgT l i), I (i : Nat)]) (hL l)) = some ([.pt 0 0, .bool (lgT l (i + 1)), I (i + 1 : Nat)], hL l) := by
    intro i hi
    obtain ⟨k, hk⟩ := at_ix hi
    have a1 := lt_ix hi
    have a2 := up_ix hi hf.ts
    rw [lgT, getD_of hk]
    unfold x14l1
    dsimp only
    cases lgT l i
    · by_cases h : 30 < k.length
      · have g : ((30 : Int) < (k.length : Int)) = True := eq_true (by omega)
        rw [decide_eq_true h]
        (sym => (simp [cS_gr, cS_nm, cS_sl, cS_len, z00,z01,z05,z07,z0b,z0c,z0f,z0h,z0j,z0l,z0n,z0q,z0r,z0v,z12,z15,z1f,z1j,z22,z23,z29,z2b,z2g,z2h,z2j,z2v,z2x,z33,z34,z3h,z4l,z4m,z4t,z54,z57,z59,z66,z67,z6e,z6q,z7r,z7s,z7u,z7w,z8d,z9d,z9e,z9g,z9n,z9p,z9r,z9v,z9w,z9y,za0,za1,za3,za6,za7,za8,za9,zae,zaf,zal,zba,zbt,zbu,zbw,zbx,zby,zbz,zc0,zc3,zc4,zc5,zc6,zc8,zca,zcc,zcd,zce,zcf,zcg,zch,zcj,zcn,zco,zcq,zcr,zct,zcu,zcv,zcw,zcx,zcy,zd3,zd9,zdb,zdd,zdj,zdk,zdl,zds,zdt,zdu,zdv,zdw,zdx,ze2,ze3,zeo,zep,zf5,zf6,zf7,zf8,zf9,zfb,zfg,zfm,zfo,zfp,zfq,zfr,zfs,zft,zfu,zfw,zfy,zfz,zg0,zg1,zhf,zje, a1, a2, hk, g]; all_goals tactic => exact rfl))
      · have g : ((30 : Int) < (k.length : Int)) = False := eq_false (by omega)
        rw [decide_eq_false h]
        (sym => (simp [cS_gr, cS_nm, cS_sl, cS_len, z00,z01,z05,z07,z0b,z0c,z0f,z0h,z0j,z0l,z0n,z0q,z0r,z0v,z12,z15,z1f,z1j,z22,z23,z29,z2b,z2g,z2h,z2j,z2v,z2x,z33,z34,z3h,z4l,z4m,z4t,z54,z57,z59,z66,z67,z6e,z6q,z7r,z7s,z7u,z7w,z8d,z9d,z9e,z9g,z9n,z9p,z9r,z9v,z9w,z9y,za0,za1,za3,za6,za7,za8,za9,zae,zaf,zal,zba,zbt,zbu,zbw,zbx,zby,zbz,zc0,zc3,zc4,zc5,zc6,zc8,zca,zcc,zcd,zce,zcf,zcg,zch,zcj,zcn,zco,zcq,zcr,zct,zcu,zcv,zcw,zcx,zcy,zd3,zd9,zdb,zdd,zdj,zdk,zdl,zds,zdt,zdu,zdv,zdw,zdx,ze2,ze3,zeo,zep,zf5,zf6,zf7,zf8,zf9,zfb,zfg,zfm,zfo,zfp,zfq,zfr,zfs,zft,zfu,zfw,zfy,zfz,zg0,zg1,zhf,zje, a1, a2, hk, g]; all_goals tactic => exact rfl))
    · rw [Bool.true_or]
      (sym => (simp [cS_gr, cS_nm, cS_sl, cS_len, z00,z01,z05,z07,z0b,z0c,z0f,z0h,z0j,z0l,z0n,z0q,z0r,z0v,z12,z15,z1f,z1j,z22,z23,z29,z2b,z2g,z2h,z2j,z2v,z2x,z33,z34,z3h,z4l,z4m,z4t,z54,z57,z59,z66,z67,z6e,z6q,z7r,z7s,z7u,z7w,z8d,z9d,z9e,z9g,z9n,z9p,z9r,z9v,z9w,z9y,za0,za1,za3,za6,za7,za8,za9,zae,zaf,zal,zba,zbt,zbu,zbw,zbx,zby,zbz,zc0,zc3,zc4,zc5,zc6,zc8,zca,zcc,zcd,zce,zcf,zcg,zch,zcj,zcn,zco,zcq,zcr,zct,zcu,zcv,zcw,zcx,zcy,zd3,zd9,zdb,zdd,zdj,zdk,zdl,zds,zdt,zdu,zdv,zdw,zdx,ze2,ze3,zeo,zep,zf5,zf6,zf7,zf8,zf9,zfb,zfg,zfm,zfo,zfp,zfq,zfr,zfs,zft,zfu,zfw,zfy,zfz,zg0,zg1,zhf,zje, a1, a2, hk]; all_goals tactic => exact rfl))
  have sf : lgT l l.ts.length = largeB l := rfl
  have s1 : lgT l 0 = lgK l l.ks.length := rfl
  have s2 : lgK l 0 = lg0 l := rfl
  have g1 := pad
  have g2 := pad
  have g3 := pad
  have e0 := pad
  have cs : ((20 : Int) < (l.ks.length : Int)) = True ∧ lg0 l = true ∨ ((20 : Int) < (l.ks.length : Int)) = False ∧ (((30 : Int) < (l.ls.length : Int)) = True ∧ lg0 l = true ∨ ((30 : Int) < (l.ls.length : Int)) = False ∧ (((30 : Int) < (l.ts.length : Int)) = True ∧ lg0 l = true ∨ ((30 : Int) < (l.ts.length : Int)) = False ∧ lg0 l = false)) := by
    unfold lg0
    by_cases h1 : 20 < l.ks.length
    · exact .inl ⟨eq_true (by omega), by simp [h1]⟩
    refine .inr ⟨eq_false (by omega), ?_⟩
    by_cases h2 : 30 < l.ls.length
    · exact .inl ⟨eq_true (by omega), by simp [h2]⟩
    refine .inr ⟨eq_false (by omega), ?_⟩
    by_cases h3 : 30 < l.ts.length
    · exact .inl ⟨eq_true (by omega), by simp [h3]⟩
    exact .inr ⟨eq_false (by omega), by simp [h1, h2, h3]⟩
  rw [r14 (by simp)]; unfold x14; dsimp only
  rcases cs with ⟨g1, e0⟩ | ⟨g1, ⟨g2, e0⟩ | ⟨g2, ⟨g3, e0⟩ | ⟨g3, e0⟩⟩⟩
  all_goals
    sym =>
      simp [cS_gr, cS_nm, cS_sl, cS_len, z00,z01,z05,z07,z0b,z0c,z0f,z0h,z0j,z0l,z0n,z0q,z0r,z0v,z12,z15,z1f,z1j,z22,z23,z29,z2b,z2g,z2h,z2j,z2v,z2x,z33,z34,z3h,z4l,z4m,z4t,z54,z57,z59,z66,z67,z6e,z6q,z7r,z7s,z7u,z7w,z8d,z9d,z9e,z9g,z9n,z9p,z9r,z9v,z9w,z9y,za0,za1,za3,za6,za7,za8,za9,zae,zaf,zal,zba,zbt,zbu,zbw,zbx,zby,zbz,zc0,zc3,zc4,zc5,zc6,zc8,zca,zcc,zcd,zce,zcf,zcg,zch,zcj,zcn,zco,zcq,zcr,zct,zcu,zcv,zcw,zcx,zcy,zd3,zd9,zdb,zdd,zdj,zdk,zdl,zds,zdt,zdu,zdv,zdw,zdx,ze2,ze3,zeo,zep,zf5,zf6,zf7,zf8,zf9,zfb,zfg,zfm,zfo,zfp,zfq,zfr,zfs,zft,zfu,zfw,zfy,zfz,zg0,zg1,zhf,zje, g1, g2, g3]
      tactic =>
        unfold x14l0
        rw [loop_rule l.ks.length (fun i => [.pt 0 0, .bool (lgK l i), I (i : Nat)]) (fun _ => hL l)]
        · sym =>
            simp [cS_gr, cS_nm, cS_sl, cS_len, z00,z01,z05,z07,z0b,z0c,z0f,z0h,z0j,z0l,z0n,z0q,z0r,z0v,z12,z15,z1f,z1j,z22,z23,z29,z2b,z2g,z2h,z2j,z2v,z2x,z33,z34,z3h,z4l,z4m,z4t,z54,z57,z59,z66,z67,z6e,z6q,z7r,z7s,z7u,z7w,z8d,z9d,z9e,z9g,z9n,z9p,z9r,z9v,z9w,z9y,za0,za1,za3,za6,za7,za8,za9,zae,zaf,zal,zba,zbt,zbu,zbw,zbx,zby,zbz,zc0,zc3,zc4,zc5,zc6,zc8,zca,zcc,zcd,zce,zcf,zcg,zch,zcj,zcn,zco,zcq,zcr,zct,zcu,zcv,zcw,zcx,zcy,zd3,zd9,zdb,zdd,zdj,zdk,zdl,zds,zdt,zdu,zdv,zdw,zdx,ze2,ze3,zeo,zep,zf5,zf6,zf7,zf8,zf9,zfb,zfg,zfm,zfo,zfp,zfq,zfr,zfs,zft,zfu,zfw,zfy,zfz,zg0,zg1,zhf,zje, z]
            tactic =>
              unfold x14l1
              rw [loop_rule l.ts.length (fun i => [.pt 0 0, .bool (lgT l i), I (i : Nat)]) (fun _ => hL l)]
              · (sym => (simp [cS_gr, cS_nm, cS_sl, cS_len, z00,z01,z05,z07,z0b,z0c,z0f,z0h,z0j,z0l,z0n,z0q,z0r,z0v,z12,z15,z1f,z1j,z22,z23,z29,z2b,z2g,z2h,z2j,z2v,z2x,z33,z34,z3h,z4l,z4m,z4t,z54,z57,z59,z66,z67,z6e,z6q,z7r,z7s,z7u,z7w,z8d,z9d,z9e,z9g,z9n,z9p,z9r,z9v,z9w,z9y,za0,za1,za3,za6,za7,za8,za9,zae,zaf,zal,zba,zbt,zbu,zbw,zbx,zby,zbz,zc0,zc3,zc4,zc5,zc6,zc8,zca,zcc,zcd,zce,zcf,zcg,zch,zcj,zcn,zco,zcq,zcr,zct,zcu,zcv,zcw,zcx,zcy,zd3,zd9,zdb,zdd,zdj,zdk,zdl,zds,zdt,zdu,zdv,zdw,zdx,ze2,ze3,zeo,zep,zf5,zf6,zf7,zf8,zf9,zfb,zfg,zfm,zfo,zfp,zfq,zfr,zfs,zft,zfu,zfw,zfy,zfz,zg0,zg1,zhf,zje, z2, sf]; all_goals tactic => exact rfl))
              · (sym => (simp [cS_gr, cS_nm, cS_sl, cS_len, z00,z01,z05,z07,z0b,z0c,z0f,z0h,z0j,z0l,z0n,z0q,z0r,z0v,z12,z15,z1f,z1j,z22,z23,z29,z2b,z2g,z2h,z2j,z2v,z2x,z33,z34,z3h,z4l,z4m,z4t,z54,z57,z59,z66,z67,z6e,z6q,z7r,z7s,z7u,z7w,z8d,z9d,z9e,z9g,z9n,z9p,z9r,z9v,z9w,z9y,za0,za1,za3,za6,za7,za8,za9,zae,zaf,zal,zba,zbt,zbu,zbw,zbx,zby,zbz,zc0,zc3,zc4,zc5,zc6,zc8,zca,zcc,zcd,zce,zcf,zcg,zch,zcj,zcn,zco,zcq,zcr,zct,zcu,zcv,zcw,zcx,zcy,zd3,zd9,zdb,zdd,zdj,zdk,zdl,zds,zdt,zdu,zdv,zdw,zdx,ze2,ze3,zeo,zep,zf5,zf6,zf7,zf8,zf9,zfb,zfg,zfm,zfo,zfp,zfq,zfr,zfs,zft,zfu,zfw,zfy,zfz,zg0,zg1,zhf,zje, s1]; all_goals tactic => exact rfl))
              · exact rdt
              · (sym => (simp [cS_gr, cS_nm, cS_sl, cS_len, z00,z01,z05,z07,z0b,z0c,z0f,z0h,z0j,z0l,z0n,z0q,z0r,z0v,z12,z15,z1f,z1j,z22,z23,z29,z2b,z2g,z2h,z2j,z2v,z2x,z33,z34,z3h,z4l,z4m,z4t,z54,z57,z59,z66,z67,z6e,z6q,z7r,z7s,z7u,z7w,z8d,z9d,z9e,z9g,z9n,z9p,z9r,z9v,z9w,z9y,za0,za1,za3,za6,za7,za8,za9,zae,zaf,zal,zba,zbt,zbu,zbw,zbx,zby,zbz,zc0,zc3,zc4,zc5,zc6,zc8,zca,zcc,zcd,zce,zcf,zcg,zch,zcj,zcn,zco,zcq,zcr,zct,zcu,zcv,zcw,zcx,zcy,zd3,zd9,zdb,zdd,zdj,zdk,zdl,zds,zdt,zdu,zdv,zdw,zdx,ze2,ze3,zeo,zep,zf5,zf6,zf7,zf8,zf9,zfb,zfg,zfm,zfo,zfp,zfq,zfr,zfs,zft,zfu,zfw,zfy,zfz,zg0,zg1,zhf,zje, z2]; all_goals tactic => exact rfl))
        · (sym => (simp [cS_gr, cS_nm, cS_sl, cS_len, z00,z01,z05,z07,z0b,z0c,z0f,z0h,z0j,z0l,z0n,z0q,z0r,z0v,z12,z15,z1f,z1j,z22,z23,z29,z2b,z2g,z2h,z2j,z2v,z2x,z33,z34,z3h,z4l,z4m,z4t,z54,z57,z59,z66,z67,z6e,z6q,z7r,z7s,z7u,z7w,z8d,z9d,z9e,z9g,z9n,z9p,z9r,z9v,z9w,z9y,za0,za1,za3,za6,za7,za8,za9,zae,zaf,zal,zba,zbt,zbu,zbw,zbx,zby,zbz,zc0,zc3,zc4,zc5,zc6,zc8,zca,zcc,zcd,zce,zcf,zcg,zch,zcj,zcn,zco,zcq,zcr,zct,zcu,zcv,zcw,zcx,zcy,zd3,zd9,zdb,zdd,zdj,zdk,zdl,zds,zdt,zdu,zdv,zdw,zdx,ze2,ze3,zeo,zep,zf5,zf6,zf7,zf8,zf9,zfb,zfg,zfm,zfo,zfp,zfq,zfr,zfs,zft,zfu,zfw,zfy,zfz,zg0,zg1,zhf,zje, s2, e0]; all_goals tactic => exact rfl))
        · exact rdk
        · (sym => (simp [cS_gr, cS_nm, cS_sl, cS_len, z00,z01,z05,z07,z0b,z0c,z0f,z0h,z0j,z0l,z0n,z0q,z0r,z0v,z12,z15,z1f,z1j,z22,z23,z29,z2b,z2g,z2h,z2j,z2v,z2x,z33,z34,z3h,z4l,z4m,z4t,z54,z57,z59,z66,z67,z6e,z6q,z7r,z7s,z7u,z7w,z8d,z9d,z9e,z9g,z9n,z9p,z9r,z9v,z9w,z9y,za0,za1,za3,za6,za7,za8,za9,zae,zaf,zal,zba,zbt,zbu,zbw,zbx,zby,zbz,zc0,zc3,zc4,zc5,zc6,zc8,zca,zcc,zcd,zce,zcf,zcg,zch,zcj,zcn,zco,zcq,zcr,zct,zcu,zcv,zcw,zcx,zcy,zd3,zd9,zdb,zdd,zdj,zdk,zdl,zds,zdt,zdu,zdv,zdw,zdx,ze2,ze3,zeo,zep,zf5,zf6,zf7,zf8,zf9,zfb,zfg,zfm,zfo,zfp,zfq,zfr,zfs,zft,zfu,zfw,zfy,zfz,zg0,zg1,zhf,zje, z]; all_goals tactic => exact rfl))

/-! ### Equal spans -/
theorem w21s (a : List Sp) (ha : a.length ≤ 9223372036854775807) : runW progX 21 [sR a, sR a] [] = some (.bool true, []) := by
  have z := zf5 (n := (a.length : Int))
  have rd : ∀ i, i < a.length → headX 0 [0, 1, 5] (execW progX 21 0 none (match x21l0 with | .loop _ a => a | c => c) (envL [0, 1, 5] [sR a, sR a, I (i : Nat)]) []) = some ([sR a, sR a, I (i + 1 : Nat)], []) := by
    intro i hi
    obtain ⟨x, hx⟩ := at_ix hi
    have a1 := lt_ix hi
    have a2 := up_ix hi ha
    unfold x21l0
    dsimp only
    (sym => (simp [cS_gr, cS_nm, cS_sl, cS_len, z00,z01,z05,z07,z08,z0b,z0c,z0n,z0v,z0x,z15,z1f,z1l,z1m,z2b,z2g,z2h,z2j,z2u,z2v,z33,z34,z3h,z44,z45,z4l,z4m,z4q,z66,z67,z6b,z6q,z7s,z7w,z9j,z9k,z9l,z9n,z9y,za3,za5,za7,za8,zba,zbt,zbu,zbw,zbx,zby,zbz,zc0,zc3,zc4,zc5,zc6,zc8,zca,zcc,zcd,zce,zcf,zcg,zch,zcj,zcn,zco,zcr,zct,zcu,zcv,zcw,zcx,zcy,zd3,zd6,zdd,zdk,zdl,zdo,zds,zdt,zdu,zdv,ze2,ze3,zed,zeg,zeh,zei,zf5,zf8,zf9,zfa,zfm,zfo,zfp,zfq,zfr,zfs,zft,zfu,zfw,zfy,zfz,zg0,zg1,zje, a1, a2, hx]; all_goals tactic => exact rfl))
  rw [r21 (by simp)]; unfold x21; dsimp only
  sym =>
    simp [cS_gr, cS_nm, cS_sl, cS_len, z00,z01,z05,z07,z08,z0b,z0c,z0n,z0v,z0x,z15,z1f,z1l,z1m,z2b,z2g,z2h,z2j,z2u,z2v,z33,z34,z3h,z44,z45,z4l,z4m,z4q,z66,z67,z6b,z6q,z7s,z7w,z9j,z9k,z9l,z9n,z9y,za3,za5,za7,za8,zba,zbt,zbu,zbw,zbx,zby,zbz,zc0,zc3,zc4,zc5,zc6,zc8,zca,zcc,zcd,zce,zcf,zcg,zch,zcj,zcn,zco,zcr,zct,zcu,zcv,zcw,zcx,zcy,zd3,zd6,zdd,zdk,zdl,zdo,zds,zdt,zdu,zdv,ze2,ze3,zed,zeg,zeh,zei,zf5,zf8,zf9,zfa,zfm,zfo,zfp,zfq,zfr,zfs,zft,zfu,zfw,zfy,zfz,zg0,zg1,zje]
    tactic =>
      unfold x21l0
      rw [loop_rule a.length (fun i => [sR a, sR a, I (i : Nat)]) (fun _ => [])]
      · (sym => (simp [cS_gr, cS_nm, cS_sl, cS_len, z00,z01,z05,z07,z08,z0b,z0c,z0n,z0v,z0x,z15,z1f,z1l,z1m,z2b,z2g,z2h,z2j,z2u,z2v,z33,z34,z3h,z44,z45,z4l,z4m,z4q,z66,z67,z6b,z6q,z7s,z7w,z9j,z9k,z9l,z9n,z9y,za3,za5,za7,za8,zba,zbt,zbu,zbw,zbx,zby,zbz,zc0,zc3,zc4,zc5,zc6,zc8,zca,zcc,zcd,zce,zcf,zcg,zch,zcj,zcn,zco,zcr,zct,zcu,zcv,zcw,zcx,zcy,zd3,zd6,zdd,zdk,zdl,zdo,zds,zdt,zdu,zdv,ze2,ze3,zed,zeg,zeh,zei,zf5,zf8,zf9,zfa,zfm,zfo,zfp,zfq,zfr,zfs,zft,zfu,zfw,zfy,zfz,zg0,zg1,zje, z]; all_goals tactic => exact rfl))
      · (sym => (simp [cS_gr, cS_nm, cS_sl, cS_len, z00,z01,z05,z07,z08,z0b,z0c,z0n,z0v,z0x,z15,z1f,z1l,z1m,z2b,z2g,z2h,z2j,z2u,z2v,z33,z34,z3h,z44,z45,z4l,z4m,z4q,z66,z67,z6b,z6q,z7s,z7w,z9j,z9k,z9l,z9n,z9y,za3,za5,za7,za8,zba,zbt,zbu,zbw,zbx,zby,zbz,zc0,zc3,zc4,zc5,zc6,zc8,zca,zcc,zcd,zce,zcf,zcg,zch,zcj,zcn,zco,zcr,zct,zcu,zcv,zcw,zcx,zcy,zd3,zd6,zdd,zdk,zdl,zdo,zds,zdt,zdu,zdv,ze2,ze3,zed,zeg,zeh,zei,zf5,zf8,zf9,zfa,zfm,zfo,zfp,zfq,zfr,zfs,zft,zfu,zfw,zfy,zfz,zg0,zg1,zje]; all_goals tactic => exact rfl))
      · exact rd
      · (sym => (simp [cS_gr, cS_nm, cS_sl, cS_len, z00,z01,z05,z07,z08,z0b,z0c,z0n,z0v,z0x,z15,z1f,z1l,z1m,z2b,z2g,z2h,z2j,z2u,z2v,z33,z34,z3h,z44,z45,z4l,z4m,z4q,z66,z67,z6b,z6q,z7s,z7w,z9j,z9k,z9l,z9n,z9y,za3,za5,za7,za8,zba,zbt,zbu,zbw,zbx,zby,zbz,zc0,zc3,zc4,zc5,zc6,zc8,zca,zcc,zcd,zce,zcf,zcg,zch,zcj,zcn,zco,zcr,zct,zcu,zcv,zcw,zcx,zcy,zd3,zd6,zdd,zdk,zdl,zdo,zds,zdt,zdu,zdv,ze2,ze3,zed,zeg,zeh,zei,zf5,zf8,zf9,zfa,zfm,zfo,zfp,zfq,zfr,zfs,zft,zfu,zfw,zfy,zfz,zg0,zg1,zje, z]; all_goals tactic => exact rfl))
/-! ### What the reference gets -/
def cT (l : List St) : List AV := (l.map St.row).flatten
theorem ct_ok (k : List St) : RowsOk 2 (k.map St.row) := by
  intro r hr
  simp only [List.mem_map] at hr
  obtain ⟨x, _, rfl⟩ := hr
  exact ⟨rfl, rfl, rfl, rfl⟩
theorem cT_len (l : List St) : (cT l).length = l.length * 2 := by rw [cT, (rows_cells (ct_ok _)).2.2.2, List.length_map]
theorem cT_app (l : List St) (x : St) : cT (l ++ [x]) = cT l ++ x.row := by simp [cT]
theorem cT_ch (l : List St) : chunks (cT l) 0 2 l.length = l.map St.row := by
  have := rows_chunks (ct_ok l)
  rw [List.length_map] at this
  exact this
def cL (l : List Ld) : List AV := (l.map Ld.row).flatten
theorem cl_ok (k : List Ld) : RowsOk 5 (k.map Ld.row) := by
  intro r hr
  simp only [List.mem_map] at hr
  obtain ⟨x, _, rfl⟩ := hr
  exact ⟨rfl, rfl, rfl, rfl⟩
theorem cL_len (l : List Ld) : (cL l).length = l.length * 5 := by rw [cL, (rows_cells (cl_ok _)).2.2.2, List.length_map]
theorem cL_app (l : List Ld) (x : Ld) : cL (l ++ [x]) = cL l ++ x.row := by simp [cL]
theorem cL_ch (l : List Ld) : chunks (cL l) 0 5 l.length = l.map Ld.row := by
  have := rows_chunks (cl_ok l)
  rw [List.length_map] at this
  exact this
def vK (l : Li) (i : Nat) : List AV := (l.ks.take i).map fun k => rS k
theorem vK_len {l : Li} {i : Nat} (h : i ≤ l.ks.length) : (vK l i).length = i := by simp [vK]; omega
theorem vK_up {l : Li} {i : Nat} {k : List St} (h : l.ks[i]? = some k) : vK l (i + 1) = vK l i ++ [rS k] := by
  unfold vK
  rw [List.take_add_one, h, List.map_append]
  rfl
theorem chunksV : ∀ (l pre : List AV), chunks (pre ++ l) pre.length 1 l.length = l.map fun v => [v]
  | [], pre => rfl
  | a :: r, pre => by
    have h := chunksV r (pre ++ [a])
    simp only [List.append_assoc, List.cons_append, List.nil_append, List.length_append, List.length_cons, List.length_nil] at h
    rw [List.length_cons, chunks]
    simp only [Nat.zero_add] at h
    rw [h, List.drop_left' rfl, List.map_cons]
    rfl
theorem vK_ch (l : Li) : chunks (vK l l.ks.length) 0 1 l.ks.length = l.ks.map fun k => [rS k] := by
  have := chunksV (vK l l.ks.length) []
  rw [vK_len (Nat.le_refl _)] at this
  rw [List.nil_append] at this
  rw [show ([] : List AV).length = 0 from rfl] at this
  rw [this]
  unfold vK
  rw [List.take_length, List.map_map]
  rfl
abbrev bZ : Option XB := some (.blk true (.cells true [.nilsl, .nilsl, .nilsl, I 0, I 0]))
def hV1 (l : Li) (i : Nat) : XH := if i = 0 then [some (.blk true (.cells true l.c)), bZ, some (.blk true (.cells true [.nilsl, .nilsl, tR l.ts, I l.lo, I l.hi]))] else
  [some (.blk true (.cells true l.c)), bZ, some (.blk false (.cells true [.sl 3 0 1 i, .nilsl, tR l.ts, I l.lo, I l.hi])), some (.blk true (.cells true (vK l i)))]
def kV1 (i j : Nat) : AV := if j = 0 then .nilsl else .sl (if i = 0 then 3 else 4) 0 2 j
def hV1k (l : Li) (i : Nat) (k : List St) (j : Nat) : XH := hV1 l i ++ if j = 0 then [] else [some (.blk true (.cells true (cT (k.take j))))]
theorem take_up {α : Type} {l : List α} {i : Nat} {x : α} (h : l[i]? = some x) : l.take (i + 1) = l.take i ++ [x] := by rw [List.take_add_one, h]; rfl
theorem round16k {l : Li} (hs : Small l) {i : Nat} {k : List St} (hk : l.ks[i]? = some k) {j : Nat} (hj : j < k.length) :
    headX 0 [1, 2, 3, 4, 5, 6] (execW progX 16 0 none (match x16l0 with | .loop _ a => a | c => c) (envL [1, 2, 3, 4, 5, 6] [.pt 0 0, .pt 1 0, .pt 2 0, I (i : Nat), kV1 i j, I (j : Nat)]) (hV1k l i k j)) =
      some ([.pt 0 0, .pt 1 0, .pt 2 0, I (i : Nat), kV1 i (j + 1), I (j + 1 : Nat)], hV1k l i k (j + 1)) := by
  have hk20 := hs.eachK k (List.mem_of_getElem? hk)
  have hi := lt_of hk
  have hks := hs.ks
  obtain ⟨x, hx⟩ := at_ix hj
  have b1 := lt_ix hi
  have a1 := lt_ix hj
  have a2 := up_ix hj (by omega)
  have q1 : ((j + 1) * 16 ≤ 1099511627776) = True := eq_true (by omega)
  have q2 : (j + 1 ≤ 1099511627776) = True := eq_true (by omega)
  have tl : (k.take j).length = j := by rw [List.length_take]; omega
  have cl := cT_len (k.take j)
  rw [tl] at cl
  have ca := cT_app (k.take j) x
  rw [← take_up hx] at ca
  have c0 : cT (k.take 0) = [] := rfl
  unfold hV1k kV1 hV1
  rw [ca]
  simp only [Nat.add_one_ne_zero, if_false]
  unfold x16l0
  dsimp only
  by_cases hi0 : i = 0
  · subst hi0
    have b1 : ((0 : Int) < (l.ks.length : Int)) = True := b1
    by_cases hj0 : j = 0
    · subst hj0
      have a1 : ((0 : Int) < (k.length : Int)) = True := a1
      simp only [if_true]
      (sym => (simp [cS_gr, cS_nm, cS_sl, cS_len, z00,z01,z03,z04,z05,z07,z0b,z0c,z0f,z0n,z0t,z0v,z12,z15,z1f,z1j,z1z,z29,z2b,z2g,z2h,z2j,z2v,z33,z34,z36,z3g,z3h,z3j,z4l,z4q,z4s,z4t,z4v,z54,z57,z66,z6b,z6d,z6e,z6g,z8d,z9d,z9e,z9g,z9i,z9j,z9k,z9l,z9m,z9p,z9r,z9s,z9v,z9w,z9y,za0,za1,za3,za6,za7,za8,za9,zae,zaf,zag,zal,zam,zca,zcc,zcd,zce,zcf,zcn,zco,zcp,zcq,zcr,zct,zcu,zcv,zcw,zcx,zcy,zd3,zdd,zdj,zdk,zdm,zdn,zds,zdt,zdu,zdv,zdw,zdx,ze9,zea,zeb,zec,zeq,zer,zes,zet,zez,zf0,zf1,zf2,zf3,zf4,zf6,zf7,zf8,zf9,zfa,zfb,zfg,zfh,zfi,zfj,zfl,zfm,zfo,zfq,zfs,zft,zfw,zfz,zg0,zg1,zhf,zhp, b1, a1, hk, hx, c0]; all_goals tactic => exact rfl))
    · simp only [if_true, hj0, if_false]
      generalize cT (k.take j) = cc at *
      (sym => (simp [cS_gr, cS_nm, cS_sl, cS_len, z00,z01,z03,z04,z05,z07,z0b,z0c,z0f,z0n,z0t,z0v,z12,z15,z1f,z1j,z1z,z29,z2b,z2g,z2h,z2j,z2v,z33,z34,z36,z3g,z3h,z3j,z4l,z4q,z4s,z4t,z4v,z54,z57,z66,z6b,z6d,z6e,z6g,z8d,z9d,z9e,z9g,z9i,z9j,z9k,z9l,z9m,z9p,z9r,z9s,z9v,z9w,z9y,za0,za1,za3,za6,za7,za8,za9,zae,zaf,zag,zal,zam,zca,zcc,zcd,zce,zcf,zcn,zco,zcp,zcq,zcr,zct,zcu,zcv,zcw,zcx,zcy,zd3,zdd,zdj,zdk,zdm,zdn,zds,zdt,zdu,zdv,zdw,zdx,ze9,zea,zeb,zec,zeq,zer,zes,zet,zez,zf0,zf1,zf2,zf3,zf4,zf6,zf7,zf8,zf9,zfa,zfb,zfg,zfh,zfi,zfj,zfl,zfm,zfo,zfq,zfs,zft,zfw,zfz,zg0,zg1,zhf,zhp, b1, a1, a2, hk, hx, q1, q2, cl]; all_goals tactic => exact rfl))
  · simp only [hi0, if_false]
    by_cases hj0 : j = 0
    · subst hj0
      have a1 : ((0 : Int) < (k.length : Int)) = True := a1
      simp only [if_true]
      (sym => (simp [cS_gr, cS_nm, cS_sl, cS_len, z00,z01,z03,z04,z05,z07,z0b,z0c,z0f,z0n,z0t,z0v,z12,z15,z1f,z1j,z1z,z29,z2b,z2g,z2h,z2j,z2v,z33,z34,z36,z3g,z3h,z3j,z4l,z4q,z4s,z4t,z4v,z54,z57,z66,z6b,z6d,z6e,z6g,z8d,z9d,z9e,z9g,z9i,z9j,z9k,z9l,z9m,z9p,z9r,z9s,z9v,z9w,z9y,za0,za1,za3,za6,za7,za8,za9,zae,zaf,zag,zal,zam,zca,zcc,zcd,zce,zcf,zcn,zco,zcp,zcq,zcr,zct,zcu,zcv,zcw,zcx,zcy,zd3,zdd,zdj,zdk,zdm,zdn,zds,zdt,zdu,zdv,zdw,zdx,ze9,zea,zeb,zec,zeq,zer,zes,zet,zez,zf0,zf1,zf2,zf3,zf4,zf6,zf7,zf8,zf9,zfa,zfb,zfg,zfh,zfi,zfj,zfl,zfm,zfo,zfq,zfs,zft,zfw,zfz,zg0,zg1,zhf,zhp, b1, a1, hk, hx, c0]; all_goals tactic => exact rfl))
    · simp only [hj0, if_false]
      generalize cT (k.take j) = cc at *
      (sym => (simp [cS_gr, cS_nm, cS_sl, cS_len, z00,z01,z03,z04,z05,z07,z0b,z0c,z0f,z0n,z0t,z0v,z12,z15,z1f,z1j,z1z,z29,z2b,z2g,z2h,z2j,z2v,z33,z34,z36,z3g,z3h,z3j,z4l,z4q,z4s,z4t,z4v,z54,z57,z66,z6b,z6d,z6e,z6g,z8d,z9d,z9e,z9g,z9i,z9j,z9k,z9l,z9m,z9p,z9r,z9s,z9v,z9w,z9y,za0,za1,za3,za6,za7,za8,za9,zae,zaf,zag,zal,zam,zca,zcc,zcd,zce,zcf,zcn,zco,zcp,zcq,zcr,zct,zcu,zcv,zcw,zcx,zcy,zd3,zdd,zdj,zdk,zdm,zdn,zds,zdt,zdu,zdv,zdw,zdx,ze9,zea,zeb,zec,zeq,zer,zes,zet,zez,zf0,zf1,zf2,zf3,zf4,zf6,zf7,zf8,zf9,zfa,zfb,zfg,zfh,zfi,zfj,zfl,zfm,zfo,zfq,zfs,zft,zfw,zfz,zg0,zg1,zhf,zhp, b1, a1, a2, hk, hx, q1, q2, cl]; all_goals tactic => exact rfl))
theorem round16 {l : Li} (hs : Small l) {i : Nat} (hi : i < l.ks.length) :
    headX 0 [1, 2, 3, 4] (execW progX 16 0 none (match x16l1 with | .loop _ a => a | c => c) (envL [1, 2, 3, 4] [.pt 0 0, .pt 1 0, .pt 2 0, I (i : Nat)]) (hV1 l i)) = some ([.pt 0 0, .pt 1 0, .pt 2 0, I (i + 1 : Nat)], hV1 l (i + 1)) := by
  obtain ⟨k, hk⟩ := at_ix hi
  have hk20 := hs.eachK k (List.mem_of_getElem? hk)
  have hks := hs.ks
  have b1 := lt_ix hi
  have b2 := up_ix hi (by omega)
  have z := zf5 (n := (k.length : Int))
  have rd := fun (j : Nat) (hj : j < k.length) => round16k hs hk hj
  have ch := cT_ch k
  have cl := cT_len k
  have vl := vK_len (l := l) (i := i) (by omega)
  have vu := vK_up hk
  have v0 : vK l 0 = [] := rfl
  have q1 : ((i + 1) * 24 ≤ 1099511627776) = True := eq_true (by omega)
  have q2 : (i + 1 ≤ 1099511627776) = True := eq_true (by omega)
  have kk0 : kV1 i 0 = .nilsl := rfl
  have hk0 : hV1k l i k 0 = hV1 l i := by unfold hV1k; rw [if_pos rfl, List.append_nil]
  have e1 : hV1 l (i + 1) = [some (.blk true (.cells true l.c)), bZ, some (.blk false (.cells true [.sl 3 0 1 (i + 1), .nilsl, tR l.ts, I l.lo, I l.hi])), some (.blk true (.cells true (vK l i ++ [rS k])))] := by
    unfold hV1
    rw [if_neg (by omega), vu]
  have tk : k.take k.length = k := List.take_length
  have en : hV1k l i k k.length = hV1 l i ++ if k.length = 0 then [] else [some (.blk true (.cells true (cT k)))] := by unfold hV1k; rw [tk]
  have ek : kV1 i k.length = if k.length = 0 then .nilsl else .sl (if i = 0 then 3 else 4) 0 2 k.length := rfl
  have ev : hV1 l i = if i = 0 then [some (.blk true (.cells true l.c)), bZ, some (.blk true (.cells true [.nilsl, .nilsl, tR l.ts, I l.lo, I l.hi]))] else
      [some (.blk true (.cells true l.c)), bZ, some (.blk false (.cells true [.sl 3 0 1 i, .nilsl, tR l.ts, I l.lo, I l.hi])), some (.blk true (.cells true (vK l i)))] := rfl
  have ce : (k.length * 2 ≤ k.length * 2) = True := eq_true (Nat.le_refl _)
  have kz : k.length = 0 → rS k = .fs [] := fun h => by rw [List.eq_nil_of_length_eq_zero h]; rfl
  rw [e1]
  obtain ⟨SK, hSK⟩ : ∃ s : Nat → AV, s = kV1 i := ⟨_, rfl⟩
  obtain ⟨GK, hGK⟩ : ∃ s : Nat → XH, s = hV1k l i k := ⟨_, rfl⟩
  rw [← hSK] at rd kk0 ek
  rw [← hGK] at rd hk0 en
  rw [ev] at hk0 en ⊢
  clear ev e1 hSK hGK
  unfold x16l1
  dsimp only
  by_cases hi0 : i = 0
  · subst hi0
    have b1 : ((0 : Int) < (l.ks.length : Int)) = True := b1
    simp only [if_true] at ek en hk0 ⊢
    sym =>
      simp [cS_gr, cS_nm, cS_sl, cS_len, z00,z01,z02,z03,z04,z05,z06,z07,z09,z0b,z0c,z0f,z0n,z0t,z0v,z12,z15,z1f,z1j,z1n,z1o,z1z,z29,z2b,z2g,z2h,z2j,z2v,z33,z34,z36,z3g,z3h,z3j,z4l,z4q,z4s,z4t,z4v,z54,z59,z5b,z5e,z66,z6b,z6d,z6e,z6g,z6w,z6z,z78,z7d,z7f,z7g,z7i,z7w,z81,z8f,z8h,z9d,z9e,z9g,z9i,z9j,z9k,z9l,z9m,z9p,z9r,z9s,z9v,z9w,z9y,za0,za1,za3,za6,za7,za8,za9,zae,zaf,zag,zal,zam,zb4,zb5,zb9,zba,zbb,zbc,zbd,zbe,zbm,zbn,zbp,zca,zcc,zcd,zce,zcf,zcg,zch,zcn,zco,zcp,zcq,zcr,zct,zcu,zcv,zcw,zcx,zcy,zd3,zd5,zdd,zde,zdj,zdk,zdl,zdm,zdn,zds,zdt,zdu,zdv,zdw,zdx,ze0,ze1,ze9,zea,zeb,zec,zeq,zer,zes,zet,zez,zf0,zf1,zf2,zf3,zf4,zf5,zf6,zf7,zf8,zf9,zfb,zfc,zfd,zfg,zfh,zfi,zfj,zfl,zfm,zfo,zfq,zfr,zfs,zft,zfu,zfw,zfy,zfz,zg0,zg1,zhd,zhe,zhf,zhg,zhp,zje,zjg,zjj,zkn,zko,zkq, b1]
      tactic =>
        unfold x16l0
        rw [loop_rule k.length (fun j => [.pt 0 0, .pt 1 0, .pt 2 0, I ((0 : Nat) : Int), SK j, I (j : Nat)]) GK]
        · by_cases hz : k.length = 0
          · rw [kz hz]
            rw [if_pos hz] at ek en
            rw [hz] at z ek en ⊢
            (sym => (simp [cS_gr, cS_nm, cS_sl, cS_len, z00,z01,z02,z03,z04,z05,z06,z07,z09,z0b,z0c,z0f,z0n,z0t,z0v,z12,z15,z1f,z1j,z1n,z1o,z1z,z29,z2b,z2g,z2h,z2j,z2v,z33,z34,z36,z3g,z3h,z3j,z4l,z4q,z4s,z4t,z4v,z54,z59,z5b,z5e,z66,z6b,z6d,z6e,z6g,z6w,z6z,z78,z7d,z7f,z7g,z7i,z7w,z81,z8f,z8h,z9d,z9e,z9g,z9i,z9j,z9k,z9l,z9m,z9p,z9r,z9s,z9v,z9w,z9y,za0,za1,za3,za6,za7,za8,za9,zae,zaf,zag,zal,zam,zb4,zb5,zb9,zba,zbb,zbc,zbd,zbe,zbm,zbn,zbp,zca,zcc,zcd,zce,zcf,zcg,zch,zcn,zco,zcp,zcq,zcr,zct,zcu,zcv,zcw,zcx,zcy,zd3,zd5,zdd,zde,zdj,zdk,zdl,zdm,zdn,zds,zdt,zdu,zdv,zdw,zdx,ze0,ze1,ze9,zea,zeb,zec,zeq,zer,zes,zet,zez,zf0,zf1,zf2,zf3,zf4,zf5,zf6,zf7,zf8,zf9,zfb,zfc,zfd,zfg,zfh,zfi,zfj,zfl,zfm,zfo,zfq,zfr,zfs,zft,zfu,zfw,zfy,zfz,zg0,zg1,zhd,zhe,zhf,zhg,zhp,zje,zjg,zjj,zkn,zko,zkq, b1, hk, hz, ek, en, v0]; all_goals tactic => exact rfl))
          · rw [if_neg hz] at ek en
            (sym => (simp [cS_gr, cS_nm, cS_sl, cS_len, z00,z01,z02,z03,z04,z05,z06,z07,z09,z0b,z0c,z0f,z0n,z0t,z0v,z12,z15,z1f,z1j,z1n,z1o,z1z,z29,z2b,z2g,z2h,z2j,z2v,z33,z34,z36,z3g,z3h,z3j,z4l,z4q,z4s,z4t,z4v,z54,z59,z5b,z5e,z66,z6b,z6d,z6e,z6g,z6w,z6z,z78,z7d,z7f,z7g,z7i,z7w,z81,z8f,z8h,z9d,z9e,z9g,z9i,z9j,z9k,z9l,z9m,z9p,z9r,z9s,z9v,z9w,z9y,za0,za1,za3,za6,za7,za8,za9,zae,zaf,zag,zal,zam,zb4,zb5,zb9,zba,zbb,zbc,zbd,zbe,zbm,zbn,zbp,zca,zcc,zcd,zce,zcf,zcg,zch,zcn,zco,zcp,zcq,zcr,zct,zcu,zcv,zcw,zcx,zcy,zd3,zd5,zdd,zde,zdj,zdk,zdl,zdm,zdn,zds,zdt,zdu,zdv,zdw,zdx,ze0,ze1,ze9,zea,zeb,zec,zeq,zer,zes,zet,zez,zf0,zf1,zf2,zf3,zf4,zf5,zf6,zf7,zf8,zf9,zfb,zfc,zfd,zfg,zfh,zfi,zfj,zfl,zfm,zfo,zfq,zfr,zfs,zft,zfu,zfw,zfy,zfz,zg0,zg1,zhd,zhe,zhf,zhg,zhp,zje,zjg,zjj,zkn,zko,zkq, b1, hk, z, ek, en, v0, cl, ch, ce]; all_goals tactic => exact rfl))
        · (sym => (simp [cS_gr, cS_nm, cS_sl, cS_len, z00,z01,z02,z03,z04,z05,z06,z07,z09,z0b,z0c,z0f,z0n,z0t,z0v,z12,z15,z1f,z1j,z1n,z1o,z1z,z29,z2b,z2g,z2h,z2j,z2v,z33,z34,z36,z3g,z3h,z3j,z4l,z4q,z4s,z4t,z4v,z54,z59,z5b,z5e,z66,z6b,z6d,z6e,z6g,z6w,z6z,z78,z7d,z7f,z7g,z7i,z7w,z81,z8f,z8h,z9d,z9e,z9g,z9i,z9j,z9k,z9l,z9m,z9p,z9r,z9s,z9v,z9w,z9y,za0,za1,za3,za6,za7,za8,za9,zae,zaf,zag,zal,zam,zb4,zb5,zb9,zba,zbb,zbc,zbd,zbe,zbm,zbn,zbp,zca,zcc,zcd,zce,zcf,zcg,zch,zcn,zco,zcp,zcq,zcr,zct,zcu,zcv,zcw,zcx,zcy,zd3,zd5,zdd,zde,zdj,zdk,zdl,zdm,zdn,zds,zdt,zdu,zdv,zdw,zdx,ze0,ze1,ze9,zea,zeb,zec,zeq,zer,zes,zet,zez,zf0,zf1,zf2,zf3,zf4,zf5,zf6,zf7,zf8,zf9,zfb,zfc,zfd,zfg,zfh,zfi,zfj,zfl,zfm,zfo,zfq,zfr,zfs,zft,zfu,zfw,zfy,zfz,zg0,zg1,zhd,zhe,zhf,zhg,zhp,zje,zjg,zjj,zkn,zko,zkq, kk0, hk0]; all_goals tactic => exact rfl))
        · exact rd
        · (sym => (simp [cS_gr, cS_nm, cS_sl, cS_len, z00,z01,z02,z03,z04,z05,z06,z07,z09,z0b,z0c,z0f,z0n,z0t,z0v,z12,z15,z1f,z1j,z1n,z1o,z1z,z29,z2b,z2g,z2h,z2j,z2v,z33,z34,z36,z3g,z3h,z3j,z4l,z4q,z4s,z4t,z4v,z54,z59,z5b,z5e,z66,z6b,z6d,z6e,z6g,z6w,z6z,z78,z7d,z7f,z7g,z7i,z7w,z81,z8f,z8h,z9d,z9e,z9g,z9i,z9j,z9k,z9l,z9m,z9p,z9r,z9s,z9v,z9w,z9y,za0,za1,za3,za6,za7,za8,za9,zae,zaf,zag,zal,zam,zb4,zb5,zb9,zba,zbb,zbc,zbd,zbe,zbm,zbn,zbp,zca,zcc,zcd,zce,zcf,zcg,zch,zcn,zco,zcp,zcq,zcr,zct,zcu,zcv,zcw,zcx,zcy,zd3,zd5,zdd,zde,zdj,zdk,zdl,zdm,zdn,zds,zdt,zdu,zdv,zdw,zdx,ze0,ze1,ze9,zea,zeb,zec,zeq,zer,zes,zet,zez,zf0,zf1,zf2,zf3,zf4,zf5,zf6,zf7,zf8,zf9,zfb,zfc,zfd,zfg,zfh,zfi,zfj,zfl,zfm,zfo,zfq,zfr,zfs,zft,zfu,zfw,zfy,zfz,zg0,zg1,zhd,zhe,zhf,zhg,zhp,zje,zjg,zjj,zkn,zko,zkq, b1, hk, z, en]; all_goals tactic => exact rfl))
  · simp only [hi0, if_false] at ek en hk0 ⊢
    sym =>
      simp [cS_gr, cS_nm, cS_sl, cS_len, z00,z01,z02,z03,z04,z05,z06,z07,z09,z0b,z0c,z0f,z0n,z0t,z0v,z12,z15,z1f,z1j,z1n,z1o,z1z,z29,z2b,z2g,z2h,z2j,z2v,z33,z34,z36,z3g,z3h,z3j,z4l,z4q,z4s,z4t,z4v,z54,z59,z5b,z5e,z66,z6b,z6d,z6e,z6g,z6w,z6z,z78,z7d,z7f,z7g,z7i,z7w,z81,z8f,z8h,z9d,z9e,z9g,z9i,z9j,z9k,z9l,z9m,z9p,z9r,z9s,z9v,z9w,z9y,za0,za1,za3,za6,za7,za8,za9,zae,zaf,zag,zal,zam,zb4,zb5,zb9,zba,zbb,zbc,zbd,zbe,zbm,zbn,zbp,zca,zcc,zcd,zce,zcf,zcg,zch,zcn,zco,zcp,zcq,zcr,zct,zcu,zcv,zcw,zcx,zcy,zd3,zd5,zdd,zde,zdj,zdk,zdl,zdm,zdn,zds,zdt,zdu,zdv,zdw,zdx,ze0,ze1,ze9,zea,zeb,zec,zeq,zer,zes,zet,zez,zf0,zf1,zf2,zf3,zf4,zf5,zf6,zf7,zf8,zf9,zfb,zfc,zfd,zfg,zfh,zfi,zfj,zfl,zfm,zfo,zfq,zfr,zfs,zft,zfu,zfw,zfy,zfz,zg0,zg1,zhd,zhe,zhf,zhg,zhp,zje,zjg,zjj,zkn,zko,zkq, b1]
      tactic =>
        unfold x16l0
        rw [loop_rule k.length (fun j => [.pt 0 0, .pt 1 0, .pt 2 0, I (i : Nat), SK j, I (j : Nat)]) GK]
        · by_cases hz : k.length = 0
          · rw [kz hz]
            rw [if_pos hz] at ek en
            rw [hz] at z ek en ⊢
            (sym => (simp [cS_gr, cS_nm, cS_sl, cS_len, z00,z01,z02,z03,z04,z05,z06,z07,z09,z0b,z0c,z0f,z0n,z0t,z0v,z12,z15,z1f,z1j,z1n,z1o,z1z,z29,z2b,z2g,z2h,z2j,z2v,z33,z34,z36,z3g,z3h,z3j,z4l,z4q,z4s,z4t,z4v,z54,z59,z5b,z5e,z66,z6b,z6d,z6e,z6g,z6w,z6z,z78,z7d,z7f,z7g,z7i,z7w,z81,z8f,z8h,z9d,z9e,z9g,z9i,z9j,z9k,z9l,z9m,z9p,z9r,z9s,z9v,z9w,z9y,za0,za1,za3,za6,za7,za8,za9,zae,zaf,zag,zal,zam,zb4,zb5,zb9,zba,zbb,zbc,zbd,zbe,zbm,zbn,zbp,zca,zcc,zcd,zce,zcf,zcg,zch,zcn,zco,zcp,zcq,zcr,zct,zcu,zcv,zcw,zcx,zcy,zd3,zd5,zdd,zde,zdj,zdk,zdl,zdm,zdn,zds,zdt,zdu,zdv,zdw,zdx,ze0,ze1,ze9,zea,zeb,zec,zeq,zer,zes,zet,zez,zf0,zf1,zf2,zf3,zf4,zf5,zf6,zf7,zf8,zf9,zfb,zfc,zfd,zfg,zfh,zfi,zfj,zfl,zfm,zfo,zfq,zfr,zfs,zft,zfu,zfw,zfy,zfz,zg0,zg1,zhd,zhe,zhf,zhg,zhp,zje,zjg,zjj,zkn,zko,zkq, b1, b2, hk, hz, ek, en, vl, q1, q2]; all_goals tactic => exact rfl))
          · rw [if_neg hz] at ek en
            (sym => (simp [cS_gr, cS_nm, cS_sl, cS_len, z00,z01,z02,z03,z04,z05,z06,z07,z09,z0b,z0c,z0f,z0n,z0t,z0v,z12,z15,z1f,z1j,z1n,z1o,z1z,z29,z2b,z2g,z2h,z2j,z2v,z33,z34,z36,z3g,z3h,z3j,z4l,z4q,z4s,z4t,z4v,z54,z59,z5b,z5e,z66,z6b,z6d,z6e,z6g,z6w,z6z,z78,z7d,z7f,z7g,z7i,z7w,z81,z8f,z8h,z9d,z9e,z9g,z9i,z9j,z9k,z9l,z9m,z9p,z9r,z9s,z9v,z9w,z9y,za0,za1,za3,za6,za7,za8,za9,zae,zaf,zag,zal,zam,zb4,zb5,zb9,zba,zbb,zbc,zbd,zbe,zbm,zbn,zbp,zca,zcc,zcd,zce,zcf,zcg,zch,zcn,zco,zcp,zcq,zcr,zct,zcu,zcv,zcw,zcx,zcy,zd3,zd5,zdd,zde,zdj,zdk,zdl,zdm,zdn,zds,zdt,zdu,zdv,zdw,zdx,ze0,ze1,ze9,zea,zeb,zec,zeq,zer,zes,zet,zez,zf0,zf1,zf2,zf3,zf4,zf5,zf6,zf7,zf8,zf9,zfb,zfc,zfd,zfg,zfh,zfi,zfj,zfl,zfm,zfo,zfq,zfr,zfs,zft,zfu,zfw,zfy,zfz,zg0,zg1,zhd,zhe,zhf,zhg,zhp,zje,zjg,zjj,zkn,zko,zkq, b1, b2, hk, z, ek, en, cl, ch, ce, vl, q1, q2]; all_goals tactic => exact rfl))
        · (sym => (simp [cS_gr, cS_nm, cS_sl, cS_len, z00,z01,z02,z03,z04,z05,z06,z07,z09,z0b,z0c,z0f,z0n,z0t,z0v,z12,z15,z1f,z1j,z1n,z1o,z1z,z29,z2b,z2g,z2h,z2j,z2v,z33,z34,z36,z3g,z3h,z3j,z4l,z4q,z4s,z4t,z4v,z54,z59,z5b,z5e,z66,z6b,z6d,z6e,z6g,z6w,z6z,z78,z7d,z7f,z7g,z7i,z7w,z81,z8f,z8h,z9d,z9e,z9g,z9i,z9j,z9k,z9l,z9m,z9p,z9r,z9s,z9v,z9w,z9y,za0,za1,za3,za6,za7,za8,za9,zae,zaf,zag,zal,zam,zb4,zb5,zb9,zba,zbb,zbc,zbd,zbe,zbm,zbn,zbp,zca,zcc,zcd,zce,zcf,zcg,zch,zcn,zco,zcp,zcq,zcr,zct,zcu,zcv,zcw,zcx,zcy,zd3,zd5,zdd,zde,zdj,zdk,zdl,zdm,zdn,zds,zdt,zdu,zdv,zdw,zdx,ze0,ze1,ze9,zea,zeb,zec,zeq,zer,zes,zet,zez,zf0,zf1,zf2,zf3,zf4,zf5,zf6,zf7,zf8,zf9,zfb,zfc,zfd,zfg,zfh,zfi,zfj,zfl,zfm,zfo,zfq,zfr,zfs,zft,zfu,zfw,zfy,zfz,zg0,zg1,zhd,zhe,zhf,zhg,zhp,zje,zjg,zjj,zkn,zko,zkq, kk0, hk0]; all_goals tactic => exact rfl))
        · exact rd
        · (sym => (simp [cS_gr, cS_nm, cS_sl, cS_len, z00,z01,z02,z03,z04,z05,z06,z07,z09,z0b,z0c,z0f,z0n,z0t,z0v,z12,z15,z1f,z1j,z1n,z1o,z1z,z29,z2b,z2g,z2h,z2j,z2v,z33,z34,z36,z3g,z3h,z3j,z4l,z4q,z4s,z4t,z4v,z54,z59,z5b,z5e,z66,z6b,z6d,z6e,z6g,z6w,z6z,z78,z7d,z7f,z7g,z7i,z7w,z81,z8f,z8h,z9d,z9e,z9g,z9i,z9j,z9k,z9l,z9m,z9p,z9r,z9s,z9v,z9w,z9y,za0,za1,za3,za6,za7,za8,za9,zae,zaf,zag,zal,zam,zb4,zb5,zb9,zba,zbb,zbc,zbd,zbe,zbm,zbn,zbp,zca,zcc,zcd,zce,zcf,zcg,zch,zcn,zco,zcp,zcq,zcr,zct,zcu,zcv,zcw,zcx,zcy,zd3,zd5,zdd,zde,zdj,zdk,zdl,zdm,zdn,zds,zdt,zdu,zdv,zdw,zdx,ze0,ze1,ze9,zea,zeb,zec,zeq,zer,zes,zet,zez,zf0,zf1,zf2,zf3,zf4,zf5,zf6,zf7,zf8,zf9,zfb,zfc,zfd,zfg,zfh,zfi,zfj,zfl,zfm,zfo,zfq,zfr,zfs,zft,zfu,zfw,zfy,zfz,zg0,zg1,zhd,zhe,zhf,zhg,zhp,zje,zjg,zjj,zkn,zko,zkq, b1, hk, z, en]; all_goals tactic => exact rfl))
def hV2 (l : Li) (m : Nat) : XH := if l.ks.length = 0 then
    (if m = 0 then [some (.blk true (.cells true l.c)), bZ, some (.blk true (.cells true [.nilsl, .nilsl, tR l.ts, I l.lo, I l.hi]))]
     else [some (.blk true (.cells true l.c)), bZ, some (.blk false (.cells true [.nilsl, .sl 3 0 5 m, tR l.ts, I l.lo, I l.hi])), some (.blk true (.cells true (cL (l.ls.take m))))])
  else (if m = 0 then [some (.blk true (.cells true l.c)), bZ, some (.blk false (.cells true [.sl 3 0 1 l.ks.length, .nilsl, tR l.ts, I l.lo, I l.hi])), some (.blk true (.cells true (vK l l.ks.length)))]
     else [some (.blk true (.cells true l.c)), bZ, some (.blk false (.cells true [.sl 3 0 1 l.ks.length, .sl 4 0 5 m, tR l.ts, I l.lo, I l.hi])), some (.blk true (.cells true (vK l l.ks.length))), some (.blk true (.cells true (cL (l.ls.take m))))])
theorem round16l {l : Li} (hs : Small l) {i : Nat} (hi : i < l.ls.length) :
    headX 0 [1, 2, 3, 7] (execW progX 16 0 none (match x16l2 with | .loop _ a => a | c => c) (envL [1, 2, 3, 7] [.pt 0 0, .pt 1 0, .pt 2 0, I (i : Nat)]) (hV2 l i)) = some ([.pt 0 0, .pt 1 0, .pt 2 0, I (i + 1 : Nat)], hV2 l (i + 1)) := by
  obtain ⟨x, hx⟩ := at_ix hi
  have hls := hs.ls
  have a1 := lt_ix hi
  have a2 := up_ix hi (by omega)
  have q1 : ((i + 1) * 40 ≤ 1099511627776) = True := eq_true (by omega)
  have q2 : (i + 1 ≤ 1099511627776) = True := eq_true (by omega)
  have tl : (l.ls.take i).length = i := by rw [List.length_take]; omega
  have cl := cL_len (l.ls.take i)
  rw [tl] at cl
  have ca := cL_app (l.ls.take i) x
  rw [← take_up hx] at ca
  have c0 : cL (l.ls.take 0) = [] := rfl
  unfold hV2
  rw [ca]
  simp only [Nat.add_one_ne_zero, if_false]
  unfold x16l2
  dsimp only
  by_cases hn : l.ks.length = 0
  · simp only [hn, if_true]
    by_cases hi0 : i = 0
    · subst hi0
      have a1 : ((0 : Int) < (l.ls.length : Int)) = True := a1
      simp only [if_true]
      (sym => (simp [cS_gr, cS_nm, cS_sl, cS_len, z00,z01,z02,z03,z04,z05,z07,z08,z0b,z0c,z0f,z0n,z0t,z0v,z12,z15,z1f,z1j,z1k,z1l,z1m,z1n,z1p,z1q,z29,z2b,z2g,z2h,z2j,z2v,z33,z34,z36,z3g,z3h,z3j,z4l,z4q,z4s,z4t,z4v,z54,z57,z5b,z66,z6b,z6d,z6e,z6g,z8d,z8h,z90,z91,z93,z9d,z9e,z9g,z9i,z9j,z9k,z9l,z9m,z9p,z9r,z9s,z9v,z9w,z9y,za0,za1,za3,za6,za7,za8,za9,zae,zaf,zag,zal,zam,zav,zca,zcc,zcd,zce,zcf,zcn,zco,zcp,zcq,zcr,zct,zcu,zcv,zcw,zcx,zcy,zd3,zd5,zd7,zd8,zdd,zdj,zdk,zdl,zdm,zdn,zds,zdt,zdu,zdv,zdw,zdx,ze9,zea,zeb,zec,zeq,zer,zes,zet,zez,zf0,zf1,zf2,zf3,zf4,zf6,zf7,zf8,zf9,zfa,zfb,zfc,zfd,zfg,zfh,zfi,zfj,zfl,zfm,zfo,zfq,zfs,zft,zfw,zfz,zg0,zg1,zhf,zhp,zj4,zj7,zj8, a1, hx, c0]; all_goals tactic => exact rfl))
    · simp only [hi0, if_false]
      generalize cL (l.ls.take i) = cc at *
      (sym => (simp [cS_gr, cS_nm, cS_sl, cS_len, z00,z01,z02,z03,z04,z05,z07,z08,z0b,z0c,z0f,z0n,z0t,z0v,z12,z15,z1f,z1j,z1k,z1l,z1m,z1n,z1p,z1q,z29,z2b,z2g,z2h,z2j,z2v,z33,z34,z36,z3g,z3h,z3j,z4l,z4q,z4s,z4t,z4v,z54,z57,z5b,z66,z6b,z6d,z6e,z6g,z8d,z8h,z90,z91,z93,z9d,z9e,z9g,z9i,z9j,z9k,z9l,z9m,z9p,z9r,z9s,z9v,z9w,z9y,za0,za1,za3,za6,za7,za8,za9,zae,zaf,zag,zal,zam,zav,zca,zcc,zcd,zce,zcf,zcn,zco,zcp,zcq,zcr,zct,zcu,zcv,zcw,zcx,zcy,zd3,zd5,zd7,zd8,zdd,zdj,zdk,zdl,zdm,zdn,zds,zdt,zdu,zdv,zdw,zdx,ze9,zea,zeb,zec,zeq,zer,zes,zet,zez,zf0,zf1,zf2,zf3,zf4,zf6,zf7,zf8,zf9,zfa,zfb,zfc,zfd,zfg,zfh,zfi,zfj,zfl,zfm,zfo,zfq,zfs,zft,zfw,zfz,zg0,zg1,zhf,zhp,zj4,zj7,zj8, a1, a2, hx, q1, q2, cl]; all_goals tactic => exact rfl))
  · simp only [hn, if_false]
    by_cases hi0 : i = 0
    · subst hi0
      have a1 : ((0 : Int) < (l.ls.length : Int)) = True := a1
      simp only [if_true]
      (sym => (simp [cS_gr, cS_nm, cS_sl, cS_len, z00,z01,z02,z03,z04,z05,z07,z08,z0b,z0c,z0f,z0n,z0t,z0v,z12,z15,z1f,z1j,z1k,z1l,z1m,z1n,z1p,z1q,z29,z2b,z2g,z2h,z2j,z2v,z33,z34,z36,z3g,z3h,z3j,z4l,z4q,z4s,z4t,z4v,z54,z57,z5b,z66,z6b,z6d,z6e,z6g,z8d,z8h,z90,z91,z93,z9d,z9e,z9g,z9i,z9j,z9k,z9l,z9m,z9p,z9r,z9s,z9v,z9w,z9y,za0,za1,za3,za6,za7,za8,za9,zae,zaf,zag,zal,zam,zav,zca,zcc,zcd,zce,zcf,zcn,zco,zcp,zcq,zcr,zct,zcu,zcv,zcw,zcx,zcy,zd3,zd5,zd7,zd8,zdd,zdj,zdk,zdl,zdm,zdn,zds,zdt,zdu,zdv,zdw,zdx,ze9,zea,zeb,zec,zeq,zer,zes,zet,zez,zf0,zf1,zf2,zf3,zf4,zf6,zf7,zf8,zf9,zfa,zfb,zfc,zfd,zfg,zfh,zfi,zfj,zfl,zfm,zfo,zfq,zfs,zft,zfw,zfz,zg0,zg1,zhf,zhp,zj4,zj7,zj8, a1, hx, c0]; all_goals tactic => exact rfl))
    · simp only [hi0, if_false]
      generalize cL (l.ls.take i) = cc at *
      (sym => (simp [cS_gr, cS_nm, cS_sl, cS_len, z00,z01,z02,z03,z04,z05,z07,z08,z0b,z0c,z0f,z0n,z0t,z0v,z12,z15,z1f,z1j,z1k,z1l,z1m,z1n,z1p,z1q,z29,z2b,z2g,z2h,z2j,z2v,z33,z34,z36,z3g,z3h,z3j,z4l,z4q,z4s,z4t,z4v,z54,z57,z5b,z66,z6b,z6d,z6e,z6g,z8d,z8h,z90,z91,z93,z9d,z9e,z9g,z9i,z9j,z9k,z9l,z9m,z9p,z9r,z9s,z9v,z9w,z9y,za0,za1,za3,za6,za7,za8,za9,zae,zaf,zag,zal,zam,zav,zca,zcc,zcd,zce,zcf,zcn,zco,zcp,zcq,zcr,zct,zcu,zcv,zcw,zcx,zcy,zd3,zd5,zd7,zd8,zdd,zdj,zdk,zdl,zdm,zdn,zds,zdt,zdu,zdv,zdw,zdx,ze9,zea,zeb,zec,zeq,zer,zes,zet,zez,zf0,zf1,zf2,zf3,zf4,zf6,zf7,zf8,zf9,zfa,zfb,zfc,zfd,zfg,zfh,zfi,zfj,zfl,zfm,zfo,zfq,zfs,zft,zfw,zfz,zg0,zg1,zhf,zhp,zj4,zj7,zj8, a1, a2, hx, q1, q2, cl]; all_goals tactic => exact rfl))
theorem w16 {l : Li} (hs : Small l) : runW progX 16 [.agg l.c] [] = some (.agg l.c, []) := by
  have z := zf5 (n := (l.ks.length : Int))
  have z2 := zf5 (n := (l.ls.length : Int))
  have rd1 := fun (i : Nat) (hi : i < l.ks.length) => round16 hs hi
  have rd2 := fun (i : Nat) (hi : i < l.ls.length) => round16l hs hi
  have h0 : hV1 l 0 = [some (.blk true (.cells true l.c)), bZ, some (.blk true (.cells true [.nilsl, .nilsl, tR l.ts, I l.lo, I l.hi]))] := rfl
  have h1 : hV1 l l.ks.length = hV2 l 0 := rfl
  have ch := vK_ch l
  have vl := vK_len (l := l) (Nat.le_refl _)
  have ch2 := cL_ch l.ls
  have cl2 := cL_len l.ls
  have tk : l.ls.take l.ls.length = l.ls := List.take_length
  have h2 : hV2 l l.ls.length = if l.ks.length = 0 then
    (if l.ls.length = 0 then [some (.blk true (.cells true l.c)), bZ, some (.blk true (.cells true [.nilsl, .nilsl, tR l.ts, I l.lo, I l.hi]))]
     else [some (.blk true (.cells true l.c)), bZ, some (.blk false (.cells true [.nilsl, .sl 3 0 5 l.ls.length, tR l.ts, I l.lo, I l.hi])), some (.blk true (.cells true (cL l.ls)))])
  else (if l.ls.length = 0 then [some (.blk true (.cells true l.c)), bZ, some (.blk false (.cells true [.sl 3 0 1 l.ks.length, .nilsl, tR l.ts, I l.lo, I l.hi])), some (.blk true (.cells true (vK l l.ks.length)))]
     else [some (.blk true (.cells true l.c)), bZ, some (.blk false (.cells true [.sl 3 0 1 l.ks.length, .sl 4 0 5 l.ls.length, tR l.ts, I l.lo, I l.hi])), some (.blk true (.cells true (vK l l.ks.length))), some (.blk true (.cells true (cL l.ls)))]) := by unfold hV2; rw [tk]
  have c1 : (l.ks.length ≤ l.ks.length) = True := eq_true (Nat.le_refl _)
  have c2 : (l.ls.length * 5 ≤ l.ls.length * 5) = True := eq_true (Nat.le_refl _)
  have kz : l.ks.length = 0 → kR l.ks = .fs [] := fun h => by rw [List.eq_nil_of_length_eq_zero h]; rfl
  have lz : l.ls.length = 0 → lR l.ls = .fs [] := fun h => by rw [List.eq_nil_of_length_eq_zero h]; rfl
  obtain ⟨G1, hG1⟩ : ∃ s : Nat → XH, s = hV1 l := ⟨_, rfl⟩
  obtain ⟨G2, hG2⟩ : ∃ s : Nat → XH, s = hV2 l := ⟨_, rfl⟩
  rw [← hG1] at rd1 h0 h1
  rw [← hG2] at rd2 h1 h2
  have h3 : G2 0 = hV2 l 0 := by rw [hG2]
  clear hG1
  rw [r16 (by simp)]; unfold x16; dsimp only
  sym =>
    simp [cS_gr, cS_nm, cS_sl, cS_len, z00,z01,z02,z03,z04,z05,z07,z0b,z0c,z0f,z0n,z0o,z0r,z0s,z0v,z12,z1f,z1j,z1n,z1o,z29,z2b,z2v,z3h,z4f,z4l,z4o,z4q,z4s,z4t,z4v,z54,z57,z59,z5b,z5e,z66,z69,z6b,z6d,z6e,z6g,z6p,z6s,z6u,z6w,z6z,z78,z7b,z7d,z7f,z7i,z7r,z7u,z7w,z81,z8d,z8f,z9d,z9e,z9g,z9i,z9j,z9k,z9l,z9m,z9n,z9p,z9r,z9s,z9v,z9w,z9y,za0,za1,za3,za6,za7,za8,za9,zae,zaf,zag,zal,zam,zb4,zb5,zb9,zba,zbb,zbl,zbm,zbn,zbp,zbt,zbu,zbw,zbx,zby,zbz,zc0,zc3,zc4,zc5,zc7,zc8,zca,zcc,zcd,zce,zcg,zch,zcj,zcn,zco,zcp,zcq,zcr,zct,zcu,zcv,zcw,zcy,zd3,zd5,zdd,zde,zdj,zdl,zds,zdt,zdu,zdv,zdw,zdx,zdy,zdz,ze0,ze1,ze2,ze3,ze9,zea,zeb,zec,zeo,zep,zf5,zf6,zf7,zfa,zfb,zfc,zfd,zfg,zfm,zfo,zfp,zfr,zfs,zft,zfu,zfy,zfz,zg0,zg1,zhd,zhe,zhf,zhg,zje,zjg,zjj]
    tactic =>
      unfold x16l1
      rw [loop_rule l.ks.length (fun i => [.pt 0 0, .pt 1 0, .pt 2 0, I (i : Nat)]) G1]
      rotate_left
      · (sym => (simp [cS_gr, cS_nm, cS_sl, cS_len, z00,z01,z02,z03,z04,z05,z07,z0b,z0c,z0f,z0n,z0o,z0r,z0s,z0v,z12,z1f,z1j,z1n,z1o,z29,z2b,z2v,z3h,z4f,z4l,z4o,z4q,z4s,z4t,z4v,z54,z57,z59,z5b,z5e,z66,z69,z6b,z6d,z6e,z6g,z6p,z6s,z6u,z6w,z6z,z78,z7b,z7d,z7f,z7i,z7r,z7u,z7w,z81,z8d,z8f,z9d,z9e,z9g,z9i,z9j,z9k,z9l,z9m,z9n,z9p,z9r,z9s,z9v,z9w,z9y,za0,za1,za3,za6,za7,za8,za9,zae,zaf,zag,zal,zam,zb4,zb5,zb9,zba,zbb,zbl,zbm,zbn,zbp,zbt,zbu,zbw,zbx,zby,zbz,zc0,zc3,zc4,zc5,zc7,zc8,zca,zcc,zcd,zce,zcg,zch,zcj,zcn,zco,zcp,zcq,zcr,zct,zcu,zcv,zcw,zcy,zd3,zd5,zdd,zde,zdj,zdl,zds,zdt,zdu,zdv,zdw,zdx,zdy,zdz,ze0,ze1,ze2,ze3,ze9,zea,zeb,zec,zeo,zep,zf5,zf6,zf7,zfa,zfb,zfc,zfd,zfg,zfm,zfo,zfp,zfr,zfs,zft,zfu,zfy,zfz,zg0,zg1,zhd,zhe,zhf,zhg,zje,zjg,zjj, h0]; all_goals tactic => exact rfl))
      · exact rd1
      · rw [h1, h3]
        unfold hV2
        by_cases hn : l.ks.length = 0
        · simp only [hn, if_true]
          rw [hn] at z
          (sym => (simp [cS_gr, cS_nm, cS_sl, cS_len, z00,z01,z02,z03,z04,z05,z07,z0b,z0c,z0f,z0n,z0o,z0r,z0s,z0v,z12,z1f,z1j,z1n,z1o,z29,z2b,z2v,z3h,z4f,z4l,z4o,z4q,z4s,z4t,z4v,z54,z57,z59,z5b,z5e,z66,z69,z6b,z6d,z6e,z6g,z6p,z6s,z6u,z6w,z6z,z78,z7b,z7d,z7f,z7i,z7r,z7u,z7w,z81,z8d,z8f,z9d,z9e,z9g,z9i,z9j,z9k,z9l,z9m,z9n,z9p,z9r,z9s,z9v,z9w,z9y,za0,za1,za3,za6,za7,za8,za9,zae,zaf,zag,zal,zam,zb4,zb5,zb9,zba,zbb,zbl,zbm,zbn,zbp,zbt,zbu,zbw,zbx,zby,zbz,zc0,zc3,zc4,zc5,zc7,zc8,zca,zcc,zcd,zce,zcg,zch,zcj,zcn,zco,zcp,zcq,zcr,zct,zcu,zcv,zcw,zcy,zd3,zd5,zdd,zde,zdj,zdl,zds,zdt,zdu,zdv,zdw,zdx,zdy,zdz,ze0,ze1,ze2,ze3,ze9,zea,zeb,zec,zeo,zep,zf5,zf6,zf7,zfa,zfb,zfc,zfd,zfg,zfm,zfo,zfp,zfr,zfs,zft,zfu,zfy,zfz,zg0,zg1,zhd,zhe,zhf,zhg,zje,zjg,zjj, z, hn]; all_goals tactic => exact rfl))
        · simp only [hn, if_false, if_true]
          (sym => (simp [cS_gr, cS_nm, cS_sl, cS_len, z00,z01,z02,z03,z04,z05,z07,z0b,z0c,z0f,z0n,z0o,z0r,z0s,z0v,z12,z1f,z1j,z1n,z1o,z29,z2b,z2v,z3h,z4f,z4l,z4o,z4q,z4s,z4t,z4v,z54,z57,z59,z5b,z5e,z66,z69,z6b,z6d,z6e,z6g,z6p,z6s,z6u,z6w,z6z,z78,z7b,z7d,z7f,z7i,z7r,z7u,z7w,z81,z8d,z8f,z9d,z9e,z9g,z9i,z9j,z9k,z9l,z9m,z9n,z9p,z9r,z9s,z9v,z9w,z9y,za0,za1,za3,za6,za7,za8,za9,zae,zaf,zag,zal,zam,zb4,zb5,zb9,zba,zbb,zbl,zbm,zbn,zbp,zbt,zbu,zbw,zbx,zby,zbz,zc0,zc3,zc4,zc5,zc7,zc8,zca,zcc,zcd,zce,zcg,zch,zcj,zcn,zco,zcp,zcq,zcr,zct,zcu,zcv,zcw,zcy,zd3,zd5,zdd,zde,zdj,zdl,zds,zdt,zdu,zdv,zdw,zdx,zdy,zdz,ze0,ze1,ze2,ze3,ze9,zea,zeb,zec,zeo,zep,zf5,zf6,zf7,zfa,zfb,zfc,zfd,zfg,zfm,zfo,zfp,zfr,zfs,zft,zfu,zfy,zfz,zg0,zg1,zhd,zhe,zhf,zhg,zje,zjg,zjj, z]; all_goals tactic => exact rfl))
      rw [h1]
      have h30 : G2 0 = if l.ks.length = 0 then [some (.blk true (.cells true l.c)), bZ, some (.blk true (.cells true [.nilsl, .nilsl, tR l.ts, I l.lo, I l.hi]))] else [some (.blk true (.cells true l.c)), bZ, some (.blk false (.cells true [.sl 3 0 1 l.ks.length, .nilsl, tR l.ts, I l.lo, I l.hi])), some (.blk true (.cells true (vK l l.ks.length)))] := by rw [h3]; rfl
      by_cases hn : l.ks.length = 0
      · rw [kz hn]
        simp only [hn, if_true] at h30 h2 z ⊢
        sym =>
          simp [cS_gr, cS_nm, cS_sl, cS_len, z00,z01,z02,z03,z04,z05,z07,z0b,z0c,z0f,z0n,z0o,z0r,z0s,z0v,z12,z1f,z1j,z1n,z1o,z29,z2b,z2v,z3h,z4f,z4l,z4o,z4q,z4s,z4t,z4v,z54,z57,z59,z5b,z5e,z66,z69,z6b,z6d,z6e,z6g,z6p,z6s,z6u,z6w,z6z,z78,z7b,z7d,z7f,z7i,z7r,z7u,z7w,z81,z8d,z8f,z9d,z9e,z9g,z9i,z9j,z9k,z9l,z9m,z9n,z9p,z9r,z9s,z9v,z9w,z9y,za0,za1,za3,za6,za7,za8,za9,zae,zaf,zag,zal,zam,zb4,zb5,zb9,zba,zbb,zbl,zbm,zbn,zbp,zbt,zbu,zbw,zbx,zby,zbz,zc0,zc3,zc4,zc5,zc7,zc8,zca,zcc,zcd,zce,zcg,zch,zcj,zcn,zco,zcp,zcq,zcr,zct,zcu,zcv,zcw,zcy,zd3,zd5,zdd,zde,zdj,zdl,zds,zdt,zdu,zdv,zdw,zdx,zdy,zdz,ze0,ze1,ze2,ze3,ze9,zea,zeb,zec,zeo,zep,zf5,zf6,zf7,zfa,zfb,zfc,zfd,zfg,zfm,zfo,zfp,zfr,zfs,zft,zfu,zfy,zfz,zg0,zg1,zhd,zhe,zhf,zhg,zje,zjg,zjj, z, h30, hn]
          tactic =>
            unfold x16l2
            rw [loop_rule l.ls.length (fun i => [.pt 0 0, .pt 1 0, .pt 2 0, I (i : Nat)]) G2]
            · by_cases hm : l.ls.length = 0
              · rw [lz hm]
                simp only [hm, if_true] at h2 z2 ⊢
                (sym => (simp [cS_gr, cS_nm, cS_sl, cS_len, z00,z01,z02,z03,z04,z05,z07,z0b,z0c,z0f,z0n,z0o,z0r,z0s,z0v,z12,z1f,z1j,z1n,z1o,z29,z2b,z2v,z3h,z4f,z4l,z4o,z4q,z4s,z4t,z4v,z54,z57,z59,z5b,z5e,z66,z69,z6b,z6d,z6e,z6g,z6p,z6s,z6u,z6w,z6z,z78,z7b,z7d,z7f,z7i,z7r,z7u,z7w,z81,z8d,z8f,z9d,z9e,z9g,z9i,z9j,z9k,z9l,z9m,z9n,z9p,z9r,z9s,z9v,z9w,z9y,za0,za1,za3,za6,za7,za8,za9,zae,zaf,zag,zal,zam,zb4,zb5,zb9,zba,zbb,zbl,zbm,zbn,zbp,zbt,zbu,zbw,zbx,zby,zbz,zc0,zc3,zc4,zc5,zc7,zc8,zca,zcc,zcd,zce,zcg,zch,zcj,zcn,zco,zcp,zcq,zcr,zct,zcu,zcv,zcw,zcy,zd3,zd5,zdd,zde,zdj,zdl,zds,zdt,zdu,zdv,zdw,zdx,zdy,zdz,ze0,ze1,ze2,ze3,ze9,zea,zeb,zec,zeo,zep,zf5,zf6,zf7,zfa,zfb,zfc,zfd,zfg,zfm,zfo,zfp,zfr,zfs,zft,zfu,zfy,zfz,zg0,zg1,zhd,zhe,zhf,zhg,zje,zjg,zjj, z2, h2, hm]; all_goals tactic => exact rfl))
              · simp only [hm, if_false] at h2
                (sym => (simp [cS_gr, cS_nm, cS_sl, cS_len, z00,z01,z02,z03,z04,z05,z07,z0b,z0c,z0f,z0n,z0o,z0r,z0s,z0v,z12,z1f,z1j,z1n,z1o,z29,z2b,z2v,z3h,z4f,z4l,z4o,z4q,z4s,z4t,z4v,z54,z57,z59,z5b,z5e,z66,z69,z6b,z6d,z6e,z6g,z6p,z6s,z6u,z6w,z6z,z78,z7b,z7d,z7f,z7i,z7r,z7u,z7w,z81,z8d,z8f,z9d,z9e,z9g,z9i,z9j,z9k,z9l,z9m,z9n,z9p,z9r,z9s,z9v,z9w,z9y,za0,za1,za3,za6,za7,za8,za9,zae,zaf,zag,zal,zam,zb4,zb5,zb9,zba,zbb,zbl,zbm,zbn,zbp,zbt,zbu,zbw,zbx,zby,zbz,zc0,zc3,zc4,zc5,zc7,zc8,zca,zcc,zcd,zce,zcg,zch,zcj,zcn,zco,zcp,zcq,zcr,zct,zcu,zcv,zcw,zcy,zd3,zd5,zdd,zde,zdj,zdl,zds,zdt,zdu,zdv,zdw,zdx,zdy,zdz,ze0,ze1,ze2,ze3,ze9,zea,zeb,zec,zeo,zep,zf5,zf6,zf7,zfa,zfb,zfc,zfd,zfg,zfm,zfo,zfp,zfr,zfs,zft,zfu,zfy,zfz,zg0,zg1,zhd,zhe,zhf,zhg,zje,zjg,zjj, z2, h2, cl2, ch2, c2]; all_goals tactic => exact rfl))
            · (sym => (simp [cS_gr, cS_nm, cS_sl, cS_len, z00,z01,z02,z03,z04,z05,z07,z0b,z0c,z0f,z0n,z0o,z0r,z0s,z0v,z12,z1f,z1j,z1n,z1o,z29,z2b,z2v,z3h,z4f,z4l,z4o,z4q,z4s,z4t,z4v,z54,z57,z59,z5b,z5e,z66,z69,z6b,z6d,z6e,z6g,z6p,z6s,z6u,z6w,z6z,z78,z7b,z7d,z7f,z7i,z7r,z7u,z7w,z81,z8d,z8f,z9d,z9e,z9g,z9i,z9j,z9k,z9l,z9m,z9n,z9p,z9r,z9s,z9v,z9w,z9y,za0,za1,za3,za6,za7,za8,za9,zae,zaf,zag,zal,zam,zb4,zb5,zb9,zba,zbb,zbl,zbm,zbn,zbp,zbt,zbu,zbw,zbx,zby,zbz,zc0,zc3,zc4,zc5,zc7,zc8,zca,zcc,zcd,zce,zcg,zch,zcj,zcn,zco,zcp,zcq,zcr,zct,zcu,zcv,zcw,zcy,zd3,zd5,zdd,zde,zdj,zdl,zds,zdt,zdu,zdv,zdw,zdx,zdy,zdz,ze0,ze1,ze2,ze3,ze9,zea,zeb,zec,zeo,zep,zf5,zf6,zf7,zfa,zfb,zfc,zfd,zfg,zfm,zfo,zfp,zfr,zfs,zft,zfu,zfy,zfz,zg0,zg1,zhd,zhe,zhf,zhg,zje,zjg,zjj, h30]; all_goals tactic => exact rfl))
            · exact rd2
            · by_cases hm : l.ls.length = 0
              · simp only [hm, if_true] at h2 z2 ⊢
                (sym => (simp [cS_gr, cS_nm, cS_sl, cS_len, z00,z01,z02,z03,z04,z05,z07,z0b,z0c,z0f,z0n,z0o,z0r,z0s,z0v,z12,z1f,z1j,z1n,z1o,z29,z2b,z2v,z3h,z4f,z4l,z4o,z4q,z4s,z4t,z4v,z54,z57,z59,z5b,z5e,z66,z69,z6b,z6d,z6e,z6g,z6p,z6s,z6u,z6w,z6z,z78,z7b,z7d,z7f,z7i,z7r,z7u,z7w,z81,z8d,z8f,z9d,z9e,z9g,z9i,z9j,z9k,z9l,z9m,z9n,z9p,z9r,z9s,z9v,z9w,z9y,za0,za1,za3,za6,za7,za8,za9,zae,zaf,zag,zal,zam,zb4,zb5,zb9,zba,zbb,zbl,zbm,zbn,zbp,zbt,zbu,zbw,zbx,zby,zbz,zc0,zc3,zc4,zc5,zc7,zc8,zca,zcc,zcd,zce,zcg,zch,zcj,zcn,zco,zcp,zcq,zcr,zct,zcu,zcv,zcw,zcy,zd3,zd5,zdd,zde,zdj,zdl,zds,zdt,zdu,zdv,zdw,zdx,zdy,zdz,ze0,ze1,ze2,ze3,ze9,zea,zeb,zec,zeo,zep,zf5,zf6,zf7,zfa,zfb,zfc,zfd,zfg,zfm,zfo,zfp,zfr,zfs,zft,zfu,zfy,zfz,zg0,zg1,zhd,zhe,zhf,zhg,zje,zjg,zjj, z2, h2, hm]; all_goals tactic => exact rfl))
              · simp only [hm, if_false] at h2
                (sym => (simp [cS_gr, cS_nm, cS_sl, cS_len, z00,z01,z02,z03,z04,z05,z07,z0b,z0c,z0f,z0n,z0o,z0r,z0s,z0v,z12,z1f,z1j,z1n,z1o,z29,z2b,z2v,z3h,z4f,z4l,z4o,z4q,z4s,z4t,z4v,z54,z57,z59,z5b,z5e,z66,z69,z6b,z6d,z6e,z6g,z6p,z6s,z6u,z6w,z6z,z78,z7b,z7d,z7f,z7i,z7r,z7u,z7w,z81,z8d,z8f,z9d,z9e,z9g,z9i,z9j,z9k,z9l,z9m,z9n,z9p,z9r,z9s,z9v,z9w,z9y,za0,za1,za3,za6,za7,za8,za9,zae,zaf,zag,zal,zam,zb4,zb5,zb9,zba,zbb,zbl,zbm,zbn,zbp,zbt,zbu,zbw,zbx,zby,zbz,zc0,zc3,zc4,zc5,zc7,zc8,zca,zcc,zcd,zce,zcg,zch,zcj,zcn,zco,zcp,zcq,zcr,zct,zcu,zcv,zcw,zcy,zd3,zd5,zdd,zde,zdj,zdl,zds,zdt,zdu,zdv,zdw,zdx,zdy,zdz,ze0,ze1,ze2,ze3,ze9,zea,zeb,zec,zeo,zep,zf5,zf6,zf7,zfa,zfb,zfc,zfd,zfg,zfm,zfo,zfp,zfr,zfs,zft,zfu,zfy,zfz,zg0,zg1,zhd,zhe,zhf,zhg,zje,zjg,zjj, z2, h2]; all_goals tactic => exact rfl))
      · simp only [hn, if_false] at h30 h2
        sym =>
          simp [cS_gr, cS_nm, cS_sl, cS_len, z00,z01,z02,z03,z04,z05,z07,z0b,z0c,z0f,z0n,z0o,z0r,z0s,z0v,z12,z1f,z1j,z1n,z1o,z29,z2b,z2v,z3h,z4f,z4l,z4o,z4q,z4s,z4t,z4v,z54,z57,z59,z5b,z5e,z66,z69,z6b,z6d,z6e,z6g,z6p,z6s,z6u,z6w,z6z,z78,z7b,z7d,z7f,z7i,z7r,z7u,z7w,z81,z8d,z8f,z9d,z9e,z9g,z9i,z9j,z9k,z9l,z9m,z9n,z9p,z9r,z9s,z9v,z9w,z9y,za0,za1,za3,za6,za7,za8,za9,zae,zaf,zag,zal,zam,zb4,zb5,zb9,zba,zbb,zbl,zbm,zbn,zbp,zbt,zbu,zbw,zbx,zby,zbz,zc0,zc3,zc4,zc5,zc7,zc8,zca,zcc,zcd,zce,zcg,zch,zcj,zcn,zco,zcp,zcq,zcr,zct,zcu,zcv,zcw,zcy,zd3,zd5,zdd,zde,zdj,zdl,zds,zdt,zdu,zdv,zdw,zdx,zdy,zdz,ze0,ze1,ze2,ze3,ze9,zea,zeb,zec,zeo,zep,zf5,zf6,zf7,zfa,zfb,zfc,zfd,zfg,zfm,zfo,zfp,zfr,zfs,zft,zfu,zfy,zfz,zg0,zg1,zhd,zhe,zhf,zhg,zje,zjg,zjj, z, h30]
          tactic =>
            unfold x16l2
            rw [loop_rule l.ls.length (fun i => [.pt 0 0, .pt 1 0, .pt 2 0, I (i : Nat)]) G2]
            · by_cases hm : l.ls.length = 0
              · rw [lz hm]
                simp only [hm, if_true] at h2 z2 ⊢
                (sym => (simp [cS_gr, cS_nm, cS_sl, cS_len, z00,z01,z02,z03,z04,z05,z07,z0b,z0c,z0f,z0n,z0o,z0r,z0s,z0v,z12,z1f,z1j,z1n,z1o,z29,z2b,z2v,z3h,z4f,z4l,z4o,z4q,z4s,z4t,z4v,z54,z57,z59,z5b,z5e,z66,z69,z6b,z6d,z6e,z6g,z6p,z6s,z6u,z6w,z6z,z78,z7b,z7d,z7f,z7i,z7r,z7u,z7w,z81,z8d,z8f,z9d,z9e,z9g,z9i,z9j,z9k,z9l,z9m,z9n,z9p,z9r,z9s,z9v,z9w,z9y,za0,za1,za3,za6,za7,za8,za9,zae,zaf,zag,zal,zam,zb4,zb5,zb9,zba,zbb,zbl,zbm,zbn,zbp,zbt,zbu,zbw,zbx,zby,zbz,zc0,zc3,zc4,zc5,zc7,zc8,zca,zcc,zcd,zce,zcg,zch,zcj,zcn,zco,zcp,zcq,zcr,zct,zcu,zcv,zcw,zcy,zd3,zd5,zdd,zde,zdj,zdl,zds,zdt,zdu,zdv,zdw,zdx,zdy,zdz,ze0,ze1,ze2,ze3,ze9,zea,zeb,zec,zeo,zep,zf5,zf6,zf7,zfa,zfb,zfc,zfd,zfg,zfm,zfo,zfp,zfr,zfs,zft,zfu,zfy,zfz,zg0,zg1,zhd,zhe,zhf,zhg,zje,zjg,zjj, z2, h2, hm, ch, vl, c1]; all_goals tactic => exact rfl))
              · simp only [hm, if_false] at h2
                (sym => (simp [cS_gr, cS_nm, cS_sl, cS_len, z00,z01,z02,z03,z04,z05,z07,z0b,z0c,z0f,z0n,z0o,z0r,z0s,z0v,z12,z1f,z1j,z1n,z1o,z29,z2b,z2v,z3h,z4f,z4l,z4o,z4q,z4s,z4t,z4v,z54,z57,z59,z5b,z5e,z66,z69,z6b,z6d,z6e,z6g,z6p,z6s,z6u,z6w,z6z,z78,z7b,z7d,z7f,z7i,z7r,z7u,z7w,z81,z8d,z8f,z9d,z9e,z9g,z9i,z9j,z9k,z9l,z9m,z9n,z9p,z9r,z9s,z9v,z9w,z9y,za0,za1,za3,za6,za7,za8,za9,zae,zaf,zag,zal,zam,zb4,zb5,zb9,zba,zbb,zbl,zbm,zbn,zbp,zbt,zbu,zbw,zbx,zby,zbz,zc0,zc3,zc4,zc5,zc7,zc8,zca,zcc,zcd,zce,zcg,zch,zcj,zcn,zco,zcp,zcq,zcr,zct,zcu,zcv,zcw,zcy,zd3,zd5,zdd,zde,zdj,zdl,zds,zdt,zdu,zdv,zdw,zdx,zdy,zdz,ze0,ze1,ze2,ze3,ze9,zea,zeb,zec,zeo,zep,zf5,zf6,zf7,zfa,zfb,zfc,zfd,zfg,zfm,zfo,zfp,zfr,zfs,zft,zfu,zfy,zfz,zg0,zg1,zhd,zhe,zhf,zhg,zje,zjg,zjj, z2, h2, cl2, ch2, c2, ch, vl, c1]; all_goals tactic => exact rfl))
            · (sym => (simp [cS_gr, cS_nm, cS_sl, cS_len, z00,z01,z02,z03,z04,z05,z07,z0b,z0c,z0f,z0n,z0o,z0r,z0s,z0v,z12,z1f,z1j,z1n,z1o,z29,z2b,z2v,z3h,z4f,z4l,z4o,z4q,z4s,z4t,z4v,z54,z57,z59,z5b,z5e,z66,z69,z6b,z6d,z6e,z6g,z6p,z6s,z6u,z6w,z6z,z78,z7b,z7d,z7f,z7i,z7r,z7u,z7w,z81,z8d,z8f,z9d,z9e,z9g,z9i,z9j,z9k,z9l,z9m,z9n,z9p,z9r,z9s,z9v,z9w,z9y,za0,za1,za3,za6,za7,za8,za9,zae,zaf,zag,zal,zam,zb4,zb5,zb9,zba,zbb,zbl,zbm,zbn,zbp,zbt,zbu,zbw,zbx,zby,zbz,zc0,zc3,zc4,zc5,zc7,zc8,zca,zcc,zcd,zce,zcg,zch,zcj,zcn,zco,zcp,zcq,zcr,zct,zcu,zcv,zcw,zcy,zd3,zd5,zdd,zde,zdj,zdl,zds,zdt,zdu,zdv,zdw,zdx,zdy,zdz,ze0,ze1,ze2,ze3,ze9,zea,zeb,zec,zeo,zep,zf5,zf6,zf7,zfa,zfb,zfc,zfd,zfg,zfm,zfo,zfp,zfr,zfs,zft,zfu,zfy,zfz,zg0,zg1,zhd,zhe,zhf,zhg,zje,zjg,zjj, h30]; all_goals tactic => exact rfl))
            · exact rd2
            · by_cases hm : l.ls.length = 0
              · simp only [hm, if_true] at h2 z2 ⊢
                (sym => (simp [cS_gr, cS_nm, cS_sl, cS_len, z00,z01,z02,z03,z04,z05,z07,z0b,z0c,z0f,z0n,z0o,z0r,z0s,z0v,z12,z1f,z1j,z1n,z1o,z29,z2b,z2v,z3h,z4f,z4l,z4o,z4q,z4s,z4t,z4v,z54,z57,z59,z5b,z5e,z66,z69,z6b,z6d,z6e,z6g,z6p,z6s,z6u,z6w,z6z,z78,z7b,z7d,z7f,z7i,z7r,z7u,z7w,z81,z8d,z8f,z9d,z9e,z9g,z9i,z9j,z9k,z9l,z9m,z9n,z9p,z9r,z9s,z9v,z9w,z9y,za0,za1,za3,za6,za7,za8,za9,zae,zaf,zag,zal,zam,zb4,zb5,zb9,zba,zbb,zbl,zbm,zbn,zbp,zbt,zbu,zbw,zbx,zby,zbz,zc0,zc3,zc4,zc5,zc7,zc8,zca,zcc,zcd,zce,zcg,zch,zcj,zcn,zco,zcp,zcq,zcr,zct,zcu,zcv,zcw,zcy,zd3,zd5,zdd,zde,zdj,zdl,zds,zdt,zdu,zdv,zdw,zdx,zdy,zdz,ze0,ze1,ze2,ze3,ze9,zea,zeb,zec,zeo,zep,zf5,zf6,zf7,zfa,zfb,zfc,zfd,zfg,zfm,zfo,zfp,zfr,zfs,zft,zfu,zfy,zfz,zg0,zg1,zhd,zhe,zhf,zhg,zje,zjg,zjj, z2, h2, hm]; all_goals tactic => exact rfl))
              · simp only [hm, if_false] at h2
                (sym => (simp [cS_gr, cS_nm, cS_sl, cS_len, z00,z01,z02,z03,z04,z05,z07,z0b,z0c,z0f,z0n,z0o,z0r,z0s,z0v,z12,z1f,z1j,z1n,z1o,z29,z2b,z2v,z3h,z4f,z4l,z4o,z4q,z4s,z4t,z4v,z54,z57,z59,z5b,z5e,z66,z69,z6b,z6d,z6e,z6g,z6p,z6s,z6u,z6w,z6z,z78,z7b,z7d,z7f,z7i,z7r,z7u,z7w,z81,z8d,z8f,z9d,z9e,z9g,z9i,z9j,z9k,z9l,z9m,z9n,z9p,z9r,z9s,z9v,z9w,z9y,za0,za1,za3,za6,za7,za8,za9,zae,zaf,zag,zal,zam,zb4,zb5,zb9,zba,zbb,zbl,zbm,zbn,zbp,zbt,zbu,zbw,zbx,zby,zbz,zc0,zc3,zc4,zc5,zc7,zc8,zca,zcc,zcd,zce,zcg,zch,zcj,zcn,zco,zcp,zcq,zcr,zct,zcu,zcv,zcw,zcy,zd3,zd5,zdd,zde,zdj,zdl,zds,zdt,zdu,zdv,zdw,zdx,zdy,zdz,ze0,ze1,ze2,ze3,ze9,zea,zeb,zec,zeo,zep,zf5,zf6,zf7,zfa,zfb,zfc,zfd,zfg,zfm,zfo,zfp,zfr,zfs,zft,zfu,zfy,zfz,zg0,zg1,zhd,zhe,zhf,zhg,zje,zjg,zjj, z2, h2]; all_goals tactic => exact rfl))
end Go.Proofs.YtpbeclkpohehgaaDoor
namespace Go.Proofs.YtpbeclkpohehgaaDoor
open Go Go.DL
set_option maxRecDepth 100000
set_option maxHeartbeats 4000000

theorem w3 (l : Li) (hf : l.Fit2) (o : List Int) : runW progX 3 [.agg l.c, rI o] [] = some (.bool true, []) := by
  have e14 := w14 l hf
  cases hl : largeB l
  · rw [hl] at e14
    have hs := small_of hl
    by_cases ho : 30 < o.length
    · have g : ((30 : Int) < (o.length : Int)) = True := eq_true (by omega)
      rw [r3 (by simp)]; unfold x3; dsimp only
      (sym => (simp [z00,z01,z02,z04,z05,z06,z07,z09,z0a,z0b,z0c,z0f,z0h,z0i,z0j,z0l,z0n,z0o,z0q,z0r,z0v,z1e,z1f,z1j,z1k,z1m,z1n,z1o,z1p,z1r,z1u,z1v,z1w,z20,z21,z22,z23,z2b,z2i,z2t,z2x,z4l,z4m,z4o,z4q,z54,z57,z59,z5e,z66,z67,z69,z6a,z6b,z6q,z6u,z7r,z7s,z7u,z7w,z8d,z9d,z9e,z9g,z9i,z9j,z9k,z9l,z9m,z9n,z9p,z9y,za2,za3,za5,za6,za7,za8,zaa,zab,zaq,zas,zat,zav,zaw,zax,zaz,zba,zbc,zbd,zbe,zbf,zbg,zbk,zbt,zbu,zbw,zbx,zby,zbz,zc0,zc3,zc4,zc5,zc6,zc8,zce,zcf,zcg,zcj,zcn,zco,zcp,zcq,zcr,zct,zcu,zcv,zcw,zd3,zd7,zd8,zd9,zdd,zdk,zdl,zdm,zdn,zdo,zds,zdt,zdu,zdv,zdw,zdx,ze2,ze3,ze9,zeo,zep,zf6,zf7,zfa,zfc,zfd,zfg,zfm,zfo,zfp,zfq,zft,zfv,zg0,zg1,zje,zkn,zko,zkp,zkq, e14, g, works_w]; all_goals tactic => exact rfl))
    · have g : ((30 : Int) < (o.length : Int)) = False := eq_false (by omega)
      have e16 := w16 hs
      have e17 := w17 l hf.fit o
      have e18 := w18 l hf.fit o
      have e19 := w19 l hf.fit o
      have e20 := w20 l hf.fit o
      have e22 := w22 l hf.fit
      have e23 := w23 l hf.fit
      unfold runR at e17 e18
      unfold worR at e19 e20
      by_cases hr : runE l o = 0
      · rw [if_pos hr] at e17 e18 e19 e20
        obtain ⟨gg, hlen, _⟩ := runE_len hr
        have hfew := gg.few
        have s1 := w21s (eA l o o.length) (by rw [eA_len]; omega)
        have s2 := w21s (sA l o o.length) (by rw [sA_len]; omega)
        rw [r3 (by simp)]; unfold x3; dsimp only
        (sym => (simp [z00,z01,z02,z04,z05,z06,z07,z09,z0a,z0b,z0c,z0f,z0h,z0i,z0j,z0l,z0n,z0o,z0q,z0r,z0v,z1e,z1f,z1j,z1k,z1m,z1n,z1o,z1p,z1r,z1u,z1v,z1w,z20,z21,z22,z23,z2b,z2i,z2t,z2x,z4l,z4m,z4o,z4q,z54,z57,z59,z5e,z66,z67,z69,z6a,z6b,z6q,z6u,z7r,z7s,z7u,z7w,z8d,z9d,z9e,z9g,z9i,z9j,z9k,z9l,z9m,z9n,z9p,z9y,za2,za3,za5,za6,za7,za8,zaa,zab,zaq,zas,zat,zav,zaw,zax,zaz,zba,zbc,zbd,zbe,zbf,zbg,zbk,zbt,zbu,zbw,zbx,zby,zbz,zc0,zc3,zc4,zc5,zc6,zc8,zce,zcf,zcg,zcj,zcn,zco,zcp,zcq,zcr,zct,zcu,zcv,zcw,zd3,zd7,zd8,zd9,zdd,zdk,zdl,zdm,zdn,zdo,zds,zdt,zdu,zdv,zdw,zdx,ze2,ze3,ze9,zeo,zep,zf6,zf7,zfa,zfc,zfd,zfg,zfm,zfo,zfp,zfq,zft,zfv,zg0,zg1,zje,zkn,zko,zkp,zkq, e14, g, e16, e17, e18, e19, e20, e22, e23, s1, s2, works_w]; all_goals tactic => exact rfl))
      · rw [if_neg hr] at e17 e18 e19 e20
        have s1 : runW progX 21 [.fs [], .fs []] [] = some (.bool true, []) := w21s [] (by simp)
        rw [r3 (by simp)]; unfold x3; dsimp only
        (sym => (simp [z00,z01,z02,z04,z05,z06,z07,z09,z0a,z0b,z0c,z0f,z0h,z0i,z0j,z0l,z0n,z0o,z0q,z0r,z0v,z1e,z1f,z1j,z1k,z1m,z1n,z1o,z1p,z1r,z1u,z1v,z1w,z20,z21,z22,z23,z2b,z2i,z2t,z2x,z4l,z4m,z4o,z4q,z54,z57,z59,z5e,z66,z67,z69,z6a,z6b,z6q,z6u,z7r,z7s,z7u,z7w,z8d,z9d,z9e,z9g,z9i,z9j,z9k,z9l,z9m,z9n,z9p,z9y,za2,za3,za5,za6,za7,za8,zaa,zab,zaq,zas,zat,zav,zaw,zax,zaz,zba,zbc,zbd,zbe,zbf,zbg,zbk,zbt,zbu,zbw,zbx,zby,zbz,zc0,zc3,zc4,zc5,zc6,zc8,zce,zcf,zcg,zcj,zcn,zco,zcp,zcq,zcr,zct,zcu,zcv,zcw,zd3,zd7,zd8,zd9,zdd,zdk,zdl,zdm,zdn,zdo,zds,zdt,zdu,zdv,zdw,zdx,ze2,ze3,ze9,zeo,zep,zf6,zf7,zfa,zfc,zfd,zfg,zfm,zfo,zfp,zfq,zft,zfv,zg0,zg1,zje,zkn,zko,zkp,zkq, e14, g, e16, e17, e18, e19, e20, e22, e23, s1, works_w]; all_goals tactic => exact rfl))
  · rw [hl] at e14
    rw [r3 (by simp)]; unfold x3; dsimp only
    (sym => (simp [z00,z01,z02,z04,z05,z06,z07,z09,z0a,z0b,z0c,z0f,z0h,z0i,z0j,z0l,z0n,z0o,z0q,z0r,z0v,z1e,z1f,z1j,z1k,z1m,z1n,z1o,z1p,z1r,z1u,z1v,z1w,z20,z21,z22,z23,z2b,z2i,z2t,z2x,z4l,z4m,z4o,z4q,z54,z57,z59,z5e,z66,z67,z69,z6a,z6b,z6q,z6u,z7r,z7s,z7u,z7w,z8d,z9d,z9e,z9g,z9i,z9j,z9k,z9l,z9m,z9n,z9p,z9y,za2,za3,za5,za6,za7,za8,zaa,zab,zaq,zas,zat,zav,zaw,zax,zaz,zba,zbc,zbd,zbe,zbf,zbg,zbk,zbt,zbu,zbw,zbx,zby,zbz,zc0,zc3,zc4,zc5,zc6,zc8,zce,zcf,zcg,zcj,zcn,zco,zcp,zcq,zcr,zct,zcu,zcv,zcw,zd3,zd7,zd8,zd9,zdd,zdk,zdl,zdm,zdn,zdo,zds,zdt,zdu,zdv,zdw,zdx,ze2,ze3,ze9,zeo,zep,zf6,zf7,zfa,zfc,zfd,zfg,zfm,zfo,zfp,zfq,zft,zfv,zg0,zg1,zje,zkn,zko,zkp,zkq, e14, works_w]; all_goals tactic => exact rfl))
end Go.Proofs.YtpbeclkpohehgaaDoor
