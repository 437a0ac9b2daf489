/- Parts of a proof, joined: K11 K12 K13 K14 K15 K16 K17 K18 K19 K20. No statement of the seed is proved here. -/
import Derived.KernelRfl
import Derived.Test.YtpbeclkpohehgaaDoorY5
set_option linter.unusedSimpArgs false
set_option linter.unusedVariables false
set_option linter.unusedSectionVars false
namespace Go.Proofs.YtpbeclkpohehgaaDoor
open Go Go.DL
set_option maxRecDepth 100000
set_option maxHeartbeats 2000000

/-- Lists of a length that a machine can have: all of a line's. -/
structure Li.Fit2 (l : Li) : Prop where
  ks : l.ks.length ≤ 9223372036854775807
  ls : l.ls.length ≤ 9223372036854775807
  ts : l.ts.length ≤ 9223372036854775807
  each : ∀ t ∈ l.ts, t.length ≤ 9223372036854775807
theorem Li.Fit2.fit {l : Li} (h : l.Fit2) : l.Fit := ⟨h.ts, h.each⟩
def lg0 (l : Li) : Bool := decide (20 < l.ks.length) || (decide (30 < l.ls.length) || decide (30 < l.ts.length))
def lgK (l : Li) : Nat → Bool
  | 0 => lg0 l
  | i + 1 => lgK l i || decide (20 < (l.ks.getD i []).length)
def lgT (l : Li) : Nat → Bool
  | 0 => lgK l l.ks.length
  | i + 1 => lgT l i || decide (30 < (l.ts.getD i []).length)
/-- Whether a line is large. -/
def largeB (l : Li) : Bool := lgT l l.ts.length
theorem lgK_f {l : Li} : ∀ {i}, lgK l i = false → lg0 l = false ∧ ∀ j, j < i → (l.ks.getD j []).length ≤ 20
  | 0, h => ⟨h, fun j hj => by omega⟩
  | i + 1, h => by
    simp only [lgK, Bool.or_eq_false_iff, decide_eq_false_iff_not] at h
    obtain ⟨h1, h2⟩ := lgK_f h.1
    refine ⟨h1, fun j hj => ?_⟩
    by_cases hji : j = i
    · rw [hji]; omega
    · exact h2 j (by omega)
theorem lgT_f {l : Li} : ∀ {i}, lgT l i = false → lgK l l.ks.length = false ∧ ∀ j, j < i → (l.ts.getD j []).length ≤ 30
  | 0, h => ⟨h, fun j hj => by omega⟩
  | i + 1, h => by
    simp only [lgT, Bool.or_eq_false_iff, decide_eq_false_iff_not] at h
    obtain ⟨h1, h2⟩ := lgT_f h.1
    refine ⟨h1, fun j hj => ?_⟩
    by_cases hji : j = i
    · rw [hji]; omega
    · exact h2 j (by omega)
/-- A line that is not large. -/
structure Small (l : Li) : Prop where
  ks : l.ks.length ≤ 20
  ls : l.ls.length ≤ 30
  ts : l.ts.length ≤ 30
  eachK : ∀ k ∈ l.ks, k.length ≤ 20
  eachT : ∀ t ∈ l.ts, t.length ≤ 30
theorem small_of {l : Li} (h : largeB l = false) : Small l := by
  obtain ⟨h1, h2⟩ := lgT_f h
  obtain ⟨h3, h4⟩ := lgK_f h1
  simp only [lg0, Bool.or_eq_false_iff, decide_eq_false_iff_not] at h3
  refine ⟨by omega, by omega, by omega, fun k hk => ?_, fun t ht => ?_⟩
  · obtain ⟨i, hi⟩ := List.getElem?_of_mem hk
    have := h4 i (lt_of hi)
    rw [getD_of hi] at this
    exact this
  · obtain ⟨i, hi⟩ := List.getElem?_of_mem ht
    have := h2 i (lt_of hi)
    rw [getD_of hi] at this
    exact this
theorem Small.fit {l : Li} (h : Small l) : l.Fit := ⟨by have := h.ts; omega, fun t ht => by have := h.eachT t ht; omega⟩
theorem w14 (l : Li) (hf : l.Fit2) : runW progX 14 [.agg l.c] [] = some (.bool (largeB l), []) := by
  have z := zf5 (n := (l.ks.length : Int))
  have z2 := zf5 (n := (l.ts.length : Int))
  have rdk : ∀ i, i < l.ks.length → headX 0 [1, 3, 4] (execW progX 14 0 none (match x14l0 with | .loop _ a => a | c => c) (envL [1, 3, 4] [.pt 0 0, .bool (lgK l i), I (i : Nat)]) (hL l)) = some ([.pt 0 0, .bool (lgK l (i + 1)), I (i + 1 : Nat)], hL l) := by
    intro i hi
    obtain ⟨k, hk⟩ := at_ix hi
    have a1 := lt_ix hi
    have a2 := up_ix hi hf.ks
    rw [lgK, getD_of hk]
    unfold x14l0
    dsimp only
    cases lgK l i
    · by_cases h : 20 < k.length
      · have g : ((20 : Int) < (k.length : Int)) = True := eq_true (by omega)
        rw [decide_eq_true h]
        (sym => (simp [cS_gr, cS_nm, cS_sl, cS_len, z00,z01,z05,z07,z0b,z0c,z0f,z0h,z0j,z0l,z0n,z0q,z0r,z0v,z12,z15,z1f,z1j,z22,z23,z29,z2b,z2g,z2h,z2j,z2v,z2x,z33,z34,z3h,z4l,z4m,z4t,z54,z57,z59,z66,z67,z6e,z6q,z7r,z7s,z7u,z7w,z8d,z9d,z9e,z9g,z9n,z9p,z9r,z9v,z9w,z9y,za0,za1,za3,za6,za7,za8,za9,zae,zaf,zal,zba,zbt,zbu,zbw,zbx,zby,zbz,zc0,zc3,zc4,zc5,zc6,zc8,zca,zcc,zcd,zce,zcf,zcg,zch,zcj,zcn,zco,zcq,zcr,zct,zcu,zcv,zcw,zcx,zcy,zd3,zd9,zdb,zdd,zdj,zdk,zdl,zds,zdt,zdu,zdv,zdw,zdx,ze2,ze3,zeo,zep,zf5,zf6,zf7,zf8,zf9,zfb,zfg,zfm,zfo,zfp,zfq,zfr,zfs,zft,zfu,zfw,zfy,zfz,zg0,zg1,zhf,zje, a1, a2, hk, g]; all_goals tactic => exact rfl))
      · have g : ((20 : Int) < (k.length : Int)) = False := eq_false (by omega)
        rw [decide_eq_false h]
        (sym => (simp [cS_gr, cS_nm, cS_sl, cS_len, z00,z01,z05,z07,z0b,z0c,z0f,z0h,z0j,z0l,z0n,z0q,z0r,z0v,z12,z15,z1f,z1j,z22,z23,z29,z2b,z2g,z2h,z2j,z2v,z2x,z33,z34,z3h,z4l,z4m,z4t,z54,z57,z59,z66,z67,z6e,z6q,z7r,z7s,z7u,z7w,z8d,z9d,z9e,z9g,z9n,z9p,z9r,z9v,z9w,z9y,za0,za1,za3,za6,za7,za8,za9,zae,zaf,zal,zba,zbt,zbu,zbw,zbx,zby,zbz,zc0,zc3,zc4,zc5,zc6,zc8,zca,zcc,zcd,zce,zcf,zcg,zch,zcj,zcn,zco,zcq,zcr,zct,zcu,zcv,zcw,zcx,zcy,zd3,zd9,zdb,zdd,zdj,zdk,zdl,zds,zdt,zdu,zdv,zdw,zdx,ze2,ze3,zeo,zep,zf5,zf6,zf7,zf8,zf9,zfb,zfg,zfm,zfo,zfp,zfq,zfr,zfs,zft,zfu,zfw,zfy,zfz,zg0,zg1,zhf,zje, a1, a2, hk, g]; all_goals tactic => exact rfl))
    · rw [Bool.true_or]
      (sym => (simp [cS_gr, cS_nm, cS_sl, cS_len, z00,z01,z05,z07,z0b,z0c,z0f,z0h,z0j,z0l,z0n,z0q,z0r,z0v,z12,z15,z1f,z1j,z22,z23,z29,z2b,z2g,z2h,z2j,z2v,z2x,z33,z34,z3h,z4l,z4m,z4t,z54,z57,z59,z66,z67,z6e,z6q,z7r,z7s,z7u,z7w,z8d,z9d,z9e,z9g,z9n,z9p,z9r,z9v,z9w,z9y,za0,za1,za3,za6,za7,za8,za9,zae,zaf,zal,zba,zbt,zbu,zbw,zbx,zby,zbz,zc0,zc3,zc4,zc5,zc6,zc8,zca,zcc,zcd,zce,zcf,zcg,zch,zcj,zcn,zco,zcq,zcr,zct,zcu,zcv,zcw,zcx,zcy,zd3,zd9,zdb,zdd,zdj,zdk,zdl,zds,zdt,zdu,zdv,zdw,zdx,ze2,ze3,zeo,zep,zf5,zf6,zf7,zf8,zf9,zfb,zfg,zfm,zfo,zfp,zfq,zfr,zfs,zft,zfu,zfw,zfy,zfz,zg0,zg1,zhf,zje, a1, a2, hk]; all_goals tactic => exact rfl))
  have rdt : ∀ i, i < l.ts.length → headX 0 [1, 3, 5] (execW progX 14 0 none (match x14l1 with | .loop _ a => a | c => c) (envL [1, 3, 5] [.pt 0 0, .bool (lgT l i), I (i : Nat)]) (hL l)) = some ([.pt 0 0, .bool (lgT l (i + 1)), I (i + 1 : Nat)], hL l) := by
    intro i hi
    obtain ⟨k, hk⟩ := at_ix hi
    have a1 := lt_ix hi
    have a2 := up_ix hi hf.ts
    rw [lgT, getD_of hk]
    unfold x14l1
    dsimp only
    cases lgT l i
    · by_cases h : 30 < k.length
      · have g : ((30 : Int) < (k.length : Int)) = True := eq_true (by omega)
        rw [decide_eq_true h]
        (sym => (simp [cS_gr, cS_nm, cS_sl, cS_len, z00,z01,z05,z07,z0b,z0c,z0f,z0h,z0j,z0l,z0n,z0q,z0r,z0v,z12,z15,z1f,z1j,z22,z23,z29,z2b,z2g,z2h,z2j,z2v,z2x,z33,z34,z3h,z4l,z4m,z4t,z54,z57,z59,z66,z67,z6e,z6q,z7r,z7s,z7u,z7w,z8d,z9d,z9e,z9g,z9n,z9p,z9r,z9v,z9w,z9y,za0,za1,za3,za6,za7,za8,za9,zae,zaf,zal,zba,zbt,zbu,zbw,zbx,zby,zbz,zc0,zc3,zc4,zc5,zc6,zc8,zca,zcc,zcd,zce,zcf,zcg,zch,zcj,zcn,zco,zcq,zcr,zct,zcu,zcv,zcw,zcx,zcy,zd3,zd9,zdb,zdd,zdj,zdk,zdl,zds,zdt,zdu,zdv,zdw,zdx,ze2,ze3,zeo,zep,zf5,zf6,zf7,zf8,zf9,zfb,zfg,zfm,zfo,zfp,zfq,zfr,zfs,zft,zfu,zfw,zfy,zfz,zg0,zg1,zhf,zje, a1, a2, hk, g]; all_goals tactic => exact rfl))
      · have g : ((30 : Int) < (k.length : Int)) = False := eq_false (by omega)
        rw [decide_eq_false h]
        (sym => (simp [cS_gr, cS_nm, cS_sl, cS_len, z00,z01,z05,z07,z0b,z0c,z0f,z0h,z0j,z0l,z0n,z0q,z0r,z0v,z12,z15,z1f,z1j,z22,z23,z29,z2b,z2g,z2h,z2j,z2v,z2x,z33,z34,z3h,z4l,z4m,z4t,z54,z57,z59,z66,z67,z6e,z6q,z7r,z7s,z7u,z7w,z8d,z9d,z9e,z9g,z9n,z9p,z9r,z9v,z9w,z9y,za0,za1,za3,za6,za7,za8,za9,zae,zaf,zal,zba,zbt,zbu,zbw,zbx,zby,zbz,zc0,zc3,zc4,zc5,zc6,zc8,zca,zcc,zcd,zce,zcf,zcg,zch,zcj,zcn,zco,zcq,zcr,zct,zcu,zcv,zcw,zcx,zcy,zd3,zd9,zdb,zdd,zdj,zdk,zdl,zds,zdt,zdu,zdv,zdw,zdx,ze2,ze3,zeo,zep,zf5,zf6,zf7,zf8,zf9,zfb,zfg,zfm,zfo,zfp,zfq,zfr,zfs,zft,zfu,zfw,zfy,zfz,zg0,zg1,zhf,zje, a1, a2, hk, g]; all_goals tactic => exact rfl))
    · rw [Bool.true_or]
      (sym => (simp [cS_gr, cS_nm, cS_sl, cS_len, z00,z01,z05,z07,z0b,z0c,z0f,z0h,z0j,z0l,z0n,z0q,z0r,z0v,z12,z15,z1f,z1j,z22,z23,z29,z2b,z2g,z2h,z2j,z2v,z2x,z33,z34,z3h,z4l,z4m,z4t,z54,z57,z59,z66,z67,z6e,z6q,z7r,z7s,z7u,z7w,z8d,z9d,z9e,z9g,z9n,z9p,z9r,z9v,z9w,z9y,za0,za1,za3,za6,za7,za8,za9,zae,zaf,zal,zba,zbt,zbu,zbw,zbx,zby,zbz,zc0,zc3,zc4,zc5,zc6,zc8,zca,zcc,zcd,zce,zcf,zcg,zch,zcj,zcn,zco,zcq,zcr,zct,zcu,zcv,zcw,zcx,zcy,zd3,zd9,zdb,zdd,zdj,zdk,zdl,zds,zdt,zdu,zdv,zdw,zdx,ze2,ze3,zeo,zep,zf5,zf6,zf7,zf8,zf9,zfb,zfg,zfm,zfo,zfp,zfq,zfr,zfs,zft,zfu,zfw,zfy,zfz,zg0,zg1,zhf,zje, a1, a2, hk]; all_goals tactic => exact rfl))
  have sf : lgT l l.ts.length = largeB l := rfl
  have s1 : lgT l 0 = lgK l l.ks.length := rfl
  have s2 : lgK l 0 = lg0 l := rfl
  have g1 := pad
  have g2 := pad
  have g3 := pad
  have e0 := pad
  have cs : ((20 : Int) < (l.ks.length : Int)) = True ∧ lg0 l = true ∨ ((20 : Int) < (l.ks.length : Int)) = False ∧ (((30 : Int) < (l.ls.length : Int)) = True ∧ lg0 l = true ∨ ((30 : Int) < (l.ls.length : Int)) = False ∧ (((30 : Int) < (l.ts.length : Int)) = True ∧ lg0 l = true ∨ ((30 : Int) < (l.ts.length : Int)) = False ∧ lg0 l = false)) := by
    unfold lg0
    by_cases h1 : 20 < l.ks.length
    · exact .inl ⟨eq_true (by omega), by simp [h1]⟩
    refine .inr ⟨eq_false (by omega), ?_⟩
    by_cases h2 : 30 < l.ls.length
    · exact .inl ⟨eq_true (by omega), by simp [h2]⟩
    refine .inr ⟨eq_false (by omega), ?_⟩
    by_cases h3 : 30 < l.ts.length
    · exact .inl ⟨eq_true (by omega), by simp [h3]⟩
    exact .inr ⟨eq_false (by omega), by simp [h1, h2, h3]⟩
  rw [r14 (by simp)]; unfold x14; dsimp only
  rcases cs with ⟨g1, e0⟩ | ⟨g1, ⟨g2, e0⟩ | ⟨g2, ⟨g3, e0⟩ | ⟨g3, e0⟩⟩⟩
  all_goals
    sym =>
      simp [cS_gr, cS_nm, cS_sl, cS_len, z00,z01,z05,z07,z0b,z0c,z0f,z0h,z0j,z0l,z0n,z0q,z0r,z0v,z12,z15,z1f,z1j,z22,z23,z29,z2b,z2g,z2h,z2j,z2v,z2x,z33,z34,z3h,z4l,z4m,z4t,z54,z57,z59,z66,z67,z6e,z6q,z7r,z7s,z7u,z7w,z8d,z9d,z9e,z9g,z9n,z9p,z9r,z9v,z9w,z9y,za0,za1,za3,za6,za7,za8,za9,zae,zaf,zal,zba,zbt,zbu,zbw,zbx,zby,zbz,zc0,zc3,zc4,zc5,zc6,zc8,zca,zcc,zcd,zce,zcf,zcg,zch,zcj,zcn,zco,zcq,zcr,zct,zcu,zcv,zcw,zcx,zcy,zd3,zd9,zdb,zdd,zdj,zdk,zdl,zds,zdt,zdu,zdv,zdw,zdx,ze2,ze3,zeo,zep,zf5,zf6,zf7,zf8,zf9,zfb,zfg,zfm,zfo,zfp,zfq,zfr,zfs,zft,zfu,zfw,zfy,zfz,zg0,zg1,zhf,zje, g1, g2, g3]
      tactic =>
        unfold x14l0
        rw [loop_rule l.ks.length (fun i => [.pt 0 0, .bool (lgK l i), I (i : Nat)]) (fun _ => hL l)]
        · sym =>
            simp [cS_gr, cS_nm, cS_sl, cS_len, z00,z01,z05,z07,z0b,z0c,z0f,z0h,z0j,z0l,z0n,z0q,z0r,z0v,z12,z15,z1f,z1j,z22,z23,z29,z2b,z2g,z2h,z2j,z2v,z2x,z33,z34,z3h,z4l,z4m,z4t,z54,z57,z59,z66,z67,z6e,z6q,z7r,z7s,z7u,z7w,z8d,z9d,z9e,z9g,z9n,z9p,z9r,z9v,z9w,z9y,za0,za1,za3,za6,za7,za8,za9,zae,zaf,zal,zba,zbt,zbu,zbw,zbx,zby,zbz,zc0,zc3,zc4,zc5,zc6,zc8,zca,zcc,zcd,zce,zcf,zcg,zch,zcj,zcn,zco,zcq,zcr,zct,zcu,zcv,zcw,zcx,zcy,zd3,zd9,zdb,zdd,zdj,zdk,zdl,zds,zdt,zdu,zdv,zdw,zdx,ze2,ze3,zeo,zep,zf5,zf6,zf7,zf8,zf9,zfb,zfg,zfm,zfo,zfp,zfq,zfr,zfs,zft,zfu,zfw,zfy,zfz,zg0,zg1,zhf,zje, z]
            tactic =>
              unfold x14l1
              rw [loop_rule l.ts.length (fun i => [.pt 0 0, .bool (lgT l i), I (i : Nat)]) (fun _ => hL l)]
              · (sym => (simp [cS_gr, cS_nm, cS_sl, cS_len, z00,z01,z05,z07,z0b,z0c,z0f,z0h,z0j,z0l,z0n,z0q,z0r,z0v,z12,z15,z1f,z1j,z22,z23,z29,z2b,z2g,z2h,z2j,z2v,z2x,z33,z34,z3h,z4l,z4m,z4t,z54,z57,z59,z66,z67,z6e,z6q,z7r,z7s,z7u,z7w,z8d,z9d,z9e,z9g,z9n,z9p,z9r,z9v,z9w,z9y,za0,za1,za3,za6,za7,za8,za9,zae,zaf,zal,zba,zbt,zbu,zbw,zbx,zby,zbz,zc0,zc3,zc4,zc5,zc6,zc8,zca,zcc,zcd,zce,zcf,zcg,zch,zcj,zcn,zco,zcq,zcr,zct,zcu,zcv,zcw,zcx,zcy,zd3,zd9,zdb,zdd,zdj,zdk,zdl,zds,zdt,zdu,zdv,zdw,zdx,ze2,ze3,zeo,zep,zf5,zf6,zf7,zf8,zf9,zfb,zfg,zfm,zfo,zfp,zfq,zfr,zfs,zft,zfu,zfw,zfy,zfz,zg0,zg1,zhf,zje, z2, sf]; all_goals tactic => exact rfl))
              · (sym => (simp [cS_gr, cS_nm, cS_sl, cS_len, z00,z01,z05,z07,z0b,z0c,z0f,z0h,z0j,z0l,z0n,z0q,z0r,z0v,z12,z15,z1f,z1j,z22,z23,z29,z2b,z2g,z2h,z2j,z2v,z2x,z33,z34,z3h,z4l,z4m,z4t,z54,z57,z59,z66,z67,z6e,z6q,z7r,z7s,z7u,z7w,z8d,z9d,z9e,z9g,z9n,z9p,z9r,z9v,z9w,z9y,za0,za1,za3,za6,za7,za8,za9,zae,zaf,zal,zba,zbt,zbu,zbw,zbx,zby,zbz,zc0,zc3,zc4,zc5,zc6,zc8,zca,zcc,zcd,zce,zcf,zcg,zch,zcj,zcn,zco,zcq,zcr,zct,zcu,zcv,zcw,zcx,zcy,zd3,zd9,zdb,zdd,zdj,zdk,zdl,zds,zdt,zdu,zdv,zdw,zdx,ze2,ze3,zeo,zep,zf5,zf6,zf7,zf8,zf9,zfb,zfg,zfm,zfo,zfp,zfq,zfr,zfs,zft,zfu,zfw,zfy,zfz,zg0,zg1,zhf,zje, s1]; all_goals tactic => exact rfl))
              · exact rdt
              · (sym => (simp [cS_gr, cS_nm, cS_sl, cS_len, z00,z01,z05,z07,z0b,z0c,z0f,z0h,z0j,z0l,z0n,z0q,z0r,z0v,z12,z15,z1f,z1j,z22,z23,z29,z2b,z2g,z2h,z2j,z2v,z2x,z33,z34,z3h,z4l,z4m,z4t,z54,z57,z59,z66,z67,z6e,z6q,z7r,z7s,z7u,z7w,z8d,z9d,z9e,z9g,z9n,z9p,z9r,z9v,z9w,z9y,za0,za1,za3,za6,za7,za8,za9,zae,zaf,zal,zba,zbt,zbu,zbw,zbx,zby,zbz,zc0,zc3,zc4,zc5,zc6,zc8,zca,zcc,zcd,zce,zcf,zcg,zch,zcj,zcn,zco,zcq,zcr,zct,zcu,zcv,zcw,zcx,zcy,zd3,zd9,zdb,zdd,zdj,zdk,zdl,zds,zdt,zdu,zdv,zdw,zdx,ze2,ze3,zeo,zep,zf5,zf6,zf7,zf8,zf9,zfb,zfg,zfm,zfo,zfp,zfq,zfr,zfs,zft,zfu,zfw,zfy,zfz,zg0,zg1,zhf,zje, z2]; all_goals tactic => exact rfl))
        · (sym => (simp [cS_gr, cS_nm, cS_sl, cS_len, z00,z01,z05,z07,z0b,z0c,z0f,z0h,z0j,z0l,z0n,z0q,z0r,z0v,z12,z15,z1f,z1j,z22,z23,z29,z2b,z2g,z2h,z2j,z2v,z2x,z33,z34,z3h,z4l,z4m,z4t,z54,z57,z59,z66,z67,z6e,z6q,z7r,z7s,z7u,z7w,z8d,z9d,z9e,z9g,z9n,z9p,z9r,z9v,z9w,z9y,za0,za1,za3,za6,za7,za8,za9,zae,zaf,zal,zba,zbt,zbu,zbw,zbx,zby,zbz,zc0,zc3,zc4,zc5,zc6,zc8,zca,zcc,zcd,zce,zcf,zcg,zch,zcj,zcn,zco,zcq,zcr,zct,zcu,zcv,zcw,zcx,zcy,zd3,zd9,zdb,zdd,zdj,zdk,zdl,zds,zdt,zdu,zdv,zdw,zdx,ze2,ze3,zeo,zep,zf5,zf6,zf7,zf8,zf9,zfb,zfg,zfm,zfo,zfp,zfq,zfr,zfs,zft,zfu,zfw,zfy,zfz,zg0,zg1,zhf,zje, s2, e0]; all_goals tactic => exact rfl))
        · exact rdk
        · (sym => (simp [cS_gr, cS_nm, cS_sl, cS_len, z00,z01,z05,z07,z0b,z0c,z0f,z0h,z0j,z0l,z0n,z0q,z0r,z0v,z12,z15,z1f,z1j,z22,z23,z29,z2b,z2g,z2h,z2j,z2v,z2x,z33,z34,z3h,z4l,z4m,z4t,z54,z57,z59,z66,z67,z6e,z6q,z7r,z7s,z7u,z7w,z8d,z9d,z9e,z9g,z9n,z9p,z9r,z9v,z9w,z9y,za0,za1,za3,za6,za7,za8,za9,zae,zaf,zal,zba,zbt,zbu,zbw,zbx,zby,zbz,zc0,zc3,zc4,zc5,zc6,zc8,zca,zcc,zcd,zce,zcf,zcg,zch,zcj,zcn,zco,zcq,zcr,zct,zcu,zcv,zcw,zcx,zcy,zd3,zd9,zdb,zdd,zdj,zdk,zdl,zds,zdt,zdu,zdv,zdw,zdx,ze2,ze3,zeo,zep,zf5,zf6,zf7,zf8,zf9,zfb,zfg,zfm,zfo,zfp,zfq,zfr,zfs,zft,zfu,zfw,zfy,zfz,zg0,zg1,zhf,zje, z]; all_goals tactic => exact rfl))

/-! ### Equal spans -/
/-! ### What the reference gets -/
def cT (l : List St) : List AV := (l.map St.row).flatten
theorem ct_ok (k : List St) : RowsOk 2 (k.map St.row) := by
  intro r hr
  simp only [List.mem_map] at hr
  obtain ⟨x, _, rfl⟩ := hr
  exact ⟨rfl, rfl, rfl, rfl⟩
theorem cT_len (l : List St) : (cT l).length = l.length * 2 := by rw [cT, (rows_cells (ct_ok _)).2.2.2, List.length_map]
theorem cT_app (l : List St) (x : St) : cT (l ++ [x]) = cT l ++ x.row := by simp [cT]
theorem cT_ch (l : List St) : chunks (cT l) 0 2 l.length = l.map St.row := by
  have := rows_chunks (ct_ok l)
  rw [List.length_map] at this
  exact this
def cL (l : List Ld) : List AV := (l.map Ld.row).flatten
theorem cl_ok (k : List Ld) : RowsOk 5 (k.map Ld.row) := by
  intro r hr
  simp only [List.mem_map] at hr
  obtain ⟨x, _, rfl⟩ := hr
  exact ⟨rfl, rfl, rfl, rfl⟩
theorem cL_len (l : List Ld) : (cL l).length = l.length * 5 := by rw [cL, (rows_cells (cl_ok _)).2.2.2, List.length_map]
theorem cL_app (l : List Ld) (x : Ld) : cL (l ++ [x]) = cL l ++ x.row := by simp [cL]
theorem cL_ch (l : List Ld) : chunks (cL l) 0 5 l.length = l.map Ld.row := by
  have := rows_chunks (cl_ok l)
  rw [List.length_map] at this
  exact this
def vK (l : Li) (i : Nat) : List AV := (l.ks.take i).map fun k => rS k
theorem vK_len {l : Li} {i : Nat} (h : i ≤ l.ks.length) : (vK l i).length = i := by simp [vK]; omega
theorem vK_up {l : Li} {i : Nat} {k : List St} (h : l.ks[i]? = some k) : vK l (i + 1) = vK l i ++ [rS k] := by
  unfold vK
  rw [List.take_add_one, h, List.map_append]
  rfl
theorem chunksV : ∀ (l pre : List AV), chunks (pre ++ l) pre.length 1 l.length = l.map fun v => [v]
  | [], pre => rfl
  | a :: r, pre => by
    have h := chunksV r (pre ++ [a])
    simp only [List.append_assoc, List.cons_append, List.nil_append, List.length_append, List.length_cons, List.length_nil] at h
    rw [List.length_cons, chunks]
    simp only [Nat.zero_add] at h
    rw [h, List.drop_left' rfl, List.map_cons]
    rfl
theorem vK_ch (l : Li) : chunks (vK l l.ks.length) 0 1 l.ks.length = l.ks.map fun k => [rS k] := by
  have := chunksV (vK l l.ks.length) []
  rw [vK_len (Nat.le_refl _)] at this
  rw [List.nil_append] at this
  rw [show ([] : List AV).length = 0 from rfl] at this
  rw [this]
  unfold vK
  rw [List.take_length, List.map_map]
  rfl
abbrev bZ : Option XB := some (.blk true (.cells true [.nilsl, .nilsl, .nilsl, I 0, I 0]))
def hV1 (l : Li) (i : Nat) : XH := if i = 0 then [some (.blk true (.cells true l.c)), bZ, some (.blk true (.cells true [.nilsl, .nilsl, tR l.ts, I l.lo, I l.hi]))] else
  [some (.blk true (.cells true l.c)), bZ, some (.blk false (.cells true [.sl 3 0 1 i, .nilsl, tR l.ts, I l.lo, I l.hi])), some (.blk true (.cells true (vK l i)))]
def kV1 (i j : Nat) : AV := if j = 0 then .nilsl else .sl (if i = 0 then 3 else 4) 0 2 j
def hV1k (l : Li) (i : Nat) (k : List St) (j : Nat) : XH := hV1 l i ++ if j = 0 then [] else [some (.blk true (.cells true (cT (k.take j))))]
theorem take_up {α : Type} {l : List α} {i : Nat} {x : α} (h : l[i]? = some x) : l.take (i + 1) = l.take i ++ [x] := by rw [List.take_add_one, h]; rfl
theorem round16k {l : Li} (hs : Small l) {i : Nat} {k : List St} (hk : l.ks[i]? = some k) {j : Nat} (hj : j < k.length) :
    headX 0 [1, 2, 3, 4, 5, 6] (execW progX 16 0 none (match x16l0 with | .loop _ a => a | c => c) (envL [1, 2, 3, 4, 5, 6] [.pt 0 0, .pt 1 0, .pt 2 0, I (i : Nat), kV1 i j, I (j : Nat)]) (hV1k l i k j)) =
      some ([.pt 0 0, .pt 1 0, .pt 2 0, I (i : Nat), kV1 i (j + 1), I (j + 1 : Nat)], hV1k l i k (j + 1)) := by
  have hk20 := hs.eachK k (List.mem_of_getElem? hk)
  have hi := lt_of hk
  have hks := hs.ks
  obtain ⟨x, hx⟩ := at_ix hj
  have b1 := lt_ix hi
  have a1 := lt_ix hj
  have a2 := up_ix hj (by omega)
  have q1 : ((j + 1) * 16 ≤ 1099511627776) = True := eq_true (by omega)
  have q2 : (j + 1 ≤ 1099511627776) = True := eq_true (by omega)
  have tl : (k.take j).length = j := by rw [List.length_take]; omega
  have cl := cT_len (k.take j)
  rw [tl] at cl
  have ca := cT_app (k.take j) x
  rw [← take_up hx] at ca
  have c0 : cT (k.take 0) = [] := rfl
  unfold hV1k kV1 hV1
  rw [ca]
  simp only [Nat.add_one_ne_zero, if_false]
  unfold x16l0
  dsimp only
  by_cases hi0 : i = 0
  · subst hi0
    have b1 : ((0 : Int) < (l.ks.length : Int)) = True := b1
    by_cases hj0 : j = 0
    · subst hj0
      have a1 : ((0 : Int) < (k.length : Int)) = True := a1
      simp only [if_true]
      (sym => (simp [cS_gr, cS_nm, cS_sl, cS_len, z00,z01,z03,z04,z05,z07,z0b,z0c,z0f,z0n,z0t,z0v,z12,z15,z1f,z1j,z1z,z29,z2b,z2g,z2h,z2j,z2v,z33,z34,z36,z3g,z3h,z3j,z4l,z4q,z4s,z4t,z4v,z54,z57,z66,z6b,z6d,z6e,z6g,z8d,z9d,z9e,z9g,z9i,z9j,z9k,z9l,z9m,z9p,z9r,z9s,z9v,z9w,z9y,za0,za1,za3,za6,za7,za8,za9,zae,zaf,zag,zal,zam,zca,zcc,zcd,zce,zcf,zcn,zco,zcp,zcq,zcr,zct,zcu,zcv,zcw,zcx,zcy,zd3,zdd,zdj,zdk,zdm,zdn,zds,zdt,zdu,zdv,zdw,zdx,ze9,zea,zeb,zec,zeq,zer,zes,zet,zez,zf0,zf1,zf2,zf3,zf4,zf6,zf7,zf8,zf9,zfa,zfb,zfg,zfh,zfi,zfj,zfl,zfm,zfo,zfq,zfs,zft,zfw,zfz,zg0,zg1,zhf,zhp, b1, a1, hk, hx, c0]; all_goals tactic => exact rfl))
    · simp only [if_true, hj0, if_false]
      generalize cT (k.take j) = cc at *
      (sym => (simp [cS_gr, cS_nm, cS_sl, cS_len, z00,z01,z03,z04,z05,z07,z0b,z0c,z0f,z0n,z0t,z0v,z12,z15,z1f,z1j,z1z,z29,z2b,z2g,z2h,z2j,z2v,z33,z34,z36,z3g,z3h,z3j,z4l,z4q,z4s,z4t,z4v,z54,z57,z66,z6b,z6d,z6e,z6g,z8d,z9d,z9e,z9g,z9i,z9j,z9k,z9l,z9m,z9p,z9r,z9s,z9v,z9w,z9y,za0,za1,za3,za6,za7,za8,za9,zae,zaf,zag,zal,zam,zca,zcc,zcd,zce,zcf,zcn,zco,zcp,zcq,zcr,zct,zcu,zcv,zcw,zcx,zcy,zd3,zdd,zdj,zdk,zdm,zdn,zds,zdt,zdu,zdv,zdw,zdx,ze9,zea,zeb,zec,zeq,zer,zes,zet,zez,zf0,zf1,zf2,zf3,zf4,zf6,zf7,zf8,zf9,zfa,zfb,zfg,zfh,zfi,zfj,zfl,zfm,zfo,zfq,zfs,zft,zfw,zfz,zg0,zg1,zhf,zhp, b1, a1, a2, hk, hx, q1, q2, cl]; all_goals tactic => exact rfl))
  · simp only [hi0, if_false]
    by_cases hj0 : j = 0
    · subst hj0
      have a1 : ((0 : Int) < (k.length : Int)) = True := a1
      simp only [if_true]
      (sym => (simp [cS_gr, cS_nm, cS_sl, cS_len, z00,z01,z03,z04,z05,z07,z0b,z0c,z0f,z0n,z0t,z0v,z12,z15,z1f,z1j,z1z,z29,z2b,z2g,z2h,z2j,z2v,z33,z34,z36,z3g,z3h,z3j,z4l,z4q,z4s,z4t,z4v,z54,z57,z66,z6b,z6d,z6e,z6g,z8d,z9d,z9e,z9g,z9i,z9j,z9k,z9l,z9m,z9p,z9r,z9s,z9v,z9w,z9y,za0,za1,za3,za6,za7,za8,za9,zae,zaf,zag,zal,zam,zca,zcc,zcd,zce,zcf,zcn,zco,zcp,zcq,zcr,zct,zcu,zcv,zcw,zcx,zcy,zd3,zdd,zdj,zdk,zdm,zdn,zds,zdt,zdu,zdv,zdw,zdx,ze9,zea,zeb,zec,zeq,zer,zes,zet,zez,zf0,zf1,zf2,zf3,zf4,zf6,zf7,zf8,zf9,zfa,zfb,zfg,zfh,zfi,zfj,zfl,zfm,zfo,zfq,zfs,zft,zfw,zfz,zg0,zg1,zhf,zhp, b1, a1, hk, hx, c0]; all_goals tactic => exact rfl))
    · simp only [hj0, if_false]
      generalize cT (k.take j) = cc at *
      (sym => (simp [cS_gr, cS_nm, cS_sl, cS_len, z00,z01,z03,z04,z05,z07,z0b,z0c,z0f,z0n,z0t,z0v,z12,z15,z1f,z1j,z1z,z29,z2b,z2g,z2h,z2j,z2v,z33,z34,z36,z3g,z3h,z3j,z4l,z4q,z4s,z4t,z4v,z54,z57,z66,z6b,z6d,z6e,z6g,z8d,z9d,z9e,z9g,z9i,z9j,z9k,z9l,z9m,z9p,z9r,z9s,z9v,z9w,z9y,za0,za1,za3,za6,za7,za8,za9,zae,zaf,zag,zal,zam,zca,zcc,zcd,zce,zcf,zcn,zco,zcp,zcq,zcr,zct,zcu,zcv,zcw,zcx,zcy,zd3,zdd,zdj,zdk,zdm,zdn,zds,zdt,zdu,zdv,zdw,zdx,ze9,zea,zeb,zec,zeq,zer,zes,zet,zez,zf0,zf1,zf2,zf3,zf4,zf6,zf7,zf8,zf9,zfa,zfb,zfg,zfh,zfi,zfj,zfl,zfm,zfo,zfq,zfs,zft,zfw,zfz,zg0,zg1,zhf,zhp, b1, a1, a2, hk, hx, q1, q2, cl]; all_goals tactic => exact rfl))
theorem round16 {l : Li} (hs : Small l) {i : Nat} (hi : i < l.ks.length) :
    headX 0 [1, 2, 3, 4] (execW progX 16 0 none (match x16l1 with | .loop _ a => a | c => c) (envL [1, 2, 3, 4] [.pt 0 0, .pt 1 0, .pt 2 0, I (i : Nat)]) (hV1 l i)) = some ([.pt 0 0, .pt 1 0, .pt 2 0, I (i + 1 : Nat)], hV1 l (i + 1)) := by
  obtain ⟨k, hk⟩ := at_ix hi
  have hk20 := hs.eachK k (List.mem_of_getElem? hk)
  have hks := hs.ks
  have b1 := lt_ix hi
  have b2 := up_ix hi (by omega)
  have z := zf5 (n := (k.length : Int))
  have rd := fun (j : Nat) (hj : j < k.length) => round16k hs hk hj
  have ch := cT_ch k
  have cl := cT_len k
  have vl := vK_len (l := l) (i := i) (by omega)
  have vu := vK_up hk
  have v0 : vK l 0 = [] := rfl
  have q1 : ((i + 1) * 24 ≤ 1099511627776) = True := eq_true (by omega)
  have q2 : (i + 1 ≤ 1099511627776) = True := eq_true (by omega)
  have kk0 : kV1 i 0 = .nilsl := rfl
  have hk0 : hV1k l i k 0 = hV1 l i := by unfold hV1k; rw [if_pos rfl, List.append_nil]
  have e1 : hV1 l (i + 1) = [some (.blk true (.cells true l.c)), bZ, some (.blk false (.cells true [.sl 3 0 1 (i + 1), .nilsl, tR l.ts, I l.lo, I l.hi])), some (.blk true (.cells true (vK l i ++ [rS k])))] := by
    unfold hV1
    rw [if_neg (by omega), vu]
  have tk : k.take k.length = k := List.take_length
  have en : hV1k l i k k.length = hV1 l i ++ if k.length = 0 then [] else [some (.blk true (.cells true (cT k)))] := by unfold hV1k; rw [tk]
  have ek : kV1 i k.length = if k.length = 0 then .nilsl else .sl (if i = 0 then 3 else 4) 0 2 k.length := rfl
  have ev : hV1 l i = if i = 0 then [some (.blk true (.cells true l.c)), bZ, some (.blk true (.cells true [.nilsl, .nilsl, tR l.ts, I l.lo, I l.hi]))] else
      [some (.blk true (.cells true l.c)), bZ, some (.blk false (.cells true [.sl 3 0 1 i, .nilsl, tR l.ts, I l.lo, I l.hi])), some (.blk true (.cells true (vK l i)))] := rfl
  have ce : (k.length * 2 ≤ k.length * 2) = True := eq_true (Nat.le_refl _)
  have kz : k.length = 0 → rS k = .fs [] := fun h => by rw [List.eq_nil_of_length_eq_zero h]; rfl
  rw [e1]
  obtain ⟨SK, hSK⟩ : ∃ s : Nat → AV, s = kV1 i := ⟨_, rfl⟩
  obtain ⟨GK, hGK⟩ : ∃ s : Nat → XH, s = hV1k l i k := ⟨_, rfl⟩
  rw [← hSK] at rd kk0 ek
  rw [← hGK] at rd hk0 en
  rw [ev] at hk0 en ⊢
  clear ev e1 hSK hGK
  unfold x16l1
  dsimp only
  by_cases hi0 : i = 0
  · subst hi0
    have b1 : ((0 : Int) < (l.ks.length : Int)) = True := b1
    simp only [if_true] at ek en hk0 ⊢
    sym =>
      simp [cS_gr, cS_nm, cS_sl, cS_len, z00,z01,z02,z03,z04,z05,z06,z07,z09,z0b,z0c,z0f,z0n,z0t,z0v,z12,z15,z1f,z1j,z1n,z1o,z1z,z29,z2b,z2g,z2h,z2j,z2v,z33,z34,z36,z3g,z3h,z3j,z4l,z4q,z4s,z4t,z4v,z54,z59,z5b,z5e,z66,z6b,z6d,z6e,z6g,z6w,z6z,z78,z7d,z7f,z7g,z7i,z7w,z81,z8f,z8h,z9d,z9e,z9g,z9i,z9j,z9k,z9l,z9m,z9p,z9r,z9s,z9v,z9w,z9y,za0,za1,za3,za6,za7,za8,za9,zae,zaf,zag,zal,zam,zb4,zb5,zb9,zba,zbb,zbc,zbd,zbe,zbm,zbn,zbp,zca,zcc,zcd,zce,zcf,zcg,zch,zcn,zco,zcp,zcq,zcr,zct,zcu,zcv,zcw,zcx,zcy,zd3,zd5,zdd,zde,zdj,zdk,zdl,zdm,zdn,zds,zdt,zdu,zdv,zdw,zdx,ze0,ze1,ze9,zea,zeb,zec,zeq,zer,zes,zet,zez,zf0,zf1,zf2,zf3,zf4,zf5,zf6,zf7,zf8,zf9,zfb,zfc,zfd,zfg,zfh,zfi,zfj,zfl,zfm,zfo,zfq,zfr,zfs,zft,zfu,zfw,zfy,zfz,zg0,zg1,zhd,zhe,zhf,zhg,zhp,zje,zjg,zjj,zkn,zko,zkq, b1]
      tactic =>
        unfold x16l0
        rw [loop_rule k.length (fun j => [.pt 0 0, .pt 1 0, .pt 2 0, I ((0 : Nat) : Int), SK j, I (j : Nat)]) GK]
        · by_cases hz : k.length = 0
          · rw [kz hz]
            rw [if_pos hz] at ek en
            rw [hz] at z ek en ⊢
            (sym => (simp [cS_gr, cS_nm, cS_sl, cS_len, z00,z01,z02,z03,z04,z05,z06,z07,z09,z0b,z0c,z0f,z0n,z0t,z0v,z12,z15,z1f,z1j,z1n,z1o,z1z,z29,z2b,z2g,z2h,z2j,z2v,z33,z34,z36,z3g,z3h,z3j,z4l,z4q,z4s,z4t,z4v,z54,z59,z5b,z5e,z66,z6b,z6d,z6e,z6g,z6w,z6z,z78,z7d,z7f,z7g,z7i,z7w,z81,z8f,z8h,z9d,z9e,z9g,z9i,z9j,z9k,z9l,z9m,z9p,z9r,z9s,z9v,z9w,z9y,za0,za1,za3,za6,za7,za8,za9,zae,zaf,zag,zal,zam,zb4,zb5,zb9,zba,zbb,zbc,zbd,zbe,zbm,zbn,zbp,zca,zcc,zcd,zce,zcf,zcg,zch,zcn,zco,zcp,zcq,zcr,zct,zcu,zcv,zcw,zcx,zcy,zd3,zd5,zdd,zde,zdj,zdk,zdl,zdm,zdn,zds,zdt,zdu,zdv,zdw,zdx,ze0,ze1,ze9,zea,zeb,zec,zeq,zer,zes,zet,zez,zf0,zf1,zf2,zf3,zf4,zf5,zf6,zf7,zf8,zf9,zfb,zfc,zfd,zfg,zfh,zfi,zfj,zfl,zfm,zfo,zfq,zfr,zfs,zft,zfu,zfw,zfy,zfz,zg0,zg1,zhd,zhe,zhf,zhg,zhp,zje,zjg,zjj,zkn,zko,zkq, b1, hk, hz, ek, en, v0]; all_goals tactic => exact rfl))
          · rw [if_neg hz] at ek en
            (sym => (simp [cS_gr, cS_nm, cS_sl, cS_len, z00,z01,z02,z03,z04,z05,z06,z07,z09,z0b,z0c,z0f,z0n,z0t,z0v,z12,z15,z1f,z1j,z1n,z1o,z1z,z29,z2b,z2g,z2h,z2j,z2v,z33,z34,z36,z3g,z3h,z3j,z4l,z4q,z4s,z4t,z4v,z54,z59,z5b,z5e,z66,z6b,z6d,z6e,z6g,z6w,z6z,z78,z7d,z7f,z7g,z7i,z7w,z81,z8f,z8h,z9d,z9e,z9g,z9i,z9j,z9k,z9l,z9m,z9p,z9r,z9s,z9v,z9w,z9y,za0,za1,za3,za6,za7,za8,za9,zae,zaf,zag,zal,zam,zb4,zb5,zb9,zba,zbb,zbc,zbd,zbe,zbm,zbn,zbp,zca,zcc,zcd,zce,zcf,zcg,zch,zcn,zco,zcp,zcq,zcr,zct,zcu,zcv,zcw,zcx,zcy,zd3,zd5,zdd,zde,zdj,zdk,zdl,zdm,zdn,zds,zdt,zdu,zdv,zdw,zdx,ze0,ze1,ze9,zea,zeb,zec,zeq,zer,zes,zet,zez,zf0,zf1,zf2,zf3,zf4,zf5,zf6,zf7,zf8,zf9,zfb,zfc,zfd,zfg,zfh,zfi,zfj,zfl,zfm,zfo,zfq,zfr,zfs,zft,zfu,zfw,zfy,zfz,zg0,zg1,zhd,zhe,zhf,zhg,zhp,zje,zjg,zjj,zkn,zko,zkq, b1, hk, z, ek, en, v0, cl, ch, ce]; all_goals tactic => exact rfl))
        · (sym => (simp [cS_gr, cS_nm, cS_sl, cS_len, z00,z01,z02,z03,z04,z05,z06,z07,z09,z0b,z0c,z0f,z0n,z0t,z0v,z12,z15,z1f,z1j,z1n,z1o,z1z,z29,z2b,z2g,z2h,z2j,z2v,z33,z34,z36,z3g,z3h,z3j,z4l,z4q,z4s,z4t,z4v,z54,z59,z5b,z5e,z66,z6b,z6d,z6e,z6g,z6w,z6z,z78,z7d,z7f,z7g,z7i,z7w,z81,z8f,z8h,z9d,z9e,z9g,z9i,z9j,z9k,z9l,z9m,z9p,z9r,z9s,z9v,z9w,z9y,za0,za1,za3,za6,za7,za8,za9,zae,zaf,zag,zal,zam,zb4,zb5,zb9,zba,zbb,zbc,zbd,zbe,zbm,zbn,zbp,zca,zcc,zcd,zce,zcf,zcg,zch,zcn,zco,zcp,zcq,zcr,zct,zcu,zcv,zcw,zcx,zcy,zd3,zd5,zdd,zde,zdj,zdk,zdl,zdm,zdn,zds,zdt,zdu,zdv,zdw,zdx,ze0,ze1,ze9,zea,zeb,zec,zeq,zer,zes,zet,zez,zf0,zf1,zf2,zf3,zf4,zf5,zf6,zf7,zf8,zf9,zfb,zfc,zfd,zfg,zfh,zfi,zfj,zfl,zfm,zfo,zfq,zfr,zfs,zft,zfu,zfw,zfy,zfz,zg0,zg1,zhd,zhe,zhf,zhg,zhp,zje,zjg,zjj,zkn,zko,zkq, kk0, hk0]; all_goals tactic => exact rfl))
        · exact rd
        · (sym => (simp [cS_gr, cS_nm, cS_sl, cS_len, z00,z01,z02,z03,z04,z05,z06,z07,z09,z0b,z0c,z0f,z0n,z0t,z0v,z12,z15,z1f,z1j,z1n,z1o,z1z,z29,z2b,z2g,z2h,z2j,z2v,z33,z34,z36,z3g,z3h,z3j,z4l,z4q,z4s,z4t,z4v,z54,z59,z5b,z5e,z66,z6b,z6d,z6e,z6g,z6w,z6z,z78,z7d,z7f,z7g,z7i,z7w,z81,z8f,z8h,z9d,z9e,z9g,z9i,z9j,z9k,z9l,z9m,z9p,z9r,z9s,z9v,z9w,z9y,za0,za1,za3,za6,za7,za8,za9,zae,zaf,zag,zal,zam,zb4,zb5,zb9,zba,zbb,zbc,zbd,zbe,zbm,zbn,zbp,zca,zcc,zcd,zce,zcf,zcg,zch,zcn,zco,zcp,zcq,zcr,zct,zcu,zcv,zcw,zcx,zcy,zd3,zd5,zdd,zde,zdj,zdk,zdl,zdm,zdn,zds,zdt,zdu,zdv,zdw,zdx,ze0,ze1,ze9,zea,zeb,zec,zeq,zer,zes,zet,zez,zf0,zf1,zf2,zf3,zf4,zf5,zf6,zf7,zf8,zf9,zfb,zfc,zfd,zfg,zfh,zfi,zfj,zfl,zfm,zfo,zfq,zfr,zfs,zft,zfu,zfw,zfy,zfz,zg0,zg1,zhd,zhe,zhf,zhg,zhp,zje,zjg,zjj,zkn,zko,zkq, b1, hk, z, en]; all_goals tactic => exact rfl))
  · simp only [hi0, if_false] at ek en hk0 ⊢
    sym =>
      simp [cS_gr, cS_nm, cS_sl, cS_len, z00,z01,z02,z03,z04,z05,z06,z07,z09,z0b,z0c,z0f,z0n,z0t,z0v,z12,z15,z1f,z1j,z1n,z1o,z1z,z29,z2b,z2g,z2h,z2j,z2v,z33,z34,z36,z3g,z3h,z3j,z4l,z4q,z4s,z4t,z4v,z54,z59,z5b,z5e,z66,z6b,z6d,z6e,z6g,z6w,z6z,z78,z7d,z7f,z7g,z7i,z7w,z81,z8f,z8h,z9d,z9e,z9g,z9i,z9j,z9k,z9l,z9m,z9p,z9r,z9s,z9v,z9w,z9y,za0,za1,za3,za6,za7,za8,za9,zae,zaf,zag,zal,zam,zb4,zb5,zb9,zba,zbb,zbc,zbd,zbe,zbm,zbn,zbp,zca,zcc,zcd,zce,zcf,zcg,zch,zcn,zco,zcp,zcq,zcr,zct,zcu,zcv,zcw,zcx,zcy,zd3,zd5,zdd,zde,zdj,zdk,zdl,zdm,zdn,zds,zdt,zdu,zdv,zdw,zdx,ze0,ze1,ze9,zea,zeb,zec,zeq,zer,zes,zet,zez,zf0,zf1,zf2,zf3,zf4,zf5,zf6,zf7,zf8,zf9,zfb,zfc,zfd,zfg,zfh,zfi,zfj,zfl,zfm,zfo,zfq,zfr,zfs,zft,zfu,zfw,zfy,zfz,zg0,zg1,zhd,zhe,zhf,zhg,zhp,zje,zjg,zjj,zkn,zko,zkq, b1]
      tactic =>
        unfold x16l0
        rw [loop_rule k.length (fun j => [.pt 0 0, .pt 1 0, .pt 2 0, I (i : Nat), SK j, I (j : Nat)]) GK]
        · by_cases hz : k.length = 0
          · rw [kz hz]
            rw [if_pos hz] at ek en
            rw [hz] at z ek en ⊢
            (sym => (simp [cS_gr, cS_nm, cS_sl, cS_len, z00,z01,z02,z03,z04,z05,z06,z07,z09,z0b,z0c,z0f,z0n,z0t,z0v,z12,z15,z1f,z1j,z1n,z1o,z1z,z29,z2b,z2g,z2h,z2j,z2v,z33,z34,z36,z3g,z3h,z3j,z4l,z4q,z4s,z4t,z4v,z54,z59,z5b,z5e,z66,z6b,z6d,z6e,z6g,z6w,z6z,z78,z7d,z7f,z7g,z7i,z7w,z81,z8f,z8h,z9d,z9e,z9g,z9i,z9j,z9k,z9l,z9m,z9p,z9r,z9s,z9v,z9w,z9y,za0,za1,za3,za6,za7,za8,za9,zae,zaf,zag,zal,zam,zb4,zb5,zb9,zba,zbb,zbc,zbd,zbe,zbm,zbn,zbp,zca,zcc,zcd,zce,zcf,zcg,zch,zcn,zco,zcp,zcq,zcr,zct,zcu,zcv,zcw,zcx,zcy,zd3,zd5,zdd,zde,zdj,zdk,zdl,zdm,zdn,zds,zdt,zdu,zdv,zdw,zdx,ze0,ze1,ze9,zea,zeb,zec,zeq,zer,zes,zet,zez,zf0,zf1,zf2,zf3,zf4,zf5,zf6,zf7,zf8,zf9,zfb,zfc,zfd,zfg,zfh,zfi,zfj,zfl,zfm,zfo,zfq,zfr,zfs,zft,zfu,zfw,zfy,zfz,zg0,zg1,zhd,zhe,zhf,zhg,zhp,zje,zjg,zjj,zkn,zko,zkq, b1, b2, hk, hz, ek, en, vl, q1, q2]; all_goals tactic => exact rfl))
          · rw [if_neg hz] at ek en
            (sym => (simp [cS_gr, cS_nm, cS_sl, cS_len, z00,z01,z02,z03,z04,z05,z06,z07,z09,z0b,z0c,z0f,z0n,z0t,z0v,z12,z15,z1f,z1j,z1n,z1o,z1z,z29,z2b,z2g,z2h,z2j,z2v,z33,z34,z36,z3g,z3h,z3j,z4l,z4q,z4s,z4t,z4v,z54,z59,z5b,z5e,z66,z6b,z6d,z6e,z6g,z6w,z6z,z78,z7d,z7f,z7g,z7i,z7w,z81,z8f,z8h,z9d,z9e,z9g,z9i,z9j,z9k,z9l,z9m,z9p,z9r,z9s,z9v,z9w,z9y,za0,za1,za3,za6,za7,za8,za9,zae,zaf,zag,zal,zam,zb4,zb5,zb9,zba,zbb,zbc,zbd,zbe,zbm,zbn,zbp,zca,zcc,zcd,zce,zcf,zcg,zch,zcn,zco,zcp,zcq,zcr,zct,zcu,zcv,zcw,zcx,zcy,zd3,zd5,zdd,zde,zdj,zdk,zdl,zdm,zdn,zds,zdt,zdu,zdv,zdw,zdx,ze0,ze1,ze9,zea,zeb,zec,zeq,zer,zes,zet,zez,zf0,zf1,zf2,zf3,zf4,zf5,zf6,zf7,zf8,zf9,zfb,zfc,zfd,zfg,zfh,zfi,zfj,zfl,zfm,zfo,zfq,zfr,zfs,zft,zfu,zfw,zfy,zfz,zg0,zg1,zhd,zhe,zhf,zhg,zhp,zje,zjg,zjj,zkn,zko,zkq, b1, b2, hk, z, ek, en, cl, ch, ce, vl, q1, q2]; all_goals tactic => exact rfl))
        · (sym => (simp [cS_gr, cS_nm, cS_sl, cS_len, z00,z01,z02,z03,z04,z05,z06,z07,z09,z0b,z0c,z0f,z0n,z0t,z0v,z12,z15,z1f,z1j,z1n,z1o,z1z,z29,z2b,z2g,z2h,z2j,z2v,z33,z34,z36,z3g,z3h,z3j,z4l,z4q,z4s,z4t,z4v,z54,z59,z5b,z5e,z66,z6b,z6d,z6e,z6g,z6w,z6z,z78,z7d,z7f,z7g,z7i,z7w,z81,z8f,z8h,z9d,z9e,z9g,z9i,z9j,z9k,z9l,z9m,z9p,z9r,z9s,z9v,z9w,z9y,za0,za1,za3,za6,za7,za8,za9,zae,zaf,zag,zal,zam,zb4,zb5,zb9,zba,zbb,zbc,zbd,zbe,zbm,zbn,zbp,zca,zcc,zcd,zce,zcf,zcg,zch,zcn,zco,zcp,zcq,zcr,zct,zcu,zcv,zcw,zcx,zcy,zd3,zd5,zdd,zde,zdj,zdk,zdl,zdm,zdn,zds,zdt,zdu,zdv,zdw,zdx,ze0,ze1,ze9,zea,zeb,zec,zeq,zer,zes,zet,zez,zf0,zf1,zf2,zf3,zf4,zf5,zf6,zf7,zf8,zf9,zfb,zfc,zfd,zfg,zfh,zfi,zfj,zfl,zfm,zfo,zfq,zfr,zfs,zft,zfu,zfw,zfy,zfz,zg0,zg1,zhd,zhe,zhf,zhg,zhp,zje,zjg,zjj,zkn,zko,zkq, kk0, hk0]; all_goals tactic => exact rfl))
        · exact rd
        · (sym => (simp [cS_gr, cS_nm, cS_sl, cS_len, z00,z01,z02,z03,z04,z05,z06,z07,z09,z0b,z0c,z0f,z0n,z0t,z0v,z12,z15,z1f,z1j,z1n,z1o,z1z,z29,z2b,z2g,z2h,z2j,z2v,z33,z34,z36,z3g,z3h,z3j,z4l,z4q,z4s,z4t,z4v,z54,z59,z5b,z5e,z66,z6b,z6d,z6e,z6g,z6w,z6z,z78,z7d,z7f,z7g,z7i,z7w,z81,z8f,z8h,z9d,z9e,z9g,z9i,z9j,z9k,z9l,z9m,z9p,z9r,z9s,z9v,z9w,z9y,za0,za1,za3,za6,za7,za8,za9,zae,zaf,zag,zal,zam,zb4,zb5,zb9,zba,zbb,zbc,zbd,zbe,zbm,zbn,zbp,zca,zcc,zcd,zce,zcf,zcg,zch,zcn,zco,zcp,zcq,zcr,zct,zcu,zcv,zcw,zcx,zcy,zd3,zd5,zdd,zde,zdj,zdk,zdl,zdm,zdn,zds,zdt,zdu,zdv,zdw,zdx,ze0,ze1,ze9,zea,zeb,zec,zeq,zer,zes,zet,zez,zf0,zf1,zf2,zf3,zf4,zf5,zf6,zf7,zf8,zf9,zfb,zfc,zfd,zfg,zfh,zfi,zfj,zfl,zfm,zfo,zfq,zfr,zfs,zft,zfu,zfw,zfy,zfz,zg0,zg1,zhd,zhe,zhf,zhg,zhp,zje,zjg,zjj,zkn,zko,zkq, b1, hk, z, en]; all_goals tactic => exact rfl))
def hV2 (l : Li) (m : Nat) : XH := if l.ks.length = 0 then
    (if m = 0 then [some (.blk true (.cells true l.c)), bZ, some (.blk true (.cells true [.nilsl, .nilsl, tR l.ts, I l.lo, I l.hi]))]
     else [some (.blk true (.cells true l.c)), bZ, some (.blk false (.cells true [.nilsl, .sl 3 0 5 m, tR l.ts, I l.lo, I l.hi])), some (.blk true (.cells true (cL (l.ls.take m))))])
  else (if m = 0 then [some (.blk true (.cells true l.c)), bZ, some (.blk false (.cells true [.sl 3 0 1 l.ks.length, .nilsl, tR l.ts, I l.lo, I l.hi])), some (.blk true (.cells true (vK l l.ks.length)))]
     else [some (.blk true (.cells true l.c)), bZ, some (.blk false (.cells true [.sl 3 0 1 l.ks.length, .sl 4 0 5 m, tR l.ts, I l.lo, I l.hi])), some (.blk true (.cells true (vK l l.ks.length))), some (.blk true (.cells true (cL (l.ls.take m))))])
theorem round16l {l : Li} (hs : Small l) {i : Nat} (hi : i < l.ls.length) :
    headX 0 [1, 2, 3, 7] (execW progX 16 0 none (match x16l2 with | .loop _ a => a | c => c) (envL [1, 2, 3, 7] [.pt 0 0, .pt 1 0, .pt 2 0, I (i : Nat)]) (hV2 l i)) = some ([.pt 0 0, .pt 1 0, .pt 2 0, I (i + 1 : Nat)], hV2 l (i + 1)) := by
  obtain ⟨x, hx⟩ := at_ix hi
  have hls := hs.ls
  have a1 := lt_ix hi
  have a2 := up_ix hi (by omega)
  have q1 : ((i + 1) * 40 ≤ 1099511627776) = True := eq_true (by omega)
  have q2 : (i + 1 ≤ 1099511627776) = True := eq_true (by omega)
  have tl : (l.ls.take i).length = i := by rw [List.length_take]; omega
  have cl := cL_len (l.ls.take i)
  rw [tl] at cl
  have ca := cL_app (l.ls.take i) x
  rw [← take_up hx] at ca
  have c0 : cL (l.ls.take 0) = [] := rfl
  unfold hV2
  rw [ca]
  simp only [Nat.add_one_ne_zero, if_false]
  unfold x16l2
  dsimp only
  by_cases hn : l.ks.length = 0
  · simp only [hn, if_true]
    by_cases hi0 : i = 0
    · subst hi0
      have a1 : ((0 : Int) < (l.ls.length : Int)) = True := a1
      simp only [if_true]
      (sym => (simp [cS_gr, cS_nm, cS_sl, cS_len, z00,z01,z02,z03,z04,z05,z07,z08,z0b,z0c,z0f,z0n,z0t,z0v,z12,z15,z1f,z1j,z1k,z1l,z1m,z1n,z1p,z1q,z29,z2b,z2g,z2h,z2j,z2v,z33,z34,z36,z3g,z3h,z3j,z4l,z4q,z4s,z4t,z4v,z54,z57,z5b,z66,z6b,z6d,z6e,z6g,z8d,z8h,z90,z91,z93,z9d,z9e,z9g,z9i,z9j,z9k,z9l,z9m,z9p,z9r,z9s,z9v,z9w,z9y,za0,za1,za3,za6,za7,za8,za9,zae,zaf,zag,zal,zam,zav,zca,zcc,zcd,zce,zcf,zcn,zco,zcp,zcq,zcr,zct,zcu,zcv,zcw,zcx,zcy,zd3,zd5,zd7,zd8,zdd,zdj,zdk,zdl,zdm,zdn,zds,zdt,zdu,zdv,zdw,zdx,ze9,zea,zeb,zec,zeq,zer,zes,zet,zez,zf0,zf1,zf2,zf3,zf4,zf6,zf7,zf8,zf9,zfa,zfb,zfc,zfd,zfg,zfh,zfi,zfj,zfl,zfm,zfo,zfq,zfs,zft,zfw,zfz,zg0,zg1,zhf,zhp,zj4,zj7,zj8, a1, hx, c0]; all_goals tactic => exact rfl))
    · simp only [hi0, if_false]
      generalize cL (l.ls.take i) = cc at *
      (sym => (simp [cS_gr, cS_nm, cS_sl, cS_len, z00,z01,z02,z03,z04,z05,z07,z08,z0b,z0c,z0f,z0n,z0t,z0v,z12,z15,z1f,z1j,z1k,z1l,z1m,z1n,z1p,z1q,z29,z2b,z2g,z2h,z2j,z2v,z33,z34,z36,z3g,z3h,z3j,z4l,z4q,z4s,z4t,z4v,z54,z57,z5b,z66,z6b,z6d,z6e,z6g,z8d,z8h,z90,z91,z93,z9d,z9e,z9g,z9i,z9j,z9k,z9l,z9m,z9p,z9r,z9s,z9v,z9w,z9y,za0,za1,za3,za6,za7,za8,za9,zae,zaf,zag,zal,zam,zav,zca,zcc,zcd,zce,zcf,zcn,zco,zcp,zcq,zcr,zct,zcu,zcv,zcw,zcx,zcy,zd3,zd5,zd7,zd8,zdd,zdj,zdk,zdl,zdm,zdn,zds,zdt,zdu,zdv,zdw,zdx,ze9,zea,zeb,zec,zeq,zer,zes,zet,zez,zf0,zf1,zf2,zf3,zf4,zf6,zf7,zf8,zf9,zfa,zfb,zfc,zfd,zfg,zfh,zfi,zfj,zfl,zfm,zfo,zfq,zfs,zft,zfw,zfz,zg0,zg1,zhf,zhp,zj4,zj7,zj8, a1, a2, hx, q1, q2, cl]; all_goals tactic => exact rfl))
  · simp only [hn, if_false]
    by_cases hi0 : i = 0
    · subst hi0
      have a1 : ((0 : Int) < (l.ls.length : Int)) = True := a1
      simp only [if_true]
      (sym => (simp [cS_gr, cS_nm, cS_sl, cS_len, z00,z01,z02,z03,z04,z05,z07,z08,z0b,z0c,z0f,z0n,z0t,z0v,z12,z15,z1f,z1j,z1k,z1l,z1m,z1n,z1p,z1q,z29,z2b,z2g,z2h,z2j,z2v,z33,z34,z36,z3g,z3h,z3j,z4l,z4q,z4s,z4t,z4v,z54,z57,z5b,z66,z6b,z6d,z6e,z6g,z8d,z8h,z90,z91,z93,z9d,z9e,z9g,z9i,z9j,z9k,z9l,z9m,z9p,z9r,z9s,z9v,z9w,z9y,za0,za1,za3,za6,za7,za8,za9,zae,zaf,zag,zal,zam,zav,zca,zcc,zcd,zce,zcf,zcn,zco,zcp,zcq,zcr,zct,zcu,zcv,zcw,zcx,zcy,zd3,zd5,zd7,zd8,zdd,zdj,zdk,zdl,zdm,zdn,zds,zdt,zdu,zdv,zdw,zdx,ze9,zea,zeb,zec,zeq,zer,zes,zet,zez,zf0,zf1,zf2,zf3,zf4,zf6,zf7,zf8,zf9,zfa,zfb,zfc,zfd,zfg,zfh,zfi,zfj,zfl,zfm,zfo,zfq,zfs,zft,zfw,zfz,zg0,zg1,zhf,zhp,zj4,zj7,zj8, a1, hx, c0]; all_goals tactic => exact rfl))
    · simp only [hi0, if_false]
      generalize cL (l.ls.take i) = cc at *
      (sym => (simp [cS_gr, cS_nm, cS_sl, cS_len, z00,z01,z02,z03,z04,z05,z07,z08,z0b,z0c,z0f,z0n,z0t,z0v,z12,z15,z1f,z1j,z1k,z1l,z1m,z1n,z1p,z1q,z29,z2b,z2g,z2h,z2j,z2v,z33,z34,z36,z3g,z3h,z3j,z4l,z4q,z4s,z4t,z4v,z54,z57,z5b,z66,z6b,z6d,z6e,z6g,z8d,z8h,z90,z91,z93,z9d,z9e,z9g,z9i,z9j,z9k,z9l,z9m,z9p,z9r,z9s,z9v,z9w,z9y,za0,za1,za3,za6,za7,za8,za9,zae,zaf,zag,zal,zam,zav,zca,zcc,zcd,zce,zcf,zcn,zco,zcp,zcq,zcr,zct,zcu,zcv,zcw,zcx,zcy,zd3,zd5,zd7,zd8,zdd,zdj,zdk,zdl,zdm,zdn,zds,zdt,zdu,zdv,zdw,zdx,ze9,zea,zeb,zec,zeq,zer,zes,zet,zez,zf0,zf1,zf2,zf3,zf4,zf6,zf7,zf8,zf9,zfa,zfb,zfc,zfd,zfg,zfh,zfi,zfj,zfl,zfm,zfo,zfq,zfs,zft,zfw,zfz,zg0,zg1,zhf,zhp,zj4,zj7,zj8, a1, a2, hx, q1, q2, cl]; all_goals tactic => exact rfl))
theorem w16 {l : Li} (hs : Small l) : runW progX 16 [.agg l.c] [] = some (.agg l.c, []) := by
  have z := zf5 (n := (l.ks.length : Int))
  have z2 := zf5 (n := (l.ls.length : Int))
  have rd1 := fun (i : Nat) (hi : i < l.ks.length) => round16 hs hi
  have rd2 := fun (i : Nat) (hi : i < l.ls.length) => round16l hs hi
  have h0 : hV1 l 0 = [some (.blk true (.cells true l.c)), bZ, some (.blk true (.cells true [.nilsl, .nilsl, tR l.ts, I l.lo, I l.hi]))] := rfl
  have h1 : hV1 l l.ks.length = hV2 l 0 := rfl
  have ch := vK_ch l
  have vl := vK_len (l := l) (Nat.le_refl _)
  have ch2 := cL_ch l.ls
  have cl2 := cL_len l.ls
  have tk : l.ls.take l.ls.length = l.ls := List.take_length
  have h2 : hV2 l l.ls.length = if l.ks.length = 0 then
    (if l.ls.length = 0 then [some (.blk true (.cells true l.c)), bZ, some (.blk true (.cells true [.nilsl, .nilsl, tR l.ts, I l.lo, I l.hi]))]
     else [some (.blk true (.cells true l.c)), bZ, some (.blk false (.cells true [.nilsl, .sl 3 0 5 l.ls.length, tR l.ts, I l.lo, I l.hi])), some (.blk true (.cells true (cL l.ls)))])
  else (if l.ls.length = 0 then [some (.blk true (.cells true l.c)), bZ, some (.blk false (.cells true [.sl 3 0 1 l.ks.length, .nilsl, tR l.ts, I l.lo, I l.hi])), some (.blk true (.cells true (vK l l.ks.length)))]
     else [some (.blk true (.cells true l.c)), bZ, some (.blk false (.cells true [.sl 3 0 1 l.ks.length, .sl 4 0 5 l.ls.length, tR l.ts, I l.lo, I l.hi])), some (.blk true (.cells true (vK l l.ks.length))), some (.blk true (.cells true (cL l.ls)))]) := by unfold hV2; rw [tk]
  have c1 : (l.ks.length ≤ l.ks.length) = True := eq_true (Nat.le_refl _)
  have c2 : (l.ls.length * 5 ≤ l.ls.length * 5) = True := eq_true (Nat.le_refl _)
  have kz : l.ks.length = 0 → kR l.ks = .fs [] := fun h => by rw [List.eq_nil_of_length_eq_zero h]; rfl
  have lz : l.ls.length = 0 → lR l.ls = .fs [] := fun h => by rw [List.eq_nil_of_length_eq_zero h]; rfl
  obtain ⟨G1, hG1⟩ : ∃ s : Nat → XH, s = hV1 l := ⟨_, rfl⟩
  obtain ⟨G2, hG2⟩ : ∃ s : Nat → XH, s = hV2 l := ⟨_, rfl⟩
  rw [← hG1] at rd1 h0 h1
  rw [← hG2] at rd2 h1 h2
  have h3 : G2 0 = hV2 l 0 := by rw [hG2]
  clear hG1
  rw [r16 (by simp)]; unfold x16; dsimp only
  sym =>
    simp [cS_gr, cS_nm, cS_sl, cS_len, z00,z01,z02,z03,z04,z05,z07,z0b,z0c,z0f,z0n,z0o,z0r,z0s,z0v,z12,z1f,z1j,z1n,z1o,z29,z2b,z2v,z3h,z4f,z4l,z4o,z4q,z4s,z4t,z4v,z54,z57,z59,z5b,z5e,z66,z69,z6b,z6d,z6e,z6g,z6p,z6s,z6u,z6w,z6z,z78,z7b,z7d,z7f,z7i,z7r,z7u,z7w,z81,z8d,z8f,z9d,z9e,z9g,z9i,z9j,z9k,z9l,z9m,z9n,z9p,z9r,z9s,z9v,z9w,z9y,za0,za1,za3,za6,za7,za8,za9,zae,zaf,zag,zal,zam,zb4,zb5,zb9,zba,zbb,zbl,zbm,zbn,zbp,zbt,zbu,zbw,zbx,zby,zbz,zc0,zc3,zc4,zc5,zc7,zc8,zca,zcc,zcd,zce,zcg,zch,zcj,zcn,zco,zcp,zcq,zcr,zct,zcu,zcv,zcw,zcy,zd3,zd5,zdd,zde,zdj,zdl,zds,zdt,zdu,zdv,zdw,zdx,zdy,zdz,ze0,ze1,ze2,ze3,ze9,zea,zeb,zec,zeo,zep,zf5,zf6,zf7,zfa,zfb,zfc,zfd,zfg,zfm,zfo,zfp,zfr,zfs,zft,zfu,zfy,zfz,zg0,zg1,zhd,zhe,zhf,zhg,zje,zjg,zjj]
    tactic =>
      unfold x16l1
      rw [loop_rule l.ks.length (fun i => [.pt 0 0, .pt 1 0, .pt 2 0, I (i : Nat)]) G1]
      rotate_left
      · (sym => (simp [cS_gr, cS_nm, cS_sl, cS_len, z00,z01,z02,z03,z04,z05,z07,z0b,z0c,z0f,z0n,z0o,z0r,z0s,z0v,z12,z1f,z1j,z1n,z1o,z29,z2b,z2v,z3h,z4f,z4l,z4o,z4q,z4s,z4t,z4v,z54,z57,z59,z5b,z5e,z66,z69,z6b,z6d,z6e,z6g,z6p,z6s,z6u,z6w,z6z,z78,z7b,z7d,z7f,z7i,z7r,z7u,z7w,z81,z8d,z8f,z9d,z9e,z9g,z9i,z9j,z9k,z9l,z9m,z9n,z9p,z9r,z9s,z9v,z9w,z9y,za0,za1,za3,za6,za7,za8,za9,zae,zaf,zag,zal,zam,zb4,zb5,zb9,zba,zbb,zbl,zbm,zbn,zbp,zbt,zbu,zbw,zbx,zby,zbz,zc0,zc3,zc4,zc5,zc7,zc8,zca,zcc,zcd,zce,zcg,zch,zcj,zcn,zco,zcp,zcq,zcr,zct,zcu,zcv,zcw,zcy,zd3,zd5,zdd,zde,zdj,zdl,zds,zdt,zdu,zdv,zdw,zdx,zdy,zdz,ze0,ze1,ze2,ze3,ze9,zea,zeb,zec,zeo,zep,zf5,zf6,zf7,zfa,zfb,zfc,zfd,zfg,zfm,zfo,zfp,zfr,zfs,zft,zfu,zfy,zfz,zg0,zg1,zhd,zhe,zhf,zhg,zje,zjg,zjj, h0]; all_goals tactic => exact rfl))
      · exact rd1
      · rw [h1, h3]
        unfold hV2
        by_cases hn : l.ks.length = 0
        · simp only [hn, if_true]
          rw [hn] at z
          (sym => (simp [cS_gr, cS_nm, cS_sl, cS_len, z00,z01,z02,z03,z04,z05,z07,z0b,z0c,z0f,z0n,z0o,z0r,z0s,z0v,z12,z1f,z1j,z1n,z1o,z29,z2b,z2v,z3h,z4f,z4l,z4o,z4q,z4s,z4t,z4v,z54,z57,z59,z5b,z5e,z66,z69,z6b,z6d,z6e,z6g,z6p,z6s,z6u,z6w,z6z,z78,z7b,z7d,z7f,z7i,z7r,z7u,z7w,z81,z8d,z8f,z9d,z9e,z9g,z9i,z9j,z9k,z9l,z9m,z9n,z9p,z9r,z9s,z9v,z9w,z9y,za0,za1,za3,za6,za7,za8,za9,zae,zaf,zag,zal,zam,zb4,zb5,zb9,zba,zbb,zbl,zbm,zbn,zbp,zbt,zbu,zbw,zbx,zby,zbz,zc0,zc3,zc4,zc5,zc7,zc8,zca,zcc,zcd,zce,zcg,zch,zcj,zcn,zco,zcp,zcq,zcr,zct,zcu,zcv,zcw,zcy,zd3,zd5,zdd,zde,zdj,zdl,zds,zdt,zdu,zdv,zdw,zdx,zdy,zdz,ze0,ze1,ze2,ze3,ze9,zea,zeb,zec,zeo,zep,zf5,zf6,zf7,zfa,zfb,zfc,zfd,zfg,zfm,zfo,zfp,zfr,zfs,zft,zfu,zfy,zfz,zg0,zg1,zhd,zhe,zhf,zhg,zje,zjg,zjj, z, hn]; all_goals tactic => exact rfl))
        · simp only [hn, if_false, if_true]
          (sym => (simp [cS_gr, cS_nm, cS_sl, cS_len, z00,z01,z02,z03,z04,z05,z07,z0b,z0c,z0f,z0n,z0o,z0r,z0s,z0v,z12,z1f,z1j,z1n,z1o,z29,z2b,z2v,z3h,z4f,z4l,z4o,z4q,z4s,z4t,z4v,z54,z57,z59,z5b,z5e,z66,z69,z6b,z6d,z6e,z6g,z6p,z6s,z6u,z6w,z6z,z78,z7b,z7d,z7f,z7i,z7r,z7u,z7w,z81,z8d,z8f,z9d,z9e,z9g,z9i,z9j,z9k,z9l,z9m,z9n,z9p,z9r,z9s,z9v,z9w,z9y,za0,za1,za3,za6,za7,za8,za9,zae,zaf,zag,zal,zam,zb4,zb5,zb9,zba,zbb,zbl,zbm,zbn,zbp,zbt,zbu,zbw,zbx,zby,zbz,zc0,zc3,zc4,zc5,zc7,zc8,zca,zcc,zcd,zce,zcg,zch,zcj,zcn,zco,zcp,zcq,zcr,zct,zcu,zcv,zcw,zcy,zd3,zd5,zdd,zde,zdj,zdl,zds,zdt,zdu,zdv,zdw,zdx,zdy,zdz,ze0,ze1,ze2,ze3,ze9,zea,zeb,zec,zeo,zep,zf5,zf6,zf7,zfa,zfb,zfc,zfd,zfg,zfm,zfo,zfp,zfr,zfs,zft,zfu,zfy,zfz,zg0,zg1,zhd,zhe,zhf,zhg,zje,zjg,zjj, z]; all_goals tactic => exact rfl))
      rw [h1]
      have h30 : G2 0 = if l.ks.length = 0 then [some (.blk true (.cells true l.c)), bZ, some (.blk true (.cells true [.nilsl, .nilsl, tR l.ts, I l.lo, I l.hi]))] else [some (.blk true (.cells true l.c)), bZ, some (.blk false (.cells true [.sl 3 0 1 l.ks.length, .nilsl, tR l.ts, I l.lo, I l.hi])), some (.blk true (.cells true (vK l l.ks.length)))] := by rw [h3]; rfl
      by_cases hn : l.ks.length = 0
      · rw [kz hn]
        simp only [hn, if_true] at h30 h2 z ⊢
        sym =>
          simp [cS_gr, cS_nm, cS_sl, cS_len, z00,z01,z02,z03,z04,z05,z07,z0b,z0c,z0f,z0n,z0o,z0r,z0s,z0v,z12,z1f,z1j,z1n,z1o,z29,z2b,z2v,z3h,z4f,z4l,z4o,z4q,z4s,z4t,z4v,z54,z57,z59,z5b,z5e,z66,z69,z6b,z6d,z6e,z6g,z6p,z6s,z6u,z6w,z6z,z78,z7b,z7d,z7f,z7i,z7r,z7u,z7w,z81,z8d,z8f,z9d,z9e,z9g,z9i,z9j,z9k,z9l,z9m,z9n,z9p,z9r,z9s,z9v,z9w,z9y,za0,za1,za3,za6,za7,za8,za9,zae,zaf,zag,zal,zam,zb4,zb5,zb9,zba,zbb,zbl,zbm,zbn,zbp,zbt,zbu,zbw,zbx,zby,zbz,zc0,zc3,zc4,zc5,zc7,zc8,zca,zcc,zcd,zce,zcg,zch,zcj,zcn,zco,zcp,zcq,zcr,zct,zcu,zcv,zcw,zcy,zd3,zd5,zdd,zde,zdj,zdl,zds,zdt,zdu,zdv,zdw,zdx,zdy,zdz,ze0,ze1,ze2,ze3,ze9,zea,zeb,zec,zeo,zep,zf5,zf6,zf7,zfa,zfb,zfc,zfd,zfg,zfm,zfo,zfp,zfr,zfs,zft,zfu,zfy,zfz,zg0,zg1,zhd,zhe,zhf,zhg,zje,zjg,zjj, z, h30, hn]
          tactic =>
            unfold x16l2
            rw [loop_rule l.ls.length (fun i => [.pt 0 0, .pt 1 0, .pt 2 0, I (i : Nat)]) G2]
            · by_cases hm : l.ls.length = 0
              · rw [lz hm]
                simp only [hm, if_true] at h2 z2 ⊢
                (sym => (simp [cS_gr, cS_nm, cS_sl, cS_len, z00,z01,z02,z03,z04,z05,z07,z0b,z0c,z0f,z0n,z0o,z0r,z0s,z0v,z12,z1f,z1j,z1n,z1o,z29,z2b,z2v,z3h,z4f,z4l,z4o,z4q,z4s,z4t,z4v,z54,z57,z59,z5b,z5e,z66,z69,z6b,z6d,z6e,z6g,z6p,z6s,z6u,z6w,z6z,z78,z7b,z7d,z7f,z7i,z7r,z7u,z7w,z81,z8d,z8f,z9d,z9e,z9g,z9i,z9j,z9k,z9l,z9m,z9n,z9p,z9r,z9s,z9v,z9w,z9y,za0,za1,za3,za6,za7,za8,za9,zae,zaf,zag,zal,zam,zb4,zb5,zb9,zba,zbb,zbl,zbm,zbn,zbp,zbt,zbu,zbw,zbx,zby,zbz,zc0,zc3,zc4,zc5,zc7,zc8,zca,zcc,zcd,zce,zcg,zch,zcj,zcn,zco,zcp,zcq,zcr,zct,zcu,zcv,zcw,zcy,zd3,zd5,zdd,zde,zdj,zdl,zds,zdt,zdu,zdv,zdw,zdx,zdy,zdz,ze0,ze1,ze2,ze3,ze9,zea,zeb,zec,zeo,zep,zf5,zf6,zf7,zfa,zfb,zfc,zfd,zfg,zfm,zfo,zfp,zfr,zfs,zft,zfu,zfy,zfz,zg0,zg1,zhd,zhe,zhf,zhg,zje,zjg,zjj, z2, h2, hm]; all_goals tactic => exact rfl))
              · simp only [hm, if_false] at h2
                (sym => (simp [cS_gr, cS_nm, cS_sl, cS_len, z00,z01,z02,z03,z04,z05,z07,z0b,z0c,z0f,z0n,z0o,z0r,z0s,z0v,z12,z1f,z1j,z1n,z1o,z29,z2b,z2v,z3h,z4f,z4l,z4o,z4q,z4s,z4t,z4v,z54,z57,z59,z5b,z5e,z66,z69,z6b,z6d,z6e,z6g,z6p,z6s,z6u,z6w,z6z,z78,z7b,z7d,z7f,z7i,z7r,z7u,z7w,z81,z8d,z8f,z9d,z9e,z9g,z9i,z9j,z9k,z9l,z9m,z9n,z9p,z9r,z9s,z9v,z9w,z9y,za0,za1,za3,za6,za7,za8,za9,zae,zaf,zag,zal,zam,zb4,zb5,zb9,zba,zbb,zbl,zbm,zbn,zbp,zbt,zbu,zbw,zbx,zby,zbz,zc0,zc3,zc4,zc5,zc7,zc8,zca,zcc,zcd,zce,zcg,zch,zcj,zcn,zco,zcp,zcq,zcr,zct,zcu,zcv,zcw,zcy,zd3,zd5,zdd,zde,zdj,zdl,zds,zdt,zdu,zdv,zdw,zdx,zdy,zdz,ze0,ze1,ze2,ze3,ze9,zea,zeb,zec,zeo,zep,zf5,zf6,zf7,zfa,zfb,zfc,zfd,zfg,zfm,zfo,zfp,zfr,zfs,zft,zfu,zfy,zfz,zg0,zg1,zhd,zhe,zhf,zhg,zje,zjg,zjj, z2, h2, cl2, ch2, c2]; all_goals tactic => exact rfl))
            · (sym => (simp [cS_gr, cS_nm, cS_sl, cS_len, z00,z01,z02,z03,z04,z05,z07,z0b,z0c,z0f,z0n,z0o,z0r,z0s,z0v,z12,z1f,z1j,z1n,z1o,z29,z2b,z2v,z3h,z4f,z4l,z4o,z4q,z4s,z4t,z4v,z54,z57,z59,z5b,z5e,z66,z69,z6b,z6d,z6e,z6g,z6p,z6s,z6u,z6w,z6z,z78,z7b,z7d,z7f,z7i,z7r,z7u,z7w,z81,z8d,z8f,z9d,z9e,z9g,z9i,z9j,z9k,z9l,z9m,z9n,z9p,z9r,z9s,z9v,z9w,z9y,za0,za1,za3,za6,za7,za8,za9,zae,zaf,zag,zal,zam,zb4,zb5,zb9,zba,zbb,zbl,zbm,zbn,zbp,zbt,zbu,zbw,zbx,zby,zbz,zc0,zc3,zc4,zc5,zc7,zc8,zca,zcc,zcd,zce,zcg,zch,zcj,zcn,zco,zcp,zcq,zcr,zct,zcu,zcv,zcw,zcy,zd3,zd5,zdd,zde,zdj,zdl,zds,zdt,zdu,zdv,zdw,zdx,zdy,zdz,ze0,ze1,ze2,ze3,ze9,zea,zeb,zec,zeo,zep,zf5,zf6,zf7,zfa,zfb,zfc,zfd,zfg,zfm,zfo,zfp,zfr,zfs,zft,zfu,zfy,zfz,zg0,zg1,zhd,zhe,zhf,zhg,zje,zjg,zjj, h30]; all_goals tactic => exact rfl))
            · exact rd2
            · by_cases hm : l.ls.length = 0
              · simp only [hm, if_true] at h2 z2 ⊢
                (sym => (simp [cS_gr, cS_nm, cS_sl, cS_len, z00,z01,z02,z03,z04,z05,z07,z0b,z0c,z0f,z0n,z0o,z0r,z0s,z0v,z12,z1f,z1j,z1n,z1o,z29,z2b,z2v,z3h,z4f,z4l,z4o,z4q,z4s,z4t,z4v,z54,z57,z59,z5b,z5e,z66,z69,z6b,z6d,z6e,z6g,z6p,z6s,z6u,z6w,z6z,z78,z7b,z7d,z7f,z7i,z7r,z7u,z7w,z81,z8d,z8f,z9d,z9e,z9g,z9i,z9j,z9k,z9l,z9m,z9n,z9p,z9r,z9s,z9v,z9w,z9y,za0,za1,za3,za6,za7,za8,za9,zae,zaf,zag,zal,zam,zb4,zb5,zb9,zba,zbb,zbl,zbm,zbn,zbp,zbt,zbu,zbw,zbx,zby,zbz,zc0,zc3,zc4,zc5,zc7,zc8,zca,zcc,zcd,zce,zcg,zch,zcj,zcn,zco,zcp,zcq,zcr,zct,zcu,zcv,zcw,zcy,zd3,zd5,zdd,zde,zdj,zdl,zds,zdt,zdu,zdv,zdw,zdx,zdy,zdz,ze0,ze1,ze2,ze3,ze9,zea,zeb,zec,zeo,zep,zf5,zf6,zf7,zfa,zfb,zfc,zfd,zfg,zfm,zfo,zfp,zfr,zfs,zft,zfu,zfy,zfz,zg0,zg1,zhd,zhe,zhf,zhg,zje,zjg,zjj, z2, h2, hm]; all_goals tactic => exact rfl))
              · simp only [hm, if_false] at h2
                (sym => (simp [cS_gr, cS_nm, cS_sl, cS_len, z00,z01,z02,z03,z04,z05,z07,z0b,z0c,z0f,z0n,z0o,z0r,z0s,z0v,z12,z1f,z1j,z1n,z1o,z29,z2b,z2v,z3h,z4f,z4l,z4o,z4q,z4s,z4t,z4v,z54,z57,z59,z5b,z5e,z66,z69,z6b,z6d,z6e,z6g,z6p,z6s,z6u,z6w,z6z,z78,z7b,z7d,z7f,z7i,z7r,z7u,z7w,z81,z8d,z8f,z9d,z9e,z9g,z9i,z9j,z9k,z9l,z9m,z9n,z9p,z9r,z9s,z9v,z9w,z9y,za0,za1,za3,za6,za7,za8,za9,zae,zaf,zag,zal,zam,zb4,zb5,zb9,zba,zbb,zbl,zbm,zbn,zbp,zbt,zbu,zbw,zbx,zby,zbz,zc0,zc3,zc4,zc5,zc7,zc8,zca,zcc,zcd,zce,zcg,zch,zcj,zcn,zco,zcp,zcq,zcr,zct,zcu,zcv,zcw,zcy,zd3,zd5,zdd,zde,zdj,zdl,zds,zdt,zdu,zdv,zdw,zdx,zdy,zdz,ze0,ze1,ze2,ze3,ze9,zea,zeb,zec,zeo,zep,zf5,zf6,zf7,zfa,zfb,zfc,zfd,zfg,zfm,zfo,zfp,zfr,zfs,zft,zfu,zfy,zfz,zg0,zg1,zhd,zhe,zhf,zhg,zje,zjg,zjj, z2, h2]; all_goals tactic => exact rfl))
      · simp only [hn, if_false] at h30 h2
        sym =>
          simp [cS_gr, cS_nm, cS_sl, cS_len, z00,z01,z02,z03,z04,z05,z07,z0b,z0c,z0f,z0n,z0o,z0r,z0s,z0v,z12,z1f,z1j,z1n,z1o,z29,z2b,z2v,z3h,z4f,z4l,z4o,z4q,z4s,z4t,z4v,z54,z57,z59,z5b,z5e,z66,z69,z6b,z6d,z6e,z6g,z6p,z6s,z6u,z6w,z6z,z78,z7b,z7d,z7f,z7i,z7r,z7u,z7w,z81,z8d,z8f,z9d,z9e,z9g,z9i,z9j,z9k,z9l,z9m,z9n,z9p,z9r,z9s,z9v,z9w,z9y,za0,za1,za3,za6,za7,za8,za9,zae,zaf,zag,zal,zam,zb4,zb5,zb9,zba,zbb,zbl,zbm,zbn,zbp,zbt,zbu,zbw,zbx,zby,zbz,zc0,zc3,zc4,zc5,zc7,zc8,zca,zcc,zcd,zce,zcg,zch,zcj,zcn,zco,zcp,zcq,zcr,zct,zcu,zcv,zcw,zcy,zd3,zd5,zdd,zde,zdj,zdl,zds,zdt,zdu,zdv,zdw,zdx,zdy,zdz,ze0,ze1,ze2,ze3,ze9,zea,zeb,zec,zeo,zep,zf5,zf6,zf7,zfa,zfb,zfc,zfd,zfg,zfm,zfo,zfp,zfr,zfs,zft,zfu,zfy,zfz,zg0,zg1,zhd,zhe,zhf,zhg,zje,zjg,zjj, z, h30]
          tactic =>
            unfold x16l2
            rw [loop_rule l.ls.length (fun i => [.pt 0 0, .pt 1 0, .pt 2 0, I (i : Nat)]) G2]
            · by_cases hm : l.ls.length = 0
              · rw [lz hm]
                simp only [hm, if_true] at h2 z2 ⊢
                (sym => (simp [cS_gr, cS_nm, cS_sl, cS_len, z00,z01,z02,z03,z04,z05,z07,z0b,z0c,z0f,z0n,z0o,z0r,z0s,z0v,z12,z1f,z1j,z1n,z1o,z29,z2b,z2v,z3h,z4f,z4l,z4o,z4q,z4s,z4t,z4v,z54,z57,z59,z5b,z5e,z66,z69,z6b,z6d,z6e,z6g,z6p,z6s,z6u,z6w,z6z,z78,z7b,z7d,z7f,z7i,z7r,z7u,z7w,z81,z8d,z8f,z9d,z9e,z9g,z9i,z9j,z9k,z9l,z9m,z9n,z9p,z9r,z9s,z9v,z9w,z9y,za0,za1,za3,za6,za7,za8,za9,zae,zaf,zag,zal,zam,zb4,zb5,zb9,zba,zbb,zbl,zbm,zbn,zbp,zbt,zbu,zbw,zbx,zby,zbz,zc0,zc3,zc4,zc5,zc7,zc8,zca,zcc,zcd,zce,zcg,zch,zcj,zcn,zco,zcp,zcq,zcr,zct,zcu,zcv,zcw,zcy,zd3,zd5,zdd,zde,zdj,zdl,zds,zdt,zdu,zdv,zdw,zdx,zdy,zdz,ze0,ze1,ze2,ze3,ze9,zea,zeb,zec,zeo,zep,zf5,zf6,zf7,zfa,zfb,zfc,zfd,zfg,zfm,zfo,zfp,zfr,zfs,zft,zfu,zfy,zfz,zg0,zg1,zhd,zhe,zhf,zhg,zje,zjg,zjj, z2, h2, hm, ch, vl, c1]; all_goals tactic => exact rfl))
              · simp only [hm, if_false] at h2
                (sym => (simp [cS_gr, cS_nm, cS_sl, cS_len, z00,z01,z02,z03,z04,z05,z07,z0b,z0c,z0f,z0n,z0o,z0r,z0s,z0v,z12,z1f,z1j,z1n,z1o,z29,z2b,z2v,z3h,z4f,z4l,z4o,z4q,z4s,z4t,z4v,z54,z57,z59,z5b,z5e,z66,z69,z6b,z6d,z6e,z6g,z6p,z6s,z6u,z6w,z6z,z78,z7b,z7d,z7f,z7i,z7r,z7u,z7w,z81,z8d,z8f,z9d,z9e,z9g,z9i,z9j,z9k,z9l,z9m,z9n,z9p,z9r,z9s,z9v,z9w,z9y,za0,za1,za3,za6,za7,za8,za9,zae,zaf,zag,zal,zam,zb4,zb5,zb9,zba,zbb,zbl,zbm,zbn,zbp,zbt,zbu,zbw,zbx,zby,zbz,zc0,zc3,zc4,zc5,zc7,zc8,zca,zcc,zcd,zce,zcg,zch,zcj,zcn,zco,zcp,zcq,zcr,zct,zcu,zcv,zcw,zcy,zd3,zd5,zdd,zde,zdj,zdl,zds,zdt,zdu,zdv,zdw,zdx,zdy,zdz,ze0,ze1,ze2,ze3,ze9,zea,zeb,zec,zeo,zep,zf5,zf6,zf7,zfa,zfb,zfc,zfd,zfg,zfm,zfo,zfp,zfr,zfs,zft,zfu,zfy,zfz,zg0,zg1,zhd,zhe,zhf,zhg,zje,zjg,zjj, z2, h2, cl2, ch2, c2, ch, vl, c1]; all_goals tactic => exact rfl))
            · (sym => (simp [cS_gr, cS_nm, cS_sl, cS_len, z00,z01,z02,z03,z04,z05,z07,z0b,z0c,z0f,z0n,z0o,z0r,z0s,z0v,z12,z1f,z1j,z1n,z1o,z29,z2b,z2v,z3h,z4f,z4l,z4o,z4q,z4s,z4t,z4v,z54,z57,z59,z5b,z5e,z66,z69,z6b,z6d,z6e,z6g,z6p,z6s,z6u,z6w,z6z,z78,z7b,z7d,z7f,z7i,z7r,z7u,z7w,z81,z8d,z8f,z9d,z9e,z9g,z9i,z9j,z9k,z9l,z9m,z9n,z9p,z9r,z9s,z9v,z9w,z9y,za0,za1,za3,za6,za7,za8,za9,zae,zaf,zag,zal,zam,zb4,zb5,zb9,zba,zbb,zbl,zbm,zbn,zbp,zbt,zbu,zbw,zbx,zby,zbz,zc0,zc3,zc4,zc5,zc7,zc8,zca,zcc,zcd,zce,zcg,zch,zcj,zcn,zco,zcp,zcq,zcr,zct,zcu,zcv,zcw,zcy,zd3,zd5,zdd,zde,zdj,zdl,zds,zdt,zdu,zdv,zdw,zdx,zdy,zdz,ze0,ze1,ze2,ze3,ze9,zea,zeb,zec,zeo,zep,zf5,zf6,zf7,zfa,zfb,zfc,zfd,zfg,zfm,zfo,zfp,zfr,zfs,zft,zfu,zfy,zfz,zg0,zg1,zhd,zhe,zhf,zhg,zje,zjg,zjj, h30]; all_goals tactic => exact rfl))
            · exact rd2
            · by_cases hm : l.ls.length = 0
              · simp only [hm, if_true] at h2 z2 ⊢
                (sym => (simp [cS_gr, cS_nm, cS_sl, cS_len, z00,z01,z02,z03,z04,z05,z07,z0b,z0c,z0f,z0n,z0o,z0r,z0s,z0v,z12,z1f,z1j,z1n,z1o,z29,z2b,z2v,z3h,z4f,z4l,z4o,z4q,z4s,z4t,z4v,z54,z57,z59,z5b,z5e,z66,z69,z6b,z6d,z6e,z6g,z6p,z6s,z6u,z6w,z6z,z78,z7b,z7d,z7f,z7i,z7r,z7u,z7w,z81,z8d,z8f,z9d,z9e,z9g,z9i,z9j,z9k,z9l,z9m,z9n,z9p,z9r,z9s,z9v,z9w,z9y,za0,za1,za3,za6,za7,za8,za9,zae,zaf,zag,zal,zam,zb4,zb5,zb9,zba,zbb,zbl,zbm,zbn,zbp,zbt,zbu,zbw,zbx,zby,zbz,zc0,zc3,zc4,zc5,zc7,zc8,zca,zcc,zcd,zce,zcg,zch,zcj,zcn,zco,zcp,zcq,zcr,zct,zcu,zcv,zcw,zcy,zd3,zd5,zdd,zde,zdj,zdl,zds,zdt,zdu,zdv,zdw,zdx,zdy,zdz,ze0,ze1,ze2,ze3,ze9,zea,zeb,zec,zeo,zep,zf5,zf6,zf7,zfa,zfb,zfc,zfd,zfg,zfm,zfo,zfp,zfr,zfs,zft,zfu,zfy,zfz,zg0,zg1,zhd,zhe,zhf,zhg,zje,zjg,zjj, z2, h2, hm]; all_goals tactic => exact rfl))
              · simp only [hm, if_false] at h2
                (sym => (simp [cS_gr, cS_nm, cS_sl, cS_len, z00,z01,z02,z03,z04,z05,z07,z0b,z0c,z0f,z0n,z0o,z0r,z0s,z0v,z12,z1f,z1j,z1n,z1o,z29,z2b,z2v,z3h,z4f,z4l,z4o,z4q,z4s,z4t,z4v,z54,z57,z59,z5b,z5e,z66,z69,z6b,z6d,z6e,z6g,z6p,z6s,z6u,z6w,z6z,z78,z7b,z7d,z7f,z7i,z7r,z7u,z7w,z81,z8d,z8f,z9d,z9e,z9g,z9i,z9j,z9k,z9l,z9m,z9n,z9p,z9r,z9s,z9v,z9w,z9y,za0,za1,za3,za6,za7,za8,za9,zae,zaf,zag,zal,zam,zb4,zb5,zb9,zba,zbb,zbl,zbm,zbn,zbp,zbt,zbu,zbw,zbx,zby,zbz,zc0,zc3,zc4,zc5,zc7,zc8,zca,zcc,zcd,zce,zcg,zch,zcj,zcn,zco,zcp,zcq,zcr,zct,zcu,zcv,zcw,zcy,zd3,zd5,zdd,zde,zdj,zdl,zds,zdt,zdu,zdv,zdw,zdx,zdy,zdz,ze0,ze1,ze2,ze3,ze9,zea,zeb,zec,zeo,zep,zf5,zf6,zf7,zfa,zfb,zfc,zfd,zfg,zfm,zfo,zfp,zfr,zfs,zft,zfu,zfy,zfz,zg0,zg1,zhd,zhe,zhf,zhg,zje,zjg,zjj, z2, h2]; all_goals tactic => exact rfl))
end Go.Proofs.YtpbeclkpohehgaaDoor
namespace Go.Proofs.YtpbeclkpohehgaaDoor
open Go Go.DL
set_option maxRecDepth 100000
set_option maxHeartbeats 4000000

end Go.Proofs.YtpbeclkpohehgaaDoor
namespace Go.Proofs.YtpbeclkpohehgaaDoor
open Go Go.DL
set_option maxRecDepth 100000
set_option maxHeartbeats 4000000

theorem w89 (b : Int) (x : Sp) : runW progX 89 [.agg x.row, .pt 0 0] [some (.blk true (.cells true [I b]))] = some (.bool (decide (x.hi > b)), [some (.blk true (.cells true [I b]))]) := by
  rw [r89 (by simp)]; unfold x89; dsimp only
  rcases ptf (x.hi > b) with g | g
  · (sym => (simp [z00,z01,z05,z07,z0b,z0c,z0f,z0n,z0r,z0v,z12,z1j,z29,z2x,z4m,z54,z57,z67,z6q,z7r,z7s,z7u,z7z,z8d,z9d,z9e,z9g,z9n,z9p,z9y,za3,za6,za7,za8,zae,zaf,zak,zal,zba,zbt,zbu,zbw,zbx,zby,zbz,zc0,zc3,zc4,zc5,zc6,zc8,zcj,zcn,zco,zcp,zcq,zcr,zcs,zct,zcu,zcv,zd3,zdk,zdl,zds,zdt,zdw,zdx,ze2,ze3,zeo,zep,zf6,zf7,zfb,zfg,zfm,zfo,zfp,zft,zg0,zg1,zje, g]; all_goals tactic => exact rfl))
  · (sym => (simp [z00,z01,z05,z07,z0b,z0c,z0f,z0n,z0r,z0v,z12,z1j,z29,z2x,z4m,z54,z57,z67,z6q,z7r,z7s,z7u,z7z,z8d,z9d,z9e,z9g,z9n,z9p,z9y,za3,za6,za7,za8,zae,zaf,zak,zal,zba,zbt,zbu,zbw,zbx,zby,zbz,zc0,zc3,zc4,zc5,zc6,zc8,zcj,zcn,zco,zcp,zcq,zcr,zcs,zct,zcu,zcv,zd3,zdk,zdl,zds,zdt,zdw,zdx,ze2,ze3,zeo,zep,zf6,zf7,zfb,zfg,zfm,zfo,zfp,zft,zg0,zg1,zje, g]; all_goals tactic => exact rfl))
theorem w91 (b : Int) (x : St) : runW progX 91 [.agg x.row, .pt 0 0] [some (.blk true (.cells true [I b]))] = some (.bool (decide (x.s > b)), [some (.blk true (.cells true [I b]))]) := by
  rw [r91 (by simp)]; unfold x91; dsimp only
  rcases ptf (x.s > b) with g | g
  · (sym => (simp [z00,z01,z05,z07,z0b,z0c,z0f,z0n,z0r,z0v,z12,z1j,z29,z2x,z4m,z54,z57,z67,z6q,z7r,z7s,z7u,z7z,z8d,z9d,z9e,z9g,z9n,z9p,z9y,za3,za6,za7,za8,zae,zaf,zak,zal,zba,zbt,zbu,zbw,zbx,zby,zbz,zc0,zc3,zc4,zc5,zc6,zc8,zcj,zcn,zco,zcp,zcq,zcr,zcs,zct,zcu,zcv,zd3,zdk,zdl,zds,zdt,zdw,zdx,ze2,ze3,zeo,zep,zf6,zf7,zfb,zfg,zfm,zfo,zfp,zft,zg0,zg1,zje, g]; all_goals tactic => exact rfl))
  · (sym => (simp [z00,z01,z05,z07,z0b,z0c,z0f,z0n,z0r,z0v,z12,z1j,z29,z2x,z4m,z54,z57,z67,z6q,z7r,z7s,z7u,z7z,z8d,z9d,z9e,z9g,z9n,z9p,z9y,za3,za6,za7,za8,zae,zaf,zak,zal,zba,zbt,zbu,zbw,zbx,zby,zbz,zc0,zc3,zc4,zc5,zc6,zc8,zcj,zcn,zco,zcp,zcq,zcr,zcs,zct,zcu,zcv,zd3,zdk,zdl,zds,zdt,zdw,zdx,ze2,ze3,zeo,zep,zf6,zf7,zfb,zfg,zfm,zfo,zfp,zft,zg0,zg1,zje, g]; all_goals tactic => exact rfl))
/-- The first place, of a span that reaches above b; plus one. -/
def fhF (b : Int) (s : List Sp) (i : Nat) : Int := if (s.getD i ⟨0, 0⟩).hi > b then i + 1 else 0
theorem w111 (b : Int) (s : List Sp) (hs : s.length ≤ 9223372036854775807) : runW progX 111 [sR s, .fn (.func 89) [] [.pt 0 0]] [some (.blk true (.cells true [I b]))] = some (I (firstN (fhF b s) s.length - 1), [some (.blk true (.cells true [I b]))]) := by
  have z := zf5 (n := (s.length : Int))
  obtain ⟨m, m1, m2, m3⟩ := firstN_ix (fhF b s) s.length
  have go : ∀ i, i < s.length → ∃ x, s[i]? = some x ∧ (((x.hi > b) = True ∧ fhF b s i = (i : Int) + 1) ∨ ((x.hi > b) = False ∧ fhF b s i = 0)) := by
    intro i hi
    obtain ⟨x, hx⟩ := at_ix hi
    refine ⟨x, hx, ?_⟩
    unfold fhF
    rw [getD_of hx]
    rcases ptf (x.hi > b) with g | g
    · exact .inl ⟨g, by rw [if_pos (of_eq_true g)]⟩
    · exact .inr ⟨g, by rw [if_neg (of_eq_false g)]⟩
  have rd : ∀ i, i < m → headX 1 [0, 1, 7, 8] (execW progX 111 1 none (match x111l0 with | .loop _ a => a | c => c) (envL [0, 1, 7, 8] [sR s, .fn (.func 89) [] [.pt 0 0], I s.length, I (i : Nat)]) [some (.blk true (.cells true [I b]))]) =
    some ([sR s, .fn (.func 89) [] [.pt 0 0], I s.length, I (i + 1 : Nat)], [some (.blk true (.cells true [I b]))]) := by
    intro i hi
    have hil : i < s.length := by omega
    obtain ⟨x, hx, h⟩ := go i hil
    have e0 := m2 i hi
    have a1 := lt_ix hil
    have a2 := up_ix hil (by omega)
    have wc := w89 b x
    rcases h with ⟨g, e⟩ | ⟨g, e⟩
    · rw [e] at e0; omega
    have gd : decide (x.hi > b) = false := decide_eq_false (of_eq_false g)
    rw [gd] at wc
    unfold x111l0
    dsimp only
    (sym => (simp [z00,z01,z05,z07,z0b,z0c,z0n,z0v,z15,z1f,z1j,z1r,z1u,z20,z21,z2b,z2g,z2h,z2j,z2v,z33,z34,z3h,z4l,z4o,z4q,z4t,z4y,z66,z67,z69,z6b,z6e,z6j,z6p,z7r,z7w,z84,z9d,z9i,z9j,z9k,z9l,z9m,z9n,z9r,z9t,z9v,z9w,z9y,za0,za1,za2,za3,za5,za6,za7,za8,zaa,zab,zac,zae,zaf,zak,zal,zaq,zas,zat,zau,zba,zbt,zbu,zbw,zbx,zby,zbz,zc0,zc3,zc4,zc5,zc6,zc8,zca,zcc,zcd,zce,zcf,zcg,zch,zci,zcj,zcn,zco,zcp,zcq,zcr,zcs,zct,zcu,zcv,zcw,zcx,zcy,zdd,zdj,zdk,zdl,zdo,zds,zdt,zdu,zdv,ze2,ze3,zf5,zf8,zf9,zfa,zfm,zfo,zfp,zfq,zfr,zfs,zft,zfu,zfv,zfw,zfx,zfy,zfz,zg0,zg1,zje, a1, a2, hx, wc]; all_goals tactic => exact rfl))
  rw [r111 (by simp)]; unfold x111; dsimp only
  sym =>
    simp [z00,z01,z05,z07,z0b,z0c,z0n,z0v,z15,z1f,z1j,z1r,z1u,z20,z21,z2b,z2g,z2h,z2j,z2v,z33,z34,z3h,z4l,z4o,z4q,z4t,z4y,z66,z67,z69,z6b,z6e,z6j,z6p,z7r,z7w,z84,z9d,z9i,z9j,z9k,z9l,z9m,z9n,z9r,z9t,z9v,z9w,z9y,za0,za1,za2,za3,za5,za6,za7,za8,zaa,zab,zac,zae,zaf,zak,zal,zaq,zas,zat,zau,zba,zbt,zbu,zbw,zbx,zby,zbz,zc0,zc3,zc4,zc5,zc6,zc8,zca,zcc,zcd,zce,zcf,zcg,zch,zci,zcj,zcn,zco,zcp,zcq,zcr,zcs,zct,zcu,zcv,zcw,zcx,zcy,zdd,zdj,zdk,zdl,zdo,zds,zdt,zdu,zdv,ze2,ze3,zf5,zf8,zf9,zfa,zfm,zfo,zfp,zfq,zfr,zfs,zft,zfu,zfv,zfw,zfx,zfy,zfz,zg0,zg1,zje, z]
    tactic =>
      unfold x111l0
      rw [loop_rule m (fun i => [sR s, .fn (.func 89) [] [.pt 0 0], I s.length, I (i : Nat)]) (fun _ => [some (.blk true (.cells true [I b]))])]
      · rcases m3 with ⟨rfl, e⟩ | ⟨m3, m4, e⟩
        · rw [e]; (sym => (simp [z00,z01,z05,z07,z0b,z0c,z0n,z0v,z15,z1f,z1j,z1r,z1u,z20,z21,z2b,z2g,z2h,z2j,z2v,z33,z34,z3h,z4l,z4o,z4q,z4t,z4y,z66,z67,z69,z6b,z6e,z6j,z6p,z7r,z7w,z84,z9d,z9i,z9j,z9k,z9l,z9m,z9n,z9r,z9t,z9v,z9w,z9y,za0,za1,za2,za3,za5,za6,za7,za8,zaa,zab,zac,zae,zaf,zak,zal,zaq,zas,zat,zau,zba,zbt,zbu,zbw,zbx,zby,zbz,zc0,zc3,zc4,zc5,zc6,zc8,zca,zcc,zcd,zce,zcf,zcg,zch,zci,zcj,zcn,zco,zcp,zcq,zcr,zcs,zct,zcu,zcv,zcw,zcx,zcy,zdd,zdj,zdk,zdl,zdo,zds,zdt,zdu,zdv,ze2,ze3,zf5,zf8,zf9,zfa,zfm,zfo,zfp,zfq,zfr,zfs,zft,zfu,zfv,zfw,zfx,zfy,zfz,zg0,zg1,zje, z]; all_goals tactic => exact rfl))
        · rw [e]
          obtain ⟨x, hx, h⟩ := go m m3
          have a1 := lt_ix m3
          have wc := w89 b x
          rcases h with ⟨g, e2⟩ | ⟨g, e2⟩
          · have gd : decide (x.hi > b) = true := decide_eq_true (of_eq_true g)
            rw [gd] at wc
            have e3 : (m : Int) + 1 - 1 = m := by omega
            rw [e2, e3]
            (sym => (simp [z00,z01,z05,z07,z0b,z0c,z0n,z0v,z15,z1f,z1j,z1r,z1u,z20,z21,z2b,z2g,z2h,z2j,z2v,z33,z34,z3h,z4l,z4o,z4q,z4t,z4y,z66,z67,z69,z6b,z6e,z6j,z6p,z7r,z7w,z84,z9d,z9i,z9j,z9k,z9l,z9m,z9n,z9r,z9t,z9v,z9w,z9y,za0,za1,za2,za3,za5,za6,za7,za8,zaa,zab,zac,zae,zaf,zak,zal,zaq,zas,zat,zau,zba,zbt,zbu,zbw,zbx,zby,zbz,zc0,zc3,zc4,zc5,zc6,zc8,zca,zcc,zcd,zce,zcf,zcg,zch,zci,zcj,zcn,zco,zcp,zcq,zcr,zcs,zct,zcu,zcv,zcw,zcx,zcy,zdd,zdj,zdk,zdl,zdo,zds,zdt,zdu,zdv,ze2,ze3,zf5,zf8,zf9,zfa,zfm,zfo,zfp,zfq,zfr,zfs,zft,zfu,zfv,zfw,zfx,zfy,zfz,zg0,zg1,zje, a1, hx, wc]; all_goals tactic => exact rfl))
          · exact absurd e2 m4
      · (sym => (simp [z00,z01,z05,z07,z0b,z0c,z0n,z0v,z15,z1f,z1j,z1r,z1u,z20,z21,z2b,z2g,z2h,z2j,z2v,z33,z34,z3h,z4l,z4o,z4q,z4t,z4y,z66,z67,z69,z6b,z6e,z6j,z6p,z7r,z7w,z84,z9d,z9i,z9j,z9k,z9l,z9m,z9n,z9r,z9t,z9v,z9w,z9y,za0,za1,za2,za3,za5,za6,za7,za8,zaa,zab,zac,zae,zaf,zak,zal,zaq,zas,zat,zau,zba,zbt,zbu,zbw,zbx,zby,zbz,zc0,zc3,zc4,zc5,zc6,zc8,zca,zcc,zcd,zce,zcf,zcg,zch,zci,zcj,zcn,zco,zcp,zcq,zcr,zcs,zct,zcu,zcv,zcw,zcx,zcy,zdd,zdj,zdk,zdl,zdo,zds,zdt,zdu,zdv,ze2,ze3,zf5,zf8,zf9,zfa,zfm,zfo,zfp,zfq,zfr,zfs,zft,zfu,zfv,zfw,zfx,zfy,zfz,zg0,zg1,zje, z]; all_goals tactic => exact rfl))
      · exact rd
      · rcases m3 with ⟨rfl, e⟩ | ⟨m3, m4, e⟩
        · (sym => (simp [z00,z01,z05,z07,z0b,z0c,z0n,z0v,z15,z1f,z1j,z1r,z1u,z20,z21,z2b,z2g,z2h,z2j,z2v,z33,z34,z3h,z4l,z4o,z4q,z4t,z4y,z66,z67,z69,z6b,z6e,z6j,z6p,z7r,z7w,z84,z9d,z9i,z9j,z9k,z9l,z9m,z9n,z9r,z9t,z9v,z9w,z9y,za0,za1,za2,za3,za5,za6,za7,za8,zaa,zab,zac,zae,zaf,zak,zal,zaq,zas,zat,zau,zba,zbt,zbu,zbw,zbx,zby,zbz,zc0,zc3,zc4,zc5,zc6,zc8,zca,zcc,zcd,zce,zcf,zcg,zch,zci,zcj,zcn,zco,zcp,zcq,zcr,zcs,zct,zcu,zcv,zcw,zcx,zcy,zdd,zdj,zdk,zdl,zdo,zds,zdt,zdu,zdv,ze2,ze3,zf5,zf8,zf9,zfa,zfm,zfo,zfp,zfq,zfr,zfs,zft,zfu,zfv,zfw,zfx,zfy,zfz,zg0,zg1,zje, z]; all_goals tactic => exact rfl))
        · obtain ⟨x, hx, h⟩ := go m m3
          have a1 := lt_ix m3
          have wc := w89 b x
          rcases h with ⟨g, e2⟩ | ⟨g, e2⟩
          · have gd : decide (x.hi > b) = true := decide_eq_true (of_eq_true g)
            rw [gd] at wc
            (sym => (simp [z00,z01,z05,z07,z0b,z0c,z0n,z0v,z15,z1f,z1j,z1r,z1u,z20,z21,z2b,z2g,z2h,z2j,z2v,z33,z34,z3h,z4l,z4o,z4q,z4t,z4y,z66,z67,z69,z6b,z6e,z6j,z6p,z7r,z7w,z84,z9d,z9i,z9j,z9k,z9l,z9m,z9n,z9r,z9t,z9v,z9w,z9y,za0,za1,za2,za3,za5,za6,za7,za8,zaa,zab,zac,zae,zaf,zak,zal,zaq,zas,zat,zau,zba,zbt,zbu,zbw,zbx,zby,zbz,zc0,zc3,zc4,zc5,zc6,zc8,zca,zcc,zcd,zce,zcf,zcg,zch,zci,zcj,zcn,zco,zcp,zcq,zcr,zcs,zct,zcu,zcv,zcw,zcx,zcy,zdd,zdj,zdk,zdl,zdo,zds,zdt,zdu,zdv,ze2,ze3,zf5,zf8,zf9,zfa,zfm,zfo,zfp,zfq,zfr,zfs,zft,zfu,zfv,zfw,zfx,zfy,zfz,zg0,zg1,zje, a1, hx, wc]; all_goals tactic => exact rfl))
          · exact absurd e2 m4
/-- The first place, of a step that is sourer than b; plus one. -/
def fsF (b : Int) (s : List St) (i : Nat) : Int := if (s.getD i ⟨0, 0⟩).s > b then i + 1 else 0
theorem w90 (b : Int) (s : List St) (hs : s.length ≤ 9223372036854775807) : runW progX 90 [rS s, .fn (.func 91) [] [.pt 0 0]] [some (.blk true (.cells true [I b]))] = some (I (firstN (fsF b s) s.length - 1), [some (.blk true (.cells true [I b]))]) := by
  have z := zf5 (n := (s.length : Int))
  obtain ⟨m, m1, m2, m3⟩ := firstN_ix (fsF b s) s.length
  have go : ∀ i, i < s.length → ∃ x, s[i]? = some x ∧ (((x.s > b) = True ∧ fsF b s i = (i : Int) + 1) ∨ ((x.s > b) = False ∧ fsF b s i = 0)) := by
    intro i hi
    obtain ⟨x, hx⟩ := at_ix hi
    refine ⟨x, hx, ?_⟩
    unfold fsF
    rw [getD_of hx]
    rcases ptf (x.s > b) with g | g
    · exact .inl ⟨g, by rw [if_pos (of_eq_true g)]⟩
    · exact .inr ⟨g, by rw [if_neg (of_eq_false g)]⟩
  have rd : ∀ i, i < m → headX 1 [0, 1, 7, 8] (execW progX 90 1 none (match x90l0 with | .loop _ a => a | c => c) (envL [0, 1, 7, 8] [rS s, .fn (.func 91) [] [.pt 0 0], I s.length, I (i : Nat)]) [some (.blk true (.cells true [I b]))]) =
    some ([rS s, .fn (.func 91) [] [.pt 0 0], I s.length, I (i + 1 : Nat)], [some (.blk true (.cells true [I b]))]) := by
    intro i hi
    have hil : i < s.length := by omega
    obtain ⟨x, hx, h⟩ := go i hil
    have e0 := m2 i hi
    have a1 := lt_ix hil
    have a2 := up_ix hil (by omega)
    have wc := w91 b x
    rcases h with ⟨g, e⟩ | ⟨g, e⟩
    · rw [e] at e0; omega
    have gd : decide (x.s > b) = false := decide_eq_false (of_eq_false g)
    rw [gd] at wc
    unfold x90l0
    dsimp only
    (sym => (simp [z00,z01,z05,z07,z0b,z0c,z0n,z0v,z15,z1f,z1j,z1r,z1u,z20,z21,z2b,z2g,z2h,z2j,z2v,z33,z34,z3h,z4l,z4o,z4q,z4t,z4y,z66,z67,z69,z6b,z6e,z6j,z6p,z7r,z7w,z84,z9d,z9i,z9j,z9k,z9l,z9m,z9n,z9r,z9t,z9v,z9w,z9y,za0,za1,za2,za3,za5,za6,za7,za8,zaa,zab,zac,zae,zaf,zak,zal,zaq,zas,zat,zau,zba,zbt,zbu,zbw,zbx,zby,zbz,zc0,zc3,zc4,zc5,zc6,zc8,zca,zcc,zcd,zce,zcf,zcg,zch,zci,zcj,zcn,zco,zcp,zcq,zcr,zcs,zct,zcu,zcv,zcw,zcx,zcy,zdd,zdj,zdk,zdl,zdo,zds,zdt,zdu,zdv,ze2,ze3,zf5,zf8,zf9,zfa,zfm,zfo,zfp,zfq,zfr,zfs,zft,zfu,zfv,zfw,zfx,zfy,zfz,zg0,zg1,zje, a1, a2, hx, wc]; all_goals tactic => exact rfl))
  rw [r90 (by simp)]; unfold x90; dsimp only
  sym =>
    simp [z00,z01,z05,z07,z0b,z0c,z0n,z0v,z15,z1f,z1j,z1r,z1u,z20,z21,z2b,z2g,z2h,z2j,z2v,z33,z34,z3h,z4l,z4o,z4q,z4t,z4y,z66,z67,z69,z6b,z6e,z6j,z6p,z7r,z7w,z84,z9d,z9i,z9j,z9k,z9l,z9m,z9n,z9r,z9t,z9v,z9w,z9y,za0,za1,za2,za3,za5,za6,za7,za8,zaa,zab,zac,zae,zaf,zak,zal,zaq,zas,zat,zau,zba,zbt,zbu,zbw,zbx,zby,zbz,zc0,zc3,zc4,zc5,zc6,zc8,zca,zcc,zcd,zce,zcf,zcg,zch,zci,zcj,zcn,zco,zcp,zcq,zcr,zcs,zct,zcu,zcv,zcw,zcx,zcy,zdd,zdj,zdk,zdl,zdo,zds,zdt,zdu,zdv,ze2,ze3,zf5,zf8,zf9,zfa,zfm,zfo,zfp,zfq,zfr,zfs,zft,zfu,zfv,zfw,zfx,zfy,zfz,zg0,zg1,zje, z]
    tactic =>
      unfold x90l0
      rw [loop_rule m (fun i => [rS s, .fn (.func 91) [] [.pt 0 0], I s.length, I (i : Nat)]) (fun _ => [some (.blk true (.cells true [I b]))])]
      · rcases m3 with ⟨rfl, e⟩ | ⟨m3, m4, e⟩
        · rw [e]; (sym => (simp [z00,z01,z05,z07,z0b,z0c,z0n,z0v,z15,z1f,z1j,z1r,z1u,z20,z21,z2b,z2g,z2h,z2j,z2v,z33,z34,z3h,z4l,z4o,z4q,z4t,z4y,z66,z67,z69,z6b,z6e,z6j,z6p,z7r,z7w,z84,z9d,z9i,z9j,z9k,z9l,z9m,z9n,z9r,z9t,z9v,z9w,z9y,za0,za1,za2,za3,za5,za6,za7,za8,zaa,zab,zac,zae,zaf,zak,zal,zaq,zas,zat,zau,zba,zbt,zbu,zbw,zbx,zby,zbz,zc0,zc3,zc4,zc5,zc6,zc8,zca,zcc,zcd,zce,zcf,zcg,zch,zci,zcj,zcn,zco,zcp,zcq,zcr,zcs,zct,zcu,zcv,zcw,zcx,zcy,zdd,zdj,zdk,zdl,zdo,zds,zdt,zdu,zdv,ze2,ze3,zf5,zf8,zf9,zfa,zfm,zfo,zfp,zfq,zfr,zfs,zft,zfu,zfv,zfw,zfx,zfy,zfz,zg0,zg1,zje, z]; all_goals tactic => exact rfl))
        · rw [e]
          obtain ⟨x, hx, h⟩ := go m m3
          have a1 := lt_ix m3
          have wc := w91 b x
          rcases h with ⟨g, e2⟩ | ⟨g, e2⟩
          · have gd : decide (x.s > b) = true := decide_eq_true (of_eq_true g)
            rw [gd] at wc
            have e3 : (m : Int) + 1 - 1 = m := by omega
            rw [e2, e3]
            (sym => (simp [z00,z01,z05,z07,z0b,z0c,z0n,z0v,z15,z1f,z1j,z1r,z1u,z20,z21,z2b,z2g,z2h,z2j,z2v,z33,z34,z3h,z4l,z4o,z4q,z4t,z4y,z66,z67,z69,z6b,z6e,z6j,z6p,z7r,z7w,z84,z9d,z9i,z9j,z9k,z9l,z9m,z9n,z9r,z9t,z9v,z9w,z9y,za0,za1,za2,za3,za5,za6,za7,za8,zaa,zab,zac,zae,zaf,zak,zal,zaq,zas,zat,zau,zba,zbt,zbu,zbw,zbx,zby,zbz,zc0,zc3,zc4,zc5,zc6,zc8,zca,zcc,zcd,zce,zcf,zcg,zch,zci,zcj,zcn,zco,zcp,zcq,zcr,zcs,zct,zcu,zcv,zcw,zcx,zcy,zdd,zdj,zdk,zdl,zdo,zds,zdt,zdu,zdv,ze2,ze3,zf5,zf8,zf9,zfa,zfm,zfo,zfp,zfq,zfr,zfs,zft,zfu,zfv,zfw,zfx,zfy,zfz,zg0,zg1,zje, a1, hx, wc]; all_goals tactic => exact rfl))
          · exact absurd e2 m4
      · (sym => (simp [z00,z01,z05,z07,z0b,z0c,z0n,z0v,z15,z1f,z1j,z1r,z1u,z20,z21,z2b,z2g,z2h,z2j,z2v,z33,z34,z3h,z4l,z4o,z4q,z4t,z4y,z66,z67,z69,z6b,z6e,z6j,z6p,z7r,z7w,z84,z9d,z9i,z9j,z9k,z9l,z9m,z9n,z9r,z9t,z9v,z9w,z9y,za0,za1,za2,za3,za5,za6,za7,za8,zaa,zab,zac,zae,zaf,zak,zal,zaq,zas,zat,zau,zba,zbt,zbu,zbw,zbx,zby,zbz,zc0,zc3,zc4,zc5,zc6,zc8,zca,zcc,zcd,zce,zcf,zcg,zch,zci,zcj,zcn,zco,zcp,zcq,zcr,zcs,zct,zcu,zcv,zcw,zcx,zcy,zdd,zdj,zdk,zdl,zdo,zds,zdt,zdu,zdv,ze2,ze3,zf5,zf8,zf9,zfa,zfm,zfo,zfp,zfq,zfr,zfs,zft,zfu,zfv,zfw,zfx,zfy,zfz,zg0,zg1,zje, z]; all_goals tactic => exact rfl))
      · exact rd
      · rcases m3 with ⟨rfl, e⟩ | ⟨m3, m4, e⟩
        · (sym => (simp [z00,z01,z05,z07,z0b,z0c,z0n,z0v,z15,z1f,z1j,z1r,z1u,z20,z21,z2b,z2g,z2h,z2j,z2v,z33,z34,z3h,z4l,z4o,z4q,z4t,z4y,z66,z67,z69,z6b,z6e,z6j,z6p,z7r,z7w,z84,z9d,z9i,z9j,z9k,z9l,z9m,z9n,z9r,z9t,z9v,z9w,z9y,za0,za1,za2,za3,za5,za6,za7,za8,zaa,zab,zac,zae,zaf,zak,zal,zaq,zas,zat,zau,zba,zbt,zbu,zbw,zbx,zby,zbz,zc0,zc3,zc4,zc5,zc6,zc8,zca,zcc,zcd,zce,zcf,zcg,zch,zci,zcj,zcn,zco,zcp,zcq,zcr,zcs,zct,zcu,zcv,zcw,zcx,zcy,zdd,zdj,zdk,zdl,zdo,zds,zdt,zdu,zdv,ze2,ze3,zf5,zf8,zf9,zfa,zfm,zfo,zfp,zfq,zfr,zfs,zft,zfu,zfv,zfw,zfx,zfy,zfz,zg0,zg1,zje, z]; all_goals tactic => exact rfl))
        · obtain ⟨x, hx, h⟩ := go m m3
          have a1 := lt_ix m3
          have wc := w91 b x
          rcases h with ⟨g, e2⟩ | ⟨g, e2⟩
          · have gd : decide (x.s > b) = true := decide_eq_true (of_eq_true g)
            rw [gd] at wc
            (sym => (simp [z00,z01,z05,z07,z0b,z0c,z0n,z0v,z15,z1f,z1j,z1r,z1u,z20,z21,z2b,z2g,z2h,z2j,z2v,z33,z34,z3h,z4l,z4o,z4q,z4t,z4y,z66,z67,z69,z6b,z6e,z6j,z6p,z7r,z7w,z84,z9d,z9i,z9j,z9k,z9l,z9m,z9n,z9r,z9t,z9v,z9w,z9y,za0,za1,za2,za3,za5,za6,za7,za8,zaa,zab,zac,zae,zaf,zak,zal,zaq,zas,zat,zau,zba,zbt,zbu,zbw,zbx,zby,zbz,zc0,zc3,zc4,zc5,zc6,zc8,zca,zcc,zcd,zce,zcf,zcg,zch,zci,zcj,zcn,zco,zcp,zcq,zcr,zcs,zct,zcu,zcv,zcw,zcx,zcy,zdd,zdj,zdk,zdl,zdo,zds,zdt,zdu,zdv,ze2,ze3,zf5,zf8,zf9,zfa,zfm,zfo,zfp,zfq,zfr,zfs,zft,zfu,zfv,zfw,zfx,zfy,zfz,zg0,zg1,zje, a1, hx, wc]; all_goals tactic => exact rfl))
          · exact absurd e2 m4
def hiB (b : Int) (s : List Sp) : Bool := decide (firstN (fhF b s) s.length - 1 ≥ 0)
theorem w88 (b : Int) (s : List Sp) (hs : s.length ≤ 9223372036854775807) : runW progX 88 [sR s, .fn (.func 89) [] [.pt 0 0]] [some (.blk true (.cells true [I b]))] = some (.bool (hiB b s), [some (.blk true (.cells true [I b]))]) := by
  have e := w111 b s hs
  unfold hiB
  generalize firstN (fhF b s) s.length - 1 = v at *
  rcases ptf (v ≥ 0) with g | g
  · have gd : decide (v ≥ 0) = true := decide_eq_true (of_eq_true g)
    rw [gd]
    rw [r88 (by simp)]; unfold x88; dsimp only
    (sym => (simp [z00,z01,z05,z06,z07,z09,z0b,z0c,z0n,z0v,z1r,z1u,z20,z21,z2y,z4m,z4q,z4t,z4y,z66,z67,z6b,z6e,z6j,z6q,z6u,z72,z7s,z7w,z84,z9d,z9i,z9l,z9m,z9n,z9r,z9t,z9v,z9y,za0,za1,za2,za3,za5,za6,za7,za8,zaa,zab,zac,zae,zaf,zak,zal,zaq,zas,zat,zau,zba,zbc,zbd,zbe,zbt,zbu,zbw,zbx,zby,zbz,zc0,zc3,zc4,zc5,zc6,zc8,zcj,zcn,zco,zcq,zcr,zcs,zct,zcu,zcv,zdj,zdk,zdl,zdo,zds,zdt,zdu,zdv,ze2,ze3,zfm,zfo,zfp,zft,zg0,zg1,zje,zkn,zko,zkq, e, g]; all_goals tactic => exact rfl))
  · have gd : decide (v ≥ 0) = false := decide_eq_false (of_eq_false g)
    rw [gd]
    rw [r88 (by simp)]; unfold x88; dsimp only
    (sym => (simp [z00,z01,z05,z06,z07,z09,z0b,z0c,z0n,z0v,z1r,z1u,z20,z21,z2y,z4m,z4q,z4t,z4y,z66,z67,z6b,z6e,z6j,z6q,z6u,z72,z7s,z7w,z84,z9d,z9i,z9l,z9m,z9n,z9r,z9t,z9v,z9y,za0,za1,za2,za3,za5,za6,za7,za8,zaa,zab,zac,zae,zaf,zak,zal,zaq,zas,zat,zau,zba,zbc,zbd,zbe,zbt,zbu,zbw,zbx,zby,zbz,zc0,zc3,zc4,zc5,zc6,zc8,zcj,zcn,zco,zcq,zcr,zcs,zct,zcu,zcv,zdj,zdk,zdl,zdo,zds,zdt,zdu,zdv,ze2,ze3,zfm,zfo,zfp,zft,zg0,zg1,zje,zkn,zko,zkq, e, g]; all_goals tactic => exact rfl))
end Go.Proofs.YtpbeclkpohehgaaDoor
namespace Go.Proofs.YtpbeclkpohehgaaDoor
open Go Go.DL
set_option maxRecDepth 100000
set_option maxHeartbeats 4000000

theorem eA_bd {l : Li} (g : Good l) {o : List Int} {n : Nat} (ho : ∀ i, i < n → 0 ≤ o.getD i 0 ∧ o.getD i 0 < l.ls.length) : ∀ i, i ≤ n → ∀ x ∈ eA l o i, 0 ≤ x.hi ∧ x.hi ≤ 100000 + 10000 * (i : Int)
  | 0, _, x, hx => by
    rw [eA] at hx
    obtain ⟨_, rfl⟩ := List.mem_replicate.1 hx
    exact ⟨by decide, by decide⟩
  | i + 1, hi, x, hx => by
    rw [eA] at hx
    have h0 := nw_bd g ho (i + 1) hi
    rcases List.mem_or_eq_of_mem_set hx with h | rfl
    · have := eA_bd g ho i (by omega) x h
      omega
    · dsimp only
      omega
/-- A kind's steps: bounds, and both columns rise. -/
theorem Good.st {l : Li} (g : Good l) {t : Nat} {k : List St} (ht : l.ks[t]? = some k) {i : Nat} {x : St} (hx : k[i]? = some x) : 0 ≤ x.a ∧ x.a ≤ 100000 ∧ 1 ≤ x.s ∧ x.s ≤ 1000000 ∧ prA k i < x.a ∧ prS k i < x.s := by
  have hks := g.kinds
  unfold kindsE at hks
  by_cases h6 : 6 < l.ks.length
  · rw [if_pos h6] at hks; simp at hks
  rw [if_neg h6] at hks
  have h1 := firstN_0 hks t (lt_of ht)
  rw [getD_of ht] at h1
  unfold chkD at h1
  by_cases h8 : 8 < k.length
  · rw [if_pos h8] at h1; simp at h1
  rw [if_neg h8] at h1
  have h2 := firstN_0 h1 i (lt_of hx)
  rcases kErr_of hx with ⟨b1, b2, c1, c2, _⟩ | ⟨_, _, _, _, e⟩ | ⟨_, _, _, e⟩ | ⟨_, _, e⟩ | ⟨_, e⟩
  · have b1 := btwF.1 b1
    have b2 := btwF.1 b2
    have c1 := of_eq_false c1
    have c2 := of_eq_false c2
    omega
  all_goals (rw [e] at h2; simp at h2)
theorem Good.rise {l : Li} (g : Good l) {t : Nat} {k : List St} (ht : l.ks[t]? = some k) : ∀ {j i : Nat} {x y : St}, k[i]? = some x → k[i + j + 1]? = some y → x.a < y.a ∧ x.s < y.s
  | 0, i, x, y, hx, hy => by
    have h := (g.st ht hy).2.2.2.2
    have p := pr_up hx
    rw [Nat.add_zero] at h
    rw [p.1, p.2] at h
    exact h
  | j + 1, i, x, y, hx, hy => by
    obtain ⟨z, hz⟩ := at_ix (l := k) (i := i + j + 1) (by have := lt_of hy; omega)
    have h1 := g.rise ht (j := j) hx hz
    have h := (g.st ht hy).2.2.2.2
    have p := pr_up hz
    have e : i + (j + 1) = i + j + 1 := by omega
    rw [e, p.1, p.2] at h
    omega
def mnI (a b : Int) : Int := if b < a then b else a
/-- The least slack of the first i loads: what 'Delay' returns. -/
def dlN (l : Li) (es : List Sp) (b : Int) : Nat → Int
  | 0 => 1125899906842624
  | i + 1 => let x := l.ls.getD i ⟨0, 0, 0, 0, 0⟩; let j := firstN (fsF b (knAt l x)) (knAt l x).length - 1
    if 0 ≤ j then mnI (dlN l es b i) (((knAt l x).getD j.toNat ⟨0, 0⟩).a - 1 - x.ah - (es.getD i ⟨0, 0⟩).hi) else dlN l es b i
/-- The error of 'Delay'. -/
def dlE (l : Li) (o : List Int) (b : Int) : Int := if runE l o = 0 then if btw 0 b 1000000 then if hiB b (sA l o o.length) then 10 else 0 else 2 else runE l o
def dlR (l : Li) (o : List Int) (b : Int) : Option (AV × XH) := if dlE l o b = 0 then some (.tup [I (dlN l (eA l o o.length) b l.ls.length), I 0], []) else some (.tup [I 0, I (dlE l o b)], [])
end Go.Proofs.YtpbeclkpohehgaaDoor
namespace Go.Proofs.YtpbeclkpohehgaaDoor
open Go Go.DL
set_option maxRecDepth 100000
set_option maxHeartbeats 4000000

abbrev hD (l : Li) (b : Int) : XH := [some (.blk true (.cells true l.c)), some (.blk true (.cells true [I b]))]
abbrev ldR (l : Li) : AV := .fs (l.ls.map Ld.row)
theorem round37 {l : Li} (g : Good l) {es : List Sp} (hl : es.length = l.ls.length) (he : ∀ x ∈ es, 0 ≤ x.hi ∧ x.hi ≤ 1000000) (b : Int) {i : Nat} (hi : i < l.ls.length) :
    headX 0 [3, 5, 8, 11, 36, 37, 38] (execW progX 37 0 none (match x37l0 with | .loop _ a => a | c => c) (envL [3, 5, 8, 11, 36, 37, 38] [.pt 0 0, .pt 1 0, sR es, I (dlN l es b i), ldR l, I l.ls.length, I (i : Nat)]) (hD l b)) =
      some ([.pt 0 0, .pt 1 0, sR es, I (dlN l es b (i + 1)), ldR l, I l.ls.length, I (i + 1 : Nat)], hD l b) := by
  have hfew := g.few
  obtain ⟨x, k, h1, h2, h3, h4, h5, h6, h7, h8⟩ := g.ld (v := (i : Int)) (by omega)
  rw [Int.toNat_natCast] at h1
  obtain ⟨e, hE⟩ := at_ix (l := es) (i := i) (by omega)
  have hb := he e (List.mem_of_getElem? hE)
  have a1 := lt_ix hi
  have a3 := lt_ix (l := es) (i := i) (by omega)
  have a2 := up_ix hi (by omega)
  have c3 : (0 ≤ x.k) = True := eq_true (by omega)
  have c4 : (x.k < (l.ks.length : Int)) = True := eq_true (by omega)
  have w := w90 b k (by omega)
  rw [dlN, getD_of h1, h5, getD_of hE]
  obtain ⟨m, m1, m2, m3⟩ := firstN_ix (fsF b k) k.length
  generalize dlN l es b i = d at *
  unfold x37l0
  dsimp only
  rcases m3 with ⟨_, z⟩ | ⟨m3, m4, z⟩
  · rw [z] at w ⊢
    rw [if_neg (by omega)]
    have w : runW progX 90 [rS k, .fn (.func 91) [] [.pt 0 0]] [some (.blk true (.cells true [I b]))] = some (I (-1), [some (.blk true (.cells true [I b]))]) := w
    (sym => (simp [z00,z01,z02,z05,z06,z07,z08,z09,z0b,z0c,z0n,z0o,z0p,z0v,z12,z15,z1g,z1j,z1k,z1l,z1m,z1n,z1o,z1r,z1u,z20,z21,z29,z2a,z2g,z2h,z2j,z2k,z2v,z2y,z33,z34,z43,z4l,z4q,z4t,z4y,z54,z66,z6b,z6e,z6j,z6u,z7w,z8d,z9d,z9e,z9g,z9i,z9j,z9k,z9l,z9m,z9p,z9r,z9s,z9t,z9v,z9w,z9y,za0,za1,za2,za3,za5,za6,za7,za8,za9,zaa,zab,zac,zae,zaf,zal,zaq,zas,zat,zau,zba,zbc,zbd,zbe,zca,zcc,zcd,zce,zcf,zcg,zcn,zco,zcp,zcq,zcr,zct,zcu,zcv,zcw,zcx,zcy,zd3,zdd,zdj,zdk,zdl,zdo,zds,zdt,zdu,zdv,zdw,zdx,ze9,zf6,zf7,zf8,zf9,zfa,zfb,zfc,zfd,zfm,zfo,zfq,zfs,zft,zfw,zfz,zg0,zg1,zhf,zje,zkn,zko,zkq, a1, a2, h1, h4, c3, c4, w]; all_goals tactic => exact rfl))
  · obtain ⟨y, hy⟩ := at_ix m3
    have hs := g.st h4 hy
    have q : firstN (fsF b k) k.length - 1 = (m : Int) := by
      rw [z] at *
      unfold fsF at m4 ⊢
      by_cases q : (k.getD m ⟨0, 0⟩).s > b
      · rw [if_pos q]; omega
      · rw [if_neg q] at m4; exact absurd rfl m4
    rw [q] at w ⊢
    rw [if_pos (by omega), Int.toNat_natCast, getD_of hy]
    unfold mnI
    have b1 := lt_ix m3
    have u1 : ((m : Int) ≥ 0) = True := eq_true (by omega)
    have q1 : IntKind.i64.wrap (y.a - 1) = y.a - 1 := wrap_ok (by omega) (by omega)
    have q2 : IntKind.i64.wrap (y.a - 1 - x.ah) = y.a - 1 - x.ah := wrap_ok (by omega) (by omega)
    have q3 : IntKind.i64.wrap (y.a - 1 - x.ah - e.hi) = y.a - 1 - x.ah - e.hi := wrap_ok (by omega) (by omega)
    (sym => (simp [z00,z01,z02,z05,z06,z07,z08,z09,z0b,z0c,z0n,z0o,z0p,z0v,z12,z15,z1g,z1j,z1k,z1l,z1m,z1n,z1o,z1r,z1u,z20,z21,z29,z2a,z2g,z2h,z2j,z2k,z2v,z2y,z33,z34,z43,z4l,z4q,z4t,z4y,z54,z66,z6b,z6e,z6j,z6u,z7w,z8d,z9d,z9e,z9g,z9i,z9j,z9k,z9l,z9m,z9p,z9r,z9s,z9t,z9v,z9w,z9y,za0,za1,za2,za3,za5,za6,za7,za8,za9,zaa,zab,zac,zae,zaf,zal,zaq,zas,zat,zau,zba,zbc,zbd,zbe,zca,zcc,zcd,zce,zcf,zcg,zcn,zco,zcp,zcq,zcr,zct,zcu,zcv,zcw,zcx,zcy,zd3,zdd,zdj,zdk,zdl,zdo,zds,zdt,zdu,zdv,zdw,zdx,ze9,zf6,zf7,zf8,zf9,zfa,zfb,zfc,zfd,zfm,zfo,zfq,zfs,zft,zfw,zfz,zg0,zg1,zhf,zje,zkn,zko,zkq, a1, a2, a3, h1, h4, hE, hy, b1, u1, c3, c4, w, q1, q2, q3]; all_goals tactic => exact rfl))
end Go.Proofs.YtpbeclkpohehgaaDoor
namespace Go.Proofs.YtpbeclkpohehgaaDoor
open Go Go.DL
set_option maxRecDepth 100000
set_option maxHeartbeats 4000000

theorem w37 (l : Li) (hf : l.Fit) (o : List Int) (b : Int) : runW progX 37 [.agg l.c, rI o, I b] [] = dlR l o b := by
  have e17 := w17 l hf o
  have e58 := w58 0 b 1000000
  unfold runR at e17
  unfold dlR dlE
  by_cases hr : runE l o = 0
  · rw [if_pos hr]
    rw [if_pos hr] at e17
    obtain ⟨g, hlen, hord⟩ := runE_len hr
    have ho := (ord_of hord).2.2
    have hfew := g.few
    have hel := eA_len l o o.length
    have hsl := sA_len l o o.length
    have hbd : ∀ x ∈ eA l o o.length, 0 ≤ x.hi ∧ x.hi ≤ 1000000 := fun x hx => by
      have := eA_bd (n := l.ls.length) g ho o.length (by omega) x hx
      omega
    generalize eA l o o.length = es at *
    generalize sA l o o.length = ss at *
    have e88 := w88 b ss (by omega)
    cases hb : btw 0 b 1000000
    · rw [hb] at e58
      rw [r37 (by simp)]; unfold x37; dsimp only
      (sym => (simp [z00,z01,z05,z06,z07,z09,z0b,z0c,z0f,z0n,z0p,z0r,z0v,z0z,z12,z1e,z1f,z1j,z1r,z1u,z20,z21,z26,z29,z2b,z2i,z2u,z2v,z3h,z4l,z4o,z4p,z4q,z4t,z4y,z54,z57,z59,z66,z67,z69,z6a,z6b,z6e,z6j,z6p,z6t,z6u,z7r,z7u,z7v,z7w,z8a,z8d,z9d,z9e,z9g,z9i,z9j,z9k,z9l,z9m,z9n,z9p,z9r,z9s,z9t,z9v,z9w,z9y,za0,za1,za2,za3,za5,za6,za7,za8,za9,zaa,zab,zac,zae,zaf,zal,zaq,zas,zat,zau,zba,zbc,zbd,zbe,zbf,zbg,zbk,zbt,zbu,zbw,zbx,zby,zbz,zc2,zc3,zc4,zc5,zc6,zc8,zca,zcc,zcd,zce,zcf,zcg,zch,zcj,zcn,zco,zcp,zcq,zcr,zct,zcu,zcv,zcw,zcy,zd3,zd6,zd7,zdj,zdk,zdl,zdo,zds,zdt,zdu,zdv,zdw,zdx,zdy,zdz,ze2,ze3,zeo,zep,zf5,zf6,zf7,zfa,zfb,zfg,zfm,zfo,zfp,zfq,zfr,zfs,zft,zfu,zfv,zfw,zfx,zfy,zfz,zg0,zg1,zhf,zje,zkn,zko,zkp,zkq, e17, e58]; all_goals tactic => exact rfl))
    · rw [hb] at e58
      cases hh : hiB b ss
      · rw [hh] at e88
        have z := zf5 (n := (l.ls.length : Int))
        have d0 : dlN l es b 0 = 1125899906842624 := rfl
        rw [r37 (by simp)]; unfold x37; dsimp only
        sym =>
          simp [z00,z01,z05,z06,z07,z09,z0b,z0c,z0f,z0n,z0p,z0r,z0v,z0z,z12,z1e,z1f,z1j,z1r,z1u,z20,z21,z26,z29,z2b,z2i,z2u,z2v,z3h,z4l,z4o,z4p,z4q,z4t,z4y,z54,z57,z59,z66,z67,z69,z6a,z6b,z6e,z6j,z6p,z6t,z6u,z7r,z7u,z7v,z7w,z8a,z8d,z9d,z9e,z9g,z9i,z9j,z9k,z9l,z9m,z9n,z9p,z9r,z9s,z9t,z9v,z9w,z9y,za0,za1,za2,za3,za5,za6,za7,za8,za9,zaa,zab,zac,zae,zaf,zal,zaq,zas,zat,zau,zba,zbc,zbd,zbe,zbf,zbg,zbk,zbt,zbu,zbw,zbx,zby,zbz,zc2,zc3,zc4,zc5,zc6,zc8,zca,zcc,zcd,zce,zcf,zcg,zch,zcj,zcn,zco,zcp,zcq,zcr,zct,zcu,zcv,zcw,zcy,zd3,zd6,zd7,zdj,zdk,zdl,zdo,zds,zdt,zdu,zdv,zdw,zdx,zdy,zdz,ze2,ze3,zeo,zep,zf5,zf6,zf7,zfa,zfb,zfg,zfm,zfo,zfp,zfq,zfr,zfs,zft,zfu,zfv,zfw,zfx,zfy,zfz,zg0,zg1,zhf,zje,zkn,zko,zkp,zkq, e17, e58, e88]
          tactic =>
            unfold x37l0
            rw [loop_rule l.ls.length (fun i => [.pt 0 0, .pt 1 0, sR es, I (dlN l es b i), ldR l, I l.ls.length, I (i : Nat)]) (fun _ => hD l b)]
            · (sym => (simp [z00,z01,z05,z06,z07,z09,z0b,z0c,z0f,z0n,z0p,z0r,z0v,z0z,z12,z1e,z1f,z1j,z1r,z1u,z20,z21,z26,z29,z2b,z2i,z2u,z2v,z3h,z4l,z4o,z4p,z4q,z4t,z4y,z54,z57,z59,z66,z67,z69,z6a,z6b,z6e,z6j,z6p,z6t,z6u,z7r,z7u,z7v,z7w,z8a,z8d,z9d,z9e,z9g,z9i,z9j,z9k,z9l,z9m,z9n,z9p,z9r,z9s,z9t,z9v,z9w,z9y,za0,za1,za2,za3,za5,za6,za7,za8,za9,zaa,zab,zac,zae,zaf,zal,zaq,zas,zat,zau,zba,zbc,zbd,zbe,zbf,zbg,zbk,zbt,zbu,zbw,zbx,zby,zbz,zc2,zc3,zc4,zc5,zc6,zc8,zca,zcc,zcd,zce,zcf,zcg,zch,zcj,zcn,zco,zcp,zcq,zcr,zct,zcu,zcv,zcw,zcy,zd3,zd6,zd7,zdj,zdk,zdl,zdo,zds,zdt,zdu,zdv,zdw,zdx,zdy,zdz,ze2,ze3,zeo,zep,zf5,zf6,zf7,zfa,zfb,zfg,zfm,zfo,zfp,zfq,zfr,zfs,zft,zfu,zfv,zfw,zfx,zfy,zfz,zg0,zg1,zhf,zje,zkn,zko,zkp,zkq, z]; all_goals tactic => exact rfl))
            · (sym => (simp [z00,z01,z05,z06,z07,z09,z0b,z0c,z0f,z0n,z0p,z0r,z0v,z0z,z12,z1e,z1f,z1j,z1r,z1u,z20,z21,z26,z29,z2b,z2i,z2u,z2v,z3h,z4l,z4o,z4p,z4q,z4t,z4y,z54,z57,z59,z66,z67,z69,z6a,z6b,z6e,z6j,z6p,z6t,z6u,z7r,z7u,z7v,z7w,z8a,z8d,z9d,z9e,z9g,z9i,z9j,z9k,z9l,z9m,z9n,z9p,z9r,z9s,z9t,z9v,z9w,z9y,za0,za1,za2,za3,za5,za6,za7,za8,za9,zaa,zab,zac,zae,zaf,zal,zaq,zas,zat,zau,zba,zbc,zbd,zbe,zbf,zbg,zbk,zbt,zbu,zbw,zbx,zby,zbz,zc2,zc3,zc4,zc5,zc6,zc8,zca,zcc,zcd,zce,zcf,zcg,zch,zcj,zcn,zco,zcp,zcq,zcr,zct,zcu,zcv,zcw,zcy,zd3,zd6,zd7,zdj,zdk,zdl,zdo,zds,zdt,zdu,zdv,zdw,zdx,zdy,zdz,ze2,ze3,zeo,zep,zf5,zf6,zf7,zfa,zfb,zfg,zfm,zfo,zfp,zfq,zfr,zfs,zft,zfu,zfv,zfw,zfx,zfy,zfz,zg0,zg1,zhf,zje,zkn,zko,zkp,zkq, d0]; all_goals tactic => exact rfl))
            · exact fun i hi => round37 g hel hbd b hi
            · (sym => (simp [z00,z01,z05,z06,z07,z09,z0b,z0c,z0f,z0n,z0p,z0r,z0v,z0z,z12,z1e,z1f,z1j,z1r,z1u,z20,z21,z26,z29,z2b,z2i,z2u,z2v,z3h,z4l,z4o,z4p,z4q,z4t,z4y,z54,z57,z59,z66,z67,z69,z6a,z6b,z6e,z6j,z6p,z6t,z6u,z7r,z7u,z7v,z7w,z8a,z8d,z9d,z9e,z9g,z9i,z9j,z9k,z9l,z9m,z9n,z9p,z9r,z9s,z9t,z9v,z9w,z9y,za0,za1,za2,za3,za5,za6,za7,za8,za9,zaa,zab,zac,zae,zaf,zal,zaq,zas,zat,zau,zba,zbc,zbd,zbe,zbf,zbg,zbk,zbt,zbu,zbw,zbx,zby,zbz,zc2,zc3,zc4,zc5,zc6,zc8,zca,zcc,zcd,zce,zcf,zcg,zch,zcj,zcn,zco,zcp,zcq,zcr,zct,zcu,zcv,zcw,zcy,zd3,zd6,zd7,zdj,zdk,zdl,zdo,zds,zdt,zdu,zdv,zdw,zdx,zdy,zdz,ze2,ze3,zeo,zep,zf5,zf6,zf7,zfa,zfb,zfg,zfm,zfo,zfp,zfq,zfr,zfs,zft,zfu,zfv,zfw,zfx,zfy,zfz,zg0,zg1,zhf,zje,zkn,zko,zkp,zkq, z]; all_goals tactic => exact rfl))
      · rw [hh] at e88
        rw [r37 (by simp)]; unfold x37; dsimp only
        (sym => (simp [z00,z01,z05,z06,z07,z09,z0b,z0c,z0f,z0n,z0p,z0r,z0v,z0z,z12,z1e,z1f,z1j,z1r,z1u,z20,z21,z26,z29,z2b,z2i,z2u,z2v,z3h,z4l,z4o,z4p,z4q,z4t,z4y,z54,z57,z59,z66,z67,z69,z6a,z6b,z6e,z6j,z6p,z6t,z6u,z7r,z7u,z7v,z7w,z8a,z8d,z9d,z9e,z9g,z9i,z9j,z9k,z9l,z9m,z9n,z9p,z9r,z9s,z9t,z9v,z9w,z9y,za0,za1,za2,za3,za5,za6,za7,za8,za9,zaa,zab,zac,zae,zaf,zal,zaq,zas,zat,zau,zba,zbc,zbd,zbe,zbf,zbg,zbk,zbt,zbu,zbw,zbx,zby,zbz,zc2,zc3,zc4,zc5,zc6,zc8,zca,zcc,zcd,zce,zcf,zcg,zch,zcj,zcn,zco,zcp,zcq,zcr,zct,zcu,zcv,zcw,zcy,zd3,zd6,zd7,zdj,zdk,zdl,zdo,zds,zdt,zdu,zdv,zdw,zdx,zdy,zdz,ze2,ze3,zeo,zep,zf5,zf6,zf7,zfa,zfb,zfg,zfm,zfo,zfp,zfq,zfr,zfs,zft,zfu,zfv,zfw,zfx,zfy,zfz,zg0,zg1,zhf,zje,zkn,zko,zkp,zkq, e17, e58, e88]; all_goals tactic => exact rfl))
  · rw [if_neg hr]
    rw [if_neg hr] at e17
    have g := eq_false hr
    rw [r37 (by simp)]; unfold x37; dsimp only
    (sym => (simp [z00,z01,z05,z06,z07,z09,z0b,z0c,z0f,z0n,z0p,z0r,z0v,z0z,z12,z1e,z1f,z1j,z1r,z1u,z20,z21,z26,z29,z2b,z2i,z2u,z2v,z3h,z4l,z4o,z4p,z4q,z4t,z4y,z54,z57,z59,z66,z67,z69,z6a,z6b,z6e,z6j,z6p,z6t,z6u,z7r,z7u,z7v,z7w,z8a,z8d,z9d,z9e,z9g,z9i,z9j,z9k,z9l,z9m,z9n,z9p,z9r,z9s,z9t,z9v,z9w,z9y,za0,za1,za2,za3,za5,za6,za7,za8,za9,zaa,zab,zac,zae,zaf,zal,zaq,zas,zat,zau,zba,zbc,zbd,zbe,zbf,zbg,zbk,zbt,zbu,zbw,zbx,zby,zbz,zc2,zc3,zc4,zc5,zc6,zc8,zca,zcc,zcd,zce,zcf,zcg,zch,zcj,zcn,zco,zcp,zcq,zcr,zct,zcu,zcv,zcw,zcy,zd3,zd6,zd7,zdj,zdk,zdl,zdo,zds,zdt,zdu,zdv,zdw,zdx,zdy,zdz,ze2,ze3,zeo,zep,zf5,zf6,zf7,zfa,zfb,zfg,zfm,zfo,zfp,zfq,zfr,zfs,zft,zfu,zfv,zfw,zfx,zfy,zfz,zg0,zg1,zhf,zje,zkn,zko,zkp,zkq, e17, g]; all_goals tactic => exact rfl))
end Go.Proofs.YtpbeclkpohehgaaDoor
namespace Go.Proofs.YtpbeclkpohehgaaDoor
open Go Go.DL
set_option maxRecDepth 100000
set_option maxHeartbeats 4000000

/-- The reference looks at all steps that are sourer than b. -/
def drN (k : List St) (b c d : Int) : Nat → Int
  | 0 => d
  | j + 1 => if (k.getD j ⟨0, 0⟩).s > b then mnI (drN k b c d j) ((k.getD j ⟨0, 0⟩).a - 1 - c) else drN k b c d j
abbrev hR8 (l : Li) : XH := [some (.blk true (.cells true l.c))]
theorem round38i {l : Li} (g : Good l) {es : List Sp} (hl : es.length = l.ls.length) (he : ∀ x ∈ es, 0 ≤ x.hi ∧ x.hi ≤ 1000000) (b d : Int) {i : Nat} {x : Ld} (h1 : l.ls[i]? = some x) {e : Sp} (hE : es[i]? = some e) {k : List St} {t : Nat} (ht : l.ks[t]? = some k) (h6 : k.length ≤ 8) (h7 : 0 ≤ x.ah ∧ x.ah ≤ 100000) {j : Nat} (hj : j < k.length) :
    headX 0 [2, 3, 10, 13, 14, 15, 16] (execW progX 38 0 none (match x38l0 with | .loop _ a => a | c => c) (envL [2, 3, 10, 13, 14, 15, 16] [I b, .pt 0 0, sR es, I (drN k b (x.ah + e.hi) d j), I (i : Nat), rS k, I (j : Nat)]) (hR8 l)) =
      some ([I b, .pt 0 0, sR es, I (drN k b (x.ah + e.hi) d (j + 1)), I (i : Nat), rS k, I (j + 1 : Nat)], hR8 l) := by
  have hb := he e (List.mem_of_getElem? hE)
  obtain ⟨y, hy⟩ := at_ix hj
  have hs := g.st ht hy
  have a1 := lt_ix hj
  have a2 := up_ix hj (by omega)
  have a3 := lt_ix (lt_of h1)
  have a4 := lt_ix (lt_of hE)
  have q1 : IntKind.i64.wrap (y.a - 1) = y.a - 1 := wrap_ok (by omega) (by omega)
  have q2 : IntKind.i64.wrap (y.a - 1 - x.ah) = y.a - 1 - x.ah := wrap_ok (by omega) (by omega)
  have q3 : IntKind.i64.wrap (y.a - 1 - x.ah - e.hi) = y.a - 1 - (x.ah + e.hi) := by rw [wrap_ok (by omega) (by omega)]; omega
  rw [drN, getD_of hy]
  generalize drN k b (x.ah + e.hi) d j = v at *
  unfold x38l0
  dsimp only
  rcases ptf (y.s > b) with s | s
  · rw [if_pos (of_eq_true s)]
    unfold mnI
    generalize y.a - 1 - (x.ah + e.hi) = u at *
    (sym => (simp [z00,z01,z05,z07,z08,z0b,z0c,z0n,z0v,z12,z15,z1f,z1g,z1j,z1k,z1l,z1m,z29,z2a,z2b,z2g,z2h,z2j,z2k,z2v,z2x,z33,z34,z43,z4l,z4q,z4t,z66,z6b,z6e,z9d,z9e,z9g,z9p,z9r,z9v,z9w,z9y,za0,za1,za3,za6,za7,za8,za9,zae,zaf,zal,zca,zcc,zcd,zce,zcf,zcg,zcn,zco,zcq,zcr,zct,zcu,zcv,zcw,zcx,zcy,zdd,zdj,zdk,zdl,zds,zdt,zdu,zdv,zf6,zf7,zf8,zf9,zfb,zfm,zfo,zfq,zfs,zft,zfw,zfz,zg0,zg1,zhf, a1, a2, a3, a4, h1, hE, hy, s, q1, q2, q3]; all_goals tactic => exact rfl))
  · rw [if_neg (of_eq_false s)]
    (sym => (simp [z00,z01,z05,z07,z08,z0b,z0c,z0n,z0v,z12,z15,z1f,z1g,z1j,z1k,z1l,z1m,z29,z2a,z2b,z2g,z2h,z2j,z2k,z2v,z2x,z33,z34,z43,z4l,z4q,z4t,z66,z6b,z6e,z9d,z9e,z9g,z9p,z9r,z9v,z9w,z9y,za0,za1,za3,za6,za7,za8,za9,zae,zaf,zal,zca,zcc,zcd,zce,zcf,zcg,zcn,zco,zcq,zcr,zct,zcu,zcv,zcw,zcx,zcy,zdd,zdj,zdk,zdl,zds,zdt,zdu,zdv,zf6,zf7,zf8,zf9,zfb,zfm,zfo,zfq,zfs,zft,zfw,zfz,zg0,zg1,zhf, a1, a2, a3, a4, h1, hE, hy, s]; all_goals tactic => exact rfl))
end Go.Proofs.YtpbeclkpohehgaaDoor
namespace Go.Proofs.YtpbeclkpohehgaaDoor
open Go Go.DL
set_option maxRecDepth 100000
set_option maxHeartbeats 4000000

theorem dr_lo {k : List St} {b c d : Int} : ∀ n, (∀ i, i < n → fsF b k i = 0) → drN k b c d n = d
  | 0, _ => rfl
  | n + 1, h => by
    have h0 := h n (by omega)
    unfold fsF at h0
    rw [drN]
    by_cases q : (k.getD n ⟨0, 0⟩).s > b
    · rw [if_pos q] at h0; omega
    · rw [if_neg q]; exact dr_lo n fun i hi => h i (by omega)
theorem dr_hi {l : Li} (g : Good l) {t : Nat} {k : List St} (ht : l.ks[t]? = some k) {b c d : Int} {m : Nat} {x : St} (hm : k[m]? = some x) (hx : x.s > b) (h : ∀ i, i < m → fsF b k i = 0) : ∀ j, m + 1 + j ≤ k.length → drN k b c d (m + 1 + j) = mnI d (x.a - 1 - c)
  | 0, _ => by rw [Nat.add_zero, drN, getD_of hm, if_pos hx, dr_lo m h]
  | j + 1, hj => by
    obtain ⟨y, hy⟩ := at_ix (l := k) (i := m + 1 + j) (by omega)
    have r := g.rise ht (j := j) hm (by rw [show m + j + 1 = m + 1 + j by omega]; exact hy)
    have ih := dr_hi (b := b) (c := c) (d := d) g ht hm hx h j (by omega)
    rw [show m + 1 + (j + 1) = m + 1 + j + 1 by omega, drN, getD_of hy, if_pos (by omega), ih]
    unfold mnI
    by_cases q : x.a - 1 - c < d
    · rw [if_pos q, if_neg (by omega)]
    · rw [if_neg q, if_neg (by omega)]
theorem dr_eq {l : Li} (g : Good l) {t : Nat} {k : List St} (ht : l.ks[t]? = some k) {es : List Sp} {b : Int} {i : Nat} {x : Ld} (h1 : l.ls[i]? = some x) (h5 : knAt l x = k) {e : Sp} (hE : es[i]? = some e) :
    drN k b (x.ah + e.hi) (dlN l es b i) k.length = dlN l es b (i + 1) := by
  rw [dlN, getD_of h1, h5, getD_of hE]
  obtain ⟨m, m1, m2, m3⟩ := firstN_ix (fsF b k) k.length
  rcases m3 with ⟨q, z⟩ | ⟨m3, m4, z⟩
  · rw [q] at m2
    rw [dr_lo _ m2, z]
    rfl
  · obtain ⟨y, hy⟩ := at_ix m3
    have hs : y.s > b := by
      unfold fsF at m4
      rw [getD_of hy] at m4
      by_cases q : y.s > b
      · exact q
      · rw [if_neg q] at m4; exact absurd rfl m4
    have q : firstN (fsF b k) k.length - 1 = (m : Int) := by
      rw [z]
      unfold fsF
      rw [getD_of hy, if_pos hs]; omega
    have := dr_hi (b := b) (c := x.ah + e.hi) (d := dlN l es b i) g ht hy hs m2 (k.length - (m + 1)) (by omega)
    rw [show m + 1 + (k.length - (m + 1)) = k.length by omega] at this
    rw [this]
    rw [q, if_pos (by omega), Int.toNat_natCast, getD_of hy]
    congr 1; omega
theorem round38 {l : Li} (g : Good l) {es : List Sp} (hl : es.length = l.ls.length) (he : ∀ x ∈ es, 0 ≤ x.hi ∧ x.hi ≤ 1000000) (b : Int) {i : Nat} (hi : i < l.ls.length) :
    headX 0 [2, 3, 10, 13, 14] (execW progX 38 0 none (match x38l1 with | .loop _ a => a | c => c) (envL [2, 3, 10, 13, 14] [I b, .pt 0 0, sR es, I (dlN l es b i), I (i : Nat)]) (hR8 l)) =
      some ([I b, .pt 0 0, sR es, I (dlN l es b (i + 1)), I (i + 1 : Nat)], hR8 l) := by
  have hfew := g.few
  obtain ⟨x, k, h1, h2, h3, h4, h5, h6, h7, h8⟩ := g.ld (v := (i : Int)) (by omega)
  rw [Int.toNat_natCast] at h1
  obtain ⟨e, hE⟩ := at_ix (l := es) (i := i) (by omega)
  have eq := dr_eq (b := b) g h4 h1 h5 hE
  have a1 := lt_ix hi
  have a2 := up_ix hi (by omega)
  have c3 : (0 ≤ x.k) = True := eq_true (by omega)
  have c4 : (x.k < (l.ks.length : Int)) = True := eq_true (by omega)
  have z := zf5 (n := (k.length : Int))
  have d0 : drN k b (x.ah + e.hi) (dlN l es b i) 0 = dlN l es b i := rfl
  unfold x38l1
  dsimp only
  sym =>
    simp [z00,z01,z05,z07,z08,z0b,z0c,z0n,z0v,z12,z15,z1f,z1j,z1k,z1l,z1m,z29,z2a,z2b,z2g,z2h,z2j,z2v,z33,z34,z3h,z4l,z4q,z4t,z66,z6b,z6e,z9d,z9e,z9g,z9p,z9r,z9v,z9w,z9y,za0,za1,za3,za6,za7,za8,za9,zae,zaf,zal,zca,zcc,zcd,zce,zcf,zcg,zch,zcn,zco,zcq,zcr,zct,zcu,zcv,zcw,zcx,zcy,zdd,zdj,zdk,zdl,zds,zdt,zdu,zdv,zf5,zf6,zf7,zf8,zf9,zfb,zfm,zfo,zfq,zfr,zfs,zft,zfu,zfw,zfy,zfz,zg0,zg1,zhf, a1, h1, h4, c3, c4]
    tactic =>
      unfold x38l0
      rw [loop_rule k.length (fun j => [I b, .pt 0 0, sR es, I (drN k b (x.ah + e.hi) (dlN l es b i) j), I (i : Nat), rS k, I (j : Nat)]) (fun _ => hR8 l)]
      · rw [eq]; (sym => (simp [z00,z01,z05,z07,z08,z0b,z0c,z0n,z0v,z12,z15,z1f,z1j,z1k,z1l,z1m,z29,z2a,z2b,z2g,z2h,z2j,z2v,z33,z34,z3h,z4l,z4q,z4t,z66,z6b,z6e,z9d,z9e,z9g,z9p,z9r,z9v,z9w,z9y,za0,za1,za3,za6,za7,za8,za9,zae,zaf,zal,zca,zcc,zcd,zce,zcf,zcg,zch,zcn,zco,zcq,zcr,zct,zcu,zcv,zcw,zcx,zcy,zdd,zdj,zdk,zdl,zds,zdt,zdu,zdv,zf5,zf6,zf7,zf8,zf9,zfb,zfm,zfo,zfq,zfr,zfs,zft,zfu,zfw,zfy,zfz,zg0,zg1,zhf, z, a2]; all_goals tactic => exact rfl))
      · (sym => (simp [z00,z01,z05,z07,z08,z0b,z0c,z0n,z0v,z12,z15,z1f,z1j,z1k,z1l,z1m,z29,z2a,z2b,z2g,z2h,z2j,z2v,z33,z34,z3h,z4l,z4q,z4t,z66,z6b,z6e,z9d,z9e,z9g,z9p,z9r,z9v,z9w,z9y,za0,za1,za3,za6,za7,za8,za9,zae,zaf,zal,zca,zcc,zcd,zce,zcf,zcg,zch,zcn,zco,zcq,zcr,zct,zcu,zcv,zcw,zcx,zcy,zdd,zdj,zdk,zdl,zds,zdt,zdu,zdv,zf5,zf6,zf7,zf8,zf9,zfb,zfm,zfo,zfq,zfr,zfs,zft,zfu,zfw,zfy,zfz,zg0,zg1,zhf, d0]; all_goals tactic => exact rfl))
      · exact fun j hj => round38i g hl he b _ h1 hE h4 h6 (by omega) hj
      · (sym => (simp [z00,z01,z05,z07,z08,z0b,z0c,z0n,z0v,z12,z15,z1f,z1j,z1k,z1l,z1m,z29,z2a,z2b,z2g,z2h,z2j,z2v,z33,z34,z3h,z4l,z4q,z4t,z66,z6b,z6e,z9d,z9e,z9g,z9p,z9r,z9v,z9w,z9y,za0,za1,za3,za6,za7,za8,za9,zae,zaf,zal,zca,zcc,zcd,zce,zcf,zcg,zch,zcn,zco,zcq,zcr,zct,zcu,zcv,zcw,zcx,zcy,zdd,zdj,zdk,zdl,zds,zdt,zdu,zdv,zf5,zf6,zf7,zf8,zf9,zfb,zfm,zfo,zfq,zfr,zfs,zft,zfu,zfw,zfy,zfz,zg0,zg1,zhf, z]; all_goals tactic => exact rfl))
theorem ws_hi {b : Int} (hb : 0 ≤ b) (s : List Sp) : ∀ n, (wsN s n > b ↔ ∃ i, i < n ∧ (s.getD i ⟨0, 0⟩).hi > b)
  | 0 => ⟨fun h => by rw [wsN] at h; omega, fun ⟨_, h, _⟩ => by omega⟩
  | n + 1 => by
    have ih := ws_hi hb s n
    rw [wsN]
    unfold mxI
    constructor
    · intro h
      by_cases q : (s.getD n ⟨0, 0⟩).hi > wsN s n
      · rw [if_pos q] at h; exact ⟨n, by omega, h⟩
      · rw [if_neg q] at h
        obtain ⟨i, h1, h2⟩ := ih.1 h
        exact ⟨i, by omega, h2⟩
    · rintro ⟨i, h1, h2⟩
      by_cases q : (s.getD n ⟨0, 0⟩).hi > wsN s n
      · rw [if_pos q]
        by_cases hin : i = n
        · rw [← hin]; exact h2
        · have := ih.2 ⟨i, by omega, h2⟩; omega
      · rw [if_neg q]
        by_cases hin : i = n
        · rw [hin] at h2; omega
        · exact ih.2 ⟨i, by omega, h2⟩
theorem hi_ws {b : Int} (hb : 0 ≤ b) (s : List Sp) : hiB b s = decide (wsN s s.length > b) := by
  unfold hiB
  obtain ⟨m, m1, m2, m3⟩ := firstN_ix (fhF b s) s.length
  have q : ∀ i, fhF b s i = 0 ↔ ¬ (s.getD i ⟨0, 0⟩).hi > b := by
    intro i
    unfold fhF
    by_cases q : (s.getD i ⟨0, 0⟩).hi > b
    · rw [if_pos q]; exact ⟨fun h => by omega, fun h => absurd q h⟩
    · rw [if_neg q]; exact ⟨fun _ => q, fun _ => rfl⟩
  rcases m3 with ⟨h, z⟩ | ⟨m3, m4, z⟩
  · rw [z]
    have : ¬ wsN s s.length > b := fun hc => by
      obtain ⟨i, h1, h2⟩ := (ws_hi hb s _).1 hc
      exact (q i).1 (m2 i (by omega)) h2
    rw [decide_eq_false this]; rfl
  · have h1 : (s.getD m ⟨0, 0⟩).hi > b := by
      by_cases h : (s.getD m ⟨0, 0⟩).hi > b
      · exact h
      · exact absurd ((q m).2 h) m4
    rw [z, decide_eq_true ((ws_hi hb s _).2 ⟨m, m3, h1⟩)]
    unfold fhF
    rw [if_pos h1]
    exact decide_eq_true (by omega)
theorem w38 (l : Li) (hf : l.Fit) (o : List Int) (b : Int) : runW progX 38 [.agg l.c, rI o, I b] [] = dlR l o b := by
  have e18 := w18 l hf o
  have e20 := w20 l hf o
  have e62 := w62 0 b 1000000
  unfold runR at e18
  unfold worR worst at e20
  unfold dlR dlE
  by_cases hr : runE l o = 0
  · rw [if_pos hr]
    rw [if_pos hr] at e18 e20
    obtain ⟨g, hlen, hord⟩ := runE_len hr
    have ho := (ord_of hord).2.2
    have hfew := g.few
    have hel := eA_len l o o.length
    have hsl := sA_len l o o.length
    have hbd : ∀ x ∈ eA l o o.length, 0 ≤ x.hi ∧ x.hi ≤ 1000000 := fun x hx => by
      have := eA_bd (n := l.ls.length) g ho o.length (by omega) x hx
      omega
    generalize eA l o o.length = es at *
    generalize sA l o o.length = ss at *
    rw [← hsl] at e20
    cases hb : btw 0 b 1000000
    · rw [hb] at e62
      rw [r38 (by simp)]; unfold x38; dsimp only
      (sym => (simp [z00,z01,z05,z06,z07,z09,z0b,z0c,z0f,z0n,z0r,z0v,z0z,z12,z1e,z1f,z1j,z1r,z1u,z20,z21,z26,z29,z2b,z2i,z2u,z2v,z2x,z3h,z4l,z4o,z4p,z4q,z4t,z54,z57,z59,z66,z67,z69,z6a,z6b,z6e,z6p,z6t,z6u,z7r,z7u,z7v,z7w,z8d,z9d,z9e,z9g,z9j,z9k,z9l,z9m,z9n,z9p,z9r,z9v,z9w,z9y,za0,za1,za2,za3,za5,za6,za7,za8,za9,zaa,zab,zae,zaf,zal,zaq,zas,zat,zba,zbc,zbd,zbe,zbf,zbg,zbk,zbt,zbu,zbw,zbx,zby,zbz,zc2,zc3,zc4,zc5,zc6,zc8,zca,zcc,zcd,zce,zcf,zcg,zch,zcj,zcn,zco,zcq,zcr,zct,zcu,zcv,zcw,zcy,zd3,zd6,zd7,zdj,zdk,zdl,zdo,zds,zdt,zdu,zdv,zdw,zdx,zdy,zdz,ze2,ze3,zeo,zep,zf5,zf6,zf7,zfa,zfb,zfg,zfm,zfo,zfp,zfq,zfr,zfs,zft,zfu,zfv,zfy,zfz,zg0,zg1,zhf,zje,zkn,zko,zkp,zkq, e20, e62]; all_goals tactic => exact rfl))
    · rw [hb] at e62
      have hb0 := (btwF.1 hb).1
      rw [hi_ws hb0]
      generalize wsN ss ss.length = w at *
      rcases ptf (w > b) with q | q
      · rw [decide_eq_true (of_eq_true q)]
        rw [r38 (by simp)]; unfold x38; dsimp only
        (sym => (simp [z00,z01,z05,z06,z07,z09,z0b,z0c,z0f,z0n,z0r,z0v,z0z,z12,z1e,z1f,z1j,z1r,z1u,z20,z21,z26,z29,z2b,z2i,z2u,z2v,z2x,z3h,z4l,z4o,z4p,z4q,z4t,z54,z57,z59,z66,z67,z69,z6a,z6b,z6e,z6p,z6t,z6u,z7r,z7u,z7v,z7w,z8d,z9d,z9e,z9g,z9j,z9k,z9l,z9m,z9n,z9p,z9r,z9v,z9w,z9y,za0,za1,za2,za3,za5,za6,za7,za8,za9,zaa,zab,zae,zaf,zal,zaq,zas,zat,zba,zbc,zbd,zbe,zbf,zbg,zbk,zbt,zbu,zbw,zbx,zby,zbz,zc2,zc3,zc4,zc5,zc6,zc8,zca,zcc,zcd,zce,zcf,zcg,zch,zcj,zcn,zco,zcq,zcr,zct,zcu,zcv,zcw,zcy,zd3,zd6,zd7,zdj,zdk,zdl,zdo,zds,zdt,zdu,zdv,zdw,zdx,zdy,zdz,ze2,ze3,zeo,zep,zf5,zf6,zf7,zfa,zfb,zfg,zfm,zfo,zfp,zfq,zfr,zfs,zft,zfu,zfv,zfy,zfz,zg0,zg1,zhf,zje,zkn,zko,zkp,zkq, e20, e62, q]; all_goals tactic => exact rfl))
      · rw [decide_eq_false (of_eq_false q)]
        have z := zf5 (n := (l.ls.length : Int))
        have d0 : dlN l es b 0 = 1125899906842624 := rfl
        rw [r38 (by simp)]; unfold x38; dsimp only
        sym =>
          simp [z00,z01,z05,z06,z07,z09,z0b,z0c,z0f,z0n,z0r,z0v,z0z,z12,z1e,z1f,z1j,z1r,z1u,z20,z21,z26,z29,z2b,z2i,z2u,z2v,z2x,z3h,z4l,z4o,z4p,z4q,z4t,z54,z57,z59,z66,z67,z69,z6a,z6b,z6e,z6p,z6t,z6u,z7r,z7u,z7v,z7w,z8d,z9d,z9e,z9g,z9j,z9k,z9l,z9m,z9n,z9p,z9r,z9v,z9w,z9y,za0,za1,za2,za3,za5,za6,za7,za8,za9,zaa,zab,zae,zaf,zal,zaq,zas,zat,zba,zbc,zbd,zbe,zbf,zbg,zbk,zbt,zbu,zbw,zbx,zby,zbz,zc2,zc3,zc4,zc5,zc6,zc8,zca,zcc,zcd,zce,zcf,zcg,zch,zcj,zcn,zco,zcq,zcr,zct,zcu,zcv,zcw,zcy,zd3,zd6,zd7,zdj,zdk,zdl,zdo,zds,zdt,zdu,zdv,zdw,zdx,zdy,zdz,ze2,ze3,zeo,zep,zf5,zf6,zf7,zfa,zfb,zfg,zfm,zfo,zfp,zfq,zfr,zfs,zft,zfu,zfv,zfy,zfz,zg0,zg1,zhf,zje,zkn,zko,zkp,zkq, e20, e62, e18, q]
          tactic =>
            unfold x38l1
            rw [loop_rule l.ls.length (fun i => [I b, .pt 0 0, sR es, I (dlN l es b i), I (i : Nat)]) (fun _ => hR8 l)]
            · (sym => (simp [z00,z01,z05,z06,z07,z09,z0b,z0c,z0f,z0n,z0r,z0v,z0z,z12,z1e,z1f,z1j,z1r,z1u,z20,z21,z26,z29,z2b,z2i,z2u,z2v,z2x,z3h,z4l,z4o,z4p,z4q,z4t,z54,z57,z59,z66,z67,z69,z6a,z6b,z6e,z6p,z6t,z6u,z7r,z7u,z7v,z7w,z8d,z9d,z9e,z9g,z9j,z9k,z9l,z9m,z9n,z9p,z9r,z9v,z9w,z9y,za0,za1,za2,za3,za5,za6,za7,za8,za9,zaa,zab,zae,zaf,zal,zaq,zas,zat,zba,zbc,zbd,zbe,zbf,zbg,zbk,zbt,zbu,zbw,zbx,zby,zbz,zc2,zc3,zc4,zc5,zc6,zc8,zca,zcc,zcd,zce,zcf,zcg,zch,zcj,zcn,zco,zcq,zcr,zct,zcu,zcv,zcw,zcy,zd3,zd6,zd7,zdj,zdk,zdl,zdo,zds,zdt,zdu,zdv,zdw,zdx,zdy,zdz,ze2,ze3,zeo,zep,zf5,zf6,zf7,zfa,zfb,zfg,zfm,zfo,zfp,zfq,zfr,zfs,zft,zfu,zfv,zfy,zfz,zg0,zg1,zhf,zje,zkn,zko,zkp,zkq, z]; all_goals tactic => exact rfl))
            · (sym => (simp [z00,z01,z05,z06,z07,z09,z0b,z0c,z0f,z0n,z0r,z0v,z0z,z12,z1e,z1f,z1j,z1r,z1u,z20,z21,z26,z29,z2b,z2i,z2u,z2v,z2x,z3h,z4l,z4o,z4p,z4q,z4t,z54,z57,z59,z66,z67,z69,z6a,z6b,z6e,z6p,z6t,z6u,z7r,z7u,z7v,z7w,z8d,z9d,z9e,z9g,z9j,z9k,z9l,z9m,z9n,z9p,z9r,z9v,z9w,z9y,za0,za1,za2,za3,za5,za6,za7,za8,za9,zaa,zab,zae,zaf,zal,zaq,zas,zat,zba,zbc,zbd,zbe,zbf,zbg,zbk,zbt,zbu,zbw,zbx,zby,zbz,zc2,zc3,zc4,zc5,zc6,zc8,zca,zcc,zcd,zce,zcf,zcg,zch,zcj,zcn,zco,zcq,zcr,zct,zcu,zcv,zcw,zcy,zd3,zd6,zd7,zdj,zdk,zdl,zdo,zds,zdt,zdu,zdv,zdw,zdx,zdy,zdz,ze2,ze3,zeo,zep,zf5,zf6,zf7,zfa,zfb,zfg,zfm,zfo,zfp,zfq,zfr,zfs,zft,zfu,zfv,zfy,zfz,zg0,zg1,zhf,zje,zkn,zko,zkp,zkq, d0]; all_goals tactic => exact rfl))
            · exact fun i hi => round38 g hel hbd b hi
            · (sym => (simp [z00,z01,z05,z06,z07,z09,z0b,z0c,z0f,z0n,z0r,z0v,z0z,z12,z1e,z1f,z1j,z1r,z1u,z20,z21,z26,z29,z2b,z2i,z2u,z2v,z2x,z3h,z4l,z4o,z4p,z4q,z4t,z54,z57,z59,z66,z67,z69,z6a,z6b,z6e,z6p,z6t,z6u,z7r,z7u,z7v,z7w,z8d,z9d,z9e,z9g,z9j,z9k,z9l,z9m,z9n,z9p,z9r,z9v,z9w,z9y,za0,za1,za2,za3,za5,za6,za7,za8,za9,zaa,zab,zae,zaf,zal,zaq,zas,zat,zba,zbc,zbd,zbe,zbf,zbg,zbk,zbt,zbu,zbw,zbx,zby,zbz,zc2,zc3,zc4,zc5,zc6,zc8,zca,zcc,zcd,zce,zcf,zcg,zch,zcj,zcn,zco,zcq,zcr,zct,zcu,zcv,zcw,zcy,zd3,zd6,zd7,zdj,zdk,zdl,zdo,zds,zdt,zdu,zdv,zdw,zdx,zdy,zdz,ze2,ze3,zeo,zep,zf5,zf6,zf7,zfa,zfb,zfg,zfm,zfo,zfp,zfq,zfr,zfs,zft,zfu,zfv,zfy,zfz,zg0,zg1,zhf,zje,zkn,zko,zkp,zkq, z]; all_goals tactic => exact rfl))
  · rw [if_neg hr]
    rw [if_neg hr] at e20
    have g := eq_false hr
    rw [r38 (by simp)]; unfold x38; dsimp only
    (sym => (simp [z00,z01,z05,z06,z07,z09,z0b,z0c,z0f,z0n,z0r,z0v,z0z,z12,z1e,z1f,z1j,z1r,z1u,z20,z21,z26,z29,z2b,z2i,z2u,z2v,z2x,z3h,z4l,z4o,z4p,z4q,z4t,z54,z57,z59,z66,z67,z69,z6a,z6b,z6e,z6p,z6t,z6u,z7r,z7u,z7v,z7w,z8d,z9d,z9e,z9g,z9j,z9k,z9l,z9m,z9n,z9p,z9r,z9v,z9w,z9y,za0,za1,za2,za3,za5,za6,za7,za8,za9,zaa,zab,zae,zaf,zal,zaq,zas,zat,zba,zbc,zbd,zbe,zbf,zbg,zbk,zbt,zbu,zbw,zbx,zby,zbz,zc2,zc3,zc4,zc5,zc6,zc8,zca,zcc,zcd,zce,zcf,zcg,zch,zcj,zcn,zco,zcq,zcr,zct,zcu,zcv,zcw,zcy,zd3,zd6,zd7,zdj,zdk,zdl,zdo,zds,zdt,zdu,zdv,zdw,zdx,zdy,zdz,ze2,ze3,zeo,zep,zf5,zf6,zf7,zfa,zfb,zfg,zfm,zfo,zfp,zfq,zfr,zfs,zft,zfu,zfv,zfy,zfz,zg0,zg1,zhf,zje,zkn,zko,zkp,zkq, e20, g]; all_goals tactic => exact rfl))
theorem w7 (l : Li) (hf : l.Fit2) (o : List Int) (b : Int) : runW progX 7 [.agg l.c, rI o, I b] [] = some (.bool true, []) := by
  have e14 := w14 l hf
  cases hl : largeB l
  · rw [hl] at e14
    have hs := small_of hl
    by_cases ho : 30 < o.length
    · have g : ((30 : Int) < (o.length : Int)) = True := eq_true (by omega)
      rw [r7 (by simp)]; unfold x7; dsimp only
      (sym => (simp [z00,z01,z05,z06,z07,z09,z0b,z0c,z0f,z0h,z0i,z0j,z0l,z0n,z0q,z0r,z0v,z1e,z1f,z1j,z1r,z1u,z20,z21,z22,z23,z2b,z2i,z2t,z2x,z4l,z4m,z4o,z4q,z54,z57,z59,z66,z67,z69,z6a,z6b,z6p,z6q,z6u,z7r,z7s,z7u,z7w,z8d,z9d,z9e,z9g,z9j,z9k,z9l,z9m,z9n,z9p,z9y,za2,za3,za5,za6,za7,za8,zaa,zab,zaq,zas,zat,zba,zbc,zbd,zbe,zbf,zbg,zbk,zbt,zbu,zbw,zbx,zby,zbz,zc0,zc3,zc4,zc5,zc6,zc8,zce,zcf,zcg,zcj,zcn,zco,zcq,zcr,zct,zcu,zcv,zcw,zd3,zdk,zdl,zdo,zds,zdt,zdu,zdv,zdw,zdx,ze2,ze3,zeo,zep,zf6,zf7,zfa,zfg,zfm,zfo,zfp,zfq,zft,zfv,zg0,zg1,zje,zkn,zko,zkp,zkq, e14, g, works_w]; all_goals tactic => exact rfl))
    · have g : ((30 : Int) < (o.length : Int)) = False := eq_false (by omega)
      have e16 := w16 hs
      have e37 := w37 l hf.fit o b
      have e38 := w38 l hf.fit o b
      unfold dlR at e37 e38
      by_cases hr : dlE l o b = 0
      · rw [if_pos hr] at e37 e38
        rw [r7 (by simp)]; unfold x7; dsimp only
        (sym => (simp [z00,z01,z05,z06,z07,z09,z0b,z0c,z0f,z0h,z0i,z0j,z0l,z0n,z0q,z0r,z0v,z1e,z1f,z1j,z1r,z1u,z20,z21,z22,z23,z2b,z2i,z2t,z2x,z4l,z4m,z4o,z4q,z54,z57,z59,z66,z67,z69,z6a,z6b,z6p,z6q,z6u,z7r,z7s,z7u,z7w,z8d,z9d,z9e,z9g,z9j,z9k,z9l,z9m,z9n,z9p,z9y,za2,za3,za5,za6,za7,za8,zaa,zab,zaq,zas,zat,zba,zbc,zbd,zbe,zbf,zbg,zbk,zbt,zbu,zbw,zbx,zby,zbz,zc0,zc3,zc4,zc5,zc6,zc8,zce,zcf,zcg,zcj,zcn,zco,zcq,zcr,zct,zcu,zcv,zcw,zd3,zdk,zdl,zdo,zds,zdt,zdu,zdv,zdw,zdx,ze2,ze3,zeo,zep,zf6,zf7,zfa,zfg,zfm,zfo,zfp,zfq,zft,zfv,zg0,zg1,zje,zkn,zko,zkp,zkq, e14, g, e16, e37, e38, works_w]; all_goals tactic => exact rfl))
      · rw [if_neg hr] at e37 e38
        rw [r7 (by simp)]; unfold x7; dsimp only
        (sym => (simp [z00,z01,z05,z06,z07,z09,z0b,z0c,z0f,z0h,z0i,z0j,z0l,z0n,z0q,z0r,z0v,z1e,z1f,z1j,z1r,z1u,z20,z21,z22,z23,z2b,z2i,z2t,z2x,z4l,z4m,z4o,z4q,z54,z57,z59,z66,z67,z69,z6a,z6b,z6p,z6q,z6u,z7r,z7s,z7u,z7w,z8d,z9d,z9e,z9g,z9j,z9k,z9l,z9m,z9n,z9p,z9y,za2,za3,za5,za6,za7,za8,zaa,zab,zaq,zas,zat,zba,zbc,zbd,zbe,zbf,zbg,zbk,zbt,zbu,zbw,zbx,zby,zbz,zc0,zc3,zc4,zc5,zc6,zc8,zce,zcf,zcg,zcj,zcn,zco,zcq,zcr,zct,zcu,zcv,zcw,zd3,zdk,zdl,zdo,zds,zdt,zdu,zdv,zdw,zdx,ze2,ze3,zeo,zep,zf6,zf7,zfa,zfg,zfm,zfo,zfp,zfq,zft,zfv,zg0,zg1,zje,zkn,zko,zkp,zkq, e14, g, e16, e37, e38, works_w]; all_goals tactic => exact rfl))
  · rw [hl] at e14
    rw [r7 (by simp)]; unfold x7; dsimp only
    (sym => (simp [z00,z01,z05,z06,z07,z09,z0b,z0c,z0f,z0h,z0i,z0j,z0l,z0n,z0q,z0r,z0v,z1e,z1f,z1j,z1r,z1u,z20,z21,z22,z23,z2b,z2i,z2t,z2x,z4l,z4m,z4o,z4q,z54,z57,z59,z66,z67,z69,z6a,z6b,z6p,z6q,z6u,z7r,z7s,z7u,z7w,z8d,z9d,z9e,z9g,z9j,z9k,z9l,z9m,z9n,z9p,z9y,za2,za3,za5,za6,za7,za8,zaa,zab,zaq,zas,zat,zba,zbc,zbd,zbe,zbf,zbg,zbk,zbt,zbu,zbw,zbx,zby,zbz,zc0,zc3,zc4,zc5,zc6,zc8,zce,zcf,zcg,zcj,zcn,zco,zcq,zcr,zct,zcu,zcv,zcw,zd3,zdk,zdl,zdo,zds,zdt,zdu,zdv,zdw,zdx,ze2,ze3,zeo,zep,zf6,zf7,zfa,zfg,zfm,zfo,zfp,zfq,zft,zfv,zg0,zg1,zje,zkn,zko,zkp,zkq, e14, works_w]; all_goals tactic => exact rfl))
end Go.Proofs.YtpbeclkpohehgaaDoor
namespace Go.Proofs.YtpbeclkpohehgaaDoor
open Go Go.DL
set_option maxRecDepth 100000
set_option maxHeartbeats 4000000

end Go.Proofs.YtpbeclkpohehgaaDoor
namespace Go.Proofs.YtpbeclkpohehgaaDoor
open Go Go.DL
set_option maxRecDepth 100000
set_option maxHeartbeats 4000000

end Go.Proofs.YtpbeclkpohehgaaDoor
