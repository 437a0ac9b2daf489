/- Parts of a proof, joined: K23 K24 K25 K26. No statement of the seed is proved here. -/
import Derived.Test.YtpbeclkpohehgaaDoorW5
set_option linter.unusedSimpArgs false
set_option linter.unusedVariables false
set_option linter.unusedSectionVars false
namespace Go.Proofs.YtpbeclkpohehgaaDoor
open Go Go.DL
set_option maxRecDepth 100000
set_option maxHeartbeats 4000000

theorem so_bd {l : Li} (g : Good l) {t : Nat} {k : List St} (ht : l.ks[t]? = some k) (m : Int) : ∀ i, i ≤ k.length → 0 ≤ soN k m i ∧ soN k m i ≤ 1000000
  | 0, _ => by rw [soN]; omega
  | i + 1, hi => by
    obtain ⟨x, hx⟩ := at_ix (l := k) (i := i) (by omega)
    have h := g.st ht hx
    have ih := so_bd g ht m i (by omega)
    rcases soN_up (m := m) hx with ⟨_, h2⟩ | ⟨_, h2⟩
    · rw [h2]; omega
    · rw [h2]; omega
/-- How sour a load of a set can become if it is the last one of it. -/
def lastF (l : Li) (a k : Nat) : Int := sourF (knAt l (ldN l k)) ((ldN l k).ah + endF l a)
theorem last_bd {l : Li} (g : Good l) {a k : Nat} (hk : k < l.ls.length) : 0 ≤ lastF l a k ∧ lastF l a k ≤ 1000000 := by
  obtain ⟨x, kd, h1, h2, h3, h4, h5, h6, h7, h8⟩ := g.ldn hk
  unfold lastF sourF
  rw [h2, h5]
  exact so_bd g h4 _ _ (Nat.le_refl _)
section
variable {l : Li} {b : Nat → Nat} {es : List (AV × AV)}
theorem w86 (g : Good l) {a : Nat} (ha : a < 2 ^ l.ls.length) {k : Nat} (hk : k < l.ls.length) : runW progX 86 [.pt 0 0, U a, I (k : Nat)] (hY l b es) = some (I (lastF l a k), hY l b es) := by
  have e := w110 (b := b) (es := es) g ha
  have bd := end_bd g ha
  obtain ⟨x, kd, h1, h2, h3, h4, h5, h6, h7, h8⟩ := g.ldn hk
  unfold lastF
  rw [h2, h5]
  have w := w54 kd (x.ah + endF l a) h6
  have c1 := lt_ix hk
  have c3 : (0 ≤ x.k) = True := eq_true (by omega)
  have c4 : (x.k < (l.ks.length : Int)) = True := eq_true (by omega)
  have q : IntKind.i64.wrap (x.ah + endF l a) = x.ah + endF l a := wrap_ok (by omega) (by omega)
  generalize endF l a = ef at *
  rw [r86 (by simp)]; unfold x86; dsimp only
  (sym => (simp [yC_nm, yC_rn, yM_s, yC_gr, yC_sl, yC_fz, yC_len, yC_0, yC_1, yC_2, yC_3, yC_4, yC_15, yC_same, z00,z01,z03,z04,z05,z06,z07,z0a,z0b,z0c,z0n,z0u,z0v,z12,z15,z1k,z1l,z1m,z1p,z1v,z1w,z20,z21,z29,z2a,z2g,z2h,z2j,z33,z34,z4j,z4l,z4q,z4t,z66,z6b,z6e,z6p,z6x,z7r,z7z,z9d,z9e,z9g,z9i,z9l,z9m,z9n,z9p,z9r,z9s,z9t,z9v,z9w,z9x,z9y,za0,za1,za2,za3,za5,za6,za7,za8,zaa,zab,zac,zae,zaf,zag,zak,zal,zam,zaq,zas,zat,zau,zav,zaw,zax,zaz,zb1,zba,zbc,zbd,zbe,zbt,zbu,zbw,zbx,zby,zbz,zc0,zc3,zc4,zc5,zc6,zc8,zcj,zcn,zco,zcp,zcq,zcr,zcs,zct,zcu,zcv,zcw,zcx,zcy,zd3,zd6,zd7,zd8,zd9,zdd,zdj,zdm,zdn,zdo,zds,zdt,zdu,zdv,ze2,ze3,zf6,zf7,zf8,zf9,zfb,zfm,zfo,zfp,zft,zg0,zg1,zje,zjl,zkn,zko,zkq, e, h1, h4, c1, c3, c4, q, w]; all_goals tactic => exact rfl))
/-! ### The loop over those that could stand behind -/
abbrev h80i (l : Li) (b : Nat → Nat) (es : List (AV × AV)) (k : Nat) (s : LSt) : XH := [some (.loop 80 1 [.pt 1 0, .pt 4 0] s), some (.blk false (.cells true [.pt 2 0])), some (.blk false (.cells true (yC l b 3))), some (.blk true (.map true es)), some (.blk true (.cells true [I (k : Nat)]))]
theorem home80i (k : Nat) (s : LSt) : Home 5 (h80i l b es k s) := by
  refine ⟨fun _ => rfl, fun _ _ => rfl, fun _ => rfl, ?_, ?_⟩
  · intro a e h0 h1
    (sym => (simp [yC_nm, yC_rn, yM_s, yC_gr, yC_sl, yC_fz, yC_len, yC_0, yC_1, yC_2, yC_3, yC_4, yC_15, yC_same, z00,z4p,z4t,z4z,z6a,z6e,z6k,z6t,z7v,z9r,z9w,z9y,za1,za3,za5,za6,za7,za8,zae,zaf,zag,zai,zak,zal,zam,zao,zba,zbw,zbx,zby,zcc,zcd,zcn,zco,zcp,zcq,zcr,zcs,zct,zdj,zdo,zds,zdt,zdu,zdv,zdy,ze2,zfz,zje, h0, h1]; all_goals tactic => exact rfl))
  · intro a
    (sym => (simp [yC_nm, yC_rn, yM_s, yC_gr, yC_sl, yC_fz, yC_len, yC_0, yC_1, yC_2, yC_3, yC_4, yC_15, yC_same, z00,z4p,z4t,z4z,z6a,z6e,z6k,z6t,z7v,z9r,z9w,z9y,za1,za3,za5,za6,za7,za8,zae,zaf,zag,zai,zak,zal,zam,zao,zba,zbw,zbx,zby,zcc,zcd,zcn,zco,zcp,zcq,zcr,zcs,zct,zdj,zdo,zds,zdt,zdu,zdv,zdy,ze2,zfz,zje]; all_goals tactic => exact rfl))
theorem y80i0 (hb : ∀ k, b k < 2 ^ 10) {j k : Nat} (hj : j < 10) (hk : k < 10) (h : (b j).testBit k = false) : Yd (h80i l b es k .ready) (h80i l b es k .ready) j true := by
  have s1 := yC_b (l := l) (b := b) (m := 3) (k := j) hj
  have c2 : ((j : Int) < 10) = True := eq_true (by omega)
  have e := w83 (a := b j) (lo_63 (hb j)) (i := (k : Int)) (j := k) rfl (by omega)
  rw [h] at e
  have y : runYW progX (.fn (.yield 0) [] []) [I (j : Nat)] (h80i l b es k .ready) = some (.bool true, h80i l b es k .ready) := by
    rw [runYW_eq (K := 80) (d := x80) (site := 1) (vs := [.pt 1 0, .pt 4 0]) rfl rfl (by rfl) rfl]
    (sym => (simp [yC_nm, yC_rn, yM_s, yC_gr, yC_sl, yC_fz, yC_len, yC_0, yC_1, yC_2, yC_3, yC_4, yC_15, yC_same, z00,z01,z04,z05,z06,z07,z0a,z0b,z0c,z0n,z0u,z12,z14,z1k,z1m,z1p,z1v,z1w,z20,z21,z29,z33,z34,z40,z4j,z4l,z4m,z4t,z4z,z66,z67,z6e,z6k,z9d,z9e,z9g,z9i,z9l,z9m,z9p,z9r,z9s,z9t,z9v,z9w,z9x,z9y,za0,za1,za2,za3,za5,za6,za7,za8,zaa,zab,zac,zae,zaf,zag,zai,zak,zal,zam,zao,zaq,zas,zat,zau,zav,zax,zaz,zba,zbc,zbd,zbf,zbg,zbk,zbv,zby,zca,zce,zcg,zcn,zco,zcp,zcq,zcr,zcs,zct,zcu,zcv,zcy,zd3,zd7,zd8,zd9,zdd,zdj,zdm,zdn,zdo,zds,zdt,zdu,zdv,zem,zen,zf6,zf7,zfb,zfo,zfq,zfs,zft,zfw,zg0,zg1,zhd,zij,zik,zil,zim,ziw,zix,ziy,ziz,zj0,zk2,zkn,zko,zkp, s1, c2, e]; all_goals tactic => exact rfl))
  intro a
  (sym => (simp [yC_nm, yC_rn, yM_s, yC_gr, yC_sl, yC_fz, yC_len, yC_0, yC_1, yC_2, yC_3, yC_4, yC_15, yC_same, z00,z01,z04,z05,z06,z07,z0a,z0b,z0c,z0n,z0u,z12,z14,z1k,z1m,z1p,z1v,z1w,z20,z21,z29,z33,z34,z40,z4j,z4l,z4m,z4t,z4z,z66,z67,z6e,z6k,z9d,z9e,z9g,z9i,z9l,z9m,z9p,z9r,z9s,z9t,z9v,z9w,z9x,z9y,za0,za1,za2,za3,za5,za6,za7,za8,zaa,zab,zac,zae,zaf,zag,zai,zak,zal,zam,zao,zaq,zas,zat,zau,zav,zax,zaz,zba,zbc,zbd,zbf,zbg,zbk,zbv,zby,zca,zce,zcg,zcn,zco,zcp,zcq,zcr,zcs,zct,zcu,zcv,zcy,zd3,zd7,zd8,zd9,zdd,zdj,zdm,zdn,zdo,zds,zdt,zdu,zdv,zem,zen,zf6,zf7,zfb,zfo,zfq,zfs,zft,zfw,zg0,zg1,zhd,zij,zik,zil,zim,ziw,zix,ziy,ziz,zj0,zk2,zkn,zko,zkp, y]; all_goals tactic => exact rfl))
theorem y80i1 (hb : ∀ k, b k < 2 ^ 10) {j k : Nat} (hj : j < 10) (hk : k < 10) (h : (b j).testBit k = true) : Yd (h80i l b es k .ready) (h80i l b es k (.done (.exit 1))) j false := by
  have s1 := yC_b (l := l) (b := b) (m := 3) (k := j) hj
  have c2 : ((j : Int) < 10) = True := eq_true (by omega)
  have e := w83 (a := b j) (lo_63 (hb j)) (i := (k : Int)) (j := k) rfl (by omega)
  rw [h] at e
  have y : runYW progX (.fn (.yield 0) [] []) [I (j : Nat)] (h80i l b es k .ready) = some (.bool false, h80i l b es k (.done (.exit 1))) := by
    rw [runYW_eq (K := 80) (d := x80) (site := 1) (vs := [.pt 1 0, .pt 4 0]) rfl rfl (by rfl) rfl]
    (sym => (simp [yC_nm, yC_rn, yM_s, yC_gr, yC_sl, yC_fz, yC_len, yC_0, yC_1, yC_2, yC_3, yC_4, yC_15, yC_same, z00,z01,z04,z05,z06,z07,z0a,z0b,z0c,z0n,z0u,z12,z14,z1k,z1m,z1p,z1v,z1w,z20,z21,z29,z33,z34,z40,z4j,z4l,z4m,z4t,z4z,z66,z67,z6e,z6k,z9d,z9e,z9g,z9i,z9l,z9m,z9p,z9r,z9s,z9t,z9v,z9w,z9x,z9y,za0,za1,za2,za3,za5,za6,za7,za8,zaa,zab,zac,zae,zaf,zag,zai,zak,zal,zam,zao,zaq,zas,zat,zau,zav,zax,zaz,zba,zbc,zbd,zbf,zbg,zbk,zbv,zby,zca,zce,zcf,zcn,zco,zcp,zcq,zcr,zcs,zct,zcu,zcv,zcy,zd3,zd7,zd8,zd9,zdd,zdj,zdm,zdn,zdo,zds,zdt,zdu,zdv,zem,zen,zf6,zf7,zfb,zfo,zfr,zfs,zft,zfy,zg0,zg1,zhd,zij,zik,zil,zim,ziw,zix,ziy,ziz,zj2,zk2,zkn,zko,zkp, s1, c2, e]; all_goals tactic => exact rfl))
  intro a
  (sym => (simp [yC_nm, yC_rn, yM_s, yC_gr, yC_sl, yC_fz, yC_len, yC_0, yC_1, yC_2, yC_3, yC_4, yC_15, yC_same, z00,z01,z04,z05,z06,z07,z0a,z0b,z0c,z0n,z0u,z12,z14,z1k,z1m,z1p,z1v,z1w,z20,z21,z29,z33,z34,z40,z4j,z4l,z4m,z4t,z4z,z66,z67,z6e,z6k,z9d,z9e,z9g,z9i,z9l,z9m,z9p,z9r,z9s,z9t,z9v,z9w,z9x,z9y,za0,za1,za2,za3,za5,za6,za7,za8,zaa,zab,zac,zae,zaf,zag,zai,zak,zal,zam,zao,zaq,zas,zat,zau,zav,zax,zaz,zba,zbc,zbd,zbf,zbg,zbk,zbv,zby,zca,zce,zcf,zcn,zco,zcp,zcq,zcr,zcs,zct,zcu,zcv,zcy,zd3,zd7,zd8,zd9,zdd,zdj,zdm,zdn,zdo,zds,zdt,zdu,zdv,zem,zen,zf6,zf7,zfb,zfo,zfr,zfs,zft,zfy,zg0,zg1,zhd,zij,zik,zil,zim,ziw,zix,ziy,ziz,zj2,zk2,zkn,zko,zkp, y]; all_goals tactic => exact rfl))
theorem in80 (hb : ∀ k, b k < 2 ^ 10) {a : Nat} (ha : a < 1024) {k : Nat} (hk : k < 10) :
    (freeB b a k = true ∧ runW progX 106 [.fn (.yield 0) [] [], .pt 5 0] [some (.loop 80 1 [.pt 1 0, .pt 4 0] .ready), some (.blk false (.cells true [.pt 2 0])), some (.blk false (.cells true (yC l b 3))), some (.blk true (.map true es)), some (.blk true (.cells true [I (k : Nat)])), cU a] =
      some (.tup [], [some (.loop 80 1 [.pt 1 0, .pt 4 0] .ready), some (.blk false (.cells true [.pt 2 0])), some (.blk false (.cells true (yC l b 3))), some (.blk true (.map true es)), some (.blk true (.cells true [I (k : Nat)])), some (.blk true (.cells true [.int .u64 0]))])) ∨
    (freeB b a k = false ∧ ∃ c : Nat, runW progX 106 [.fn (.yield 0) [] [], .pt 5 0] [some (.loop 80 1 [.pt 1 0, .pt 4 0] .ready), some (.blk false (.cells true [.pt 2 0])), some (.blk false (.cells true (yC l b 3))), some (.blk true (.map true es)), some (.blk true (.cells true [I (k : Nat)])), cU a] =
      some (.tup [], [some (.loop 80 1 [.pt 1 0, .pt 4 0] (.done (.exit 1))), some (.blk false (.cells true [.pt 2 0])), some (.blk false (.cells true (yC l b 3))), some (.blk true (.map true es)), some (.blk true (.cells true [I (k : Nat)])), cU c])) := by
  cases hf : freeB b a k with
  | true =>
    refine .inl ⟨rfl, ?_⟩
    exact each_all (n := 5) (G := fun _ => h80i l b es k .ready) ha (fun _ _ => home80i k .ready) fun i v hv => by
      have hm := List.mem_of_getElem? hv
      unfold freeB at hf
      have := List.all_eq_true.1 hf v hm
      exact y80i0 hb (el_mem.1 hm).1 hk (by simpa using this)
  | false =>
    refine .inr ⟨rfl, ?_⟩
    obtain ⟨m, m1, m2, m3⟩ := firstN_ix (fun i => if (b ((el a).getD i 0)).testBit k = true then 1 else 0) (el a).length
    have hz : ∀ i v, (el a)[i]? = some v → i < m → (b v).testBit k = false := fun i v hv hi => by
      have := m2 i hi
      rw [getD_of hv] at this
      cases hc : (b v).testBit k with
      | false => rfl
      | true => simp [hc] at this
    rcases m3 with ⟨h1, _⟩ | ⟨h1, h2, _⟩
    · obtain ⟨j, h3, h4⟩ := free_not hf
      obtain ⟨i, h5⟩ := List.getElem?_of_mem h3
      have := hz i j h5 (by have := lt_of h5; omega)
      rw [h4] at this; simp at this
    · obtain ⟨v, hv⟩ := at_ix h1
      rw [getD_of hv] at h2
      have hm := List.mem_of_getElem? hv
      exact each_left (n := 5) (G := fun _ => h80i l b es k .ready) (m := m) (v := v) ha (fun _ _ => home80i k .ready) (home80i k _) (fun i u hi hu => y80i0 hb (el_mem.1 (List.mem_of_getElem? hu)).1 hk (hz i u hu hi)) hv
        (y80i1 hb (el_mem.1 hm).1 hk (by
          cases hc : (b v).testBit k with
          | true => rfl
          | false => simp [hc] at h2))
/-! ### The loop over those that could be last -/
abbrev shS (l : Li) (b : Nat → Nat) (a : Nat) (n : Int) (k : Nat) : Int := if freeB b a k = true then mnI n (lastF l a k) else n
/-- The sourness that a set shows. -/
def shF (l : Li) (b : Nat → Nat) (a : Nat) : Int := (el a).foldl (shS l b a) 1000000
abbrev h80 (l : Li) (b : Nat → Nat) (es : List (AV × AV)) (a : Nat) (n : Int) : XH := [some (.loop 80 0 [.pt 1 0, .pt 4 0, .pt 5 0] .ready), some (.blk false (.cells true [.pt 2 0])), some (.blk false (.cells true (yC l b 3))), some (.blk true (.map true es)), cU a, some (.blk true (.cells true [I n]))]
theorem home80 (a : Nat) (n : Int) : Home 6 (h80 l b es a n) := by
  refine ⟨fun _ => rfl, fun _ _ => rfl, fun _ => rfl, ?_, ?_⟩
  · intro a e h0 h1
    (sym => (simp [yC_nm, yC_rn, yM_s, yC_gr, yC_sl, yC_fz, yC_len, yC_0, yC_1, yC_2, yC_3, yC_4, yC_15, yC_same, z00,z4p,z4t,z4z,z6a,z6e,z6k,z6t,z7v,z9r,z9w,z9y,za1,za3,za5,za6,za7,za8,zae,zaf,zag,zai,zak,zal,zam,zao,zba,zbw,zbx,zby,zcc,zcd,zcn,zco,zcp,zcq,zcr,zcs,zct,zdj,zdo,zds,zdt,zdu,zdv,zdy,ze2,zfz,zje, h0, h1]; all_goals tactic => exact rfl))
  · intro a
    (sym => (simp [yC_nm, yC_rn, yM_s, yC_gr, yC_sl, yC_fz, yC_len, yC_0, yC_1, yC_2, yC_3, yC_4, yC_15, yC_same, z00,z4p,z4t,z4z,z6a,z6e,z6k,z6t,z7v,z9r,z9w,z9y,za1,za3,za5,za6,za7,za8,zae,zaf,zag,zai,zak,zal,zam,zao,zba,zbw,zbx,zby,zcc,zcd,zcn,zco,zcp,zcq,zcr,zcs,zct,zdj,zdo,zds,zdt,zdu,zdv,zdy,ze2,zfz,zje]; all_goals tactic => exact rfl))
theorem y80 (g : Good l) (hb : ∀ k, b k < 2 ^ 10) {a : Nat} (ha : a < 2 ^ l.ls.length) (n : Int) {k : Nat} (hk : k < l.ls.length) : Yd (h80 l b es a n) (h80 l b es a (shS l b a n k)) k true := by
  have hfew := g.few
  have e81 := w81 a
  have e86 := w86 (b := b) (es := es) g ha hk
  have y : runYW progX (.fn (.yield 0) [] []) [I (k : Nat)] (h80 l b es a n) = some (.bool true, h80 l b es a (shS l b a n k)) := by
    rw [runYW_eq (K := 80) (d := x80) (site := 0) (vs := [.pt 1 0, .pt 4 0, .pt 5 0]) rfl rfl (by rfl) rfl]
    unfold shS mnI
    generalize lastF l a k = lv at *
    rcases in80 (l := l) (es := es) hb (lt_10 ha hfew) (k := k) (by omega) with ⟨h1, h2⟩ | ⟨h1, c, h2⟩
    · rw [h1, if_pos rfl]
      (sym => (simp [yC_nm, yC_rn, yM_s, yC_gr, yC_sl, yC_fz, yC_len, yC_0, yC_1, yC_2, yC_3, yC_4, yC_15, yC_same, z00,z01,z02,z03,z04,z05,z06,z07,z09,z0a,z0b,z0c,z0o,z1g,z1j,z1k,z1m,z1n,z1o,z1p,z1q,z1r,z1u,z1v,z1w,z20,z21,z43,z4l,z4m,z4t,z4z,z54,z66,z67,z6a,z6e,z6j,z6k,z6x,z8a,z91,z9d,z9e,z9g,z9i,z9j,z9l,z9m,z9p,z9r,z9s,z9t,z9v,z9w,z9x,z9y,za0,za1,za2,za3,za5,za6,za7,za8,zaa,zab,zac,zae,zaf,zag,zai,zak,zal,zam,zao,zaq,zas,zat,zau,zav,zaw,zax,zaz,zb1,zba,zbc,zbd,zbf,zbg,zbj,zbk,zbv,zby,zca,zcn,zco,zcp,zcq,zcr,zcs,zct,zcu,zcv,zcy,zd3,zd6,zd7,zd8,zd9,zdd,zdj,zdm,zdn,zdo,zds,zdt,zdu,zdv,zdw,zdx,zdy,zdz,ze9,zem,zen,zf6,zf7,zfb,zfc,zfd,zfo,zfs,zft,zfu,zfw,zfy,zg0,zg1,zij,zik,zil,zim,zio,zip,ziq,zir,zis,zit,ziu,ziv,ziw,zix,ziy,ziz,zj0,zj8,zje,zjl,zjm,zjn,zjo,zjq,zkn,zko,zkp, e81, e86, h2]; all_goals tactic => exact rfl))
    · rw [h1, if_neg (by simp)]
      (sym => (simp [yC_nm, yC_rn, yM_s, yC_gr, yC_sl, yC_fz, yC_len, yC_0, yC_1, yC_2, yC_3, yC_4, yC_15, yC_same, z00,z01,z02,z03,z04,z05,z06,z07,z09,z0a,z0b,z0c,z0o,z1g,z1j,z1k,z1m,z1n,z1o,z1p,z1q,z1r,z1u,z1v,z1w,z20,z21,z43,z4l,z4m,z4t,z4z,z54,z66,z67,z6a,z6e,z6j,z6k,z6x,z8a,z91,z9d,z9e,z9g,z9i,z9j,z9l,z9m,z9p,z9r,z9s,z9t,z9v,z9w,z9x,z9y,za0,za1,za2,za3,za5,za6,za7,za8,zaa,zab,zac,zae,zaf,zag,zai,zak,zal,zam,zao,zaq,zas,zat,zau,zav,zaw,zax,zaz,zb1,zba,zbc,zbd,zbf,zbg,zbj,zbk,zbv,zby,zca,zcn,zco,zcp,zcq,zcr,zcs,zct,zcu,zcv,zcy,zd3,zd6,zd7,zd8,zd9,zdd,zdj,zdm,zdn,zdo,zds,zdt,zdu,zdv,zdw,zdx,zdy,zdz,ze9,zem,zen,zf6,zf7,zfb,zfc,zfd,zfo,zfs,zft,zfu,zfw,zfy,zg0,zg1,zij,zik,zil,zim,zio,zip,ziq,zir,zis,zit,ziu,ziv,ziw,zix,ziy,ziz,zj0,zj8,zje,zjl,zjm,zjn,zjo,zjq,zkn,zko,zkp, e81, e86, h2]; all_goals tactic => exact rfl))
  intro c
  (sym => (simp [yC_nm, yC_rn, yM_s, yC_gr, yC_sl, yC_fz, yC_len, yC_0, yC_1, yC_2, yC_3, yC_4, yC_15, yC_same, z00,z01,z02,z03,z04,z05,z06,z07,z09,z0a,z0b,z0c,z0o,z1g,z1j,z1k,z1m,z1n,z1o,z1p,z1q,z1r,z1u,z1v,z1w,z20,z21,z43,z4l,z4m,z4t,z4z,z54,z66,z67,z6a,z6e,z6j,z6k,z6x,z8a,z91,z9d,z9e,z9g,z9i,z9j,z9l,z9m,z9p,z9r,z9s,z9t,z9v,z9w,z9x,z9y,za0,za1,za2,za3,za5,za6,za7,za8,zaa,zab,zac,zae,zaf,zag,zai,zak,zal,zam,zao,zaq,zas,zat,zau,zav,zaw,zax,zaz,zb1,zba,zbc,zbd,zbf,zbg,zbj,zbk,zbv,zby,zca,zcn,zco,zcp,zcq,zcr,zcs,zct,zcu,zcv,zcy,zd3,zd6,zd7,zd8,zd9,zdd,zdj,zdm,zdn,zdo,zds,zdt,zdu,zdv,zdw,zdx,zdy,zdz,ze9,zem,zen,zf6,zf7,zfb,zfc,zfd,zfo,zfs,zft,zfu,zfw,zfy,zg0,zg1,zij,zik,zil,zim,zio,zip,ziq,zir,zis,zit,ziu,ziv,ziw,zix,ziy,ziz,zj0,zj8,zje,zjl,zjm,zjn,zjo,zjq,zkn,zko,zkp, y]; all_goals tactic => exact rfl))
theorem w80 (g : Good l) (hb : ∀ k, b k < 2 ^ 10) {a : Nat} (ha : a < 2 ^ l.ls.length) : runW progX 80 [.pt 0 0, U a] (hY l b es) = some (I (shF l b a), hY l b es) := by
  have hfew := g.few
  have ha2 := lt_10 ha hfew
  have e81 := w81 a
  have e : runW progX 106 [.fn (.yield 0) [] [], .pt 6 0] [some (.loop 80 0 [.pt 1 0, .pt 4 0, .pt 5 0] .ready), some (.blk false (.cells true [.pt 2 0])), some (.blk false (.cells true (yC l b 3))), some (.blk true (.map true es)), cU a, some (.blk true (.cells true [I 1000000])), cU a] =
      some (.tup [], [some (.loop 80 0 [.pt 1 0, .pt 4 0, .pt 5 0] .ready), some (.blk false (.cells true [.pt 2 0])), some (.blk false (.cells true (yC l b 3))), some (.blk true (.map true es)), cU a, some (.blk true (.cells true [I (shF l b a)])), some (.blk true (.cells true [.int .u64 0]))]) := by
    have h := each_all (n := 6) (G := fun i => h80 l b es a (fT (shS l b a) 1000000 (el a) i)) ha2 (fun i _ => home80 a _) (by
      intro i v hv
      rw [fT_up hv]
      exact y80 g hb ha _ (el_lt ha (List.mem_of_getElem? hv)))
    unfold shF
    rw [fT_all] at h
    exact h
  rw [r80 (by simp)]; unfold x80; dsimp only
  (sym => (simp [yC_nm, yC_rn, yM_s, yC_gr, yC_sl, yC_fz, yC_len, yC_0, yC_1, yC_2, yC_3, yC_4, yC_15, yC_same, z00,z01,z02,z05,z06,z07,z09,z0b,z0c,z0f,z0n,z0o,z0r,z1j,z1n,z1o,z1r,z1u,z20,z21,z4l,z4t,z4z,z54,z5c,z66,z6a,z6e,z6j,z6k,z6p,z7r,z7z,z8a,z8i,z9d,z9e,z9g,z9i,z9j,z9l,z9m,z9n,z9p,z9r,z9s,z9t,z9v,z9w,z9x,z9y,za0,za1,za2,za3,za5,za6,za7,za8,zaa,zab,zac,zae,zaf,zag,zai,zak,zal,zam,zao,zaq,zas,zat,zau,zba,zbc,zbd,zbf,zbg,zbk,zbt,zbu,zbw,zbx,zby,zbz,zc0,zc3,zc4,zc5,zc6,zc8,zcj,zcn,zco,zcp,zcq,zcr,zcs,zct,zcu,zcv,zcy,zd3,zdd,zdj,zdo,zds,zdt,zdu,zdv,zdw,zdx,ze2,ze3,ze9,zeo,zep,zf6,zf7,zfb,zfc,zfd,zfg,zfo,zfp,zfq,zfs,zft,zfw,zg0,zg1,zij,zik,zin,ziq,zir,zis,zit,ziu,zj3,zje,zkn,zko,zkp, e81, e]; all_goals tactic => exact rfl))
end
end Go.Proofs.YtpbeclkpohehgaaDoor
namespace Go.Proofs.YtpbeclkpohehgaaDoor
open Go Go.DL
set_option maxRecDepth 100000
set_option maxHeartbeats 4000000

theorem bit_1 {a i : Nat} (ha : a < 2 ^ 63) (hi : i < 64) : (a.testBit i = true ∧ (bitsA .and .i64 ((a : Int).fdiv (2 ^ min i IntKind.i64.bits)) 1 = 1) = True) ∨ (a.testBit i = false ∧ (bitsA .and .i64 ((a : Int).fdiv (2 ^ min i IntKind.i64.bits)) 1 = 1) = False) := by
  have e := bit_eq big_i ha hi
  cases h : a.testBit i with
  | true => rw [h] at e; exact .inl ⟨rfl, e.trans (eq_true rfl)⟩
  | false => rw [h] at e; exact .inr ⟨rfl, e.trans (eq_false (by simp))⟩
theorem bit_0 {a i : Nat} (ha : a < 2 ^ 63) (hi : i < 64) : (a.testBit i = true ∧ (bitsA .and .i64 ((a : Int).fdiv (2 ^ min i IntKind.i64.bits)) 1 = 0) = False) ∨ (a.testBit i = false ∧ (bitsA .and .i64 ((a : Int).fdiv (2 ^ min i IntKind.i64.bits)) 1 = 0) = True) := by
  have e := bit_at big_i ha hi
  cases h : a.testBit i with
  | true => rw [h] at e; exact .inl ⟨rfl, eq_false (by rw [e]; simp)⟩
  | false => rw [h] at e; exact .inr ⟨rfl, eq_true (by rw [e]; simp)⟩
theorem neg_n (i : Nat) : ((i : Int) < 0) = False := eq_false (by omega)
section
variable {l : Li} {b : Nat → Nat}
theorem w79 (g : Good l) {a : Nat} (ha : a < 2 ^ l.ls.length) : runW progX 79 [.agg l.c, I (a : Nat)] [] = some (I (endF l a), []) := by
  have hfew := g.few
  have ha2 := lt_10 ha hfew
  have z := zf5 (n := (l.ls.length : Int))
  have s0 : fR (enS l) l.hi a 0 = l.hi := rfl
  have sf : fR (enS l) l.hi a l.ls.length = endF l a := fR_el ha hfew
  have bd : ∀ i, i ≤ l.ls.length → 0 ≤ fR (enS l) l.hi a i ∧ fR (enS l) l.hi a i ≤ 200000 := by
    intro i hi
    rw [fR_fl]
    have h := en_bd g ((List.range i).filter (a.testBit ·)) l.hi fun k hk => by
      have := List.mem_range.1 (List.mem_filter.1 hk).1
      omega
    have h2 := inSF.1 g.start
    have h3 := List.length_filter_le (a.testBit ·) (List.range i)
    rw [List.length_range] at h3
    omega
  have rd : ∀ i, i < l.ls.length → headX 0 [1, 2, 5, 6] (execW progX 79 0 none (match x79l0 with | .loop _ a => a | c => c) (envL [1, 2, 5, 6] [I (a : Nat), .pt 0 0, I (fR (enS l) l.hi a i), I (i : Nat)]) (hL l)) = some ([I (a : Nat), .pt 0 0, I (fR (enS l) l.hi a (i + 1)), I (i + 1 : Nat)], hL l) := by
    intro i hi
    obtain ⟨x, hx⟩ := at_ix hi
    have hx2 : ldN l i = x := getD_of hx
    have a1 := lt_ix hi
    have a2 := up_ix hi (by omega)
    have n0 := neg_n i
    have b1 := bd i (by omega)
    have b2 := bd (i + 1) (by omega)
    rw [fR] at b2 ⊢
    unfold enS at b2 ⊢
    rw [hx2] at b2 ⊢
    unfold x79l0
    dsimp only
    generalize fR (fun n k => n + (ldN l k).ch) l.hi a i = v at *
    rcases bit_1 (a := a) (i := i) (by omega) (by omega) with ⟨h1, h2⟩ | ⟨h1, h2⟩
    · rw [if_pos h1] at b2 ⊢
      have q : IntKind.i64.wrap (v + x.ch) = v + x.ch := wrap_ok (by omega) (by omega)
      (sym => (simp [z00,z01,z05,z07,z0b,z0c,z0f,z0n,z0r,z0v,z12,z15,z1f,z1j,z29,z2a,z2b,z2g,z2h,z2j,z2o,z2s,z2t,z2v,z33,z34,z3h,z4l,z4t,z54,z57,z59,z66,z6e,z6p,z7r,z7u,z7w,z8d,z9d,z9e,z9g,z9n,z9p,z9r,z9v,z9w,z9y,za0,za1,za3,za6,za7,za8,za9,zae,zaf,zal,zba,zbt,zbu,zbw,zbx,zby,zbz,zc0,zc3,zc4,zc5,zc6,zc8,zca,zcc,zcd,zce,zcf,zcg,zch,zcj,zcn,zco,zcq,zcr,zct,zcu,zcv,zcw,zcx,zcy,zd3,zdd,zdj,zdk,zdl,zds,zdt,zdu,zdv,zdw,zdx,ze2,ze3,zeo,zep,zf5,zf6,zf7,zf8,zf9,zfb,zfg,zfm,zfo,zfp,zfq,zfr,zfs,zft,zfu,zfw,zfy,zfz,zg0,zg1,zhf,zje, a1, a2, n0, hx, h2, q]; all_goals tactic => exact rfl))
    · rw [h1, if_neg (by simp)]
      (sym => (simp [z00,z01,z05,z07,z0b,z0c,z0f,z0n,z0r,z0v,z12,z15,z1f,z1j,z29,z2a,z2b,z2g,z2h,z2j,z2o,z2s,z2t,z2v,z33,z34,z3h,z4l,z4t,z54,z57,z59,z66,z6e,z6p,z7r,z7u,z7w,z8d,z9d,z9e,z9g,z9n,z9p,z9r,z9v,z9w,z9y,za0,za1,za3,za6,za7,za8,za9,zae,zaf,zal,zba,zbt,zbu,zbw,zbx,zby,zbz,zc0,zc3,zc4,zc5,zc6,zc8,zca,zcc,zcd,zce,zcf,zcg,zch,zcj,zcn,zco,zcq,zcr,zct,zcu,zcv,zcw,zcx,zcy,zd3,zdd,zdj,zdk,zdl,zds,zdt,zdu,zdv,zdw,zdx,ze2,ze3,zeo,zep,zf5,zf6,zf7,zf8,zf9,zfb,zfg,zfm,zfo,zfp,zfq,zfr,zfs,zft,zfu,zfw,zfy,zfz,zg0,zg1,zhf,zje, a1, a2, n0, hx, h2]; all_goals tactic => exact rfl))
  rw [r79 (by simp)]; unfold x79; dsimp only
  sym =>
    simp [z00,z01,z05,z07,z0b,z0c,z0f,z0n,z0r,z0v,z12,z15,z1f,z1j,z29,z2a,z2b,z2g,z2h,z2j,z2o,z2s,z2t,z2v,z33,z34,z3h,z4l,z4t,z54,z57,z59,z66,z6e,z6p,z7r,z7u,z7w,z8d,z9d,z9e,z9g,z9n,z9p,z9r,z9v,z9w,z9y,za0,za1,za3,za6,za7,za8,za9,zae,zaf,zal,zba,zbt,zbu,zbw,zbx,zby,zbz,zc0,zc3,zc4,zc5,zc6,zc8,zca,zcc,zcd,zce,zcf,zcg,zch,zcj,zcn,zco,zcq,zcr,zct,zcu,zcv,zcw,zcx,zcy,zd3,zdd,zdj,zdk,zdl,zds,zdt,zdu,zdv,zdw,zdx,ze2,ze3,zeo,zep,zf5,zf6,zf7,zf8,zf9,zfb,zfg,zfm,zfo,zfp,zfq,zfr,zfs,zft,zfu,zfw,zfy,zfz,zg0,zg1,zhf,zje]
    tactic =>
      unfold x79l0
      rw [loop_rule l.ls.length (fun i => [I (a : Nat), .pt 0 0, I (fR (enS l) l.hi a i), I (i : Nat)]) (fun _ => hL l)]
      · (sym => (simp [z00,z01,z05,z07,z0b,z0c,z0f,z0n,z0r,z0v,z12,z15,z1f,z1j,z29,z2a,z2b,z2g,z2h,z2j,z2o,z2s,z2t,z2v,z33,z34,z3h,z4l,z4t,z54,z57,z59,z66,z6e,z6p,z7r,z7u,z7w,z8d,z9d,z9e,z9g,z9n,z9p,z9r,z9v,z9w,z9y,za0,za1,za3,za6,za7,za8,za9,zae,zaf,zal,zba,zbt,zbu,zbw,zbx,zby,zbz,zc0,zc3,zc4,zc5,zc6,zc8,zca,zcc,zcd,zce,zcf,zcg,zch,zcj,zcn,zco,zcq,zcr,zct,zcu,zcv,zcw,zcx,zcy,zd3,zdd,zdj,zdk,zdl,zds,zdt,zdu,zdv,zdw,zdx,ze2,ze3,zeo,zep,zf5,zf6,zf7,zf8,zf9,zfb,zfg,zfm,zfo,zfp,zfq,zfr,zfs,zft,zfu,zfw,zfy,zfz,zg0,zg1,zhf,zje, z, sf]; all_goals tactic => exact rfl))
      · (sym => (simp [z00,z01,z05,z07,z0b,z0c,z0f,z0n,z0r,z0v,z12,z15,z1f,z1j,z29,z2a,z2b,z2g,z2h,z2j,z2o,z2s,z2t,z2v,z33,z34,z3h,z4l,z4t,z54,z57,z59,z66,z6e,z6p,z7r,z7u,z7w,z8d,z9d,z9e,z9g,z9n,z9p,z9r,z9v,z9w,z9y,za0,za1,za3,za6,za7,za8,za9,zae,zaf,zal,zba,zbt,zbu,zbw,zbx,zby,zbz,zc0,zc3,zc4,zc5,zc6,zc8,zca,zcc,zcd,zce,zcf,zcg,zch,zcj,zcn,zco,zcq,zcr,zct,zcu,zcv,zcw,zcx,zcy,zd3,zdd,zdj,zdk,zdl,zds,zdt,zdu,zdv,zdw,zdx,ze2,ze3,zeo,zep,zf5,zf6,zf7,zf8,zf9,zfb,zfg,zfm,zfo,zfp,zfq,zfr,zfs,zft,zfu,zfw,zfy,zfz,zg0,zg1,zhf,zje, s0]; all_goals tactic => exact rfl))
      · exact rd
      · (sym => (simp [z00,z01,z05,z07,z0b,z0c,z0f,z0n,z0r,z0v,z12,z15,z1f,z1j,z29,z2a,z2b,z2g,z2h,z2j,z2o,z2s,z2t,z2v,z33,z34,z3h,z4l,z4t,z54,z57,z59,z66,z6e,z6p,z7r,z7u,z7w,z8d,z9d,z9e,z9g,z9n,z9p,z9r,z9v,z9w,z9y,za0,za1,za3,za6,za7,za8,za9,zae,zaf,zal,zba,zbt,zbu,zbw,zbx,zby,zbz,zc0,zc3,zc4,zc5,zc6,zc8,zca,zcc,zcd,zce,zcf,zcg,zch,zcj,zcn,zco,zcq,zcr,zct,zcu,zcv,zcw,zcx,zcy,zd3,zdd,zdj,zdk,zdl,zds,zdt,zdu,zdv,zdw,zdx,ze2,ze3,zeo,zep,zf5,zf6,zf7,zf8,zf9,zfb,zfg,zfm,zfo,zfp,zfq,zfr,zfs,zft,zfu,zfw,zfy,zfz,zg0,zg1,zhf,zje, z]; all_goals tactic => exact rfl))
theorem w78 (g : Good l) {k : Nat} (hk : k < l.ls.length) {e : Int} (he : 0 ≤ e ∧ e ≤ 200000) : runW progX 78 [.agg l.c, I (k : Nat), I e] [] = some (I (sourF (knAt l (ldN l k)) ((ldN l k).ah + e)), []) := by
  obtain ⟨x, kd, h1, h2, h3, h4, h5, h6, h7, h8⟩ := g.ldn hk
  rw [h2, h5]
  have w := w56 kd (x.ah + e) h6
  have c1 := lt_ix hk
  have c3 : (0 ≤ x.k) = True := eq_true (by omega)
  have c4 : (x.k < (l.ks.length : Int)) = True := eq_true (by omega)
  have q : IntKind.i64.wrap (x.ah + e) = x.ah + e := wrap_ok (by omega) (by omega)
  rw [r78 (by simp)]; unfold x78; dsimp only
  (sym => (simp [z00,z01,z04,z05,z07,z08,z0b,z0c,z0f,z0n,z0r,z0v,z12,z15,z1k,z1l,z1m,z1p,z1v,z1w,z20,z21,z29,z2a,z2g,z2h,z2j,z33,z34,z4l,z4q,z54,z57,z59,z66,z6b,z6p,z7r,z7u,z7w,z8d,z9d,z9e,z9g,z9m,z9n,z9p,z9y,za2,za3,za5,za6,za7,za8,zaa,zab,zaq,zas,zat,zav,zax,zaz,zba,zbt,zbu,zbw,zbx,zby,zbz,zc0,zc3,zc4,zc5,zc6,zc8,zcj,zcn,zco,zcq,zcr,zct,zcu,zcv,zcw,zcx,zcy,zd3,zd7,zd8,zd9,zdd,zdm,zdn,zdo,zds,zdt,zdu,zdv,zdw,zdx,ze2,ze3,zeo,zep,zf6,zf7,zf8,zf9,zfb,zfg,zfm,zfo,zfp,zft,zg0,zg1,zje, h1, h4, c1, c3, c4, q, w]; all_goals tactic => exact rfl))
def frN (b : Nat → Nat) (a k : Nat) : Nat → Bool
  | 0 => a.testBit k
  | j + 1 => frN b a k j && (!a.testBit j || !(b j).testBit k)
theorem frN_iff {a k : Nat} : ∀ n, (frN b a k n = true ↔ a.testBit k = true ∧ ∀ j, j < n → a.testBit j = true → (b j).testBit k = false)
  | 0 => by rw [frN]; exact ⟨fun h => ⟨h, fun j hj => by omega⟩, fun h => h.1⟩
  | n + 1 => by
    rw [frN, Bool.and_eq_true, frN_iff n]
    constructor
    · rintro ⟨⟨h1, h2⟩, h3⟩
      refine ⟨h1, fun j hj hja => ?_⟩
      by_cases h : j = n
      · subst h
        rw [hja] at h3
        simpa using h3
      · exact h2 j (by omega) hja
    · rintro ⟨h1, h2⟩
      refine ⟨⟨h1, fun j hj => h2 j (by omega)⟩, ?_⟩
      cases h : a.testBit n with
      | false => rfl
      | true => rw [h2 n (by omega) h]; rfl
theorem frN_el {a k n : Nat} (ha : a < 2 ^ n) (hn : n ≤ 10) : frN b a k n = (a.testBit k && freeB b a k) := by
  apply Bool.eq_iff_iff.2
  rw [frN_iff, Bool.and_eq_true]
  unfold freeB
  rw [List.all_eq_true]
  constructor
  · rintro ⟨h1, h2⟩
    exact ⟨h1, fun j hj => by rw [h2 j (el_lt ha hj) (el_mem.1 hj).2]; rfl⟩
  · rintro ⟨h1, h2⟩
    exact ⟨h1, fun j hj hja => by simpa using h2 j (el_mem.2 ⟨by omega, hja⟩)⟩
theorem round87i (hn : l.ls.length ≤ 10) (hb : ∀ k, b k < 2 ^ 10) {a k j : Nat} (ha : a < 2 ^ 10) (hk : k < 10) (hj : j < l.ls.length) (f r : Bool) (v : Int) (hr : r = (f && (!a.testBit j || !(b j).testBit k))) :
    headX 0 [1, 2, 5, 6, 7, 8, 9] (execW progX 87 0 none (match x87l0 with | .loop _ a => a | c => c) (envL [1, 2, 5, 6, 7, 8, 9] [I (a : Nat), .pt 0 0, rI (bL l.ls.length b), I v, I (k : Nat), .bool f, I (j : Nat)]) (hL l)) =
      some ([I (a : Nat), .pt 0 0, rI (bL l.ls.length b), I v, I (k : Nat), .bool r, I (j + 1 : Nat)], hL l) := by
  have a1 := lt_ix hj
  have a2 := up_ix hj (by omega)
  have c2 : ((j : Int) < ((bL l.ls.length b).length : Int)) = True := eq_true (by rw [bL_len]; omega)
  have s1 := bL_get (n := l.ls.length) (b := b) (k := j) hj
  have n0 := neg_n j
  have n1 := neg_n k
  generalize bL l.ls.length b = bl at *
  subst hr
  unfold x87l0
  dsimp only
  cases f with
  | false => (sym => (simp [z00,z01,z05,z07,z0b,z0c,z0h,z0i,z0j,z0k,z0l,z0m,z0n,z0q,z0v,z12,z15,z1f,z1j,z22,z23,z29,z2b,z2g,z2h,z2j,z2o,z2s,z2t,z2v,z33,z34,z4l,z4m,z4q,z4t,z66,z67,z6b,z6e,z9d,z9e,z9g,z9p,z9r,z9v,z9w,z9y,za0,za1,za3,za6,za7,za8,za9,zae,zaf,zal,zca,zcc,zcd,zce,zcf,zcn,zco,zcq,zcr,zct,zcu,zcv,zcw,zcx,zcy,zd3,zd4,zd5,zd6,zd7,zd8,zd9,zdb,zdd,zdj,zdk,zdl,zds,zdt,zdu,zdv,zf6,zf7,zf8,zf9,zfb,zfm,zfo,zfq,zfs,zft,zfw,zfz,zg0,zg1,zhf, a1, a2]; all_goals tactic => exact rfl))
  | true =>
    rcases bit_0 (a := a) (i := j) (lo_63 ha) (by omega) with ⟨h1, h2⟩ | ⟨h1, h2⟩
    · rw [h1]
      rcases bit_0 (a := b j) (i := k) (lo_63 (hb j)) (by omega) with ⟨h3, h4⟩ | ⟨h3, h4⟩
      · rw [h3]; (sym => (simp [z00,z01,z05,z07,z0b,z0c,z0h,z0i,z0j,z0k,z0l,z0m,z0n,z0q,z0v,z12,z15,z1f,z1j,z22,z23,z29,z2b,z2g,z2h,z2j,z2o,z2s,z2t,z2v,z33,z34,z4l,z4m,z4q,z4t,z66,z67,z6b,z6e,z9d,z9e,z9g,z9p,z9r,z9v,z9w,z9y,za0,za1,za3,za6,za7,za8,za9,zae,zaf,zal,zca,zcc,zcd,zce,zcf,zcn,zco,zcq,zcr,zct,zcu,zcv,zcw,zcx,zcy,zd3,zd4,zd5,zd6,zd7,zd8,zd9,zdb,zdd,zdj,zdk,zdl,zds,zdt,zdu,zdv,zf6,zf7,zf8,zf9,zfb,zfm,zfo,zfq,zfs,zft,zfw,zfz,zg0,zg1,zhf, a1, a2, c2, s1, n0, n1, h2, h4]; all_goals tactic => exact rfl))
      · rw [h3]; (sym => (simp [z00,z01,z05,z07,z0b,z0c,z0h,z0i,z0j,z0k,z0l,z0m,z0n,z0q,z0v,z12,z15,z1f,z1j,z22,z23,z29,z2b,z2g,z2h,z2j,z2o,z2s,z2t,z2v,z33,z34,z4l,z4m,z4q,z4t,z66,z67,z6b,z6e,z9d,z9e,z9g,z9p,z9r,z9v,z9w,z9y,za0,za1,za3,za6,za7,za8,za9,zae,zaf,zal,zca,zcc,zcd,zce,zcf,zcn,zco,zcq,zcr,zct,zcu,zcv,zcw,zcx,zcy,zd3,zd4,zd5,zd6,zd7,zd8,zd9,zdb,zdd,zdj,zdk,zdl,zds,zdt,zdu,zdv,zf6,zf7,zf8,zf9,zfb,zfm,zfo,zfq,zfs,zft,zfw,zfz,zg0,zg1,zhf, a1, a2, c2, s1, n0, n1, h2, h4]; all_goals tactic => exact rfl))
    · rw [h1]; (sym => (simp [z00,z01,z05,z07,z0b,z0c,z0h,z0i,z0j,z0k,z0l,z0m,z0n,z0q,z0v,z12,z15,z1f,z1j,z22,z23,z29,z2b,z2g,z2h,z2j,z2o,z2s,z2t,z2v,z33,z34,z4l,z4m,z4q,z4t,z66,z67,z6b,z6e,z9d,z9e,z9g,z9p,z9r,z9v,z9w,z9y,za0,za1,za3,za6,za7,za8,za9,zae,zaf,zal,zca,zcc,zcd,zce,zcf,zcn,zco,zcq,zcr,zct,zcu,zcv,zcw,zcx,zcy,zd3,zd4,zd5,zd6,zd7,zd8,zd9,zdb,zdd,zdj,zdk,zdl,zds,zdt,zdu,zdv,zf6,zf7,zf8,zf9,zfb,zfm,zfo,zfq,zfs,zft,zfw,zfz,zg0,zg1,zhf, a1, a2, c2, s1, n0, n1, h2]; all_goals tactic => exact rfl))
abbrev rsS (l : Li) (b : Nat → Nat) (a : Nat) (n : Int) (k : Nat) : Int := if freeB b a k = true then (if n < 0 then lastF l a k else if lastF l a k < n then lastF l a k else n) else n
/-- The sourness that a set shows, by the reference. -/
def rsF (l : Li) (b : Nat → Nat) (a : Nat) : Int := (el a).foldl (rsS l b a) (-1)
theorem round87 (g : Good l) (hb : ∀ k, b k < 2 ^ 10) {a k : Nat} (ha : a < 2 ^ l.ls.length) (hk : k < l.ls.length) (v : Int) :
    headX 0 [1, 2, 5, 6, 7] (execW progX 87 0 none (match x87l1 with | .loop _ a => a | c => c) (envL [1, 2, 5, 6, 7] [I (a : Nat), .pt 0 0, rI (bL l.ls.length b), I v, I (k : Nat)]) (hL l)) =
      some ([I (a : Nat), .pt 0 0, rI (bL l.ls.length b), I (if a.testBit k then rsS l b a v k else v), I (k + 1 : Nat)], hL l) := by
  have hn := g.few
  have ha2 : a < 2 ^ 10 := lt_10 ha hn
  have a1 := lt_ix hk
  have a2 := up_ix hk (by omega)
  have n1 := neg_n k
  have z := zf5 (n := (l.ls.length : Int))
  have e79 := w79 g ha
  have e78 := w78 g hk (end_bd g ha)
  have hl : sourF (knAt l (ldN l k)) ((ldN l k).ah + endF l a) = lastF l a k := rfl
  rw [hl] at e78
  have hfr := frN_el (b := b) (k := k) ha hn
  have f0 : frN b a k 0 = a.testBit k := rfl
  have rd : ∀ j, j < l.ls.length → headX 0 [1, 2, 5, 6, 7, 8, 9] (execW progX 87 0 none (match x87l0 with | .loop _ a => a | c => c) (envL [1, 2, 5, 6, 7, 8, 9] [I (a : Nat), .pt 0 0, rI (bL l.ls.length b), I v, I (k : Nat), .bool (frN b a k j), I (j : Nat)]) (hL l)) =
      some ([I (a : Nat), .pt 0 0, rI (bL l.ls.length b), I v, I (k : Nat), .bool (frN b a k (j + 1)), I (j + 1 : Nat)], hL l) := fun j hj => round87i hn hb ha2 (by omega) hj _ _ v rfl
  have bt : (bitsA .and .i64 ((a : Int).fdiv (2 ^ min k IntKind.i64.bits)) 1 = 1) = (frN b a k 0 = true) := by
    rw [f0]; exact bit_eq big_i (lo_63 ha2) (by omega)
  have hb0 : ∃ f, frN b a k 0 = f ∧ decide (bitsA .and .i64 ((a : Int).fdiv (2 ^ min k IntKind.i64.bits)) 1 = 1) = f := by
    refine ⟨_, rfl, ?_⟩
    simp only [bt, Bool.decide_eq_true]
  obtain ⟨f, hf1, hf2⟩ := hb0
  unfold x87l1
  dsimp only
  sym =>
    simp [z00,z01,z04,z05,z06,z07,z0a,z0b,z0c,z0h,z0i,z0j,z0k,z0l,z0m,z0n,z0q,z0v,z12,z1f,z1j,z1k,z1m,z1p,z1v,z1w,z20,z21,z22,z23,z29,z2b,z2j,z2o,z2s,z2t,z2v,z34,z3h,z4l,z4m,z4o,z4q,z4t,z66,z67,z69,z6b,z6e,z9d,z9e,z9g,z9j,z9k,z9l,z9m,z9p,z9r,z9v,z9w,z9y,za0,za1,za2,za3,za5,za6,za7,za8,za9,zaa,zab,zae,zaf,zal,zaq,zas,zat,zav,zaw,zax,zaz,zba,zbc,zbd,zbf,zbg,zbk,zca,zcc,zcd,zce,zcf,zcg,zch,zcj,zcn,zco,zcq,zcr,zct,zcu,zcv,zcw,zcy,zd3,zd4,zd5,zd7,zd8,zd9,zdj,zdk,zdl,zdm,zdn,zdo,zds,zdt,zdu,zdv,zf5,zf6,zf7,zfa,zfb,zfm,zfo,zfq,zfr,zfs,zft,zfu,zfw,zfy,zfz,zg0,zg1,zhf,zkn,zko,zkp, a1, n1, hf2]
    tactic =>
      unfold x87l0
      rw [loop_rule l.ls.length (fun j => [I (a : Nat), .pt 0 0, rI (bL l.ls.length b), I v, I (k : Nat), .bool (frN b a k j), I (j : Nat)]) (fun _ => hL l)]
      · rw [hfr]
        generalize endF l a = ef at *
        generalize lastF l a k = lv at *
        generalize bL l.ls.length b = bl at *
        cases h1 : a.testBit k with
        | false => (sym => (simp [z00,z01,z04,z05,z06,z07,z0a,z0b,z0c,z0h,z0i,z0j,z0k,z0l,z0m,z0n,z0q,z0v,z12,z1f,z1j,z1k,z1m,z1p,z1v,z1w,z20,z21,z22,z23,z29,z2b,z2j,z2o,z2s,z2t,z2v,z34,z3h,z4l,z4m,z4o,z4q,z4t,z66,z67,z69,z6b,z6e,z9d,z9e,z9g,z9j,z9k,z9l,z9m,z9p,z9r,z9v,z9w,z9y,za0,za1,za2,za3,za5,za6,za7,za8,za9,zaa,zab,zae,zaf,zal,zaq,zas,zat,zav,zaw,zax,zaz,zba,zbc,zbd,zbf,zbg,zbk,zca,zcc,zcd,zce,zcf,zcg,zch,zcj,zcn,zco,zcq,zcr,zct,zcu,zcv,zcw,zcy,zd3,zd4,zd5,zd7,zd8,zd9,zdj,zdk,zdl,zdm,zdn,zdo,zds,zdt,zdu,zdv,zf5,zf6,zf7,zfa,zfb,zfm,zfo,zfq,zfr,zfs,zft,zfu,zfw,zfy,zfz,zg0,zg1,zhf,zkn,zko,zkp, z, a2]; all_goals tactic => exact rfl))
        | true =>
          cases h2 : freeB b a k with
          | false => (sym => (simp [z00,z01,z04,z05,z06,z07,z0a,z0b,z0c,z0h,z0i,z0j,z0k,z0l,z0m,z0n,z0q,z0v,z12,z1f,z1j,z1k,z1m,z1p,z1v,z1w,z20,z21,z22,z23,z29,z2b,z2j,z2o,z2s,z2t,z2v,z34,z3h,z4l,z4m,z4o,z4q,z4t,z66,z67,z69,z6b,z6e,z9d,z9e,z9g,z9j,z9k,z9l,z9m,z9p,z9r,z9v,z9w,z9y,za0,za1,za2,za3,za5,za6,za7,za8,za9,zaa,zab,zae,zaf,zal,zaq,zas,zat,zav,zaw,zax,zaz,zba,zbc,zbd,zbf,zbg,zbk,zca,zcc,zcd,zce,zcf,zcg,zch,zcj,zcn,zco,zcq,zcr,zct,zcu,zcv,zcw,zcy,zd3,zd4,zd5,zd7,zd8,zd9,zdj,zdk,zdl,zdm,zdn,zdo,zds,zdt,zdu,zdv,zf5,zf6,zf7,zfa,zfb,zfm,zfo,zfq,zfr,zfs,zft,zfu,zfw,zfy,zfz,zg0,zg1,zhf,zkn,zko,zkp, z, a2]; all_goals tactic => exact rfl))
          | true =>
            rcases ptf (v < 0) with h3 | h3
            · (sym => (simp [z00,z01,z04,z05,z06,z07,z0a,z0b,z0c,z0h,z0i,z0j,z0k,z0l,z0m,z0n,z0q,z0v,z12,z1f,z1j,z1k,z1m,z1p,z1v,z1w,z20,z21,z22,z23,z29,z2b,z2j,z2o,z2s,z2t,z2v,z34,z3h,z4l,z4m,z4o,z4q,z4t,z66,z67,z69,z6b,z6e,z9d,z9e,z9g,z9j,z9k,z9l,z9m,z9p,z9r,z9v,z9w,z9y,za0,za1,za2,za3,za5,za6,za7,za8,za9,zaa,zab,zae,zaf,zal,zaq,zas,zat,zav,zaw,zax,zaz,zba,zbc,zbd,zbf,zbg,zbk,zca,zcc,zcd,zce,zcf,zcg,zch,zcj,zcn,zco,zcq,zcr,zct,zcu,zcv,zcw,zcy,zd3,zd4,zd5,zd7,zd8,zd9,zdj,zdk,zdl,zdm,zdn,zdo,zds,zdt,zdu,zdv,zf5,zf6,zf7,zfa,zfb,zfm,zfo,zfq,zfr,zfs,zft,zfu,zfw,zfy,zfz,zg0,zg1,zhf,zkn,zko,zkp, z, a2, h3, e79, e78]; all_goals tactic => exact rfl))
            · rcases ptf (lv < v) with h4 | h4
              · (sym => (simp [z00,z01,z04,z05,z06,z07,z0a,z0b,z0c,z0h,z0i,z0j,z0k,z0l,z0m,z0n,z0q,z0v,z12,z1f,z1j,z1k,z1m,z1p,z1v,z1w,z20,z21,z22,z23,z29,z2b,z2j,z2o,z2s,z2t,z2v,z34,z3h,z4l,z4m,z4o,z4q,z4t,z66,z67,z69,z6b,z6e,z9d,z9e,z9g,z9j,z9k,z9l,z9m,z9p,z9r,z9v,z9w,z9y,za0,za1,za2,za3,za5,za6,za7,za8,za9,zaa,zab,zae,zaf,zal,zaq,zas,zat,zav,zaw,zax,zaz,zba,zbc,zbd,zbf,zbg,zbk,zca,zcc,zcd,zce,zcf,zcg,zch,zcj,zcn,zco,zcq,zcr,zct,zcu,zcv,zcw,zcy,zd3,zd4,zd5,zd7,zd8,zd9,zdj,zdk,zdl,zdm,zdn,zdo,zds,zdt,zdu,zdv,zf5,zf6,zf7,zfa,zfb,zfm,zfo,zfq,zfr,zfs,zft,zfu,zfw,zfy,zfz,zg0,zg1,zhf,zkn,zko,zkp, z, a2, h3, h4, e79, e78]; all_goals tactic => exact rfl))
              · (sym => (simp [z00,z01,z04,z05,z06,z07,z0a,z0b,z0c,z0h,z0i,z0j,z0k,z0l,z0m,z0n,z0q,z0v,z12,z1f,z1j,z1k,z1m,z1p,z1v,z1w,z20,z21,z22,z23,z29,z2b,z2j,z2o,z2s,z2t,z2v,z34,z3h,z4l,z4m,z4o,z4q,z4t,z66,z67,z69,z6b,z6e,z9d,z9e,z9g,z9j,z9k,z9l,z9m,z9p,z9r,z9v,z9w,z9y,za0,za1,za2,za3,za5,za6,za7,za8,za9,zaa,zab,zae,zaf,zal,zaq,zas,zat,zav,zaw,zax,zaz,zba,zbc,zbd,zbf,zbg,zbk,zca,zcc,zcd,zce,zcf,zcg,zch,zcj,zcn,zco,zcq,zcr,zct,zcu,zcv,zcw,zcy,zd3,zd4,zd5,zd7,zd8,zd9,zdj,zdk,zdl,zdm,zdn,zdo,zds,zdt,zdu,zdv,zf5,zf6,zf7,zfa,zfb,zfm,zfo,zfq,zfr,zfs,zft,zfu,zfw,zfy,zfz,zg0,zg1,zhf,zkn,zko,zkp, z, a2, h3, h4, e79, e78]; all_goals tactic => exact rfl))
      · rw [hf1]; (sym => (simp [z00,z01,z04,z05,z06,z07,z0a,z0b,z0c,z0h,z0i,z0j,z0k,z0l,z0m,z0n,z0q,z0v,z12,z1f,z1j,z1k,z1m,z1p,z1v,z1w,z20,z21,z22,z23,z29,z2b,z2j,z2o,z2s,z2t,z2v,z34,z3h,z4l,z4m,z4o,z4q,z4t,z66,z67,z69,z6b,z6e,z9d,z9e,z9g,z9j,z9k,z9l,z9m,z9p,z9r,z9v,z9w,z9y,za0,za1,za2,za3,za5,za6,za7,za8,za9,zaa,zab,zae,zaf,zal,zaq,zas,zat,zav,zaw,zax,zaz,zba,zbc,zbd,zbf,zbg,zbk,zca,zcc,zcd,zce,zcf,zcg,zch,zcj,zcn,zco,zcq,zcr,zct,zcu,zcv,zcw,zcy,zd3,zd4,zd5,zd7,zd8,zd9,zdj,zdk,zdl,zdm,zdn,zdo,zds,zdt,zdu,zdv,zf5,zf6,zf7,zfa,zfb,zfm,zfo,zfq,zfr,zfs,zft,zfu,zfw,zfy,zfz,zg0,zg1,zhf,zkn,zko,zkp]; all_goals tactic => exact rfl))
      · exact rd
      · (sym => (simp [z00,z01,z04,z05,z06,z07,z0a,z0b,z0c,z0h,z0i,z0j,z0k,z0l,z0m,z0n,z0q,z0v,z12,z1f,z1j,z1k,z1m,z1p,z1v,z1w,z20,z21,z22,z23,z29,z2b,z2j,z2o,z2s,z2t,z2v,z34,z3h,z4l,z4m,z4o,z4q,z4t,z66,z67,z69,z6b,z6e,z9d,z9e,z9g,z9j,z9k,z9l,z9m,z9p,z9r,z9v,z9w,z9y,za0,za1,za2,za3,za5,za6,za7,za8,za9,zaa,zab,zae,zaf,zal,zaq,zas,zat,zav,zaw,zax,zaz,zba,zbc,zbd,zbf,zbg,zbk,zca,zcc,zcd,zce,zcf,zcg,zch,zcj,zcn,zco,zcq,zcr,zct,zcu,zcv,zcw,zcy,zd3,zd4,zd5,zd7,zd8,zd9,zdj,zdk,zdl,zdm,zdn,zdo,zds,zdt,zdu,zdv,zf5,zf6,zf7,zfa,zfb,zfm,zfo,zfq,zfr,zfs,zft,zfu,zfw,zfy,zfz,zg0,zg1,zhf,zkn,zko,zkp, z]; all_goals tactic => exact rfl))
theorem w87 (hf : l.Fit) (g : Good l) {a : Nat} (ha : a < 2 ^ l.ls.length) : runW progX 87 [.agg l.c, I (a : Nat)] [] = some (I (rsF l (behF l.ts) a), []) := by
  have e76 := w76 hf g
  have hn := g.few
  have hb := beh_lt g
  have z := zf5 (n := (l.ls.length : Int))
  have s0 : fR (rsS l (behF l.ts) a) (-1) a 0 = -1 := rfl
  have sf : fR (rsS l (behF l.ts) a) (-1) a l.ls.length = rsF l (behF l.ts) a := fR_el ha hn
  generalize behF l.ts = b at *
  rw [r87 (by simp)]; unfold x87; dsimp only
  sym =>
    simp [z00,z01,z05,z06,z07,z09,z0b,z0c,z0f,z0n,z0r,z0v,z12,z1f,z1j,z1r,z1u,z20,z21,z29,z2b,z2v,z3h,z4l,z4o,z4q,z4t,z54,z57,z59,z66,z69,z6b,z6e,z6p,z7r,z7u,z7w,z8d,z9d,z9e,z9g,z9j,z9k,z9l,z9m,z9n,z9p,z9r,z9v,z9w,z9y,za0,za1,za2,za3,za5,za6,za7,za8,za9,zaa,zab,zae,zaf,zal,zaq,zas,zat,zba,zbc,zbd,zbf,zbg,zbk,zbt,zbu,zbw,zbx,zby,zbz,zc0,zc3,zc4,zc5,zc6,zc8,zca,zcc,zcd,zce,zcg,zch,zcj,zcn,zco,zcq,zcr,zct,zcu,zcv,zcw,zcy,zd3,zdj,zdl,zdo,zds,zdt,zdu,zdv,zdw,zdx,ze2,ze3,zeo,zep,zf5,zf6,zf7,zfa,zfb,zfg,zfm,zfo,zfp,zfr,zfs,zft,zfu,zfy,zfz,zg0,zg1,zhf,zje,zkn,zko,zkp, e76]
    tactic =>
      unfold x87l1
      rw [loop_rule l.ls.length (fun i => [I (a : Nat), .pt 0 0, rI (bL l.ls.length b), I (fR (rsS l b a) (-1) a i), I (i : Nat)]) (fun _ => hL l)]
      · (sym => (simp [z00,z01,z05,z06,z07,z09,z0b,z0c,z0f,z0n,z0r,z0v,z12,z1f,z1j,z1r,z1u,z20,z21,z29,z2b,z2v,z3h,z4l,z4o,z4q,z4t,z54,z57,z59,z66,z69,z6b,z6e,z6p,z7r,z7u,z7w,z8d,z9d,z9e,z9g,z9j,z9k,z9l,z9m,z9n,z9p,z9r,z9v,z9w,z9y,za0,za1,za2,za3,za5,za6,za7,za8,za9,zaa,zab,zae,zaf,zal,zaq,zas,zat,zba,zbc,zbd,zbf,zbg,zbk,zbt,zbu,zbw,zbx,zby,zbz,zc0,zc3,zc4,zc5,zc6,zc8,zca,zcc,zcd,zce,zcg,zch,zcj,zcn,zco,zcq,zcr,zct,zcu,zcv,zcw,zcy,zd3,zdj,zdl,zdo,zds,zdt,zdu,zdv,zdw,zdx,ze2,ze3,zeo,zep,zf5,zf6,zf7,zfa,zfb,zfg,zfm,zfo,zfp,zfr,zfs,zft,zfu,zfy,zfz,zg0,zg1,zhf,zje,zkn,zko,zkp, z, sf]; all_goals tactic => exact rfl))
      · (sym => (simp [z00,z01,z05,z06,z07,z09,z0b,z0c,z0f,z0n,z0r,z0v,z12,z1f,z1j,z1r,z1u,z20,z21,z29,z2b,z2v,z3h,z4l,z4o,z4q,z4t,z54,z57,z59,z66,z69,z6b,z6e,z6p,z7r,z7u,z7w,z8d,z9d,z9e,z9g,z9j,z9k,z9l,z9m,z9n,z9p,z9r,z9v,z9w,z9y,za0,za1,za2,za3,za5,za6,za7,za8,za9,zaa,zab,zae,zaf,zal,zaq,zas,zat,zba,zbc,zbd,zbf,zbg,zbk,zbt,zbu,zbw,zbx,zby,zbz,zc0,zc3,zc4,zc5,zc6,zc8,zca,zcc,zcd,zce,zcg,zch,zcj,zcn,zco,zcq,zcr,zct,zcu,zcv,zcw,zcy,zd3,zdj,zdl,zdo,zds,zdt,zdu,zdv,zdw,zdx,ze2,ze3,zeo,zep,zf5,zf6,zf7,zfa,zfb,zfg,zfm,zfo,zfp,zfr,zfs,zft,zfu,zfy,zfz,zg0,zg1,zhf,zje,zkn,zko,zkp, s0]; all_goals tactic => exact rfl))
      · intro i hi
        rw [fR]
        exact round87 g hb ha hi _
      · (sym => (simp [z00,z01,z05,z06,z07,z09,z0b,z0c,z0f,z0n,z0r,z0v,z12,z1f,z1j,z1r,z1u,z20,z21,z29,z2b,z2v,z3h,z4l,z4o,z4q,z4t,z54,z57,z59,z66,z69,z6b,z6e,z6p,z7r,z7u,z7w,z8d,z9d,z9e,z9g,z9j,z9k,z9l,z9m,z9n,z9p,z9r,z9v,z9w,z9y,za0,za1,za2,za3,za5,za6,za7,za8,za9,zaa,zab,zae,zaf,zal,zaq,zas,zat,zba,zbc,zbd,zbf,zbg,zbk,zbt,zbu,zbw,zbx,zby,zbz,zc0,zc3,zc4,zc5,zc6,zc8,zca,zcc,zcd,zce,zcg,zch,zcj,zcn,zco,zcq,zcr,zct,zcu,zcv,zcw,zcy,zd3,zdj,zdl,zdo,zds,zdt,zdu,zdv,zdw,zdx,ze2,ze3,zeo,zep,zf5,zf6,zf7,zfa,zfb,zfg,zfm,zfo,zfp,zfr,zfs,zft,zfu,zfy,zfz,zg0,zg1,zhf,zje,zkn,zko,zkp, z]; all_goals tactic => exact rfl))
end
/-! ### The two are the same -/
theorem sh_rs {l : Li} (g : Good l) {b : Nat → Nat} {a : Nat} : ∀ (ks : List Nat), (∀ k ∈ ks, k < l.ls.length) → ∀ n, 0 ≤ n → ks.foldl (rsS l b a) n = ks.foldl (shS l b a) n
  | [], _, n, _ => rfl
  | k :: ks, h, n, hn => by
    have bd := last_bd (a := a) g (h k (by simp))
    rw [List.foldl_cons, List.foldl_cons]
    have e : rsS l b a n k = shS l b a n k := by
      unfold rsS shS mnI
      rw [if_neg (by omega : ¬ n < 0)]
    rw [e]
    refine sh_rs g ks (fun j hj => h j (by simp [hj])) _ ?_
    unfold shS mnI
    split
    · split <;> omega
    · exact hn
theorem sh_rs1 {l : Li} (g : Good l) {b : Nat → Nat} {a : Nat} : ∀ (ks : List Nat), (∀ k ∈ ks, k < l.ls.length) → (∃ k, k ∈ ks ∧ freeB b a k = true) → ks.foldl (rsS l b a) (-1) = ks.foldl (shS l b a) 1000000
  | [], _, ⟨k, hk, _⟩ => by simp at hk
  | k :: ks, h, hx => by
    have bd := last_bd (a := a) g (h k (by simp))
    rw [List.foldl_cons, List.foldl_cons]
    cases hf : freeB b a k with
    | false =>
      have e1 : rsS l b a (-1) k = -1 := by unfold rsS; rw [hf, if_neg (by simp)]
      have e2 : shS l b a 1000000 k = 1000000 := by unfold shS; rw [hf, if_neg (by simp)]
      rw [e1, e2]
      refine sh_rs1 g ks (fun j hj => h j (by simp [hj])) ?_
      obtain ⟨j, h1, h2⟩ := hx
      rcases List.mem_cons.1 h1 with rfl | h1
      · rw [hf] at h2; simp at h2
      · exact ⟨j, h1, h2⟩
    | true =>
      have e1 : rsS l b a (-1) k = lastF l a k := by unfold rsS; rw [hf, if_pos rfl, if_pos (by omega)]
      have e2 : shS l b a 1000000 k = lastF l a k := by
        unfold shS mnI
        rw [hf, if_pos rfl]
        split <;> omega
      rw [e1, e2]
      exact sh_rs g ks (fun j hj => h j (by simp [hj])) _ bd.1
theorem shown_eq {l : Li} (g : Good l) {a : Nat} (ha : a < 2 ^ l.ls.length) (h0 : a ≠ 0) : rsF l (behF l.ts) a = shF l (behF l.ts) a := by
  refine sh_rs1 g _ (fun k hk => el_lt ha hk) ?_
  have hne : el a ≠ [] := fun hc => h0 ((el_0 a (lt_10 ha g.few)).1 hc)
  obtain ⟨k, hk⟩ := List.exists_mem_of_ne_nil _ hne
  exact g.prec.free _ k hk (Nat.le_refl _)
end Go.Proofs.YtpbeclkpohehgaaDoor
namespace Go.Proofs.YtpbeclkpohehgaaDoor
open Go Go.DL
set_option maxRecDepth 100000
set_option maxHeartbeats 4000000

def prv (t : List Int) : Nat → Int
  | 0 => -1
  | i + 1 => t.getD i 0
/-- The error of a number of a set. -/
def vsE (n : Nat) (t : List Int) (i : Nat) : Int := if btw 0 (t.getD i 0) ((n : Int) - 1) then (if t.getD i 0 ≤ prv t i then 7 else 0) else 5
theorem vsE_of {n : Nat} {t : List Int} {i : Nat} {v : Int} (hv : t[i]? = some v) : (btw 0 v ((n : Int) - 1) = true ∧ (0 ≤ v ∧ v < n) ∧ (v ≤ prv t i) = False ∧ vsE n t i = 0) ∨ (btw 0 v ((n : Int) - 1) = true ∧ (0 ≤ v ∧ v < n) ∧ (v ≤ prv t i) = True ∧ vsE n t i = 7) ∨ (btw 0 v ((n : Int) - 1) = false ∧ vsE n t i = 5) := by
  unfold vsE
  rw [getD_of hv]
  cases h : btw 0 v ((n : Int) - 1)
  · exact .inr (.inr ⟨rfl, rfl⟩)
  · have := btwF.1 h
    by_cases hl : v ≤ prv t i
    · exact .inr (.inl ⟨rfl, by omega, eq_true hl, by simp [hl]⟩)
    · exact .inl ⟨rfl, by omega, eq_false hl, by simp [hl]⟩
theorem allT_lt3 {n : Nat} (hn : n ≤ 10) {t : List Int} {m : Nat} (h : ∀ i, i < m → vsE n t i = 0) (hm : m ≤ t.length) : allT t 0 m < 2 ^ n := by
  apply Nat.lt_pow_two_of_testBit
  intro y hy
  cases hc : (allT t 0 m).testBit y with
  | false => rfl
  | true =>
    rcases allT_bit.1 hc with h5 | ⟨i, h5, h6⟩
    · rw [Nat.zero_testBit] at h5; simp at h5
    · obtain ⟨v, hv⟩ := at_ix (l := t) (i := i) (by omega)
      rw [getD_of hv] at h6
      have h0 := h i h5
      rcases vsE_of (n := n) hv with ⟨_, h2, _⟩ | ⟨_, _, _, h4⟩ | ⟨_, h4⟩
      · omega
      · rw [h0] at h4; simp at h4
      · rw [h0] at h4; simp at h4
theorem allT_ne {t : List Int} (h : t.length ≠ 0) : allT t 0 t.length ≠ 0 := by
  intro hc
  have := (allT_bit (t := t) (a := 0) (i := t.length) (x := (t.getD 0 0).toNat)).2 (.inr ⟨0, by omega, rfl⟩)
  rw [hc, Nat.zero_testBit] at this
  simp at this
def verE (l : Li) (n : Int) (t : List Int) : Int := if checkL l = 0 then if btw 1 n 1000000 then if t.length = 0 then 4 else if firstN (vsE l.ls.length t) t.length = 0 then (if shF l (behF l.ts) (allT t 0 t.length) < n then 11 else 0) else firstN (vsE l.ls.length t) t.length else 2 else checkL l
section
variable {l : Li} {b : Nat → Nat}
abbrev hV (l : Li) (b : Nat → Nat) : XH := [some (.blk true (.cells true l.c)), some (.blk false (.cells true (yC l b 2))), some (.blk true (.map true []))]
theorem round36 (hn : l.ls.length ≤ 10) (n : Int) {t : List Int} {i a : Nat} {v : Int} (ha : a < 2 ^ 10) (hv : t[i]? = some v) (ht : t.length ≤ 1000) (he : vsE l.ls.length t i = 0) :
    headX 0 [1, 3, 7, 9, 10, 30, 31, 32] (execW progX 36 0 none (match x36l0 with | .loop _ a => a | c => c) (envL [1, 3, 7, 9, 10, 30, 31, 32] [I n, .pt 0 0, .pt 1 0, U a, I (prv t i), rI t, I t.length, I (i : Nat)]) (hV l b)) =
      some ([I n, .pt 0 0, .pt 1 0, U (a ||| 2 ^ v.toNat), I (prv t (i + 1)), rI t, I t.length, I (i + 1 : Nat)], hV l b) := by
  have a1 := lt_ix (lt_of hv)
  have a2 := up_ix (lt_of hv) (by omega)
  have a3 : IntKind.i64.wrap ((l.ls.length : Int) - 1) = (l.ls.length : Int) - 1 := wrap_ok (by omega) (by omega)
  have e1 : prv t (i + 1) = v := getD_of hv
  rw [e1]
  rcases vsE_of (n := l.ls.length) hv with ⟨h1, h2, h3, h4⟩ | ⟨_, _, _, h4⟩ | ⟨_, h4⟩
  · have n0 : (v < 0) = False := eq_false (by omega)
    have o1 := or_u ha (v := v) (by omega)
    have o2 := or_u1 ha (v := v) (by omega)
    generalize a ||| 2 ^ v.toNat = a' at *
    generalize prv t i = pv at *
    unfold x36l0
    dsimp only
    (sym => (simp [yC_nm, yC_rn, yM_s, yC_gr, yC_sl, yC_fz, yC_len, yC_0, yC_1, yC_2, yC_3, yC_4, yC_15, yC_same, z00,z01,z05,z07,z0b,z0c,z0n,z0v,z0z,z12,z15,z1f,z1j,z1r,z1u,z20,z21,z26,z29,z2b,z2g,z2h,z2j,z2k,z2p,z2r,z2v,z2w,z33,z34,z4l,z4q,z4t,z66,z67,z6b,z6e,z9d,z9e,z9g,z9m,z9p,z9r,z9s,z9v,z9w,z9y,za0,za1,za2,za3,za5,za6,za7,za8,za9,zaa,zab,zae,zaf,zag,zal,zam,zaq,zas,zat,zca,zcc,zcd,zce,zcf,zcg,zcn,zco,zcp,zcq,zcr,zct,zcu,zcv,zcw,zcx,zcy,zd6,zdd,zdj,zdk,zdl,zdo,zds,zdt,zdu,zdv,zf6,zf7,zf8,zf9,zfb,zfm,zfo,zfq,zfs,zft,zfw,zfz,zg0,zg1,zhf, a1, a2, a3, hv, w58, h1, h3, n0, o1, o2]; all_goals tactic => exact rfl))
  · rw [he] at h4; simp at h4
  · rw [he] at h4; simp at h4
theorem left36 (n : Int) (hn : l.ls.length ≤ 10) {t : List Int} {i a : Nat} {v : Int} (hv : t[i]? = some v) (he : vsE l.ls.length t i ≠ 0) :
    ∃ e h, execW progX 36 0 none (match x36l0 with | .loop _ a => a | c => c) (envL [1, 3, 7, 9, 10, 30, 31, 32] [I n, .pt 0 0, .pt 1 0, U a, I (prv t i), rI t, I t.length, I (i : Nat)]) (hV l b) = some (.ret, e, h) ∧ retX [(6, none)] false 0 (some (.ret, e, h)) = some (I (vsE l.ls.length t i), []) := by
  have a1 := lt_ix (lt_of hv)
  have a3 : IntKind.i64.wrap ((l.ls.length : Int) - 1) = (l.ls.length : Int) - 1 := wrap_ok (by omega) (by omega)
  refine ret_of ?_ ?_
  all_goals unfold x36l0
  all_goals dsimp only
  all_goals rcases vsE_of (n := l.ls.length) hv with ⟨_, _, _, h4⟩ | ⟨h1, h2, h3, h4⟩ | ⟨h1, h4⟩
  all_goals first | exact absurd h4 he | skip
  all_goals try rw [h4]
  · (sym => (simp [yC_nm, yC_rn, yM_s, yC_gr, yC_sl, yC_fz, yC_len, yC_0, yC_1, yC_2, yC_3, yC_4, yC_15, yC_same, z00,z01,z05,z07,z0b,z0c,z0n,z0v,z0z,z12,z15,z1f,z1j,z1r,z1u,z20,z21,z26,z29,z2b,z2g,z2h,z2k,z2v,z2w,z33,z34,z4l,z66,z67,z6p,z7r,z9d,z9e,z9g,z9m,z9p,z9y,za2,za3,za5,za6,za7,za8,zaa,zab,zaq,zas,zat,zba,zbt,zbu,zbw,zbx,zby,zbz,zc0,zc3,zc4,zc5,zc6,zca,zce,zcf,zcg,zci,zcn,zco,zcq,zcr,zct,zcu,zcv,zcw,zcx,zcy,zd6,zd7,zdd,zdk,zdo,zds,zdt,zdu,zdv,zf6,zf7,zf8,zf9,zfb,zfm,zfo,zfp,zfq,zfs,zft,zfv,zfx,zg0,zg1,zje, a1, a3, hv, w58, h1, h3]; all_goals tactic => exact rfl))
  · (sym => (simp [yC_nm, yC_rn, yM_s, yC_gr, yC_sl, yC_fz, yC_len, yC_0, yC_1, yC_2, yC_3, yC_4, yC_15, yC_same, z00,z01,z05,z07,z0b,z0c,z0n,z0v,z0z,z12,z15,z1f,z1j,z1r,z1u,z20,z21,z26,z29,z2b,z2g,z2h,z2k,z2v,z2w,z33,z34,z4l,z66,z67,z6p,z7r,z9d,z9e,z9g,z9m,z9p,z9y,za2,za3,za5,za6,za7,za8,zaa,zab,zaq,zas,zat,zba,zbt,zbu,zbw,zbx,zby,zbz,zc0,zc3,zc4,zc5,zc6,zca,zce,zcf,zcg,zci,zcn,zco,zcq,zcr,zct,zcu,zcv,zcw,zcx,zcy,zd6,zd7,zdd,zdk,zdo,zds,zdt,zdu,zdv,zf6,zf7,zf8,zf9,zfb,zfm,zfo,zfp,zfq,zfs,zft,zfv,zfx,zg0,zg1,zje, a1, a3, hv, w58, h1]; all_goals tactic => exact rfl))
  · (sym => (simp [yC_nm, yC_rn, yM_s, yC_gr, yC_sl, yC_fz, yC_len, yC_0, yC_1, yC_2, yC_3, yC_4, yC_15, yC_same, z00,z01,z05,z07,z0b,z0c,z0n,z0v,z0z,z12,z15,z1f,z1j,z1r,z1u,z20,z21,z26,z29,z2b,z2g,z2h,z2k,z2v,z2w,z33,z34,z4l,z66,z67,z6p,z7r,z9d,z9e,z9g,z9m,z9p,z9y,za2,za3,za5,za6,za7,za8,zaa,zab,zaq,zas,zat,zba,zbt,zbu,zbw,zbx,zby,zbz,zc0,zc3,zc4,zc5,zc6,zca,zce,zcf,zcg,zci,zcn,zco,zcq,zcr,zct,zcu,zcv,zcw,zcx,zcy,zd6,zd7,zdd,zdk,zdo,zds,zdt,zdu,zdv,zf6,zf7,zf8,zf9,zfb,zfm,zfo,zfp,zfq,zfs,zft,zfv,zfx,zg0,zg1,zje, a1, a3, hv, w58, h1, h3]; all_goals tactic => exact rfl))
  · (sym => (simp [yC_nm, yC_rn, yM_s, yC_gr, yC_sl, yC_fz, yC_len, yC_0, yC_1, yC_2, yC_3, yC_4, yC_15, yC_same, z00,z01,z05,z07,z0b,z0c,z0n,z0v,z0z,z12,z15,z1f,z1j,z1r,z1u,z20,z21,z26,z29,z2b,z2g,z2h,z2k,z2v,z2w,z33,z34,z4l,z66,z67,z6p,z7r,z9d,z9e,z9g,z9m,z9p,z9y,za2,za3,za5,za6,za7,za8,zaa,zab,zaq,zas,zat,zba,zbt,zbu,zbw,zbx,zby,zbz,zc0,zc3,zc4,zc5,zc6,zca,zce,zcf,zcg,zci,zcn,zco,zcq,zcr,zct,zcu,zcv,zcw,zcx,zcy,zd6,zd7,zdd,zdk,zdo,zds,zdt,zdu,zdv,zf6,zf7,zf8,zf9,zfb,zfm,zfo,zfp,zfq,zfs,zft,zfv,zfx,zg0,zg1,zje, a1, a3, hv, w58, h1]; all_goals tactic => exact rfl))
theorem w36 (hf : l.Fit) (n : Int) (t : List Int) (ht : t.length ≤ 1000) : runW progX 36 [.agg l.c, I n, rI t] [] = some (I (verE l n t), []) := by
  have e52 := w52 l hf
  have e58 := w58 1 n 1000000
  unfold w52R at e52
  unfold verE
  by_cases hc : checkL l = 0
  · rw [if_pos hc]
    rw [if_pos hc] at e52
    have g := good_of hc
    have hn := g.few
    have hb := beh_lt g
    have e80 := fun a ha => w80 (l := l) (b := behF l.ts) (es := []) g hb (a := a) ha
    generalize behF l.ts = b at *
    cases hb1 : btw 1 n 1000000
    · rw [hb1] at e58
      rw [r36 (by simp)]; unfold x36; dsimp only
      (sym => (simp [yC_nm, yC_rn, yM_s, yC_gr, yC_sl, yC_fz, yC_len, yC_0, yC_1, yC_2, yC_3, yC_4, yC_15, yC_same, z00,z01,z05,z06,z07,z09,z0b,z0c,z0f,z0n,z0r,z0v,z0z,z1e,z1f,z1j,z1r,z1u,z20,z21,z26,z2b,z2i,z2t,z2u,z2v,z3h,z4l,z4o,z4q,z4t,z54,z57,z59,z66,z67,z69,z6a,z6b,z6e,z6h,z6p,z6x,z7r,z7u,z7w,z7z,z8d,z9d,z9e,z9g,z9i,z9j,z9k,z9l,z9m,z9n,z9p,z9r,z9s,z9t,z9v,z9w,z9x,z9y,za0,za1,za2,za3,za5,za6,za7,za8,za9,zaa,zab,zac,zae,zaf,zag,zal,zam,zaq,zas,zat,zau,zba,zbc,zbd,zbe,zbf,zbg,zbk,zbt,zbu,zbw,zbx,zby,zbz,zc0,zc3,zc4,zc5,zc6,zc8,zca,zcc,zcd,zce,zcf,zcg,zch,zcj,zcn,zco,zcp,zcq,zcr,zct,zcu,zcv,zcw,zcy,zd3,zd6,zd7,zdj,zdk,zdl,zdo,zds,zdt,zdu,zdv,zdw,zdx,ze2,ze3,zeo,zep,zf5,zf6,zf7,zfa,zfg,zfm,zfo,zfp,zfq,zfr,zfs,zft,zfu,zfv,zfw,zfx,zfy,zfz,zg0,zg1,zhf,zje,zkn,zko,zkp,zkq, e52, e58]; all_goals tactic => exact rfl))
    · rw [hb1] at e58
      by_cases hz : t.length = 0
      · rw [if_pos hz]
        have hz : ((t.length : Int) = 0) = True := eq_true (by omega)
        rw [r36 (by simp)]; unfold x36; dsimp only
        (sym => (simp [yC_nm, yC_rn, yM_s, yC_gr, yC_sl, yC_fz, yC_len, yC_0, yC_1, yC_2, yC_3, yC_4, yC_15, yC_same, z00,z01,z05,z06,z07,z09,z0b,z0c,z0f,z0n,z0r,z0v,z0z,z1e,z1f,z1j,z1r,z1u,z20,z21,z26,z2b,z2i,z2t,z2u,z2v,z3h,z4l,z4o,z4q,z4t,z54,z57,z59,z66,z67,z69,z6a,z6b,z6e,z6h,z6p,z6x,z7r,z7u,z7w,z7z,z8d,z9d,z9e,z9g,z9i,z9j,z9k,z9l,z9m,z9n,z9p,z9r,z9s,z9t,z9v,z9w,z9x,z9y,za0,za1,za2,za3,za5,za6,za7,za8,za9,zaa,zab,zac,zae,zaf,zag,zal,zam,zaq,zas,zat,zau,zba,zbc,zbd,zbe,zbf,zbg,zbk,zbt,zbu,zbw,zbx,zby,zbz,zc0,zc3,zc4,zc5,zc6,zc8,zca,zcc,zcd,zce,zcf,zcg,zch,zcj,zcn,zco,zcp,zcq,zcr,zct,zcu,zcv,zcw,zcy,zd3,zd6,zd7,zdj,zdk,zdl,zdo,zds,zdt,zdu,zdv,zdw,zdx,ze2,ze3,zeo,zep,zf5,zf6,zf7,zfa,zfg,zfm,zfo,zfp,zfq,zfr,zfs,zft,zfu,zfv,zfw,zfx,zfy,zfz,zg0,zg1,zhf,zje,zkn,zko,zkp,zkq, e52, e58, hz]; all_goals tactic => exact rfl))
      · have gz : ((t.length : Int) = 0) = False := eq_false (by omega)
        rw [if_neg hz]
        obtain ⟨m, m1, m2, m3⟩ := firstN_ix (vsE l.ls.length t) t.length
        have z := zf5 (n := (t.length : Int))
        have al0 : allT t 0 0 = 0 := rfl
        have p0 : prv t 0 = -1 := rfl
        have rd : ∀ i, i < m → headX 0 [1, 3, 7, 9, 10, 30, 31, 32] (execW progX 36 0 none (match x36l0 with | .loop _ a => a | c => c) (envL [1, 3, 7, 9, 10, 30, 31, 32] [I n, .pt 0 0, .pt 1 0, U (allT t 0 i), I (prv t i), rI t, I t.length, I (i : Nat)]) (hV l b)) =
            some ([I n, .pt 0 0, .pt 1 0, U (allT t 0 (i + 1)), I (prv t (i + 1)), rI t, I t.length, I (i + 1 : Nat)], hV l b) := by
          intro i hi
          obtain ⟨v, hv⟩ := at_ix (l := t) (i := i) (by omega)
          rw [allT, getD_of hv]
          exact round36 hn n (lt_10 (allT_lt3 hn (fun j hj => m2 j (by omega)) (by omega)) hn) hv ht (m2 i hi)
        rcases m3 with ⟨rfl, e⟩ | ⟨m3, m4, e⟩
        · rw [e, if_pos rfl]
          have e80 := e80 _ (allT_lt3 hn (fun j hj => m2 j (by omega)) (Nat.le_refl _))
          generalize shF l b (allT t 0 t.length) = sv at *
          rw [r36 (by simp)]; unfold x36; dsimp only
          sym =>
            simp [yC_nm, yC_rn, yM_s, yC_gr, yC_sl, yC_fz, yC_len, yC_0, yC_1, yC_2, yC_3, yC_4, yC_15, yC_same, z00,z01,z05,z06,z07,z09,z0b,z0c,z0f,z0n,z0r,z0v,z0z,z1e,z1f,z1j,z1r,z1u,z20,z21,z26,z2b,z2i,z2t,z2u,z2v,z3h,z4l,z4o,z4q,z4t,z54,z57,z59,z66,z67,z69,z6a,z6b,z6e,z6h,z6p,z6x,z7r,z7u,z7w,z7z,z8d,z9d,z9e,z9g,z9i,z9j,z9k,z9l,z9m,z9n,z9p,z9r,z9s,z9t,z9v,z9w,z9x,z9y,za0,za1,za2,za3,za5,za6,za7,za8,za9,zaa,zab,zac,zae,zaf,zag,zal,zam,zaq,zas,zat,zau,zba,zbc,zbd,zbe,zbf,zbg,zbk,zbt,zbu,zbw,zbx,zby,zbz,zc0,zc3,zc4,zc5,zc6,zc8,zca,zcc,zcd,zce,zcf,zcg,zch,zcj,zcn,zco,zcp,zcq,zcr,zct,zcu,zcv,zcw,zcy,zd3,zd6,zd7,zdj,zdk,zdl,zdo,zds,zdt,zdu,zdv,zdw,zdx,ze2,ze3,zeo,zep,zf5,zf6,zf7,zfa,zfg,zfm,zfo,zfp,zfq,zfr,zfs,zft,zfu,zfv,zfw,zfx,zfy,zfz,zg0,zg1,zhf,zje,zkn,zko,zkp,zkq, e52, e58, gz]
            tactic =>
              unfold x36l0
              rw [loop_rule t.length (fun i => [I n, .pt 0 0, .pt 1 0, U (allT t 0 i), I (prv t i), rI t, I t.length, I (i : Nat)]) (fun _ => hV l b)]
              · generalize allT t 0 t.length = al at *
                rcases ptf (sv < n) with h | h
                · simp only [h, if_true]
                  (sym => (simp [yC_nm, yC_rn, yM_s, yC_gr, yC_sl, yC_fz, yC_len, yC_0, yC_1, yC_2, yC_3, yC_4, yC_15, yC_same, z00,z01,z05,z06,z07,z09,z0b,z0c,z0f,z0n,z0r,z0v,z0z,z1e,z1f,z1j,z1r,z1u,z20,z21,z26,z2b,z2i,z2t,z2u,z2v,z3h,z4l,z4o,z4q,z4t,z54,z57,z59,z66,z67,z69,z6a,z6b,z6e,z6h,z6p,z6x,z7r,z7u,z7w,z7z,z8d,z9d,z9e,z9g,z9i,z9j,z9k,z9l,z9m,z9n,z9p,z9r,z9s,z9t,z9v,z9w,z9x,z9y,za0,za1,za2,za3,za5,za6,za7,za8,za9,zaa,zab,zac,zae,zaf,zag,zal,zam,zaq,zas,zat,zau,zba,zbc,zbd,zbe,zbf,zbg,zbk,zbt,zbu,zbw,zbx,zby,zbz,zc0,zc3,zc4,zc5,zc6,zc8,zca,zcc,zcd,zce,zcf,zcg,zch,zcj,zcn,zco,zcp,zcq,zcr,zct,zcu,zcv,zcw,zcy,zd3,zd6,zd7,zdj,zdk,zdl,zdo,zds,zdt,zdu,zdv,zdw,zdx,ze2,ze3,zeo,zep,zf5,zf6,zf7,zfa,zfg,zfm,zfo,zfp,zfq,zfr,zfs,zft,zfu,zfv,zfw,zfx,zfy,zfz,zg0,zg1,zhf,zje,zkn,zko,zkp,zkq, z, e80, h]; all_goals tactic => exact rfl))
                · simp only [h, if_false]
                  (sym => (simp [yC_nm, yC_rn, yM_s, yC_gr, yC_sl, yC_fz, yC_len, yC_0, yC_1, yC_2, yC_3, yC_4, yC_15, yC_same, z00,z01,z05,z06,z07,z09,z0b,z0c,z0f,z0n,z0r,z0v,z0z,z1e,z1f,z1j,z1r,z1u,z20,z21,z26,z2b,z2i,z2t,z2u,z2v,z3h,z4l,z4o,z4q,z4t,z54,z57,z59,z66,z67,z69,z6a,z6b,z6e,z6h,z6p,z6x,z7r,z7u,z7w,z7z,z8d,z9d,z9e,z9g,z9i,z9j,z9k,z9l,z9m,z9n,z9p,z9r,z9s,z9t,z9v,z9w,z9x,z9y,za0,za1,za2,za3,za5,za6,za7,za8,za9,zaa,zab,zac,zae,zaf,zag,zal,zam,zaq,zas,zat,zau,zba,zbc,zbd,zbe,zbf,zbg,zbk,zbt,zbu,zbw,zbx,zby,zbz,zc0,zc3,zc4,zc5,zc6,zc8,zca,zcc,zcd,zce,zcf,zcg,zch,zcj,zcn,zco,zcp,zcq,zcr,zct,zcu,zcv,zcw,zcy,zd3,zd6,zd7,zdj,zdk,zdl,zdo,zds,zdt,zdu,zdv,zdw,zdx,ze2,ze3,zeo,zep,zf5,zf6,zf7,zfa,zfg,zfm,zfo,zfp,zfq,zfr,zfs,zft,zfu,zfv,zfw,zfx,zfy,zfz,zg0,zg1,zhf,zje,zkn,zko,zkp,zkq, z, e80, h]; all_goals tactic => exact rfl))
              · (sym => (simp [yC_nm, yC_rn, yM_s, yC_gr, yC_sl, yC_fz, yC_len, yC_0, yC_1, yC_2, yC_3, yC_4, yC_15, yC_same, z00,z01,z05,z06,z07,z09,z0b,z0c,z0f,z0n,z0r,z0v,z0z,z1e,z1f,z1j,z1r,z1u,z20,z21,z26,z2b,z2i,z2t,z2u,z2v,z3h,z4l,z4o,z4q,z4t,z54,z57,z59,z66,z67,z69,z6a,z6b,z6e,z6h,z6p,z6x,z7r,z7u,z7w,z7z,z8d,z9d,z9e,z9g,z9i,z9j,z9k,z9l,z9m,z9n,z9p,z9r,z9s,z9t,z9v,z9w,z9x,z9y,za0,za1,za2,za3,za5,za6,za7,za8,za9,zaa,zab,zac,zae,zaf,zag,zal,zam,zaq,zas,zat,zau,zba,zbc,zbd,zbe,zbf,zbg,zbk,zbt,zbu,zbw,zbx,zby,zbz,zc0,zc3,zc4,zc5,zc6,zc8,zca,zcc,zcd,zce,zcf,zcg,zch,zcj,zcn,zco,zcp,zcq,zcr,zct,zcu,zcv,zcw,zcy,zd3,zd6,zd7,zdj,zdk,zdl,zdo,zds,zdt,zdu,zdv,zdw,zdx,ze2,ze3,zeo,zep,zf5,zf6,zf7,zfa,zfg,zfm,zfo,zfp,zfq,zfr,zfs,zft,zfu,zfv,zfw,zfx,zfy,zfz,zg0,zg1,zhf,zje,zkn,zko,zkp,zkq, al0, p0]; all_goals tactic => exact rfl))
              · exact rd
              · (sym => (simp [yC_nm, yC_rn, yM_s, yC_gr, yC_sl, yC_fz, yC_len, yC_0, yC_1, yC_2, yC_3, yC_4, yC_15, yC_same, z00,z01,z05,z06,z07,z09,z0b,z0c,z0f,z0n,z0r,z0v,z0z,z1e,z1f,z1j,z1r,z1u,z20,z21,z26,z2b,z2i,z2t,z2u,z2v,z3h,z4l,z4o,z4q,z4t,z54,z57,z59,z66,z67,z69,z6a,z6b,z6e,z6h,z6p,z6x,z7r,z7u,z7w,z7z,z8d,z9d,z9e,z9g,z9i,z9j,z9k,z9l,z9m,z9n,z9p,z9r,z9s,z9t,z9v,z9w,z9x,z9y,za0,za1,za2,za3,za5,za6,za7,za8,za9,zaa,zab,zac,zae,zaf,zag,zal,zam,zaq,zas,zat,zau,zba,zbc,zbd,zbe,zbf,zbg,zbk,zbt,zbu,zbw,zbx,zby,zbz,zc0,zc3,zc4,zc5,zc6,zc8,zca,zcc,zcd,zce,zcf,zcg,zch,zcj,zcn,zco,zcp,zcq,zcr,zct,zcu,zcv,zcw,zcy,zd3,zd6,zd7,zdj,zdk,zdl,zdo,zds,zdt,zdu,zdv,zdw,zdx,ze2,ze3,zeo,zep,zf5,zf6,zf7,zfa,zfg,zfm,zfo,zfp,zfq,zfr,zfs,zft,zfu,zfv,zfw,zfx,zfy,zfz,zg0,zg1,zhf,zje,zkn,zko,zkp,zkq, z]; all_goals tactic => exact rfl))
        · rw [e, if_neg m4]
          obtain ⟨v, hv⟩ := at_ix m3
          obtain ⟨eo, ho2, p1, p2⟩ := left36 (l := l) (b := b) n hn (a := allT t 0 m) hv m4
          rw [r36 (by simp)]; unfold x36; dsimp only
          sym =>
            simp [yC_nm, yC_rn, yM_s, yC_gr, yC_sl, yC_fz, yC_len, yC_0, yC_1, yC_2, yC_3, yC_4, yC_15, yC_same, z00,z01,z05,z06,z07,z09,z0b,z0c,z0f,z0n,z0r,z0v,z0z,z1e,z1f,z1j,z1r,z1u,z20,z21,z26,z2b,z2i,z2t,z2u,z2v,z3h,z4l,z4o,z4q,z4t,z54,z57,z59,z66,z67,z69,z6a,z6b,z6e,z6h,z6p,z6x,z7r,z7u,z7w,z7z,z8d,z9d,z9e,z9g,z9i,z9j,z9k,z9l,z9m,z9n,z9p,z9r,z9s,z9t,z9v,z9w,z9x,z9y,za0,za1,za2,za3,za5,za6,za7,za8,za9,zaa,zab,zac,zae,zaf,zag,zal,zam,zaq,zas,zat,zau,zba,zbc,zbd,zbe,zbf,zbg,zbk,zbt,zbu,zbw,zbx,zby,zbz,zc0,zc3,zc4,zc5,zc6,zc8,zca,zcc,zcd,zce,zcf,zcg,zch,zcj,zcn,zco,zcp,zcq,zcr,zct,zcu,zcv,zcw,zcy,zd3,zd6,zd7,zdj,zdk,zdl,zdo,zds,zdt,zdu,zdv,zdw,zdx,ze2,ze3,zeo,zep,zf5,zf6,zf7,zfa,zfg,zfm,zfo,zfp,zfq,zfr,zfs,zft,zfu,zfv,zfw,zfx,zfy,zfz,zg0,zg1,zhf,zje,zkn,zko,zkp,zkq, e52, e58, gz]
            tactic =>
              unfold x36l0 at p1 ⊢
              dsimp only at p1
              rw [loop_rule m (fun i => [I n, .pt 0 0, .pt 1 0, U (allT t 0 i), I (prv t i), rI t, I t.length, I (i : Nat)]) (fun _ => hV l b)]
              · rw [p1]
                exact p2
              · (sym => (simp [yC_nm, yC_rn, yM_s, yC_gr, yC_sl, yC_fz, yC_len, yC_0, yC_1, yC_2, yC_3, yC_4, yC_15, yC_same, z00,z01,z05,z06,z07,z09,z0b,z0c,z0f,z0n,z0r,z0v,z0z,z1e,z1f,z1j,z1r,z1u,z20,z21,z26,z2b,z2i,z2t,z2u,z2v,z3h,z4l,z4o,z4q,z4t,z54,z57,z59,z66,z67,z69,z6a,z6b,z6e,z6h,z6p,z6x,z7r,z7u,z7w,z7z,z8d,z9d,z9e,z9g,z9i,z9j,z9k,z9l,z9m,z9n,z9p,z9r,z9s,z9t,z9v,z9w,z9x,z9y,za0,za1,za2,za3,za5,za6,za7,za8,za9,zaa,zab,zac,zae,zaf,zag,zal,zam,zaq,zas,zat,zau,zba,zbc,zbd,zbe,zbf,zbg,zbk,zbt,zbu,zbw,zbx,zby,zbz,zc0,zc3,zc4,zc5,zc6,zc8,zca,zcc,zcd,zce,zcf,zcg,zch,zcj,zcn,zco,zcp,zcq,zcr,zct,zcu,zcv,zcw,zcy,zd3,zd6,zd7,zdj,zdk,zdl,zdo,zds,zdt,zdu,zdv,zdw,zdx,ze2,ze3,zeo,zep,zf5,zf6,zf7,zfa,zfg,zfm,zfo,zfp,zfq,zfr,zfs,zft,zfu,zfv,zfw,zfx,zfy,zfz,zg0,zg1,zhf,zje,zkn,zko,zkp,zkq, al0, p0]; all_goals tactic => exact rfl))
              · exact rd
              · rw [p1]; rfl
  · rw [if_neg hc]
    rw [if_neg hc] at e52
    have g := eq_false hc
    rw [r36 (by simp)]; unfold x36; dsimp only
    (sym => (simp [yC_nm, yC_rn, yM_s, yC_gr, yC_sl, yC_fz, yC_len, yC_0, yC_1, yC_2, yC_3, yC_4, yC_15, yC_same, z00,z01,z05,z06,z07,z09,z0b,z0c,z0f,z0n,z0r,z0v,z0z,z1e,z1f,z1j,z1r,z1u,z20,z21,z26,z2b,z2i,z2t,z2u,z2v,z3h,z4l,z4o,z4q,z4t,z54,z57,z59,z66,z67,z69,z6a,z6b,z6e,z6h,z6p,z6x,z7r,z7u,z7w,z7z,z8d,z9d,z9e,z9g,z9i,z9j,z9k,z9l,z9m,z9n,z9p,z9r,z9s,z9t,z9v,z9w,z9x,z9y,za0,za1,za2,za3,za5,za6,za7,za8,za9,zaa,zab,zac,zae,zaf,zag,zal,zam,zaq,zas,zat,zau,zba,zbc,zbd,zbe,zbf,zbg,zbk,zbt,zbu,zbw,zbx,zby,zbz,zc0,zc3,zc4,zc5,zc6,zc8,zca,zcc,zcd,zce,zcf,zcg,zch,zcj,zcn,zco,zcp,zcq,zcr,zct,zcu,zcv,zcw,zcy,zd3,zd6,zd7,zdj,zdk,zdl,zdo,zds,zdt,zdu,zdv,zdw,zdx,ze2,ze3,zeo,zep,zf5,zf6,zf7,zfa,zfg,zfm,zfo,zfp,zfq,zfr,zfs,zft,zfu,zfv,zfw,zfx,zfy,zfz,zg0,zg1,zhf,zje,zkn,zko,zkp,zkq, e52, g]; all_goals tactic => exact rfl))
end
end Go.Proofs.YtpbeclkpohehgaaDoor
namespace Go.Proofs.YtpbeclkpohehgaaDoor
open Go Go.DL
set_option maxRecDepth 100000
set_option maxHeartbeats 4000000
section
variable {l : Li}
theorem round35 (hn : l.ls.length ≤ 10) (n : Int) {t : List Int} {i a : Nat} {v : Int} (ha : a < 2 ^ 10) (hv : t[i]? = some v) (ht : t.length ≤ 1000) (he : vsE l.ls.length t i = 0) :
    headX 0 [1, 2, 3, 8, 9] (execW progX 35 0 none (match x35l0 with | .loop _ a => a | c => c) (envL [1, 2, 3, 8, 9] [I n, rI t, .pt 0 0, I (a : Nat), I (i : Nat)]) (hL l)) =
      some ([I n, rI t, .pt 0 0, I (a ||| 2 ^ v.toNat : Nat), I (i + 1 : Nat)], hL l) := by
  have a1 := lt_ix (lt_of hv)
  have a2 := up_ix (lt_of hv) (by omega)
  have a3 : IntKind.i64.wrap ((l.ls.length : Int) - 1) = (l.ls.length : Int) - 1 := wrap_ok (by omega) (by omega)
  rcases vsE_of (n := l.ls.length) hv with ⟨h1, h2, h3, h4⟩ | ⟨_, _, _, h4⟩ | ⟨_, h4⟩
  · have n0 : (v < 0) = False := eq_false (by omega)
    have o1 := or_i ha (v := v) (by omega)
    have o2 := or_i1 ha (v := v) (by omega)
    generalize a ||| 2 ^ v.toNat = a' at *
    unfold x35l0
    dsimp only
    cases i with
    | zero =>
      have a1 : ((0 : Int) < (t.length : Int)) = True := a1
      (sym => (simp [z00,z01,z04,z05,z07,z08,z0b,z0c,z0h,z0i,z0k,z0n,z0q,z0v,z0z,z12,z15,z1f,z1j,z1k,z1l,z1m,z1p,z1v,z1w,z20,z21,z22,z23,z26,z29,z2b,z2g,z2h,z2j,z2k,z2p,z2r,z2v,z2w,z2x,z33,z34,z36,z3g,z3h,z3j,z4l,z4q,z4t,z66,z67,z6b,z6e,z9d,z9e,z9g,z9m,z9p,z9r,z9v,z9w,z9y,za0,za1,za2,za3,za5,za6,za7,za8,za9,zaa,zab,zae,zaf,zal,zaq,zas,zat,zav,zax,zaz,zca,zcc,zcd,zce,zcf,zcg,zcn,zco,zcq,zcr,zct,zcu,zcv,zcw,zcx,zcy,zd3,zd6,zd7,zd8,zd9,zdd,zdj,zdk,zdl,zdm,zdn,zdo,zds,zdt,zdu,zdv,zf6,zf7,zf8,zf9,zfb,zfm,zfo,zfq,zfs,zft,zfw,zfz,zg0,zg1,zhf, a1, a3, hv, w62, h1, n0, o1, o2]; all_goals tactic => exact rfl))
    | succ j =>
      obtain ⟨y, hy⟩ := at_ix (l := t) (i := j) (by have := lt_of hv; omega)
      have e : prv t (j + 1) = y := getD_of hy
      rw [e] at h3
      have b1 : ((0 : Int) < ((j + 1 : Nat) : Int)) = True := eq_true (by omega)
      have b2 : IntKind.i64.wrap (((j + 1 : Nat) : Int) - 1) = (j : Int) := by
        rw [show ((j + 1 : Nat) : Int) - 1 = (j : Int) by omega]
        have := lt_of hv
        exact wrap_ok (by omega) (by omega)
      have b3 := lt_ix (lt_of hy)
      generalize j + 1 = i at *
      (sym => (simp [z00,z01,z04,z05,z07,z08,z0b,z0c,z0h,z0i,z0k,z0n,z0q,z0v,z0z,z12,z15,z1f,z1j,z1k,z1l,z1m,z1p,z1v,z1w,z20,z21,z22,z23,z26,z29,z2b,z2g,z2h,z2j,z2k,z2p,z2r,z2v,z2w,z2x,z33,z34,z36,z3g,z3h,z3j,z4l,z4q,z4t,z66,z67,z6b,z6e,z9d,z9e,z9g,z9m,z9p,z9r,z9v,z9w,z9y,za0,za1,za2,za3,za5,za6,za7,za8,za9,zaa,zab,zae,zaf,zal,zaq,zas,zat,zav,zax,zaz,zca,zcc,zcd,zce,zcf,zcg,zcn,zco,zcq,zcr,zct,zcu,zcv,zcw,zcx,zcy,zd3,zd6,zd7,zd8,zd9,zdd,zdj,zdk,zdl,zdm,zdn,zdo,zds,zdt,zdu,zdv,zf6,zf7,zf8,zf9,zfb,zfm,zfo,zfq,zfs,zft,zfw,zfz,zg0,zg1,zhf, a1, a2, a3, b1, b2, b3, hv, hy, w62, h1, h3, n0, o1, o2]; all_goals tactic => exact rfl))
  · rw [he] at h4; simp at h4
  · rw [he] at h4; simp at h4
theorem left35 (n : Int) (hn : l.ls.length ≤ 10) {t : List Int} {i a : Nat} {v : Int} (hv : t[i]? = some v) (ht : t.length ≤ 1000) (he : vsE l.ls.length t i ≠ 0) :
    ∃ e h, execW progX 35 0 none (match x35l0 with | .loop _ a => a | c => c) (envL [1, 2, 3, 8, 9] [I n, rI t, .pt 0 0, I (a : Nat), I (i : Nat)]) (hL l) = some (.ret, e, h) ∧ retX [(6, none)] false 0 (some (.ret, e, h)) = some (I (vsE l.ls.length t i), []) := by
  have a1 := lt_ix (lt_of hv)
  have a3 : IntKind.i64.wrap ((l.ls.length : Int) - 1) = (l.ls.length : Int) - 1 := wrap_ok (by omega) (by omega)
  refine ret_of ?_ ?_
  all_goals unfold x35l0
  all_goals dsimp only
  all_goals rcases vsE_of (n := l.ls.length) hv with ⟨_, _, _, h4⟩ | ⟨h1, h2, h3, h4⟩ | ⟨h1, h4⟩
  all_goals first | exact absurd h4 he | skip
  all_goals try rw [h4]
  all_goals cases i with
    | zero =>
      have a1 : ((0 : Int) < (t.length : Int)) = True := a1
      first | (exfalso; have := of_eq_true ‹(v ≤ prv t 0) = True›; have e : prv t 0 = -1 := rfl; rw [e] at this; omega) | (sym => (simp [z00,z01,z04,z05,z07,z08,z0b,z0c,z0h,z0i,z0n,z0q,z0v,z0z,z12,z15,z1f,z1k,z1l,z1m,z1p,z1v,z1w,z20,z21,z22,z26,z29,z2b,z2g,z2h,z2k,z2v,z2w,z2x,z33,z34,z3g,z3h,z4l,z66,z67,z6p,z7r,z9d,z9e,z9g,z9m,z9p,z9y,za2,za3,za5,za6,za7,za8,zaa,zab,zaq,zas,zat,zav,zax,zaz,zba,zbt,zbu,zbw,zbx,zby,zbz,zc0,zc3,zc4,zc5,zc6,zca,zce,zcf,zcg,zci,zcn,zco,zcq,zcr,zct,zcu,zcv,zcw,zcx,zcy,zd3,zd6,zd7,zd8,zd9,zdd,zdk,zdm,zdn,zdo,zds,zdt,zdu,zdv,zf6,zf7,zf8,zf9,zfb,zfm,zfo,zfp,zfq,zfs,zft,zfv,zfx,zg0,zg1,zje, a1, a3, hv, w62, h1]; all_goals tactic => exact rfl))
    | succ j =>
      obtain ⟨y, hy⟩ := at_ix (l := t) (i := j) (by have := lt_of hv; omega)
      have e : prv t (j + 1) = y := getD_of hy
      have b1 : ((0 : Int) < ((j + 1 : Nat) : Int)) = True := eq_true (by omega)
      have b2 : IntKind.i64.wrap (((j + 1 : Nat) : Int) - 1) = (j : Int) := by
        rw [show ((j + 1 : Nat) : Int) - 1 = (j : Int) by omega]
        have := lt_of hv
        exact wrap_ok (by omega) (by omega)
      have b3 := lt_ix (lt_of hy)
      try rw [e] at h3
      generalize j + 1 = i at *
      first | (sym => (simp [z00,z01,z04,z05,z07,z08,z0b,z0c,z0h,z0i,z0n,z0q,z0v,z0z,z12,z15,z1f,z1k,z1l,z1m,z1p,z1v,z1w,z20,z21,z22,z26,z29,z2b,z2g,z2h,z2k,z2v,z2w,z2x,z33,z34,z3g,z3h,z4l,z66,z67,z6p,z7r,z9d,z9e,z9g,z9m,z9p,z9y,za2,za3,za5,za6,za7,za8,zaa,zab,zaq,zas,zat,zav,zax,zaz,zba,zbt,zbu,zbw,zbx,zby,zbz,zc0,zc3,zc4,zc5,zc6,zca,zce,zcf,zcg,zci,zcn,zco,zcq,zcr,zct,zcu,zcv,zcw,zcx,zcy,zd3,zd6,zd7,zd8,zd9,zdd,zdk,zdm,zdn,zdo,zds,zdt,zdu,zdv,zf6,zf7,zf8,zf9,zfb,zfm,zfo,zfp,zfq,zfs,zft,zfv,zfx,zg0,zg1,zje, a1, a3, b1, b2, b3, hv, hy, w62, h1, h3]; all_goals tactic => exact rfl)) | (sym => (simp [z00,z01,z04,z05,z07,z08,z0b,z0c,z0h,z0i,z0n,z0q,z0v,z0z,z12,z15,z1f,z1k,z1l,z1m,z1p,z1v,z1w,z20,z21,z22,z26,z29,z2b,z2g,z2h,z2k,z2v,z2w,z2x,z33,z34,z3g,z3h,z4l,z66,z67,z6p,z7r,z9d,z9e,z9g,z9m,z9p,z9y,za2,za3,za5,za6,za7,za8,zaa,zab,zaq,zas,zat,zav,zax,zaz,zba,zbt,zbu,zbw,zbx,zby,zbz,zc0,zc3,zc4,zc5,zc6,zca,zce,zcf,zcg,zci,zcn,zco,zcq,zcr,zct,zcu,zcv,zcw,zcx,zcy,zd3,zd6,zd7,zd8,zd9,zdd,zdk,zdm,zdn,zdo,zds,zdt,zdu,zdv,zf6,zf7,zf8,zf9,zfb,zfm,zfo,zfp,zfq,zfs,zft,zfv,zfx,zg0,zg1,zje, a1, a3, b1, b2, b3, hv, hy, w62, h1]; all_goals tactic => exact rfl))
theorem w35 (hf : l.Fit) (n : Int) (t : List Int) (ht : t.length ≤ 1000) : runW progX 35 [.agg l.c, I n, rI t] [] = some (I (verE l n t), []) := by
  have e23 := w23 l hf
  have e62 := w62 1 n 1000000
  unfold verE
  by_cases hc : checkL l = 0
  · rw [if_pos hc]
    rw [hc] at e23
    have g := good_of hc
    have hn := g.few
    have e87 := fun a ha => w87 (l := l) hf g (a := a) ha
    have heq := fun a ha => shown_eq (l := l) g (a := a) ha
    generalize behF l.ts = b at *
    cases hb1 : btw 1 n 1000000
    · rw [hb1] at e62
      rw [r35 (by simp)]; unfold x35; dsimp only
      (sym => (simp [z00,z01,z05,z06,z07,z09,z0b,z0c,z0f,z0n,z0r,z0v,z0z,z1f,z1j,z1r,z1u,z20,z21,z26,z2b,z2t,z2u,z2v,z3h,z4l,z4o,z4q,z4t,z54,z57,z59,z66,z67,z69,z6b,z6e,z6p,z7r,z7u,z7w,z8d,z9d,z9e,z9g,z9j,z9k,z9l,z9m,z9n,z9r,z9v,z9w,z9y,za0,za1,za2,za3,za5,za6,za7,za8,za9,zaa,zab,zae,zaf,zal,zaq,zas,zat,zba,zbc,zbd,zbf,zbg,zbk,zbt,zbu,zbw,zbx,zby,zbz,zc0,zc3,zc4,zc5,zc6,zc8,zca,zcc,zcd,zce,zcf,zcg,zch,zcj,zcn,zco,zcq,zcr,zct,zcu,zcv,zcw,zcy,zd3,zd6,zd7,zdj,zdk,zdl,zdo,zds,zdt,zdu,zdv,zdw,zdx,ze2,ze3,zeo,zep,zf5,zf6,zf7,zfa,zfg,zfm,zfo,zfp,zfq,zfr,zfs,zft,zfu,zfv,zfy,zfz,zg0,zg1,zhf,zje,zkn,zko,zkp, e23, e62]; all_goals tactic => exact rfl))
    · rw [hb1] at e62
      by_cases hz : t.length = 0
      · rw [if_pos hz]
        have hz : ((t.length : Int) = 0) = True := eq_true (by omega)
        rw [r35 (by simp)]; unfold x35; dsimp only
        (sym => (simp [z00,z01,z05,z06,z07,z09,z0b,z0c,z0f,z0n,z0r,z0v,z0z,z1f,z1j,z1r,z1u,z20,z21,z26,z2b,z2t,z2u,z2v,z3h,z4l,z4o,z4q,z4t,z54,z57,z59,z66,z67,z69,z6b,z6e,z6p,z7r,z7u,z7w,z8d,z9d,z9e,z9g,z9j,z9k,z9l,z9m,z9n,z9r,z9v,z9w,z9y,za0,za1,za2,za3,za5,za6,za7,za8,za9,zaa,zab,zae,zaf,zal,zaq,zas,zat,zba,zbc,zbd,zbf,zbg,zbk,zbt,zbu,zbw,zbx,zby,zbz,zc0,zc3,zc4,zc5,zc6,zc8,zca,zcc,zcd,zce,zcf,zcg,zch,zcj,zcn,zco,zcq,zcr,zct,zcu,zcv,zcw,zcy,zd3,zd6,zd7,zdj,zdk,zdl,zdo,zds,zdt,zdu,zdv,zdw,zdx,ze2,ze3,zeo,zep,zf5,zf6,zf7,zfa,zfg,zfm,zfo,zfp,zfq,zfr,zfs,zft,zfu,zfv,zfy,zfz,zg0,zg1,zhf,zje,zkn,zko,zkp, e23, e62, hz]; all_goals tactic => exact rfl))
      · have gz : ((t.length : Int) = 0) = False := eq_false (by omega)
        rw [if_neg hz]
        obtain ⟨m, m1, m2, m3⟩ := firstN_ix (vsE l.ls.length t) t.length
        have z := zf5 (n := (t.length : Int))
        have al0 : allT t 0 0 = 0 := rfl
        have rd : ∀ i, i < m → headX 0 [1, 2, 3, 8, 9] (execW progX 35 0 none (match x35l0 with | .loop _ a => a | c => c) (envL [1, 2, 3, 8, 9] [I n, rI t, .pt 0 0, I (allT t 0 i : Nat), I (i : Nat)]) (hL l)) =
            some ([I n, rI t, .pt 0 0, I (allT t 0 (i + 1) : Nat), I (i + 1 : Nat)], hL l) := by
          intro i hi
          obtain ⟨v, hv⟩ := at_ix (l := t) (i := i) (by omega)
          rw [allT, getD_of hv]
          exact round35 hn n (lt_10 (allT_lt3 hn (fun j hj => m2 j (by omega)) (by omega)) hn) hv ht (m2 i hi)
        rcases m3 with ⟨rfl, e⟩ | ⟨m3, m4, e⟩
        · rw [e, if_pos rfl]
          have hlt := allT_lt3 hn (fun j hj => m2 j (by omega)) (Nat.le_refl t.length)
          have e87 := e87 _ hlt
          rw [heq _ hlt (allT_ne hz)] at e87
          generalize shF l b (allT t 0 t.length) = sv at *
          rw [r35 (by simp)]; unfold x35; dsimp only
          sym =>
            simp [z00,z01,z05,z06,z07,z09,z0b,z0c,z0f,z0n,z0r,z0v,z0z,z1f,z1j,z1r,z1u,z20,z21,z26,z2b,z2t,z2u,z2v,z3h,z4l,z4o,z4q,z4t,z54,z57,z59,z66,z67,z69,z6b,z6e,z6p,z7r,z7u,z7w,z8d,z9d,z9e,z9g,z9j,z9k,z9l,z9m,z9n,z9r,z9v,z9w,z9y,za0,za1,za2,za3,za5,za6,za7,za8,za9,zaa,zab,zae,zaf,zal,zaq,zas,zat,zba,zbc,zbd,zbf,zbg,zbk,zbt,zbu,zbw,zbx,zby,zbz,zc0,zc3,zc4,zc5,zc6,zc8,zca,zcc,zcd,zce,zcf,zcg,zch,zcj,zcn,zco,zcq,zcr,zct,zcu,zcv,zcw,zcy,zd3,zd6,zd7,zdj,zdk,zdl,zdo,zds,zdt,zdu,zdv,zdw,zdx,ze2,ze3,zeo,zep,zf5,zf6,zf7,zfa,zfg,zfm,zfo,zfp,zfq,zfr,zfs,zft,zfu,zfv,zfy,zfz,zg0,zg1,zhf,zje,zkn,zko,zkp, e23, e62, gz]
            tactic =>
              unfold x35l0
              rw [loop_rule t.length (fun i => [I n, rI t, .pt 0 0, I (allT t 0 i : Nat), I (i : Nat)]) (fun _ => hL l)]
              · generalize allT t 0 t.length = al at *
                rcases ptf (sv < n) with h | h
                · simp only [h, if_true]
                  (sym => (simp [z00,z01,z05,z06,z07,z09,z0b,z0c,z0f,z0n,z0r,z0v,z0z,z1f,z1j,z1r,z1u,z20,z21,z26,z2b,z2t,z2u,z2v,z3h,z4l,z4o,z4q,z4t,z54,z57,z59,z66,z67,z69,z6b,z6e,z6p,z7r,z7u,z7w,z8d,z9d,z9e,z9g,z9j,z9k,z9l,z9m,z9n,z9r,z9v,z9w,z9y,za0,za1,za2,za3,za5,za6,za7,za8,za9,zaa,zab,zae,zaf,zal,zaq,zas,zat,zba,zbc,zbd,zbf,zbg,zbk,zbt,zbu,zbw,zbx,zby,zbz,zc0,zc3,zc4,zc5,zc6,zc8,zca,zcc,zcd,zce,zcf,zcg,zch,zcj,zcn,zco,zcq,zcr,zct,zcu,zcv,zcw,zcy,zd3,zd6,zd7,zdj,zdk,zdl,zdo,zds,zdt,zdu,zdv,zdw,zdx,ze2,ze3,zeo,zep,zf5,zf6,zf7,zfa,zfg,zfm,zfo,zfp,zfq,zfr,zfs,zft,zfu,zfv,zfy,zfz,zg0,zg1,zhf,zje,zkn,zko,zkp, z, e87, h]; all_goals tactic => exact rfl))
                · simp only [h, if_false]
                  (sym => (simp [z00,z01,z05,z06,z07,z09,z0b,z0c,z0f,z0n,z0r,z0v,z0z,z1f,z1j,z1r,z1u,z20,z21,z26,z2b,z2t,z2u,z2v,z3h,z4l,z4o,z4q,z4t,z54,z57,z59,z66,z67,z69,z6b,z6e,z6p,z7r,z7u,z7w,z8d,z9d,z9e,z9g,z9j,z9k,z9l,z9m,z9n,z9r,z9v,z9w,z9y,za0,za1,za2,za3,za5,za6,za7,za8,za9,zaa,zab,zae,zaf,zal,zaq,zas,zat,zba,zbc,zbd,zbf,zbg,zbk,zbt,zbu,zbw,zbx,zby,zbz,zc0,zc3,zc4,zc5,zc6,zc8,zca,zcc,zcd,zce,zcf,zcg,zch,zcj,zcn,zco,zcq,zcr,zct,zcu,zcv,zcw,zcy,zd3,zd6,zd7,zdj,zdk,zdl,zdo,zds,zdt,zdu,zdv,zdw,zdx,ze2,ze3,zeo,zep,zf5,zf6,zf7,zfa,zfg,zfm,zfo,zfp,zfq,zfr,zfs,zft,zfu,zfv,zfy,zfz,zg0,zg1,zhf,zje,zkn,zko,zkp, z, e87, h]; all_goals tactic => exact rfl))
              · (sym => (simp [z00,z01,z05,z06,z07,z09,z0b,z0c,z0f,z0n,z0r,z0v,z0z,z1f,z1j,z1r,z1u,z20,z21,z26,z2b,z2t,z2u,z2v,z3h,z4l,z4o,z4q,z4t,z54,z57,z59,z66,z67,z69,z6b,z6e,z6p,z7r,z7u,z7w,z8d,z9d,z9e,z9g,z9j,z9k,z9l,z9m,z9n,z9r,z9v,z9w,z9y,za0,za1,za2,za3,za5,za6,za7,za8,za9,zaa,zab,zae,zaf,zal,zaq,zas,zat,zba,zbc,zbd,zbf,zbg,zbk,zbt,zbu,zbw,zbx,zby,zbz,zc0,zc3,zc4,zc5,zc6,zc8,zca,zcc,zcd,zce,zcf,zcg,zch,zcj,zcn,zco,zcq,zcr,zct,zcu,zcv,zcw,zcy,zd3,zd6,zd7,zdj,zdk,zdl,zdo,zds,zdt,zdu,zdv,zdw,zdx,ze2,ze3,zeo,zep,zf5,zf6,zf7,zfa,zfg,zfm,zfo,zfp,zfq,zfr,zfs,zft,zfu,zfv,zfy,zfz,zg0,zg1,zhf,zje,zkn,zko,zkp, al0]; all_goals tactic => exact rfl))
              · exact rd
              · (sym => (simp [z00,z01,z05,z06,z07,z09,z0b,z0c,z0f,z0n,z0r,z0v,z0z,z1f,z1j,z1r,z1u,z20,z21,z26,z2b,z2t,z2u,z2v,z3h,z4l,z4o,z4q,z4t,z54,z57,z59,z66,z67,z69,z6b,z6e,z6p,z7r,z7u,z7w,z8d,z9d,z9e,z9g,z9j,z9k,z9l,z9m,z9n,z9r,z9v,z9w,z9y,za0,za1,za2,za3,za5,za6,za7,za8,za9,zaa,zab,zae,zaf,zal,zaq,zas,zat,zba,zbc,zbd,zbf,zbg,zbk,zbt,zbu,zbw,zbx,zby,zbz,zc0,zc3,zc4,zc5,zc6,zc8,zca,zcc,zcd,zce,zcf,zcg,zch,zcj,zcn,zco,zcq,zcr,zct,zcu,zcv,zcw,zcy,zd3,zd6,zd7,zdj,zdk,zdl,zdo,zds,zdt,zdu,zdv,zdw,zdx,ze2,ze3,zeo,zep,zf5,zf6,zf7,zfa,zfg,zfm,zfo,zfp,zfq,zfr,zfs,zft,zfu,zfv,zfy,zfz,zg0,zg1,zhf,zje,zkn,zko,zkp, z]; all_goals tactic => exact rfl))
        · rw [e, if_neg m4]
          obtain ⟨v, hv⟩ := at_ix m3
          obtain ⟨eo, ho2, p1, p2⟩ := left35 (l := l) n hn (a := allT t 0 m) hv ht m4
          rw [r35 (by simp)]; unfold x35; dsimp only
          sym =>
            simp [z00,z01,z05,z06,z07,z09,z0b,z0c,z0f,z0n,z0r,z0v,z0z,z1f,z1j,z1r,z1u,z20,z21,z26,z2b,z2t,z2u,z2v,z3h,z4l,z4o,z4q,z4t,z54,z57,z59,z66,z67,z69,z6b,z6e,z6p,z7r,z7u,z7w,z8d,z9d,z9e,z9g,z9j,z9k,z9l,z9m,z9n,z9r,z9v,z9w,z9y,za0,za1,za2,za3,za5,za6,za7,za8,za9,zaa,zab,zae,zaf,zal,zaq,zas,zat,zba,zbc,zbd,zbf,zbg,zbk,zbt,zbu,zbw,zbx,zby,zbz,zc0,zc3,zc4,zc5,zc6,zc8,zca,zcc,zcd,zce,zcf,zcg,zch,zcj,zcn,zco,zcq,zcr,zct,zcu,zcv,zcw,zcy,zd3,zd6,zd7,zdj,zdk,zdl,zdo,zds,zdt,zdu,zdv,zdw,zdx,ze2,ze3,zeo,zep,zf5,zf6,zf7,zfa,zfg,zfm,zfo,zfp,zfq,zfr,zfs,zft,zfu,zfv,zfy,zfz,zg0,zg1,zhf,zje,zkn,zko,zkp, e23, e62, gz]
            tactic =>
              unfold x35l0 at p1 ⊢
              dsimp only at p1
              rw [loop_rule m (fun i => [I n, rI t, .pt 0 0, I (allT t 0 i : Nat), I (i : Nat)]) (fun _ => hL l)]
              · rw [p1]
                exact p2
              · (sym => (simp [z00,z01,z05,z06,z07,z09,z0b,z0c,z0f,z0n,z0r,z0v,z0z,z1f,z1j,z1r,z1u,z20,z21,z26,z2b,z2t,z2u,z2v,z3h,z4l,z4o,z4q,z4t,z54,z57,z59,z66,z67,z69,z6b,z6e,z6p,z7r,z7u,z7w,z8d,z9d,z9e,z9g,z9j,z9k,z9l,z9m,z9n,z9r,z9v,z9w,z9y,za0,za1,za2,za3,za5,za6,za7,za8,za9,zaa,zab,zae,zaf,zal,zaq,zas,zat,zba,zbc,zbd,zbf,zbg,zbk,zbt,zbu,zbw,zbx,zby,zbz,zc0,zc3,zc4,zc5,zc6,zc8,zca,zcc,zcd,zce,zcf,zcg,zch,zcj,zcn,zco,zcq,zcr,zct,zcu,zcv,zcw,zcy,zd3,zd6,zd7,zdj,zdk,zdl,zdo,zds,zdt,zdu,zdv,zdw,zdx,ze2,ze3,zeo,zep,zf5,zf6,zf7,zfa,zfg,zfm,zfo,zfp,zfq,zfr,zfs,zft,zfu,zfv,zfy,zfz,zg0,zg1,zhf,zje,zkn,zko,zkp, al0]; all_goals tactic => exact rfl))
              · exact rd
              · rw [p1]; rfl
  · rw [if_neg hc]
    have g := eq_false hc
    rw [r35 (by simp)]; unfold x35; dsimp only
    (sym => (simp [z00,z01,z05,z06,z07,z09,z0b,z0c,z0f,z0n,z0r,z0v,z0z,z1f,z1j,z1r,z1u,z20,z21,z26,z2b,z2t,z2u,z2v,z3h,z4l,z4o,z4q,z4t,z54,z57,z59,z66,z67,z69,z6b,z6e,z6p,z7r,z7u,z7w,z8d,z9d,z9e,z9g,z9j,z9k,z9l,z9m,z9n,z9r,z9v,z9w,z9y,za0,za1,za2,za3,za5,za6,za7,za8,za9,zaa,zab,zae,zaf,zal,zaq,zas,zat,zba,zbc,zbd,zbf,zbg,zbk,zbt,zbu,zbw,zbx,zby,zbz,zc0,zc3,zc4,zc5,zc6,zc8,zca,zcc,zcd,zce,zcf,zcg,zch,zcj,zcn,zco,zcq,zcr,zct,zcu,zcv,zcw,zcy,zd3,zd6,zd7,zdj,zdk,zdl,zdo,zds,zdt,zdu,zdv,zdw,zdx,ze2,ze3,zeo,zep,zf5,zf6,zf7,zfa,zfg,zfm,zfo,zfp,zfq,zfr,zfs,zft,zfu,zfv,zfy,zfz,zg0,zg1,zhf,zje,zkn,zko,zkp, e23, g]; all_goals tactic => exact rfl))
end
theorem w6 (l : Li) (hf : l.Fit2) (n : Int) (t : List Int) : runW progX 6 [.agg l.c, I n, rI t] [] = some (.bool true, []) := by
  have e14 := w14 l hf
  cases hl : largeB l
  · rw [hl] at e14
    have hs := small_of hl
    by_cases ho : 30 < t.length
    · have g : ((30 : Int) < (t.length : Int)) = True := eq_true (by omega)
      rw [r6 (by simp)]; unfold x6; dsimp only
      (sym => (simp [z00,z01,z04,z05,z06,z07,z09,z0a,z0b,z0c,z0f,z0h,z0i,z0j,z0l,z0n,z0q,z0r,z0v,z1f,z1j,z1k,z1m,z1p,z1r,z1u,z1v,z1w,z20,z21,z22,z23,z2b,z2t,z2x,z4l,z4m,z4o,z4q,z54,z57,z59,z66,z67,z69,z6b,z6p,z6q,z6u,z7r,z7s,z7u,z7w,z8d,z9d,z9e,z9g,z9j,z9k,z9l,z9m,z9n,z9y,za2,za3,za5,za6,za7,za8,zaa,zab,zaq,zas,zat,zav,zaw,zax,zaz,zba,zbc,zbd,zbe,zbf,zbg,zbk,zbt,zbu,zbw,zbx,zby,zbz,zc0,zc3,zc4,zc5,zc6,zc8,zce,zcf,zcg,zcj,zcn,zco,zcq,zcr,zct,zcu,zcv,zcw,zd3,zd7,zd8,zd9,zdk,zdl,zdm,zdn,zdo,zds,zdt,zdu,zdv,zdw,zdx,ze2,ze3,zeo,zep,zf6,zf7,zfa,zfg,zfm,zfo,zfp,zfq,zft,zfv,zg0,zg1,zje,zkn,zko,zkp,zkq, e14, g, works_w]; all_goals tactic => exact rfl))
    · have g : ((30 : Int) < (t.length : Int)) = False := eq_false (by omega)
      have e16 := w16 hs
      have e35 := w35 hf.fit n t (by omega)
      have e36 := w36 hf.fit n t (by omega)
      rw [r6 (by simp)]; unfold x6; dsimp only
      (sym => (simp [z00,z01,z04,z05,z06,z07,z09,z0a,z0b,z0c,z0f,z0h,z0i,z0j,z0l,z0n,z0q,z0r,z0v,z1f,z1j,z1k,z1m,z1p,z1r,z1u,z1v,z1w,z20,z21,z22,z23,z2b,z2t,z2x,z4l,z4m,z4o,z4q,z54,z57,z59,z66,z67,z69,z6b,z6p,z6q,z6u,z7r,z7s,z7u,z7w,z8d,z9d,z9e,z9g,z9j,z9k,z9l,z9m,z9n,z9y,za2,za3,za5,za6,za7,za8,zaa,zab,zaq,zas,zat,zav,zaw,zax,zaz,zba,zbc,zbd,zbe,zbf,zbg,zbk,zbt,zbu,zbw,zbx,zby,zbz,zc0,zc3,zc4,zc5,zc6,zc8,zce,zcf,zcg,zcj,zcn,zco,zcq,zcr,zct,zcu,zcv,zcw,zd3,zd7,zd8,zd9,zdk,zdl,zdm,zdn,zdo,zds,zdt,zdu,zdv,zdw,zdx,ze2,ze3,zeo,zep,zf6,zf7,zfa,zfg,zfm,zfo,zfp,zfq,zft,zfv,zg0,zg1,zje,zkn,zko,zkp,zkq, e14, g, e16, e35, e36, works_w]; all_goals tactic => exact rfl))
  · rw [hl] at e14
    rw [r6 (by simp)]; unfold x6; dsimp only
    (sym => (simp [z00,z01,z04,z05,z06,z07,z09,z0a,z0b,z0c,z0f,z0h,z0i,z0j,z0l,z0n,z0q,z0r,z0v,z1f,z1j,z1k,z1m,z1p,z1r,z1u,z1v,z1w,z20,z21,z22,z23,z2b,z2t,z2x,z4l,z4m,z4o,z4q,z54,z57,z59,z66,z67,z69,z6b,z6p,z6q,z6u,z7r,z7s,z7u,z7w,z8d,z9d,z9e,z9g,z9j,z9k,z9l,z9m,z9n,z9y,za2,za3,za5,za6,za7,za8,zaa,zab,zaq,zas,zat,zav,zaw,zax,zaz,zba,zbc,zbd,zbe,zbf,zbg,zbk,zbt,zbu,zbw,zbx,zby,zbz,zc0,zc3,zc4,zc5,zc6,zc8,zce,zcf,zcg,zcj,zcn,zco,zcq,zcr,zct,zcu,zcv,zcw,zd3,zd7,zd8,zd9,zdk,zdl,zdm,zdn,zdo,zds,zdt,zdu,zdv,zdw,zdx,ze2,ze3,zeo,zep,zf6,zf7,zfa,zfg,zfm,zfo,zfp,zfq,zft,zfv,zg0,zg1,zje,zkn,zko,zkp,zkq, e14, works_w]; all_goals tactic => exact rfl))
end Go.Proofs.YtpbeclkpohehgaaDoor
