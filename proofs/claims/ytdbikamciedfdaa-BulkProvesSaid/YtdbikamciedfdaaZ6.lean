/- Parts of a proof, joined: K22 K23 K24 K25 K26 K27 K28 K29 K30 K31 K32 LA. No statement of the seed is proved here. -/
import Derived.Test.YtdbikamciedfdaaRows
import Derived.WalkKit
import Derived.ProofKit
import Derived.OpenShut
import Derived.Test.YtdbikamciedfdaaZ5
set_option linter.unusedSimpArgs false
set_option linter.unusedVariables false
set_option linter.unusedSectionVars false
namespace Go.Proofs.Ytdbikamciedfdaa
open Go Go.DL
set_option maxRecDepth 100000
set_option maxHeartbeats 1000000

/-- The first kind of which there is something. -/
def kd (m : Ms) : Option Int := if m.a = 0 then if m.b = 0 then if m.c = 0 then if m.d = 0 then none else some 3 else some 2 else some 1 else some 0
theorem kd_cases (m : Ms) : (((m.a = 0) = True ∧ (m.b = 0) = True ∧ (m.c = 0) = True ∧ (m.d = 0) = True) ∧ kd m = none) ∨
    ((((m.a = 0) = False) ∧ kd m = some 0) ∨ (((m.a = 0) = True ∧ (m.b = 0) = False) ∧ kd m = some 1) ∨ (((m.a = 0) = True ∧ (m.b = 0) = True ∧ (m.c = 0) = False) ∧ kd m = some 2) ∨ (((m.a = 0) = True ∧ (m.b = 0) = True ∧ (m.c = 0) = True ∧ (m.d = 0) = False) ∧ kd m = some 3)) := by
  unfold kd
  rcases ptf (m.a = 0) with h1 | h1
  · rcases ptf (m.b = 0) with h2 | h2
    · rcases ptf (m.c = 0) with h3 | h3
      · rcases ptf (m.d = 0) with h4 | h4
        · exact .inl ⟨⟨h1, h2, h3, h4⟩, by simp [h1, h2, h3, h4]⟩
        · exact .inr (.inr (.inr (.inr ⟨⟨h1, h2, h3, h4⟩, by simp [h1, h2, h3, h4]⟩)))
      · exact .inr (.inr (.inr (.inl ⟨⟨h1, h2, h3⟩, by simp [h1, h2, h3]⟩)))
    · exact .inr (.inr (.inl ⟨⟨h1, h2⟩, by simp [h1, h2]⟩))
  · exact .inr (.inl ⟨h1, by simp [h1]⟩)

abbrev cl47 (U : Int) (l : List Fl) (st : LSt) (r1 r2 r3 : AV) : XH := [some (.loop 47 0 [.pt 1 0, .pt 2 0, .pt 3 0, .pt 4 0] st), some (.blk true (.cells true [I U, .fs (l.map Fl.row)])), some (.blk true (.cells true [r1])), some (.blk true (.cells true [r2])), some (.blk true (.cells true [r3]))]
theorem y47 (U : Int) (l : List Fl) (us : List Int) (hn : l.length < 1000000) (hu : us.length < 1000000) (h : kd (exI (fun x => decide (x ∈ us)) (-1) l l.length) = none) :
    runYW progX (.fn (.yield 0) [] []) [rI us] (cl47 U l .ready .nilsl (I 0) (.bool false)) = some (.bool true, cl47 U l .ready .nilsl (I 0) (.bool false)) := by
  have e := w39A U l (-1) 70 (us.map fun v => [I v]) (fun x => decide (x ∈ us)) hn (fun u => w70 us u hu)
  rw [runYW_eq (K := 47) (d := x47) (site := 0) (vs := [.pt 1 0, .pt 2 0, .pt 3 0, .pt 4 0]) rfl rfl (by rfl) rfl]
  generalize exI (fun x => decide (x ∈ us)) (-1) l l.length = m at *
  rcases kd_cases m with ⟨⟨h1, h2, h3, h4⟩, _⟩ | ⟨_, h5⟩ | ⟨_, h5⟩ | ⟨_, h5⟩ | ⟨_, h5⟩
  · (sym => (simp [etaM, etaF, z00,z01,z02,z05,z06,z07,z09,z0b,z0c,z0o,z0p,z0s,z0x,z1j,z1n,z1o,z1r,z1u,z20,z21,z44,z46,z4f,z4l,z4m,z4o,z4q,z4t,z4y,z54,z59,z5e,z66,z67,z69,z6b,z6e,z6j,z8d,z8f,z9d,z9e,z9g,z9i,z9j,z9k,z9l,z9m,z9r,z9t,z9v,z9w,z9y,za0,za1,za2,za3,za5,za6,za7,za8,zaa,zab,zac,zae,zaf,zai,zak,zal,zao,zaq,zas,zat,zau,zba,zbc,zbd,zbf,zbg,zbk,zbv,zby,zca,zce,zcf,zcn,zco,zcp,zcq,zcr,zcs,zct,zcu,zcv,zd3,zdd,zdj,zdk,zdo,zds,zdt,zdu,zdv,zdw,zdx,ze9,zea,zed,zeg,zeh,zei,zem,zen,zf6,zf7,zfa,zfc,zfd,zfo,zfr,zfs,zft,zfu,zfy,zg0,zg1,zij,zik,zil,zim,zix,ziy,ziz,zj0, e, h1, h2, h3, h4]; all_goals tactic => exact rfl))
  all_goals (rw [h] at h5; simp at h5)
theorem y47s (U : Int) (l : List Fl) (us : List Int) (k : Int) (hn : l.length < 1000000) (hu : us.length < 1000000) (h : kd (exI (fun x => decide (x ∈ us)) (-1) l l.length) = some k) :
    runYW progX (.fn (.yield 0) [] []) [rI us] (cl47 U l .ready .nilsl (I 0) (.bool false)) = some (.bool false, cl47 U l (.done .ret) (rI us) (I k) (.bool true)) := by
  have e := w39A U l (-1) 70 (us.map fun v => [I v]) (fun x => decide (x ∈ us)) hn (fun u => w70 us u hu)
  rw [runYW_eq (K := 47) (d := x47) (site := 0) (vs := [.pt 1 0, .pt 2 0, .pt 3 0, .pt 4 0]) rfl rfl (by rfl) rfl]
  generalize exI (fun x => decide (x ∈ us)) (-1) l l.length = m at *
  unfold x47l0
  have h1 := pad
  have h2 := pad
  have h3 := pad
  have h4 := pad
  rcases kd_cases m with ⟨_, h5⟩ | ⟨h1, h5⟩ | ⟨⟨h1, h2⟩, h5⟩ | ⟨⟨h1, h2, h3⟩, h5⟩ | ⟨⟨h1, h2, h3, h4⟩, h5⟩
  · rw [h] at h5; simp at h5
  all_goals (rw [h] at h5; simp only [Option.some.injEq] at h5; subst h5)
  all_goals (sym => (simp [etaM, etaF, z00,z01,z02,z05,z06,z07,z09,z0b,z0c,z0n,z0o,z0p,z0s,z0v,z0x,z16,z1j,z1n,z1o,z1r,z1u,z20,z21,z2j,z2u,z2v,z36,z37,z38,z3g,z3i,z3k,z3m,z3p,z44,z46,z4f,z4h,z4l,z4m,z4o,z4q,z4t,z4y,z54,z55,z59,z5e,z66,z67,z69,z6b,z6e,z6j,z8a,z8b,z8d,z8f,z9d,z9e,z9g,z9i,z9j,z9k,z9l,z9m,z9p,z9r,z9s,z9t,z9v,z9w,z9y,za0,za1,za2,za3,za5,za6,za7,za8,za9,zaa,zab,zac,zae,zaf,zai,zak,zal,zao,zaq,zas,zat,zau,zba,zbc,zbd,zbf,zbg,zbk,zbv,zby,zca,zcb,zcc,zcd,zce,zcf,zcg,zcn,zco,zcp,zcq,zcr,zcs,zct,zcu,zcv,zcy,zd3,zd4,zd5,zd6,zd7,zdd,zdj,zdk,zdl,zdo,zds,zdt,zdu,zdv,zdw,zdx,ze9,zea,zed,zeg,zeh,zei,zem,zen,zf6,zf7,zfa,zfb,zfc,zfd,zfm,zfo,zfp,zfq,zfs,zft,zfv,zfw,zfx,zg0,zg1,zij,zik,zil,zim,zix,ziy,ziz,zj1, e, h1, h2, h3, h4, execW_loop]; all_goals tactic => exact rfl))
end Go.Proofs.Ytdbikamciedfdaa
namespace Go.Proofs.Ytdbikamciedfdaa
open Go Go.DL
set_option maxRecDepth 100000
set_option maxHeartbeats 1000000

/-- The clash of a head: its units, and the kind. -/
def clP (g : Int → Int) (U : Nat) (l : List Fl) (i : Nat) : Option (List Int × Int) := if g i = i then (kd (exI (fun x => decide (x ∈ usI g i U)) (-1) l l.length)).map fun k => (usI g i U, k) else none
/-- The first clash. -/
def clF (g : Int → Int) (U : Nat) (l : List Fl) : Nat → Option (List Int × Int)
  | 0 => none
  | i + 1 => match clF g U l i with
    | some r => some r
    | none => clP g U l i
theorem clF_none {g : Int → Int} {U : Nat} {l : List Fl} : ∀ {n : Nat}, (∀ i, i < n → clP g U l i = none) → clF g U l n = none
  | 0, _ => rfl
  | n + 1, h => by rw [clF, clF_none fun i hi => h i (by omega)]; exact h n (by omega)
theorem clF_some {g : Int → Int} {U : Nat} {l : List Fl} {r : List Int × Int} {n : Nat} (h : ∀ i, i < n → clP g U l i = none) (h2 : clP g U l n = some r) : ∀ m, n < m → clF g U l m = some r
  | 0, hm => by omega
  | m + 1, hm => by
    by_cases hc : n = m
    · rw [clF, ← hc, clF_none h]; exact h2
    · rw [clF, clF_some h h2 m (by omega)]
theorem cl_ix (g : Int → Int) (U : Nat) (l : List Fl) : ∃ n, n ≤ U ∧ (∀ i, i < n → clP g U l i = none) ∧ ((n = U ∧ clF g U l U = none) ∨ (∃ us k, n < U ∧ g n = n ∧ us = usI g n U ∧ kd (exI (fun x => decide (x ∈ us)) (-1) l l.length) = some k ∧ clF g U l U = some (us, k))) := by
  obtain ⟨n, h1, h2, h3⟩ := first_n (fun i => (clP g U l i).isSome) U
  have h2' : ∀ i, i < n → clP g U l i = none := fun i hi => by simpa using h2 i hi
  refine ⟨n, h1, h2', ?_⟩
  rcases h3 with h3 | ⟨h3, h4⟩
  · subst h3
    exact .inl ⟨rfl, clF_none h2'⟩
  · cases hc : clP g U l n with
    | none => simp [hc] at h4
    | some r =>
      have hr := clF_some h2' hc U h3
      unfold clP at hc
      by_cases hg : g n = n
      · rw [if_pos hg, Option.map_eq_some_iff] at hc
        obtain ⟨k, hk, rfl⟩ := hc
        exact .inr ⟨_, k, h3, hg, rfl, hk, hr⟩
      · rw [if_neg hg] at hc; simp at hc

def cl66 (U : Int) (l : List Fl) : Option (List Int × Int) → XH
  | none => cl47 U l .ready .nilsl (I 0) (.bool false) ++ [some (.blk true (.cells true [I U, .fs (l.map Fl.row)]))]
  | some r => cl47 U l (.done .ret) (rI r.1) (I r.2) (.bool true) ++ [some (.blk true (.cells true [I U, .fs (l.map Fl.row)]))]
theorem w66c (U : Nat) (l : List Fl) (es : List (Int × Int)) (g : Int → Int) (hU : U < 100000) (hn : l.length < 1000000) (h67 : runW progX 67 [plA U l, I (-1)] [] = some (.mp 0, [mapB es])) (hi : InvG U es g) :
    runW progX 66 [.fn (.yield 0) [] [], .pt 5 0] (cl66 U l none) = some (.tup [], cl66 U l (clF g U l U)) := by
  have e57 : ∀ x : Nat, x < U → runW progX 57 [.mp 0, I x] [mapB es] = some (I (g x), [mapB es]) := fun x h => w57h hi (by omega) (by omega)
  have ru : ∀ i, i < U → IntKind.i64.wrap ((i : Int) + 1) = (i : Int) + 1 ∧ ((i : Int) < (U : Int)) = True ∧ runW progX 57 [.mp 0, I i] [mapB es] = some (I (g i), [mapB es]) := fun i h => ⟨up_ix h (by omega), eq_true (by omega), e57 i h⟩
  have rv : ∀ (u : Int) v, v < U → ((g v = u) = True ∧ usI g u (v + 1) = usI g u v ++ [(v : Int)]) ∨ ((g v = u) = False ∧ usI g u (v + 1) = usI g u v) := by
    intro u v hv
    by_cases h : g v = u
    · exact .inl ⟨eq_true h, by rw [usI, if_pos h]⟩
    · exact .inr ⟨eq_false h, by rw [usI, if_neg h]⟩
  have rl : ∀ (u : Int) v a r, v < U → usI g u v = a :: r → ((r.length + 1 + 1) * 8 ≤ 1099511627776) = True ∧ (r.length + 1 + 1 ≤ 1099511627776) = True := by
    intro u v a r hv h
    have := usI_len g u v
    rw [h, List.length_cons] at this
    exact ⟨eq_true (by omega), eq_true (by omega)⟩
  have u0 : ∀ u, usI g u 0 = [] := fun _ => rfl
  have uc : ∀ i : Nat, i < U → g i = i → ∃ a r, usI g i U = a :: r := by
    intro i h h2
    have hm : (i : Int) ∈ usI g i U := (usI_mem g i U i).2 ⟨by omega, by omega, h2⟩
    cases hu : usI g i U with
    | nil => rw [hu] at hm; simp at hm
    | cons a r => exact ⟨a, r, rfl⟩
  have ul : ∀ i, (usI g i U).length < 1000000 := fun i => by have := usI_len g i U; omega
  obtain ⟨n, hn1, hn2, hn3⟩ := cl_ix g U l
  have ry : ∀ i, i < n → g i = i → ∃ a r, usI g i U = a :: r ∧ runYW progX (.fn (.yield 0) [] []) [.fs ([I a] :: r.map fun v => [I v])] (cl47 U l .ready .nilsl (I 0) (.bool false)) = some (.bool true, cl47 U l .ready .nilsl (I 0) (.bool false)) := by
    intro i h h2
    obtain ⟨a, r, hu⟩ := uc i (by omega) h2
    have hk := hn2 i h
    rw [clP, if_pos h2, Option.map_eq_none_iff] at hk
    have y := y47 U l (usI g i U) hn (ul i) hk
    rw [hu] at y
    exact ⟨a, r, hu, y⟩
  have rs : n < U → ∀ us k, g n = n → us = usI g n U → kd (exI (fun x => decide (x ∈ us)) (-1) l l.length) = some k → ∃ a r, us = a :: r ∧ runYW progX (.fn (.yield 0) [] []) [.fs ([I a] :: r.map fun v => [I v])] (cl47 U l .ready .nilsl (I 0) (.bool false)) = some (.bool false, cl47 U l (.done .ret) (rI us) (I k) (.bool true)) := by
    intro h us k h2 hus hk
    obtain ⟨a, r, hu⟩ := uc n h h2
    have y := y47s U l us k hn (by rw [hus]; exact ul n) hk
    rw [hu] at hus
    refine ⟨a, r, hus, ?_⟩
    subst hus
    exact y
  -- a round's inner loop
  have inner : ∀ (i : Nat) (e : Env) (h : XH), i < U → headX 6 [0, 1, 3, 4, 5, 10, 11, 20, 21] (some (.normal, e, h)) = some ([.fn (.yield 0) [] [], .pt 5 0, .mp 6, I i, .nilsl, I U, I (i : Nat), I U, I 0], cl66 U l none ++ [mapB es]) →
      execW progX 66 6 none x66l0 e h = execW progX 66 6 none (match x66l0 with | .loop _ a => a | c => c) (envL [0, 1, 3, 4, 5, 10, 11, 20, 21] [.fn (.yield 0) [] [], .pt 5 0, .mp 6, I i, oS 7 (usI g i U), I U, I (i : Nat), I U, I U]) (cl66 U l none ++ [mapB es] ++ oG (usI g i U)) := by
    intro i e h hiU h0
    unfold x66l0
    rw [loop_rule U (fun v => [.fn (.yield 0) [] [], .pt 5 0, .mp 6, I i, oS 7 (usI g i v), I U, I (i : Nat), I U, I (v : Nat)]) (fun v => cl66 U l none ++ [mapB es] ++ oG (usI g i v))]
    · rw [h0]; rfl
    · intro v hv
      obtain ⟨m0, m1, m2⟩ := ru v hv
      unfold cl66
      have m5 := pad
      have m6 := pad
      rcases hu : usI g i v with _ | ⟨a, r⟩
      rotate_left
      obtain ⟨m5, m6⟩ := rl i v a r hv hu
      all_goals (rcases rv i v hv with ⟨m3, m4⟩ | ⟨m3, m4⟩ <;> rw [m4, hu])
      all_goals (sym => (simp [etaM, etaF, z00,z01,z03,z04,z05,z06,z07,z09,z0b,z0c,z0f,z0n,z0t,z0v,z0z,z12,z1j,z1r,z1u,z1z,z20,z21,z26,z29,z2j,z2t,z2u,z2v,z3h,z4l,z4o,z4p,z4q,z4s,z4t,z4u,z4v,z4z,z54,z66,z67,z69,z6a,z6b,z6d,z6e,z6f,z6g,z6k,z6t,z6w,z6y,z78,z7f,z7g,z7h,z7m,z7v,z7z,z85,z8a,z9d,z9e,z9g,z9i,z9j,z9k,z9l,z9m,z9n,z9p,z9r,z9s,z9t,z9v,z9w,z9x,z9y,za0,za1,za2,za3,za5,za6,za7,za8,za9,zaa,zab,zac,zae,zaf,zai,zak,zal,zao,zaq,zas,zat,zau,zb4,zb5,zb9,zba,zbb,zbc,zbd,zbe,zbf,zbg,zbk,zbm,zbp,zbq,zbs,zbt,zbu,zbw,zbx,zby,zbz,zc1,zc3,zc8,zca,zcc,zcd,zce,zcf,zcg,zch,zci,zcj,zcn,zco,zcp,zcq,zcr,zcs,zct,zcu,zcv,zcw,zcy,zd3,zd6,zd7,zdd,zdj,zdk,zdl,zdm,zdn,zdo,zds,zdt,zdu,zdv,zdw,zdx,zdy,ze2,ze3,ze9,zea,zeb,zec,zeq,zer,zes,zet,zez,zf0,zf1,zf2,zf3,zf4,zf5,zf6,zf7,zfa,zfb,zfg,zfh,zfi,zfj,zfl,zfm,zfo,zfp,zfq,zfr,zfs,zft,zfu,zfv,zfw,zfx,zfy,zfz,zg0,zg1,zhb,zhc,zhd,zhe,zhg,zhp,zi8,zi9,zia,zib,zic,ziw, m0, m1, m2, m3, m5, m6]; all_goals tactic => exact rfl))
    · unfold cl66
      rcases hu : usI g i U with _ | ⟨a, r⟩ <;> (sym => (simp [etaM, etaF, z00,z01,z03,z04,z05,z06,z07,z09,z0b,z0c,z0f,z0n,z0t,z0v,z0z,z12,z1j,z1r,z1u,z1z,z20,z21,z26,z29,z2j,z2t,z2u,z2v,z3h,z4l,z4o,z4p,z4q,z4s,z4t,z4u,z4v,z4z,z54,z66,z67,z69,z6a,z6b,z6d,z6e,z6f,z6g,z6k,z6t,z6w,z6y,z78,z7f,z7g,z7h,z7m,z7v,z7z,z85,z8a,z9d,z9e,z9g,z9i,z9j,z9k,z9l,z9m,z9n,z9p,z9r,z9s,z9t,z9v,z9w,z9x,z9y,za0,za1,za2,za3,za5,za6,za7,za8,za9,zaa,zab,zac,zae,zaf,zai,zak,zal,zao,zaq,zas,zat,zau,zb4,zb5,zb9,zba,zbb,zbc,zbd,zbe,zbf,zbg,zbk,zbm,zbp,zbq,zbs,zbt,zbu,zbw,zbx,zby,zbz,zc1,zc3,zc8,zca,zcc,zcd,zce,zcf,zcg,zch,zci,zcj,zcn,zco,zcp,zcq,zcr,zcs,zct,zcu,zcv,zcw,zcy,zd3,zd6,zd7,zdd,zdj,zdk,zdl,zdm,zdn,zdo,zds,zdt,zdu,zdv,zdw,zdx,zdy,ze2,ze3,ze9,zea,zeb,zec,zeq,zer,zes,zet,zez,zf0,zf1,zf2,zf3,zf4,zf5,zf6,zf7,zfa,zfb,zfg,zfh,zfi,zfj,zfl,zfm,zfo,zfp,zfq,zfr,zfs,zft,zfu,zfv,zfw,zfx,zfy,zfz,zg0,zg1,zhb,zhc,zhd,zhe,zhg,zhp,zi8,zi9,zia,zib,zic,ziw]; all_goals tactic => exact rfl))
  have g0 := pad
  have g1 := pad
  have g2 := pad
  have g3 := pad
  have g4 := pad
  have e0 : cl66 (U : Int) l none = cl47 U l .ready .nilsl (I 0) (.bool false) ++ [some (.blk true (.cells true [I U, .fs (l.map Fl.row)]))] := rfl
  rw [show clF g U l U = clF g U l U from rfl]
  rw [e0]
  rw [r66 (by simp)]; unfold x66; dsimp only
  sym =>
    simp [etaM, etaF, z00,z01,z03,z04,z05,z06,z07,z09,z0b,z0c,z0f,z0n,z0t,z0v,z0z,z12,z1j,z1r,z1u,z1z,z20,z21,z26,z29,z2j,z2t,z2u,z2v,z3h,z4l,z4o,z4p,z4q,z4s,z4t,z4u,z4v,z4z,z54,z66,z67,z69,z6a,z6b,z6d,z6e,z6f,z6g,z6k,z6t,z6w,z6y,z78,z7f,z7g,z7h,z7m,z7v,z7z,z85,z8a,z9d,z9e,z9g,z9i,z9j,z9k,z9l,z9m,z9n,z9p,z9r,z9s,z9t,z9v,z9w,z9x,z9y,za0,za1,za2,za3,za5,za6,za7,za8,za9,zaa,zab,zac,zae,zaf,zai,zak,zal,zao,zaq,zas,zat,zau,zb4,zb5,zb9,zba,zbb,zbc,zbd,zbe,zbf,zbg,zbk,zbm,zbp,zbq,zbs,zbt,zbu,zbw,zbx,zby,zbz,zc1,zc3,zc8,zca,zcc,zcd,zce,zcf,zcg,zch,zci,zcj,zcn,zco,zcp,zcq,zcr,zcs,zct,zcu,zcv,zcw,zcy,zd3,zd6,zd7,zdd,zdj,zdk,zdl,zdm,zdn,zdo,zds,zdt,zdu,zdv,zdw,zdx,zdy,ze2,ze3,ze9,zea,zeb,zec,zeq,zer,zes,zet,zez,zf0,zf1,zf2,zf3,zf4,zf5,zf6,zf7,zfa,zfb,zfg,zfh,zfi,zfj,zfl,zfm,zfo,zfp,zfq,zfr,zfs,zft,zfu,zfv,zfw,zfx,zfy,zfz,zg0,zg1,zhb,zhc,zhd,zhe,zhg,zhp,zi8,zi9,zia,zib,zic,ziw, h67]
    tactic =>
      unfold x66l1
      rw [loop_rule n (fun i => [.fn (.yield 0) [] [], .pt 5 0, .mp 6, I U, I (i : Nat)]) (fun i => cl66 U l none ++ [mapB es])]
      · -- the last round
        rcases hn3 with ⟨h3, h4⟩ | ⟨us, k, h3, h4, h5, h6, h7⟩
        · have g1 : ((n : Int) < (U : Int)) = False := eq_false (by omega)
          rw [h4]
          unfold cl66
          (sym => (simp [etaM, etaF, z00,z01,z03,z04,z05,z06,z07,z09,z0b,z0c,z0f,z0n,z0t,z0v,z0z,z12,z1j,z1r,z1u,z1z,z20,z21,z26,z29,z2j,z2t,z2u,z2v,z3h,z4l,z4o,z4p,z4q,z4s,z4t,z4u,z4v,z4z,z54,z66,z67,z69,z6a,z6b,z6d,z6e,z6f,z6g,z6k,z6t,z6w,z6y,z78,z7f,z7g,z7h,z7m,z7v,z7z,z85,z8a,z9d,z9e,z9g,z9i,z9j,z9k,z9l,z9m,z9n,z9p,z9r,z9s,z9t,z9v,z9w,z9x,z9y,za0,za1,za2,za3,za5,za6,za7,za8,za9,zaa,zab,zac,zae,zaf,zai,zak,zal,zao,zaq,zas,zat,zau,zb4,zb5,zb9,zba,zbb,zbc,zbd,zbe,zbf,zbg,zbk,zbm,zbp,zbq,zbs,zbt,zbu,zbw,zbx,zby,zbz,zc1,zc3,zc8,zca,zcc,zcd,zce,zcf,zcg,zch,zci,zcj,zcn,zco,zcp,zcq,zcr,zcs,zct,zcu,zcv,zcw,zcy,zd3,zd6,zd7,zdd,zdj,zdk,zdl,zdm,zdn,zdo,zds,zdt,zdu,zdv,zdw,zdx,zdy,ze2,ze3,ze9,zea,zeb,zec,zeq,zer,zes,zet,zez,zf0,zf1,zf2,zf3,zf4,zf5,zf6,zf7,zfa,zfb,zfg,zfh,zfi,zfj,zfl,zfm,zfo,zfp,zfq,zfr,zfs,zft,zfu,zfv,zfw,zfx,zfy,zfz,zg0,zg1,zhb,zhc,zhd,zhe,zhg,zhp,zi8,zi9,zia,zib,zic,ziw, g1]; all_goals tactic => exact rfl))
        · obtain ⟨a, r, hu, y⟩ := rs h3 us k h4 h5 h6
          rw [h7]
          obtain ⟨g0, g1, g2⟩ := ru n h3
          have g3 := eq_true h4
          have e1 : cl66 (U : Int) l (some (us, k)) = cl47 U l (.done .ret) (rI us) (I k) (.bool true) ++ [some (.blk true (.cells true [I U, .fs (l.map Fl.row)]))] := rfl
          rw [e1, e0]
          subst hu
          sym =>
            simp [etaM, etaF, z00,z01,z03,z04,z05,z06,z07,z09,z0b,z0c,z0f,z0n,z0t,z0v,z0z,z12,z1j,z1r,z1u,z1z,z20,z21,z26,z29,z2j,z2t,z2u,z2v,z3h,z4l,z4o,z4p,z4q,z4s,z4t,z4u,z4v,z4z,z54,z66,z67,z69,z6a,z6b,z6d,z6e,z6f,z6g,z6k,z6t,z6w,z6y,z78,z7f,z7g,z7h,z7m,z7v,z7z,z85,z8a,z9d,z9e,z9g,z9i,z9j,z9k,z9l,z9m,z9n,z9p,z9r,z9s,z9t,z9v,z9w,z9x,z9y,za0,za1,za2,za3,za5,za6,za7,za8,za9,zaa,zab,zac,zae,zaf,zai,zak,zal,zao,zaq,zas,zat,zau,zb4,zb5,zb9,zba,zbb,zbc,zbd,zbe,zbf,zbg,zbk,zbm,zbp,zbq,zbs,zbt,zbu,zbw,zbx,zby,zbz,zc1,zc3,zc8,zca,zcc,zcd,zce,zcf,zcg,zch,zci,zcj,zcn,zco,zcp,zcq,zcr,zcs,zct,zcu,zcv,zcw,zcy,zd3,zd6,zd7,zdd,zdj,zdk,zdl,zdm,zdn,zdo,zds,zdt,zdu,zdv,zdw,zdx,zdy,ze2,ze3,ze9,zea,zeb,zec,zeq,zer,zes,zet,zez,zf0,zf1,zf2,zf3,zf4,zf5,zf6,zf7,zfa,zfb,zfg,zfh,zfi,zfj,zfl,zfm,zfo,zfp,zfq,zfr,zfs,zft,zfu,zfv,zfw,zfx,zfy,zfz,zg0,zg1,zhb,zhc,zhd,zhe,zhg,zhp,zi8,zi9,zia,zib,zic,ziw, g1, g2, g3]
            tactic =>
              rw [inner n _ _ h3 (by rw [e0]; (sym => (simp [etaM, etaF, z00,z01,z03,z04,z05,z06,z07,z09,z0b,z0c,z0f,z0n,z0t,z0v,z0z,z12,z1j,z1r,z1u,z1z,z20,z21,z26,z29,z2j,z2t,z2u,z2v,z3h,z4l,z4o,z4p,z4q,z4s,z4t,z4u,z4v,z4z,z54,z66,z67,z69,z6a,z6b,z6d,z6e,z6f,z6g,z6k,z6t,z6w,z6y,z78,z7f,z7g,z7h,z7m,z7v,z7z,z85,z8a,z9d,z9e,z9g,z9i,z9j,z9k,z9l,z9m,z9n,z9p,z9r,z9s,z9t,z9v,z9w,z9x,z9y,za0,za1,za2,za3,za5,za6,za7,za8,za9,zaa,zab,zac,zae,zaf,zai,zak,zal,zao,zaq,zas,zat,zau,zb4,zb5,zb9,zba,zbb,zbc,zbd,zbe,zbf,zbg,zbk,zbm,zbp,zbq,zbs,zbt,zbu,zbw,zbx,zby,zbz,zc1,zc3,zc8,zca,zcc,zcd,zce,zcf,zcg,zch,zci,zcj,zcn,zco,zcp,zcq,zcr,zcs,zct,zcu,zcv,zcw,zcy,zd3,zd6,zd7,zdd,zdj,zdk,zdl,zdm,zdn,zdo,zds,zdt,zdu,zdv,zdw,zdx,zdy,ze2,ze3,ze9,zea,zeb,zec,zeq,zer,zes,zet,zez,zf0,zf1,zf2,zf3,zf4,zf5,zf6,zf7,zfa,zfb,zfg,zfh,zfi,zfj,zfl,zfm,zfo,zfp,zfq,zfr,zfs,zft,zfu,zfv,zfw,zfx,zfy,zfz,zg0,zg1,zhb,zhc,zhd,zhe,zhg,zhp,zi8,zi9,zia,zib,zic,ziw]; all_goals tactic => exact rfl)))]
              rw [← h5, e0]
              unfold x66l0
              dsimp only
              have f1 := zf5 (n := (U : Int))
              (sym => (simp [etaM, etaF, z00,z01,z03,z04,z05,z06,z07,z09,z0b,z0c,z0f,z0n,z0t,z0v,z0z,z12,z1j,z1r,z1u,z1z,z20,z21,z26,z29,z2j,z2t,z2u,z2v,z3h,z4l,z4o,z4p,z4q,z4s,z4t,z4u,z4v,z4z,z54,z66,z67,z69,z6a,z6b,z6d,z6e,z6f,z6g,z6k,z6t,z6w,z6y,z78,z7f,z7g,z7h,z7m,z7v,z7z,z85,z8a,z9d,z9e,z9g,z9i,z9j,z9k,z9l,z9m,z9n,z9p,z9r,z9s,z9t,z9v,z9w,z9x,z9y,za0,za1,za2,za3,za5,za6,za7,za8,za9,zaa,zab,zac,zae,zaf,zai,zak,zal,zao,zaq,zas,zat,zau,zb4,zb5,zb9,zba,zbb,zbc,zbd,zbe,zbf,zbg,zbk,zbm,zbp,zbq,zbs,zbt,zbu,zbw,zbx,zby,zbz,zc1,zc3,zc8,zca,zcc,zcd,zce,zcf,zcg,zch,zci,zcj,zcn,zco,zcp,zcq,zcr,zcs,zct,zcu,zcv,zcw,zcy,zd3,zd6,zd7,zdd,zdj,zdk,zdl,zdm,zdn,zdo,zds,zdt,zdu,zdv,zdw,zdx,zdy,ze2,ze3,ze9,zea,zeb,zec,zeq,zer,zes,zet,zez,zf0,zf1,zf2,zf3,zf4,zf5,zf6,zf7,zfa,zfb,zfg,zfh,zfi,zfj,zfl,zfm,zfo,zfp,zfq,zfr,zfs,zft,zfu,zfv,zfw,zfx,zfy,zfz,zg0,zg1,zhb,zhc,zhd,zhe,zhg,zhp,zi8,zi9,zia,zib,zic,ziw, f1, y]; all_goals tactic => exact rfl))
      · rw [e0]
        (sym => (simp [etaM, etaF, z00,z01,z03,z04,z05,z06,z07,z09,z0b,z0c,z0f,z0n,z0t,z0v,z0z,z12,z1j,z1r,z1u,z1z,z20,z21,z26,z29,z2j,z2t,z2u,z2v,z3h,z4l,z4o,z4p,z4q,z4s,z4t,z4u,z4v,z4z,z54,z66,z67,z69,z6a,z6b,z6d,z6e,z6f,z6g,z6k,z6t,z6w,z6y,z78,z7f,z7g,z7h,z7m,z7v,z7z,z85,z8a,z9d,z9e,z9g,z9i,z9j,z9k,z9l,z9m,z9n,z9p,z9r,z9s,z9t,z9v,z9w,z9x,z9y,za0,za1,za2,za3,za5,za6,za7,za8,za9,zaa,zab,zac,zae,zaf,zai,zak,zal,zao,zaq,zas,zat,zau,zb4,zb5,zb9,zba,zbb,zbc,zbd,zbe,zbf,zbg,zbk,zbm,zbp,zbq,zbs,zbt,zbu,zbw,zbx,zby,zbz,zc1,zc3,zc8,zca,zcc,zcd,zce,zcf,zcg,zch,zci,zcj,zcn,zco,zcp,zcq,zcr,zcs,zct,zcu,zcv,zcw,zcy,zd3,zd6,zd7,zdd,zdj,zdk,zdl,zdm,zdn,zdo,zds,zdt,zdu,zdv,zdw,zdx,zdy,ze2,ze3,ze9,zea,zeb,zec,zeq,zer,zes,zet,zez,zf0,zf1,zf2,zf3,zf4,zf5,zf6,zf7,zfa,zfb,zfg,zfh,zfi,zfj,zfl,zfm,zfo,zfp,zfq,zfr,zfs,zft,zfu,zfv,zfw,zfx,zfy,zfz,zg0,zg1,zhb,zhc,zhd,zhe,zhg,zhp,zi8,zi9,zia,zib,zic,ziw]; all_goals tactic => exact rfl))
      · intro i hi
        obtain ⟨g0, g1, g2⟩ := ru i (by omega)
        by_cases hg : g i = i
        · have g3 := eq_true hg
          obtain ⟨a, r, k1, k2⟩ := ry i hi hg
          rw [e0]
          sym =>
            simp [etaM, etaF, z00,z01,z03,z04,z05,z06,z07,z09,z0b,z0c,z0f,z0n,z0t,z0v,z0z,z12,z1j,z1r,z1u,z1z,z20,z21,z26,z29,z2j,z2t,z2u,z2v,z3h,z4l,z4o,z4p,z4q,z4s,z4t,z4u,z4v,z4z,z54,z66,z67,z69,z6a,z6b,z6d,z6e,z6f,z6g,z6k,z6t,z6w,z6y,z78,z7f,z7g,z7h,z7m,z7v,z7z,z85,z8a,z9d,z9e,z9g,z9i,z9j,z9k,z9l,z9m,z9n,z9p,z9r,z9s,z9t,z9v,z9w,z9x,z9y,za0,za1,za2,za3,za5,za6,za7,za8,za9,zaa,zab,zac,zae,zaf,zai,zak,zal,zao,zaq,zas,zat,zau,zb4,zb5,zb9,zba,zbb,zbc,zbd,zbe,zbf,zbg,zbk,zbm,zbp,zbq,zbs,zbt,zbu,zbw,zbx,zby,zbz,zc1,zc3,zc8,zca,zcc,zcd,zce,zcf,zcg,zch,zci,zcj,zcn,zco,zcp,zcq,zcr,zcs,zct,zcu,zcv,zcw,zcy,zd3,zd6,zd7,zdd,zdj,zdk,zdl,zdm,zdn,zdo,zds,zdt,zdu,zdv,zdw,zdx,zdy,ze2,ze3,ze9,zea,zeb,zec,zeq,zer,zes,zet,zez,zf0,zf1,zf2,zf3,zf4,zf5,zf6,zf7,zfa,zfb,zfg,zfh,zfi,zfj,zfl,zfm,zfo,zfp,zfq,zfr,zfs,zft,zfu,zfv,zfw,zfx,zfy,zfz,zg0,zg1,zhb,zhc,zhd,zhe,zhg,zhp,zi8,zi9,zia,zib,zic,ziw, g0, g1, g2, g3]
            tactic =>
              rw [inner i _ _ (by omega) (by rw [e0]; (sym => (simp [etaM, etaF, z00,z01,z03,z04,z05,z06,z07,z09,z0b,z0c,z0f,z0n,z0t,z0v,z0z,z12,z1j,z1r,z1u,z1z,z20,z21,z26,z29,z2j,z2t,z2u,z2v,z3h,z4l,z4o,z4p,z4q,z4s,z4t,z4u,z4v,z4z,z54,z66,z67,z69,z6a,z6b,z6d,z6e,z6f,z6g,z6k,z6t,z6w,z6y,z78,z7f,z7g,z7h,z7m,z7v,z7z,z85,z8a,z9d,z9e,z9g,z9i,z9j,z9k,z9l,z9m,z9n,z9p,z9r,z9s,z9t,z9v,z9w,z9x,z9y,za0,za1,za2,za3,za5,za6,za7,za8,za9,zaa,zab,zac,zae,zaf,zai,zak,zal,zao,zaq,zas,zat,zau,zb4,zb5,zb9,zba,zbb,zbc,zbd,zbe,zbf,zbg,zbk,zbm,zbp,zbq,zbs,zbt,zbu,zbw,zbx,zby,zbz,zc1,zc3,zc8,zca,zcc,zcd,zce,zcf,zcg,zch,zci,zcj,zcn,zco,zcp,zcq,zcr,zcs,zct,zcu,zcv,zcw,zcy,zd3,zd6,zd7,zdd,zdj,zdk,zdl,zdm,zdn,zdo,zds,zdt,zdu,zdv,zdw,zdx,zdy,ze2,ze3,ze9,zea,zeb,zec,zeq,zer,zes,zet,zez,zf0,zf1,zf2,zf3,zf4,zf5,zf6,zf7,zfa,zfb,zfg,zfh,zfi,zfj,zfl,zfm,zfo,zfp,zfq,zfr,zfs,zft,zfu,zfv,zfw,zfx,zfy,zfz,zg0,zg1,zhb,zhc,zhd,zhe,zhg,zhp,zi8,zi9,zia,zib,zic,ziw]; all_goals tactic => exact rfl)))]
              rw [k1, e0]
              unfold x66l0
              dsimp only
              have f1 := zf5 (n := (U : Int))
              (sym => (simp [etaM, etaF, z00,z01,z03,z04,z05,z06,z07,z09,z0b,z0c,z0f,z0n,z0t,z0v,z0z,z12,z1j,z1r,z1u,z1z,z20,z21,z26,z29,z2j,z2t,z2u,z2v,z3h,z4l,z4o,z4p,z4q,z4s,z4t,z4u,z4v,z4z,z54,z66,z67,z69,z6a,z6b,z6d,z6e,z6f,z6g,z6k,z6t,z6w,z6y,z78,z7f,z7g,z7h,z7m,z7v,z7z,z85,z8a,z9d,z9e,z9g,z9i,z9j,z9k,z9l,z9m,z9n,z9p,z9r,z9s,z9t,z9v,z9w,z9x,z9y,za0,za1,za2,za3,za5,za6,za7,za8,za9,zaa,zab,zac,zae,zaf,zai,zak,zal,zao,zaq,zas,zat,zau,zb4,zb5,zb9,zba,zbb,zbc,zbd,zbe,zbf,zbg,zbk,zbm,zbp,zbq,zbs,zbt,zbu,zbw,zbx,zby,zbz,zc1,zc3,zc8,zca,zcc,zcd,zce,zcf,zcg,zch,zci,zcj,zcn,zco,zcp,zcq,zcr,zcs,zct,zcu,zcv,zcw,zcy,zd3,zd6,zd7,zdd,zdj,zdk,zdl,zdm,zdn,zdo,zds,zdt,zdu,zdv,zdw,zdx,zdy,ze2,ze3,ze9,zea,zeb,zec,zeq,zer,zes,zet,zez,zf0,zf1,zf2,zf3,zf4,zf5,zf6,zf7,zfa,zfb,zfg,zfh,zfi,zfj,zfl,zfm,zfo,zfp,zfq,zfr,zfs,zft,zfu,zfv,zfw,zfx,zfy,zfz,zg0,zg1,zhb,zhc,zhd,zhe,zhg,zhp,zi8,zi9,zia,zib,zic,ziw, f1, k2, g0]; all_goals tactic => exact rfl))
        · have g3 := eq_false hg
          rw [e0]
          (sym => (simp [etaM, etaF, z00,z01,z03,z04,z05,z06,z07,z09,z0b,z0c,z0f,z0n,z0t,z0v,z0z,z12,z1j,z1r,z1u,z1z,z20,z21,z26,z29,z2j,z2t,z2u,z2v,z3h,z4l,z4o,z4p,z4q,z4s,z4t,z4u,z4v,z4z,z54,z66,z67,z69,z6a,z6b,z6d,z6e,z6f,z6g,z6k,z6t,z6w,z6y,z78,z7f,z7g,z7h,z7m,z7v,z7z,z85,z8a,z9d,z9e,z9g,z9i,z9j,z9k,z9l,z9m,z9n,z9p,z9r,z9s,z9t,z9v,z9w,z9x,z9y,za0,za1,za2,za3,za5,za6,za7,za8,za9,zaa,zab,zac,zae,zaf,zai,zak,zal,zao,zaq,zas,zat,zau,zb4,zb5,zb9,zba,zbb,zbc,zbd,zbe,zbf,zbg,zbk,zbm,zbp,zbq,zbs,zbt,zbu,zbw,zbx,zby,zbz,zc1,zc3,zc8,zca,zcc,zcd,zce,zcf,zcg,zch,zci,zcj,zcn,zco,zcp,zcq,zcr,zcs,zct,zcu,zcv,zcw,zcy,zd3,zd6,zd7,zdd,zdj,zdk,zdl,zdm,zdn,zdo,zds,zdt,zdu,zdv,zdw,zdx,zdy,ze2,ze3,ze9,zea,zeb,zec,zeq,zer,zes,zet,zez,zf0,zf1,zf2,zf3,zf4,zf5,zf6,zf7,zfa,zfb,zfg,zfh,zfi,zfj,zfl,zfm,zfo,zfp,zfq,zfr,zfs,zft,zfu,zfv,zfw,zfx,zfy,zfz,zg0,zg1,zhb,zhc,zhd,zhe,zhg,zhp,zi8,zi9,zia,zib,zic,ziw, g0, g1, g2, g3]; all_goals tactic => exact rfl))
      · rcases hn3 with ⟨h3, h4⟩ | ⟨us, k, h3, h4, h5, h6, h7⟩
        · have g1 : ((n : Int) < (U : Int)) = False := eq_false (by omega)
          rw [e0]
          (sym => (simp [etaM, etaF, z00,z01,z03,z04,z05,z06,z07,z09,z0b,z0c,z0f,z0n,z0t,z0v,z0z,z12,z1j,z1r,z1u,z1z,z20,z21,z26,z29,z2j,z2t,z2u,z2v,z3h,z4l,z4o,z4p,z4q,z4s,z4t,z4u,z4v,z4z,z54,z66,z67,z69,z6a,z6b,z6d,z6e,z6f,z6g,z6k,z6t,z6w,z6y,z78,z7f,z7g,z7h,z7m,z7v,z7z,z85,z8a,z9d,z9e,z9g,z9i,z9j,z9k,z9l,z9m,z9n,z9p,z9r,z9s,z9t,z9v,z9w,z9x,z9y,za0,za1,za2,za3,za5,za6,za7,za8,za9,zaa,zab,zac,zae,zaf,zai,zak,zal,zao,zaq,zas,zat,zau,zb4,zb5,zb9,zba,zbb,zbc,zbd,zbe,zbf,zbg,zbk,zbm,zbp,zbq,zbs,zbt,zbu,zbw,zbx,zby,zbz,zc1,zc3,zc8,zca,zcc,zcd,zce,zcf,zcg,zch,zci,zcj,zcn,zco,zcp,zcq,zcr,zcs,zct,zcu,zcv,zcw,zcy,zd3,zd6,zd7,zdd,zdj,zdk,zdl,zdm,zdn,zdo,zds,zdt,zdu,zdv,zdw,zdx,zdy,ze2,ze3,ze9,zea,zeb,zec,zeq,zer,zes,zet,zez,zf0,zf1,zf2,zf3,zf4,zf5,zf6,zf7,zfa,zfb,zfg,zfh,zfi,zfj,zfl,zfm,zfo,zfp,zfq,zfr,zfs,zft,zfu,zfv,zfw,zfx,zfy,zfz,zg0,zg1,zhb,zhc,zhd,zhe,zhg,zhp,zi8,zi9,zia,zib,zic,ziw, g1]; all_goals tactic => exact rfl))
        · obtain ⟨a, r, hu, y⟩ := rs h3 us k h4 h5 h6
          obtain ⟨g0, g1, g2⟩ := ru n h3
          have g3 := eq_true h4
          rw [e0]
          subst hu
          sym =>
            simp [etaM, etaF, z00,z01,z03,z04,z05,z06,z07,z09,z0b,z0c,z0f,z0n,z0t,z0v,z0z,z12,z1j,z1r,z1u,z1z,z20,z21,z26,z29,z2j,z2t,z2u,z2v,z3h,z4l,z4o,z4p,z4q,z4s,z4t,z4u,z4v,z4z,z54,z66,z67,z69,z6a,z6b,z6d,z6e,z6f,z6g,z6k,z6t,z6w,z6y,z78,z7f,z7g,z7h,z7m,z7v,z7z,z85,z8a,z9d,z9e,z9g,z9i,z9j,z9k,z9l,z9m,z9n,z9p,z9r,z9s,z9t,z9v,z9w,z9x,z9y,za0,za1,za2,za3,za5,za6,za7,za8,za9,zaa,zab,zac,zae,zaf,zai,zak,zal,zao,zaq,zas,zat,zau,zb4,zb5,zb9,zba,zbb,zbc,zbd,zbe,zbf,zbg,zbk,zbm,zbp,zbq,zbs,zbt,zbu,zbw,zbx,zby,zbz,zc1,zc3,zc8,zca,zcc,zcd,zce,zcf,zcg,zch,zci,zcj,zcn,zco,zcp,zcq,zcr,zcs,zct,zcu,zcv,zcw,zcy,zd3,zd6,zd7,zdd,zdj,zdk,zdl,zdm,zdn,zdo,zds,zdt,zdu,zdv,zdw,zdx,zdy,ze2,ze3,ze9,zea,zeb,zec,zeq,zer,zes,zet,zez,zf0,zf1,zf2,zf3,zf4,zf5,zf6,zf7,zfa,zfb,zfg,zfh,zfi,zfj,zfl,zfm,zfo,zfp,zfq,zfr,zfs,zft,zfu,zfv,zfw,zfx,zfy,zfz,zg0,zg1,zhb,zhc,zhd,zhe,zhg,zhp,zi8,zi9,zia,zib,zic,ziw, g1, g2, g3]
            tactic =>
              rw [inner n _ _ h3 (by rw [e0]; (sym => (simp [etaM, etaF, z00,z01,z03,z04,z05,z06,z07,z09,z0b,z0c,z0f,z0n,z0t,z0v,z0z,z12,z1j,z1r,z1u,z1z,z20,z21,z26,z29,z2j,z2t,z2u,z2v,z3h,z4l,z4o,z4p,z4q,z4s,z4t,z4u,z4v,z4z,z54,z66,z67,z69,z6a,z6b,z6d,z6e,z6f,z6g,z6k,z6t,z6w,z6y,z78,z7f,z7g,z7h,z7m,z7v,z7z,z85,z8a,z9d,z9e,z9g,z9i,z9j,z9k,z9l,z9m,z9n,z9p,z9r,z9s,z9t,z9v,z9w,z9x,z9y,za0,za1,za2,za3,za5,za6,za7,za8,za9,zaa,zab,zac,zae,zaf,zai,zak,zal,zao,zaq,zas,zat,zau,zb4,zb5,zb9,zba,zbb,zbc,zbd,zbe,zbf,zbg,zbk,zbm,zbp,zbq,zbs,zbt,zbu,zbw,zbx,zby,zbz,zc1,zc3,zc8,zca,zcc,zcd,zce,zcf,zcg,zch,zci,zcj,zcn,zco,zcp,zcq,zcr,zcs,zct,zcu,zcv,zcw,zcy,zd3,zd6,zd7,zdd,zdj,zdk,zdl,zdm,zdn,zdo,zds,zdt,zdu,zdv,zdw,zdx,zdy,ze2,ze3,ze9,zea,zeb,zec,zeq,zer,zes,zet,zez,zf0,zf1,zf2,zf3,zf4,zf5,zf6,zf7,zfa,zfb,zfg,zfh,zfi,zfj,zfl,zfm,zfo,zfp,zfq,zfr,zfs,zft,zfu,zfv,zfw,zfx,zfy,zfz,zg0,zg1,zhb,zhc,zhd,zhe,zhg,zhp,zi8,zi9,zia,zib,zic,ziw]; all_goals tactic => exact rfl)))]
              rw [← h5, e0]
              unfold x66l0
              dsimp only
              have f1 := zf5 (n := (U : Int))
              (sym => (simp [etaM, etaF, z00,z01,z03,z04,z05,z06,z07,z09,z0b,z0c,z0f,z0n,z0t,z0v,z0z,z12,z1j,z1r,z1u,z1z,z20,z21,z26,z29,z2j,z2t,z2u,z2v,z3h,z4l,z4o,z4p,z4q,z4s,z4t,z4u,z4v,z4z,z54,z66,z67,z69,z6a,z6b,z6d,z6e,z6f,z6g,z6k,z6t,z6w,z6y,z78,z7f,z7g,z7h,z7m,z7v,z7z,z85,z8a,z9d,z9e,z9g,z9i,z9j,z9k,z9l,z9m,z9n,z9p,z9r,z9s,z9t,z9v,z9w,z9x,z9y,za0,za1,za2,za3,za5,za6,za7,za8,za9,zaa,zab,zac,zae,zaf,zai,zak,zal,zao,zaq,zas,zat,zau,zb4,zb5,zb9,zba,zbb,zbc,zbd,zbe,zbf,zbg,zbk,zbm,zbp,zbq,zbs,zbt,zbu,zbw,zbx,zby,zbz,zc1,zc3,zc8,zca,zcc,zcd,zce,zcf,zcg,zch,zci,zcj,zcn,zco,zcp,zcq,zcr,zcs,zct,zcu,zcv,zcw,zcy,zd3,zd6,zd7,zdd,zdj,zdk,zdl,zdm,zdn,zdo,zds,zdt,zdu,zdv,zdw,zdx,zdy,ze2,ze3,ze9,zea,zeb,zec,zeq,zer,zes,zet,zez,zf0,zf1,zf2,zf3,zf4,zf5,zf6,zf7,zfa,zfb,zfg,zfh,zfi,zfj,zfl,zfm,zfo,zfp,zfq,zfr,zfs,zft,zfu,zfv,zfw,zfx,zfy,zfz,zg0,zg1,zhb,zhc,zhd,zhe,zhg,zhp,zi8,zi9,zia,zib,zic,ziw, f1, y]; all_goals tactic => exact rfl))
end Go.Proofs.Ytdbikamciedfdaa
namespace Go.Proofs.Ytdbikamciedfdaa
open Go Go.DL
set_option maxRecDepth 100000
set_option maxHeartbeats 1000000

/-- What the program's function returns. -/
def clA : Option (List Int × Int) → AV
  | none => .tup [.fs [], I 0, .bool false]
  | some r => .tup [rI r.1, I r.2, .bool true]
theorem w47 (U : Nat) (l : List Fl) (hU : U < 100000) (hn : l.length < 1000000) (hr : rngL U l) : runW progX 47 [plA U l] [] = some (clA (clF (gI (-1) l l.length) U l U), []) := by
  have c := w66c U l _ _ hU hn (w67 U l (-1) hn hr) (esI_inv hr l.length)
  unfold cl66 at c
  dsimp only at c
  generalize clF (gI (-1) l l.length) U l U = r at *
  cases r with
  | none =>
    simp only [List.cons_append, List.nil_append] at c
    unfold clA
    rw [r47 (by simp)]; unfold x47; dsimp only
    (sym => (simp [etaM, etaF, z00,z01,z02,z05,z06,z07,z09,z0b,z0c,z0f,z0o,z0r,z1j,z1n,z1o,z1r,z1u,z20,z21,z4l,z4m,z4o,z4p,z4q,z4t,z4z,z54,z55,z57,z59,z5e,z66,z67,z69,z6a,z6b,z6e,z6j,z6k,z6p,z6q,z6t,z6u,z6z,z7r,z7s,z7u,z7v,z7w,z81,z8a,z8b,z8d,z8k,z9d,z9e,z9g,z9i,z9j,z9k,z9l,z9m,z9n,z9p,z9r,z9s,z9t,z9v,z9x,z9y,za0,za1,za2,za3,za5,za6,za7,za8,zaa,zab,zac,zae,zaf,zai,zal,zao,zaq,zas,zat,zau,zba,zbc,zbd,zbf,zbg,zbk,zbt,zbu,zbw,zbx,zby,zbz,zc2,zc3,zc4,zc5,zc7,zc8,zcj,zcn,zco,zcp,zcq,zcr,zct,zcu,zcv,zcy,zd3,zdd,zdj,zdo,zds,zdt,zdu,zdv,zdw,zdx,zdy,zdz,ze2,ze3,ze9,zeo,zep,zf6,zf7,zfa,zfb,zfc,zfd,zfg,zfo,zfp,zfq,zfs,zft,zfv,zfw,zfx,zg0,zg1,zij,zik,zin,ziq,zir,zis,zit,ziu,ziv,zj3, c, w36]; all_goals tactic => exact rfl))
  | some r =>
    simp only [List.cons_append, List.nil_append] at c
    unfold clA
    rw [r47 (by simp)]; unfold x47; dsimp only
    (sym => (simp [etaM, etaF, z00,z01,z02,z05,z06,z07,z09,z0b,z0c,z0f,z0o,z0r,z1j,z1n,z1o,z1r,z1u,z20,z21,z4l,z4m,z4o,z4p,z4q,z4t,z4z,z54,z55,z57,z59,z5e,z66,z67,z69,z6a,z6b,z6e,z6j,z6k,z6p,z6q,z6t,z6u,z6z,z7r,z7s,z7u,z7v,z7w,z81,z8a,z8b,z8d,z8k,z9d,z9e,z9g,z9i,z9j,z9k,z9l,z9m,z9n,z9p,z9r,z9s,z9t,z9v,z9x,z9y,za0,za1,za2,za3,za5,za6,za7,za8,zaa,zab,zac,zae,zaf,zai,zal,zao,zaq,zas,zat,zau,zba,zbc,zbd,zbf,zbg,zbk,zbt,zbu,zbw,zbx,zby,zbz,zc2,zc3,zc4,zc5,zc7,zc8,zcj,zcn,zco,zcp,zcq,zcr,zct,zcu,zcv,zcy,zd3,zdd,zdj,zdo,zds,zdt,zdu,zdv,zdw,zdx,zdy,zdz,ze2,ze3,ze9,zeo,zep,zf6,zf7,zfa,zfb,zfc,zfd,zfg,zfo,zfp,zfq,zfs,zft,zfv,zfw,zfx,zg0,zg1,zij,zik,zin,ziq,zir,zis,zit,ziu,ziv,zj3, c, w36]; all_goals tactic => exact rfl))

/-- Excesses depend on the units alone. -/
theorem exI_congr {U : Int} {l : List Fl} (hr : rngL U l) {f f' : Int → Bool} (h : ∀ x, -1 ≤ x → x < U → f x = f' x) (wo : Int) : ∀ i, exI f wo l i = exI f' wo l i
  | 0 => rfl
  | i + 1 => by
    have ih := exI_congr hr h wo i
    cases hx : l[i]? with
    | none => simp [exI, hx, ih]
    | some x =>
      obtain ⟨r1, r2, r3, r4⟩ := hr x (List.mem_of_getElem? hx)
      simp [exI, hx, exStep, ih, h x.fr r1 r2, h x.to r3 r4]
theorem inL_side (U : Nat) (g : Int → Int) (h : Int) : inL U ((hsL U g).map fun v => decide (v = h + 1)) fun x => decide (g x = h) := by
  refine ⟨by rw [List.length_map, hsL_len], fun x h1 h2 => ?_⟩
  rw [List.getElem?_map, hsL_get h1 h2]
  simp only [Option.map_some, Option.some.injEq, decide_eq_decide]
  omega
/-- Of a head's side. -/
theorem ex_side {U : Nat} {l : List Fl} (hr : rngL U l) {g : Int → Int} (hg : g (-1) = -1) (i : Nat) : exI (fun x => decide (x ∈ usI g i U)) (-1) l l.length = exI (fun x => decide (g x = i)) (-1) l l.length := by
  apply exI_congr hr
  intro x h1 h2
  simp only [decide_eq_decide, usI_mem]
  constructor
  · exact fun h => h.2.2
  · intro h
    refine ⟨?_, h2, h⟩
    by_cases hx : x = -1
    · rw [hx, hg] at h; omega
    · omega
end Go.Proofs.Ytdbikamciedfdaa
namespace Go.Proofs.Ytdbikamciedfdaa
open Go Go.DL
set_option maxRecDepth 100000
set_option maxHeartbeats 1000000

def clB : Option (List Int × Int) → AV
  | none => .tup [.fs [], I 0]
  | some r => .tup [rI r.1, I r.2]
abbrev sdB (U : Nat) (g : Int → Int) (i : Nat) : List Bool := (hsL U g).map fun v => decide (v = (i : Int) + 1)
theorem w49 (U : Nat) (l : List Fl) (hU : U < 100000) (hn : l.length < 1000000) (hr : rngL U l) : runW progX 49 [plA U l] [] = some (clB (clF (gI (-1) l l.length) U l U), []) := by
  have e37 := w37 U l (-1) hn (by omega) hr
  have hi := esI_inv hr (wo := -1) l.length
  have hm1 : gI (-1) l l.length (-1) = -1 := by
    rcases Nat.eq_zero_or_pos U with hz | hz
    · -- no unit: no flow joins anything
      have key : ∀ i, gI (-1) l i (-1) = -1 := by
        intro i
        induction i with
        | zero => rfl
        | succ i ih =>
          cases hx : l[i]? with
          | none => simp [gI, hx, ih]
          | some x =>
            obtain ⟨r1, r2, r3, r4⟩ := hr x (List.mem_of_getElem? hx)
            have e1 : x.fr = -1 := by omega
            have e2 : x.to = -1 := by omega
            simp [gI, hx, ih, e1, e2, mx, mn]
      exact key _
    · have := hi (-1) (by omega) (by omega); omega
  have hs := fun i => ex_side hr hm1 i
  generalize gI (-1) l l.length = g at *
  have hl := hsL_len U g
  have e50 : ∀ i : Nat, runW progX 50 [rI (hsL U g), I ((i : Int) + 1)] [] = some (rB (sdB U g i), []) := fun i => w50 _ _ (by omega)
  have e41 : ∀ i : Nat, runW progX 41 [plA U l, rB (sdB U g i)] [] = some (msA (exI (fun x => decide (g x = i)) (-1) l l.length), []) := fun i => w41 U l _ _ hn (by omega) hr (inL_side U g i)
  have ru : ∀ i : Nat, i < U → IntKind.i64.wrap ((i : Int) + 1) = (i : Int) + 1 ∧ IntKind.i64.wrap ((i : Int) + 1 + 1) = (i : Int) + 1 + 1 ∧ ((i : Int) + 1 ≤ (U : Int)) = True ∧ ((i : Int) < (U : Int)) = True ∧ (0 ≤ (i : Int) + 1) = True ∧ ((i : Int) + 1 < ((U + 1 : Nat) : Int)) = True ∧ (hsL U g)[((i : Int) + 1).toNat]? = some (g i + 1) := fun i h =>
    ⟨up_ix h (by omega), wrap_ok (by omega) (by omega), eq_true (by omega), eq_true (by omega), eq_true (by omega), eq_true (by omega), hsL_get (by omega) (by omega)⟩
  have rv : ∀ (i v : Nat), v < U → ((g v + 1 = (i : Int) + 1) = True ∧ usI g i (v + 1) = usI g i v ++ [(v : Int)]) ∨ ((g v + 1 = (i : Int) + 1) = False ∧ usI g i (v + 1) = usI g i v) := by
    intro i v hv
    by_cases h : g v = i
    · exact .inl ⟨eq_true (by omega), by rw [usI, if_pos h]⟩
    · exact .inr ⟨eq_false (by omega), by rw [usI, if_neg h]⟩
  have rl : ∀ (u : Int) v a r, v < U → usI g u v = a :: r → ((r.length + 1 + 1) * 8 ≤ 1099511627776) = True ∧ (r.length + 1 + 1 ≤ 1099511627776) = True := by
    intro u v a r hv h
    have := usI_len g u v
    rw [h, List.length_cons] at this
    exact ⟨eq_true (by omega), eq_true (by omega)⟩
  have u0 : ∀ u, usI g u 0 = [] := fun _ => rfl
  have inner : ∀ (i : Nat) (k : Int) (e : Env) (h : XH), i < U → headX 0 [1, 6, 8, 9, 10] (some (.normal, e, h)) = some ([.pt 0 0, rB (sdB U g i), I k, .nilsl, I 0], [some (.blk true (.cells true [I U, .fs (l.map Fl.row)]))]) →
      execW progX 49 0 none x49l0 e h = execW progX 49 0 none (match x49l0 with | .loop _ a => a | c => c) (envL [1, 6, 8, 9, 10] [.pt 0 0, rB (sdB U g i), I k, oS 1 (usI g i U), I U]) ([some (.blk true (.cells true [I U, .fs (l.map Fl.row)]))] ++ oG (usI g i U)) := by
    intro i k e h hiU h0
    unfold x49l0
    rw [loop_rule U (fun v => [.pt 0 0, rB (sdB U g i), I k, oS 1 (usI g i v), I (v : Nat)]) (fun v => [some (.blk true (.cells true [I U, .fs (l.map Fl.row)]))] ++ oG (usI g i v))]
    · rw [h0]; rfl
    · intro v hv
      obtain ⟨m0, m1, m2, m3, m4, m5, m6⟩ := ru v hv
      have m9 := pad
      have n1 := pad
      rcases hu : usI g i v with _ | ⟨a, r⟩
      rotate_left
      obtain ⟨m9, n1⟩ := rl i v a r hv hu
      all_goals (rcases rv i v hv with ⟨m7, m8⟩ | ⟨m7, m8⟩ <;> rw [m8, hu])
      all_goals (sym => (simp [etaM, etaF, z00,z01,z02,z03,z04,z05,z06,z07,z09,z0b,z0c,z0f,z0h,z0j,z0l,z0n,z0o,z0q,z0r,z0t,z0v,z0z,z12,z14,z15,z1j,z1n,z1o,z1r,z1u,z1z,z20,z21,z22,z23,z26,z29,z2g,z2h,z2j,z2t,z2v,z2w,z36,z37,z38,z39,z3g,z3h,z3i,z3k,z3m,z3p,z40,z4l,z4o,z4p,z4q,z4s,z4t,z4v,z54,z57,z59,z66,z69,z6a,z6b,z6d,z6e,z6g,z6p,z6t,z6u,z6w,z6z,z78,z7c,z7f,z7r,z7u,z7v,z7w,z81,z8a,z8d,z9d,z9e,z9g,z9i,z9j,z9k,z9l,z9m,z9n,z9p,z9r,z9s,z9v,z9w,z9y,za0,za1,za2,za3,za5,za6,za7,za8,za9,zaa,zab,zae,zaf,zal,zaq,zas,zat,zb4,zb5,zb9,zba,zbb,zbc,zbd,zbe,zbf,zbg,zbk,zbm,zbp,zbt,zbu,zbw,zbx,zby,zbz,zc2,zc3,zc4,zc5,zc6,zc8,zca,zcb,zcc,zcd,zce,zcf,zcg,zch,zci,zcj,zcn,zco,zcp,zcq,zcr,zct,zcu,zcv,zcw,zcx,zcy,zd3,zd6,zd7,zdd,zdj,zdk,zdl,zdm,zdn,zdo,zds,zdt,zdu,zdv,zdw,zdx,zdy,zdz,ze0,ze1,ze2,ze3,ze9,zea,zeb,zec,zeo,zep,zeq,zer,zes,zet,zez,zf0,zf1,zf2,zf3,zf4,zf5,zf6,zf7,zf8,zf9,zfa,zfb,zfc,zfd,zfg,zfh,zfi,zfj,zfl,zfm,zfo,zfp,zfq,zfr,zfs,zft,zfu,zfv,zfw,zfx,zfy,zfz,zg0,zg1,zhb,zhc,zhd,zhe,zhf,zhg,zhp,zi8,zi9,zia,zib,zic, hl, m0, m1, m2, m3, m4, m5, m6, m7, m9, n1]; all_goals tactic => exact rfl))
    · rcases hu : usI g i U with _ | ⟨a, r⟩ <;> (sym => (simp [etaM, etaF, z00,z01,z02,z03,z04,z05,z06,z07,z09,z0b,z0c,z0f,z0h,z0j,z0l,z0n,z0o,z0q,z0r,z0t,z0v,z0z,z12,z14,z15,z1j,z1n,z1o,z1r,z1u,z1z,z20,z21,z22,z23,z26,z29,z2g,z2h,z2j,z2t,z2v,z2w,z36,z37,z38,z39,z3g,z3h,z3i,z3k,z3m,z3p,z40,z4l,z4o,z4p,z4q,z4s,z4t,z4v,z54,z57,z59,z66,z69,z6a,z6b,z6d,z6e,z6g,z6p,z6t,z6u,z6w,z6z,z78,z7c,z7f,z7r,z7u,z7v,z7w,z81,z8a,z8d,z9d,z9e,z9g,z9i,z9j,z9k,z9l,z9m,z9n,z9p,z9r,z9s,z9v,z9w,z9y,za0,za1,za2,za3,za5,za6,za7,za8,za9,zaa,zab,zae,zaf,zal,zaq,zas,zat,zb4,zb5,zb9,zba,zbb,zbc,zbd,zbe,zbf,zbg,zbk,zbm,zbp,zbt,zbu,zbw,zbx,zby,zbz,zc2,zc3,zc4,zc5,zc6,zc8,zca,zcb,zcc,zcd,zce,zcf,zcg,zch,zci,zcj,zcn,zco,zcp,zcq,zcr,zct,zcu,zcv,zcw,zcx,zcy,zd3,zd6,zd7,zdd,zdj,zdk,zdl,zdm,zdn,zdo,zds,zdt,zdu,zdv,zdw,zdx,zdy,zdz,ze0,ze1,ze2,ze3,ze9,zea,zeb,zec,zeo,zep,zeq,zer,zes,zet,zez,zf0,zf1,zf2,zf3,zf4,zf5,zf6,zf7,zf8,zf9,zfa,zfb,zfc,zfd,zfg,zfh,zfi,zfj,zfl,zfm,zfo,zfp,zfq,zfr,zfs,zft,zfu,zfv,zfw,zfx,zfy,zfz,zg0,zg1,zhb,zhc,zhd,zhe,zhf,zhg,zhp,zi8,zi9,zia,zib,zic]; all_goals tactic => exact rfl))
  obtain ⟨n, hn1, hn2, hn3⟩ := cl_ix g U l
  have hk : ∀ i, i < n → ((g i + 1 = (i : Int) + 1) = False) ∨ ((g i + 1 = (i : Int) + 1) = True ∧ kd (exI (fun x => decide (g x = i)) (-1) l l.length) = none) := by
    intro i h
    have := hn2 i h
    by_cases hg : g i = i
    · rw [clP, if_pos hg, Option.map_eq_none_iff, hs i] at this
      exact .inr ⟨eq_true (by omega), this⟩
    · exact .inl (eq_false (by omega))
  have z0 : IntKind.i64.wrap ((n : Int) + 1) = (n : Int) + 1 := wrap_ok (by omega) (by omega)
  -- the last round: to the end, or with a clash
  have last : ∀ (C : Option (DX × Env × XH) → Option (AV × XH)) , True := fun _ => trivial
  have g0 := pad
  have g1 := pad
  have g2 := pad
  have g3 := pad
  have g4 := pad
  have k1 := pad
  have k2 := pad
  have k3 := pad
  have k4 := pad
  rw [r49 (by simp)]; unfold x49; dsimp only
  sym =>
    simp [etaM, etaF, z00,z01,z02,z03,z04,z05,z06,z07,z09,z0b,z0c,z0f,z0h,z0j,z0l,z0n,z0o,z0q,z0r,z0t,z0v,z0z,z12,z14,z15,z1j,z1n,z1o,z1r,z1u,z1z,z20,z21,z22,z23,z26,z29,z2g,z2h,z2j,z2t,z2v,z2w,z36,z37,z38,z39,z3g,z3h,z3i,z3k,z3m,z3p,z40,z4l,z4o,z4p,z4q,z4s,z4t,z4v,z54,z57,z59,z66,z69,z6a,z6b,z6d,z6e,z6g,z6p,z6t,z6u,z6w,z6z,z78,z7c,z7f,z7r,z7u,z7v,z7w,z81,z8a,z8d,z9d,z9e,z9g,z9i,z9j,z9k,z9l,z9m,z9n,z9p,z9r,z9s,z9v,z9w,z9y,za0,za1,za2,za3,za5,za6,za7,za8,za9,zaa,zab,zae,zaf,zal,zaq,zas,zat,zb4,zb5,zb9,zba,zbb,zbc,zbd,zbe,zbf,zbg,zbk,zbm,zbp,zbt,zbu,zbw,zbx,zby,zbz,zc2,zc3,zc4,zc5,zc6,zc8,zca,zcb,zcc,zcd,zce,zcf,zcg,zch,zci,zcj,zcn,zco,zcp,zcq,zcr,zct,zcu,zcv,zcw,zcx,zcy,zd3,zd6,zd7,zdd,zdj,zdk,zdl,zdm,zdn,zdo,zds,zdt,zdu,zdv,zdw,zdx,zdy,zdz,ze0,ze1,ze2,ze3,ze9,zea,zeb,zec,zeo,zep,zeq,zer,zes,zet,zez,zf0,zf1,zf2,zf3,zf4,zf5,zf6,zf7,zf8,zf9,zfa,zfb,zfc,zfd,zfg,zfh,zfi,zfj,zfl,zfm,zfo,zfp,zfq,zfr,zfs,zft,zfu,zfv,zfw,zfx,zfy,zfz,zg0,zg1,zhb,zhc,zhd,zhe,zhf,zhg,zhp,zi8,zi9,zia,zib,zic, e37, hl]
    tactic =>
      unfold x49l2
      rw [loop_rule n (fun i => [.pt 0 0, rI (hsL U g), I ((i : Int) + 1)]) (fun i => [some (.blk true (.cells true [I U, .fs (l.map Fl.row)]))])]
      · rcases hn3 with ⟨h3, h4⟩ | ⟨us, k, h3, h4, h5, h6, h7⟩
        · have g1 : ((n : Int) + 1 ≤ (U : Int)) = False := eq_false (by omega)
          rw [h4]
          unfold clB
          (sym => (simp [etaM, etaF, z00,z01,z02,z03,z04,z05,z06,z07,z09,z0b,z0c,z0f,z0h,z0j,z0l,z0n,z0o,z0q,z0r,z0t,z0v,z0z,z12,z14,z15,z1j,z1n,z1o,z1r,z1u,z1z,z20,z21,z22,z23,z26,z29,z2g,z2h,z2j,z2t,z2v,z2w,z36,z37,z38,z39,z3g,z3h,z3i,z3k,z3m,z3p,z40,z4l,z4o,z4p,z4q,z4s,z4t,z4v,z54,z57,z59,z66,z69,z6a,z6b,z6d,z6e,z6g,z6p,z6t,z6u,z6w,z6z,z78,z7c,z7f,z7r,z7u,z7v,z7w,z81,z8a,z8d,z9d,z9e,z9g,z9i,z9j,z9k,z9l,z9m,z9n,z9p,z9r,z9s,z9v,z9w,z9y,za0,za1,za2,za3,za5,za6,za7,za8,za9,zaa,zab,zae,zaf,zal,zaq,zas,zat,zb4,zb5,zb9,zba,zbb,zbc,zbd,zbe,zbf,zbg,zbk,zbm,zbp,zbt,zbu,zbw,zbx,zby,zbz,zc2,zc3,zc4,zc5,zc6,zc8,zca,zcb,zcc,zcd,zce,zcf,zcg,zch,zci,zcj,zcn,zco,zcp,zcq,zcr,zct,zcu,zcv,zcw,zcx,zcy,zd3,zd6,zd7,zdd,zdj,zdk,zdl,zdm,zdn,zdo,zds,zdt,zdu,zdv,zdw,zdx,zdy,zdz,ze0,ze1,ze2,ze3,ze9,zea,zeb,zec,zeo,zep,zeq,zer,zes,zet,zez,zf0,zf1,zf2,zf3,zf4,zf5,zf6,zf7,zf8,zf9,zfa,zfb,zfc,zfd,zfg,zfh,zfi,zfj,zfl,zfm,zfo,zfp,zfq,zfr,zfs,zft,zfu,zfv,zfw,zfx,zfy,zfz,zg0,zg1,zhb,zhc,zhd,zhe,zhf,zhg,zhp,zi8,zi9,zia,zib,zic, g1]; all_goals tactic => exact rfl))
        · rw [h7]
          unfold clB
          obtain ⟨m0, m1, m2, m3, m4, m5, m6⟩ := ru n h3
          have e1 := e50 n
          have e2 := e41 n
          have q1 : (g n + 1 = (n : Int) + 1) = True := eq_true (by rw [h4])
          have hm : (n : Int) ∈ us := by rw [h5]; exact (usI_mem g n U n).2 ⟨by omega, by omega, h4⟩
          have f1 := zf5 (n := (U : Int))
          rw [h5, hs n] at h6
          generalize exI (fun x => decide (g x = (n : Int))) (-1) l l.length = m at *
          unfold x49l1
          have q2 := pad
          have q3 := pad
          have q4 := pad
          have q6 := pad
          rcases kd_cases m with ⟨_, q5⟩ | ⟨q2, q5⟩ | ⟨⟨q2, q3⟩, q5⟩ | ⟨⟨q2, q3, q4⟩, q5⟩ | ⟨⟨q2, q3, q4, q6⟩, q5⟩
          · rw [h6] at q5; simp at q5
          · rw [h6] at q5
            simp only [Option.some.injEq] at q5
            subst q5
            sym =>
              simp [etaM, etaF, z00,z01,z02,z03,z04,z05,z06,z07,z09,z0b,z0c,z0f,z0h,z0j,z0l,z0n,z0o,z0q,z0r,z0t,z0v,z0z,z12,z14,z15,z1j,z1n,z1o,z1r,z1u,z1z,z20,z21,z22,z23,z26,z29,z2g,z2h,z2j,z2t,z2v,z2w,z36,z37,z38,z39,z3g,z3h,z3i,z3k,z3m,z3p,z40,z4l,z4o,z4p,z4q,z4s,z4t,z4v,z54,z57,z59,z66,z69,z6a,z6b,z6d,z6e,z6g,z6p,z6t,z6u,z6w,z6z,z78,z7c,z7f,z7r,z7u,z7v,z7w,z81,z8a,z8d,z9d,z9e,z9g,z9i,z9j,z9k,z9l,z9m,z9n,z9p,z9r,z9s,z9v,z9w,z9y,za0,za1,za2,za3,za5,za6,za7,za8,za9,zaa,zab,zae,zaf,zal,zaq,zas,zat,zb4,zb5,zb9,zba,zbb,zbc,zbd,zbe,zbf,zbg,zbk,zbm,zbp,zbt,zbu,zbw,zbx,zby,zbz,zc2,zc3,zc4,zc5,zc6,zc8,zca,zcb,zcc,zcd,zce,zcf,zcg,zch,zci,zcj,zcn,zco,zcp,zcq,zcr,zct,zcu,zcv,zcw,zcx,zcy,zd3,zd6,zd7,zdd,zdj,zdk,zdl,zdm,zdn,zdo,zds,zdt,zdu,zdv,zdw,zdx,zdy,zdz,ze0,ze1,ze2,ze3,ze9,zea,zeb,zec,zeo,zep,zeq,zer,zes,zet,zez,zf0,zf1,zf2,zf3,zf4,zf5,zf6,zf7,zf8,zf9,zfa,zfb,zfc,zfd,zfg,zfh,zfi,zfj,zfl,zfm,zfo,zfp,zfq,zfr,zfs,zft,zfu,zfv,zfw,zfx,zfy,zfz,zg0,zg1,zhb,zhc,zhd,zhe,zhf,zhg,zhp,zi8,zi9,zia,zib,zic, hl, m0, m1, m2, m3, m4, m5, m6, e1, e2, q1, q2, q3, q4, q6, execW_loop]
              tactic =>
                rw [inner n 0 _ _ h3 (by (sym => (simp [etaM, etaF, z00,z01,z02,z03,z04,z05,z06,z07,z09,z0b,z0c,z0f,z0h,z0j,z0l,z0n,z0o,z0q,z0r,z0t,z0v,z0z,z12,z14,z15,z1j,z1n,z1o,z1r,z1u,z1z,z20,z21,z22,z23,z26,z29,z2g,z2h,z2j,z2t,z2v,z2w,z36,z37,z38,z39,z3g,z3h,z3i,z3k,z3m,z3p,z40,z4l,z4o,z4p,z4q,z4s,z4t,z4v,z54,z57,z59,z66,z69,z6a,z6b,z6d,z6e,z6g,z6p,z6t,z6u,z6w,z6z,z78,z7c,z7f,z7r,z7u,z7v,z7w,z81,z8a,z8d,z9d,z9e,z9g,z9i,z9j,z9k,z9l,z9m,z9n,z9p,z9r,z9s,z9v,z9w,z9y,za0,za1,za2,za3,za5,za6,za7,za8,za9,zaa,zab,zae,zaf,zal,zaq,zas,zat,zb4,zb5,zb9,zba,zbb,zbc,zbd,zbe,zbf,zbg,zbk,zbm,zbp,zbt,zbu,zbw,zbx,zby,zbz,zc2,zc3,zc4,zc5,zc6,zc8,zca,zcb,zcc,zcd,zce,zcf,zcg,zch,zci,zcj,zcn,zco,zcp,zcq,zcr,zct,zcu,zcv,zcw,zcx,zcy,zd3,zd6,zd7,zdd,zdj,zdk,zdl,zdm,zdn,zdo,zds,zdt,zdu,zdv,zdw,zdx,zdy,zdz,ze0,ze1,ze2,ze3,ze9,zea,zeb,zec,zeo,zep,zeq,zer,zes,zet,zez,zf0,zf1,zf2,zf3,zf4,zf5,zf6,zf7,zf8,zf9,zfa,zfb,zfc,zfd,zfg,zfh,zfi,zfj,zfl,zfm,zfo,zfp,zfq,zfr,zfs,zft,zfu,zfv,zfw,zfx,zfy,zfz,zg0,zg1,zhb,zhc,zhd,zhe,zhf,zhg,zhp,zi8,zi9,zia,zib,zic]; all_goals tactic => exact rfl)))]
                rw [← h5]
                unfold x49l0
                dsimp only
                rcases us with _ | ⟨a, r⟩
                exact absurd hm (by simp)
                (sym => (simp [etaM, etaF, z00,z01,z02,z03,z04,z05,z06,z07,z09,z0b,z0c,z0f,z0h,z0j,z0l,z0n,z0o,z0q,z0r,z0t,z0v,z0z,z12,z14,z15,z1j,z1n,z1o,z1r,z1u,z1z,z20,z21,z22,z23,z26,z29,z2g,z2h,z2j,z2t,z2v,z2w,z36,z37,z38,z39,z3g,z3h,z3i,z3k,z3m,z3p,z40,z4l,z4o,z4p,z4q,z4s,z4t,z4v,z54,z57,z59,z66,z69,z6a,z6b,z6d,z6e,z6g,z6p,z6t,z6u,z6w,z6z,z78,z7c,z7f,z7r,z7u,z7v,z7w,z81,z8a,z8d,z9d,z9e,z9g,z9i,z9j,z9k,z9l,z9m,z9n,z9p,z9r,z9s,z9v,z9w,z9y,za0,za1,za2,za3,za5,za6,za7,za8,za9,zaa,zab,zae,zaf,zal,zaq,zas,zat,zb4,zb5,zb9,zba,zbb,zbc,zbd,zbe,zbf,zbg,zbk,zbm,zbp,zbt,zbu,zbw,zbx,zby,zbz,zc2,zc3,zc4,zc5,zc6,zc8,zca,zcb,zcc,zcd,zce,zcf,zcg,zch,zci,zcj,zcn,zco,zcp,zcq,zcr,zct,zcu,zcv,zcw,zcx,zcy,zd3,zd6,zd7,zdd,zdj,zdk,zdl,zdm,zdn,zdo,zds,zdt,zdu,zdv,zdw,zdx,zdy,zdz,ze0,ze1,ze2,ze3,ze9,zea,zeb,zec,zeo,zep,zeq,zer,zes,zet,zez,zf0,zf1,zf2,zf3,zf4,zf5,zf6,zf7,zf8,zf9,zfa,zfb,zfc,zfd,zfg,zfh,zfi,zfj,zfl,zfm,zfo,zfp,zfq,zfr,zfs,zft,zfu,zfv,zfw,zfx,zfy,zfz,zg0,zg1,zhb,zhc,zhd,zhe,zhf,zhg,zhp,zi8,zi9,zia,zib,zic, f1]; all_goals tactic => exact rfl))
          · rw [h6] at q5
            simp only [Option.some.injEq] at q5
            subst q5
            sym =>
              simp [etaM, etaF, z00,z01,z02,z03,z04,z05,z06,z07,z09,z0b,z0c,z0f,z0h,z0j,z0l,z0n,z0o,z0q,z0r,z0t,z0v,z0z,z12,z14,z15,z1j,z1n,z1o,z1r,z1u,z1z,z20,z21,z22,z23,z26,z29,z2g,z2h,z2j,z2t,z2v,z2w,z36,z37,z38,z39,z3g,z3h,z3i,z3k,z3m,z3p,z40,z4l,z4o,z4p,z4q,z4s,z4t,z4v,z54,z57,z59,z66,z69,z6a,z6b,z6d,z6e,z6g,z6p,z6t,z6u,z6w,z6z,z78,z7c,z7f,z7r,z7u,z7v,z7w,z81,z8a,z8d,z9d,z9e,z9g,z9i,z9j,z9k,z9l,z9m,z9n,z9p,z9r,z9s,z9v,z9w,z9y,za0,za1,za2,za3,za5,za6,za7,za8,za9,zaa,zab,zae,zaf,zal,zaq,zas,zat,zb4,zb5,zb9,zba,zbb,zbc,zbd,zbe,zbf,zbg,zbk,zbm,zbp,zbt,zbu,zbw,zbx,zby,zbz,zc2,zc3,zc4,zc5,zc6,zc8,zca,zcb,zcc,zcd,zce,zcf,zcg,zch,zci,zcj,zcn,zco,zcp,zcq,zcr,zct,zcu,zcv,zcw,zcx,zcy,zd3,zd6,zd7,zdd,zdj,zdk,zdl,zdm,zdn,zdo,zds,zdt,zdu,zdv,zdw,zdx,zdy,zdz,ze0,ze1,ze2,ze3,ze9,zea,zeb,zec,zeo,zep,zeq,zer,zes,zet,zez,zf0,zf1,zf2,zf3,zf4,zf5,zf6,zf7,zf8,zf9,zfa,zfb,zfc,zfd,zfg,zfh,zfi,zfj,zfl,zfm,zfo,zfp,zfq,zfr,zfs,zft,zfu,zfv,zfw,zfx,zfy,zfz,zg0,zg1,zhb,zhc,zhd,zhe,zhf,zhg,zhp,zi8,zi9,zia,zib,zic, hl, m0, m1, m2, m3, m4, m5, m6, e1, e2, q1, q2, q3, q4, q6, execW_loop]
              tactic =>
                rw [inner n 1 _ _ h3 (by (sym => (simp [etaM, etaF, z00,z01,z02,z03,z04,z05,z06,z07,z09,z0b,z0c,z0f,z0h,z0j,z0l,z0n,z0o,z0q,z0r,z0t,z0v,z0z,z12,z14,z15,z1j,z1n,z1o,z1r,z1u,z1z,z20,z21,z22,z23,z26,z29,z2g,z2h,z2j,z2t,z2v,z2w,z36,z37,z38,z39,z3g,z3h,z3i,z3k,z3m,z3p,z40,z4l,z4o,z4p,z4q,z4s,z4t,z4v,z54,z57,z59,z66,z69,z6a,z6b,z6d,z6e,z6g,z6p,z6t,z6u,z6w,z6z,z78,z7c,z7f,z7r,z7u,z7v,z7w,z81,z8a,z8d,z9d,z9e,z9g,z9i,z9j,z9k,z9l,z9m,z9n,z9p,z9r,z9s,z9v,z9w,z9y,za0,za1,za2,za3,za5,za6,za7,za8,za9,zaa,zab,zae,zaf,zal,zaq,zas,zat,zb4,zb5,zb9,zba,zbb,zbc,zbd,zbe,zbf,zbg,zbk,zbm,zbp,zbt,zbu,zbw,zbx,zby,zbz,zc2,zc3,zc4,zc5,zc6,zc8,zca,zcb,zcc,zcd,zce,zcf,zcg,zch,zci,zcj,zcn,zco,zcp,zcq,zcr,zct,zcu,zcv,zcw,zcx,zcy,zd3,zd6,zd7,zdd,zdj,zdk,zdl,zdm,zdn,zdo,zds,zdt,zdu,zdv,zdw,zdx,zdy,zdz,ze0,ze1,ze2,ze3,ze9,zea,zeb,zec,zeo,zep,zeq,zer,zes,zet,zez,zf0,zf1,zf2,zf3,zf4,zf5,zf6,zf7,zf8,zf9,zfa,zfb,zfc,zfd,zfg,zfh,zfi,zfj,zfl,zfm,zfo,zfp,zfq,zfr,zfs,zft,zfu,zfv,zfw,zfx,zfy,zfz,zg0,zg1,zhb,zhc,zhd,zhe,zhf,zhg,zhp,zi8,zi9,zia,zib,zic]; all_goals tactic => exact rfl)))]
                rw [← h5]
                unfold x49l0
                dsimp only
                rcases us with _ | ⟨a, r⟩
                exact absurd hm (by simp)
                (sym => (simp [etaM, etaF, z00,z01,z02,z03,z04,z05,z06,z07,z09,z0b,z0c,z0f,z0h,z0j,z0l,z0n,z0o,z0q,z0r,z0t,z0v,z0z,z12,z14,z15,z1j,z1n,z1o,z1r,z1u,z1z,z20,z21,z22,z23,z26,z29,z2g,z2h,z2j,z2t,z2v,z2w,z36,z37,z38,z39,z3g,z3h,z3i,z3k,z3m,z3p,z40,z4l,z4o,z4p,z4q,z4s,z4t,z4v,z54,z57,z59,z66,z69,z6a,z6b,z6d,z6e,z6g,z6p,z6t,z6u,z6w,z6z,z78,z7c,z7f,z7r,z7u,z7v,z7w,z81,z8a,z8d,z9d,z9e,z9g,z9i,z9j,z9k,z9l,z9m,z9n,z9p,z9r,z9s,z9v,z9w,z9y,za0,za1,za2,za3,za5,za6,za7,za8,za9,zaa,zab,zae,zaf,zal,zaq,zas,zat,zb4,zb5,zb9,zba,zbb,zbc,zbd,zbe,zbf,zbg,zbk,zbm,zbp,zbt,zbu,zbw,zbx,zby,zbz,zc2,zc3,zc4,zc5,zc6,zc8,zca,zcb,zcc,zcd,zce,zcf,zcg,zch,zci,zcj,zcn,zco,zcp,zcq,zcr,zct,zcu,zcv,zcw,zcx,zcy,zd3,zd6,zd7,zdd,zdj,zdk,zdl,zdm,zdn,zdo,zds,zdt,zdu,zdv,zdw,zdx,zdy,zdz,ze0,ze1,ze2,ze3,ze9,zea,zeb,zec,zeo,zep,zeq,zer,zes,zet,zez,zf0,zf1,zf2,zf3,zf4,zf5,zf6,zf7,zf8,zf9,zfa,zfb,zfc,zfd,zfg,zfh,zfi,zfj,zfl,zfm,zfo,zfp,zfq,zfr,zfs,zft,zfu,zfv,zfw,zfx,zfy,zfz,zg0,zg1,zhb,zhc,zhd,zhe,zhf,zhg,zhp,zi8,zi9,zia,zib,zic, f1]; all_goals tactic => exact rfl))
          · rw [h6] at q5
            simp only [Option.some.injEq] at q5
            subst q5
            sym =>
              simp [etaM, etaF, z00,z01,z02,z03,z04,z05,z06,z07,z09,z0b,z0c,z0f,z0h,z0j,z0l,z0n,z0o,z0q,z0r,z0t,z0v,z0z,z12,z14,z15,z1j,z1n,z1o,z1r,z1u,z1z,z20,z21,z22,z23,z26,z29,z2g,z2h,z2j,z2t,z2v,z2w,z36,z37,z38,z39,z3g,z3h,z3i,z3k,z3m,z3p,z40,z4l,z4o,z4p,z4q,z4s,z4t,z4v,z54,z57,z59,z66,z69,z6a,z6b,z6d,z6e,z6g,z6p,z6t,z6u,z6w,z6z,z78,z7c,z7f,z7r,z7u,z7v,z7w,z81,z8a,z8d,z9d,z9e,z9g,z9i,z9j,z9k,z9l,z9m,z9n,z9p,z9r,z9s,z9v,z9w,z9y,za0,za1,za2,za3,za5,za6,za7,za8,za9,zaa,zab,zae,zaf,zal,zaq,zas,zat,zb4,zb5,zb9,zba,zbb,zbc,zbd,zbe,zbf,zbg,zbk,zbm,zbp,zbt,zbu,zbw,zbx,zby,zbz,zc2,zc3,zc4,zc5,zc6,zc8,zca,zcb,zcc,zcd,zce,zcf,zcg,zch,zci,zcj,zcn,zco,zcp,zcq,zcr,zct,zcu,zcv,zcw,zcx,zcy,zd3,zd6,zd7,zdd,zdj,zdk,zdl,zdm,zdn,zdo,zds,zdt,zdu,zdv,zdw,zdx,zdy,zdz,ze0,ze1,ze2,ze3,ze9,zea,zeb,zec,zeo,zep,zeq,zer,zes,zet,zez,zf0,zf1,zf2,zf3,zf4,zf5,zf6,zf7,zf8,zf9,zfa,zfb,zfc,zfd,zfg,zfh,zfi,zfj,zfl,zfm,zfo,zfp,zfq,zfr,zfs,zft,zfu,zfv,zfw,zfx,zfy,zfz,zg0,zg1,zhb,zhc,zhd,zhe,zhf,zhg,zhp,zi8,zi9,zia,zib,zic, hl, m0, m1, m2, m3, m4, m5, m6, e1, e2, q1, q2, q3, q4, q6, execW_loop]
              tactic =>
                rw [inner n 2 _ _ h3 (by (sym => (simp [etaM, etaF, z00,z01,z02,z03,z04,z05,z06,z07,z09,z0b,z0c,z0f,z0h,z0j,z0l,z0n,z0o,z0q,z0r,z0t,z0v,z0z,z12,z14,z15,z1j,z1n,z1o,z1r,z1u,z1z,z20,z21,z22,z23,z26,z29,z2g,z2h,z2j,z2t,z2v,z2w,z36,z37,z38,z39,z3g,z3h,z3i,z3k,z3m,z3p,z40,z4l,z4o,z4p,z4q,z4s,z4t,z4v,z54,z57,z59,z66,z69,z6a,z6b,z6d,z6e,z6g,z6p,z6t,z6u,z6w,z6z,z78,z7c,z7f,z7r,z7u,z7v,z7w,z81,z8a,z8d,z9d,z9e,z9g,z9i,z9j,z9k,z9l,z9m,z9n,z9p,z9r,z9s,z9v,z9w,z9y,za0,za1,za2,za3,za5,za6,za7,za8,za9,zaa,zab,zae,zaf,zal,zaq,zas,zat,zb4,zb5,zb9,zba,zbb,zbc,zbd,zbe,zbf,zbg,zbk,zbm,zbp,zbt,zbu,zbw,zbx,zby,zbz,zc2,zc3,zc4,zc5,zc6,zc8,zca,zcb,zcc,zcd,zce,zcf,zcg,zch,zci,zcj,zcn,zco,zcp,zcq,zcr,zct,zcu,zcv,zcw,zcx,zcy,zd3,zd6,zd7,zdd,zdj,zdk,zdl,zdm,zdn,zdo,zds,zdt,zdu,zdv,zdw,zdx,zdy,zdz,ze0,ze1,ze2,ze3,ze9,zea,zeb,zec,zeo,zep,zeq,zer,zes,zet,zez,zf0,zf1,zf2,zf3,zf4,zf5,zf6,zf7,zf8,zf9,zfa,zfb,zfc,zfd,zfg,zfh,zfi,zfj,zfl,zfm,zfo,zfp,zfq,zfr,zfs,zft,zfu,zfv,zfw,zfx,zfy,zfz,zg0,zg1,zhb,zhc,zhd,zhe,zhf,zhg,zhp,zi8,zi9,zia,zib,zic]; all_goals tactic => exact rfl)))]
                rw [← h5]
                unfold x49l0
                dsimp only
                rcases us with _ | ⟨a, r⟩
                exact absurd hm (by simp)
                (sym => (simp [etaM, etaF, z00,z01,z02,z03,z04,z05,z06,z07,z09,z0b,z0c,z0f,z0h,z0j,z0l,z0n,z0o,z0q,z0r,z0t,z0v,z0z,z12,z14,z15,z1j,z1n,z1o,z1r,z1u,z1z,z20,z21,z22,z23,z26,z29,z2g,z2h,z2j,z2t,z2v,z2w,z36,z37,z38,z39,z3g,z3h,z3i,z3k,z3m,z3p,z40,z4l,z4o,z4p,z4q,z4s,z4t,z4v,z54,z57,z59,z66,z69,z6a,z6b,z6d,z6e,z6g,z6p,z6t,z6u,z6w,z6z,z78,z7c,z7f,z7r,z7u,z7v,z7w,z81,z8a,z8d,z9d,z9e,z9g,z9i,z9j,z9k,z9l,z9m,z9n,z9p,z9r,z9s,z9v,z9w,z9y,za0,za1,za2,za3,za5,za6,za7,za8,za9,zaa,zab,zae,zaf,zal,zaq,zas,zat,zb4,zb5,zb9,zba,zbb,zbc,zbd,zbe,zbf,zbg,zbk,zbm,zbp,zbt,zbu,zbw,zbx,zby,zbz,zc2,zc3,zc4,zc5,zc6,zc8,zca,zcb,zcc,zcd,zce,zcf,zcg,zch,zci,zcj,zcn,zco,zcp,zcq,zcr,zct,zcu,zcv,zcw,zcx,zcy,zd3,zd6,zd7,zdd,zdj,zdk,zdl,zdm,zdn,zdo,zds,zdt,zdu,zdv,zdw,zdx,zdy,zdz,ze0,ze1,ze2,ze3,ze9,zea,zeb,zec,zeo,zep,zeq,zer,zes,zet,zez,zf0,zf1,zf2,zf3,zf4,zf5,zf6,zf7,zf8,zf9,zfa,zfb,zfc,zfd,zfg,zfh,zfi,zfj,zfl,zfm,zfo,zfp,zfq,zfr,zfs,zft,zfu,zfv,zfw,zfx,zfy,zfz,zg0,zg1,zhb,zhc,zhd,zhe,zhf,zhg,zhp,zi8,zi9,zia,zib,zic, f1]; all_goals tactic => exact rfl))
          · rw [h6] at q5
            simp only [Option.some.injEq] at q5
            subst q5
            sym =>
              simp [etaM, etaF, z00,z01,z02,z03,z04,z05,z06,z07,z09,z0b,z0c,z0f,z0h,z0j,z0l,z0n,z0o,z0q,z0r,z0t,z0v,z0z,z12,z14,z15,z1j,z1n,z1o,z1r,z1u,z1z,z20,z21,z22,z23,z26,z29,z2g,z2h,z2j,z2t,z2v,z2w,z36,z37,z38,z39,z3g,z3h,z3i,z3k,z3m,z3p,z40,z4l,z4o,z4p,z4q,z4s,z4t,z4v,z54,z57,z59,z66,z69,z6a,z6b,z6d,z6e,z6g,z6p,z6t,z6u,z6w,z6z,z78,z7c,z7f,z7r,z7u,z7v,z7w,z81,z8a,z8d,z9d,z9e,z9g,z9i,z9j,z9k,z9l,z9m,z9n,z9p,z9r,z9s,z9v,z9w,z9y,za0,za1,za2,za3,za5,za6,za7,za8,za9,zaa,zab,zae,zaf,zal,zaq,zas,zat,zb4,zb5,zb9,zba,zbb,zbc,zbd,zbe,zbf,zbg,zbk,zbm,zbp,zbt,zbu,zbw,zbx,zby,zbz,zc2,zc3,zc4,zc5,zc6,zc8,zca,zcb,zcc,zcd,zce,zcf,zcg,zch,zci,zcj,zcn,zco,zcp,zcq,zcr,zct,zcu,zcv,zcw,zcx,zcy,zd3,zd6,zd7,zdd,zdj,zdk,zdl,zdm,zdn,zdo,zds,zdt,zdu,zdv,zdw,zdx,zdy,zdz,ze0,ze1,ze2,ze3,ze9,zea,zeb,zec,zeo,zep,zeq,zer,zes,zet,zez,zf0,zf1,zf2,zf3,zf4,zf5,zf6,zf7,zf8,zf9,zfa,zfb,zfc,zfd,zfg,zfh,zfi,zfj,zfl,zfm,zfo,zfp,zfq,zfr,zfs,zft,zfu,zfv,zfw,zfx,zfy,zfz,zg0,zg1,zhb,zhc,zhd,zhe,zhf,zhg,zhp,zi8,zi9,zia,zib,zic, hl, m0, m1, m2, m3, m4, m5, m6, e1, e2, q1, q2, q3, q4, q6, execW_loop]
              tactic =>
                rw [inner n 3 _ _ h3 (by (sym => (simp [etaM, etaF, z00,z01,z02,z03,z04,z05,z06,z07,z09,z0b,z0c,z0f,z0h,z0j,z0l,z0n,z0o,z0q,z0r,z0t,z0v,z0z,z12,z14,z15,z1j,z1n,z1o,z1r,z1u,z1z,z20,z21,z22,z23,z26,z29,z2g,z2h,z2j,z2t,z2v,z2w,z36,z37,z38,z39,z3g,z3h,z3i,z3k,z3m,z3p,z40,z4l,z4o,z4p,z4q,z4s,z4t,z4v,z54,z57,z59,z66,z69,z6a,z6b,z6d,z6e,z6g,z6p,z6t,z6u,z6w,z6z,z78,z7c,z7f,z7r,z7u,z7v,z7w,z81,z8a,z8d,z9d,z9e,z9g,z9i,z9j,z9k,z9l,z9m,z9n,z9p,z9r,z9s,z9v,z9w,z9y,za0,za1,za2,za3,za5,za6,za7,za8,za9,zaa,zab,zae,zaf,zal,zaq,zas,zat,zb4,zb5,zb9,zba,zbb,zbc,zbd,zbe,zbf,zbg,zbk,zbm,zbp,zbt,zbu,zbw,zbx,zby,zbz,zc2,zc3,zc4,zc5,zc6,zc8,zca,zcb,zcc,zcd,zce,zcf,zcg,zch,zci,zcj,zcn,zco,zcp,zcq,zcr,zct,zcu,zcv,zcw,zcx,zcy,zd3,zd6,zd7,zdd,zdj,zdk,zdl,zdm,zdn,zdo,zds,zdt,zdu,zdv,zdw,zdx,zdy,zdz,ze0,ze1,ze2,ze3,ze9,zea,zeb,zec,zeo,zep,zeq,zer,zes,zet,zez,zf0,zf1,zf2,zf3,zf4,zf5,zf6,zf7,zf8,zf9,zfa,zfb,zfc,zfd,zfg,zfh,zfi,zfj,zfl,zfm,zfo,zfp,zfq,zfr,zfs,zft,zfu,zfv,zfw,zfx,zfy,zfz,zg0,zg1,zhb,zhc,zhd,zhe,zhf,zhg,zhp,zi8,zi9,zia,zib,zic]; all_goals tactic => exact rfl)))]
                rw [← h5]
                unfold x49l0
                dsimp only
                rcases us with _ | ⟨a, r⟩
                exact absurd hm (by simp)
                (sym => (simp [etaM, etaF, z00,z01,z02,z03,z04,z05,z06,z07,z09,z0b,z0c,z0f,z0h,z0j,z0l,z0n,z0o,z0q,z0r,z0t,z0v,z0z,z12,z14,z15,z1j,z1n,z1o,z1r,z1u,z1z,z20,z21,z22,z23,z26,z29,z2g,z2h,z2j,z2t,z2v,z2w,z36,z37,z38,z39,z3g,z3h,z3i,z3k,z3m,z3p,z40,z4l,z4o,z4p,z4q,z4s,z4t,z4v,z54,z57,z59,z66,z69,z6a,z6b,z6d,z6e,z6g,z6p,z6t,z6u,z6w,z6z,z78,z7c,z7f,z7r,z7u,z7v,z7w,z81,z8a,z8d,z9d,z9e,z9g,z9i,z9j,z9k,z9l,z9m,z9n,z9p,z9r,z9s,z9v,z9w,z9y,za0,za1,za2,za3,za5,za6,za7,za8,za9,zaa,zab,zae,zaf,zal,zaq,zas,zat,zb4,zb5,zb9,zba,zbb,zbc,zbd,zbe,zbf,zbg,zbk,zbm,zbp,zbt,zbu,zbw,zbx,zby,zbz,zc2,zc3,zc4,zc5,zc6,zc8,zca,zcb,zcc,zcd,zce,zcf,zcg,zch,zci,zcj,zcn,zco,zcp,zcq,zcr,zct,zcu,zcv,zcw,zcx,zcy,zd3,zd6,zd7,zdd,zdj,zdk,zdl,zdm,zdn,zdo,zds,zdt,zdu,zdv,zdw,zdx,zdy,zdz,ze0,ze1,ze2,ze3,ze9,zea,zeb,zec,zeo,zep,zeq,zer,zes,zet,zez,zf0,zf1,zf2,zf3,zf4,zf5,zf6,zf7,zf8,zf9,zfa,zfb,zfc,zfd,zfg,zfh,zfi,zfj,zfl,zfm,zfo,zfp,zfq,zfr,zfs,zft,zfu,zfv,zfw,zfx,zfy,zfz,zg0,zg1,zhb,zhc,zhd,zhe,zhf,zhg,zhp,zi8,zi9,zia,zib,zic, f1]; all_goals tactic => exact rfl))
      · have f1 : ((0 : Nat) : Int) + 1 = 1 := rfl
        (sym => (simp [etaM, etaF, z00,z01,z02,z03,z04,z05,z06,z07,z09,z0b,z0c,z0f,z0h,z0j,z0l,z0n,z0o,z0q,z0r,z0t,z0v,z0z,z12,z14,z15,z1j,z1n,z1o,z1r,z1u,z1z,z20,z21,z22,z23,z26,z29,z2g,z2h,z2j,z2t,z2v,z2w,z36,z37,z38,z39,z3g,z3h,z3i,z3k,z3m,z3p,z40,z4l,z4o,z4p,z4q,z4s,z4t,z4v,z54,z57,z59,z66,z69,z6a,z6b,z6d,z6e,z6g,z6p,z6t,z6u,z6w,z6z,z78,z7c,z7f,z7r,z7u,z7v,z7w,z81,z8a,z8d,z9d,z9e,z9g,z9i,z9j,z9k,z9l,z9m,z9n,z9p,z9r,z9s,z9v,z9w,z9y,za0,za1,za2,za3,za5,za6,za7,za8,za9,zaa,zab,zae,zaf,zal,zaq,zas,zat,zb4,zb5,zb9,zba,zbb,zbc,zbd,zbe,zbf,zbg,zbk,zbm,zbp,zbt,zbu,zbw,zbx,zby,zbz,zc2,zc3,zc4,zc5,zc6,zc8,zca,zcb,zcc,zcd,zce,zcf,zcg,zch,zci,zcj,zcn,zco,zcp,zcq,zcr,zct,zcu,zcv,zcw,zcx,zcy,zd3,zd6,zd7,zdd,zdj,zdk,zdl,zdm,zdn,zdo,zds,zdt,zdu,zdv,zdw,zdx,zdy,zdz,ze0,ze1,ze2,ze3,ze9,zea,zeb,zec,zeo,zep,zeq,zer,zes,zet,zez,zf0,zf1,zf2,zf3,zf4,zf5,zf6,zf7,zf8,zf9,zfa,zfb,zfc,zfd,zfg,zfh,zfi,zfj,zfl,zfm,zfo,zfp,zfq,zfr,zfs,zft,zfu,zfv,zfw,zfx,zfy,zfz,zg0,zg1,zhb,zhc,zhd,zhe,zhf,zhg,zhp,zi8,zi9,zia,zib,zic, f1]; all_goals tactic => exact rfl))
      · intro i hin
        obtain ⟨m0, m1, m2, m3, m4, m5, m6⟩ := ru i (by omega)
        have e1 := e50 i
        have e2 := e41 i
        have h0 := hk i hin
        clear hk
        generalize exI (fun x => decide (g x = (i : Int))) (-1) l l.length = m at *
        unfold x49l1
        rcases h0 with q1 | ⟨q1, q5⟩
        · (sym => (simp [etaM, etaF, z00,z01,z02,z03,z04,z05,z06,z07,z09,z0b,z0c,z0f,z0h,z0j,z0l,z0n,z0o,z0q,z0r,z0t,z0v,z0z,z12,z14,z15,z1j,z1n,z1o,z1r,z1u,z1z,z20,z21,z22,z23,z26,z29,z2g,z2h,z2j,z2t,z2v,z2w,z36,z37,z38,z39,z3g,z3h,z3i,z3k,z3m,z3p,z40,z4l,z4o,z4p,z4q,z4s,z4t,z4v,z54,z57,z59,z66,z69,z6a,z6b,z6d,z6e,z6g,z6p,z6t,z6u,z6w,z6z,z78,z7c,z7f,z7r,z7u,z7v,z7w,z81,z8a,z8d,z9d,z9e,z9g,z9i,z9j,z9k,z9l,z9m,z9n,z9p,z9r,z9s,z9v,z9w,z9y,za0,za1,za2,za3,za5,za6,za7,za8,za9,zaa,zab,zae,zaf,zal,zaq,zas,zat,zb4,zb5,zb9,zba,zbb,zbc,zbd,zbe,zbf,zbg,zbk,zbm,zbp,zbt,zbu,zbw,zbx,zby,zbz,zc2,zc3,zc4,zc5,zc6,zc8,zca,zcb,zcc,zcd,zce,zcf,zcg,zch,zci,zcj,zcn,zco,zcp,zcq,zcr,zct,zcu,zcv,zcw,zcx,zcy,zd3,zd6,zd7,zdd,zdj,zdk,zdl,zdm,zdn,zdo,zds,zdt,zdu,zdv,zdw,zdx,zdy,zdz,ze0,ze1,ze2,ze3,ze9,zea,zeb,zec,zeo,zep,zeq,zer,zes,zet,zez,zf0,zf1,zf2,zf3,zf4,zf5,zf6,zf7,zf8,zf9,zfa,zfb,zfc,zfd,zfg,zfh,zfi,zfj,zfl,zfm,zfo,zfp,zfq,zfr,zfs,zft,zfu,zfv,zfw,zfx,zfy,zfz,zg0,zg1,zhb,zhc,zhd,zhe,zhf,zhg,zhp,zi8,zi9,zia,zib,zic, hl, m0, m1, m2, m3, m4, m5, m6, e1, e2, q1, execW_loop]; all_goals tactic => exact rfl))
        · rcases kd_cases m with ⟨⟨q2, q3, q4, q6⟩, _⟩ | ⟨_, h⟩ | ⟨_, h⟩ | ⟨_, h⟩ | ⟨_, h⟩
          · (sym => (simp [etaM, etaF, z00,z01,z02,z03,z04,z05,z06,z07,z09,z0b,z0c,z0f,z0h,z0j,z0l,z0n,z0o,z0q,z0r,z0t,z0v,z0z,z12,z14,z15,z1j,z1n,z1o,z1r,z1u,z1z,z20,z21,z22,z23,z26,z29,z2g,z2h,z2j,z2t,z2v,z2w,z36,z37,z38,z39,z3g,z3h,z3i,z3k,z3m,z3p,z40,z4l,z4o,z4p,z4q,z4s,z4t,z4v,z54,z57,z59,z66,z69,z6a,z6b,z6d,z6e,z6g,z6p,z6t,z6u,z6w,z6z,z78,z7c,z7f,z7r,z7u,z7v,z7w,z81,z8a,z8d,z9d,z9e,z9g,z9i,z9j,z9k,z9l,z9m,z9n,z9p,z9r,z9s,z9v,z9w,z9y,za0,za1,za2,za3,za5,za6,za7,za8,za9,zaa,zab,zae,zaf,zal,zaq,zas,zat,zb4,zb5,zb9,zba,zbb,zbc,zbd,zbe,zbf,zbg,zbk,zbm,zbp,zbt,zbu,zbw,zbx,zby,zbz,zc2,zc3,zc4,zc5,zc6,zc8,zca,zcb,zcc,zcd,zce,zcf,zcg,zch,zci,zcj,zcn,zco,zcp,zcq,zcr,zct,zcu,zcv,zcw,zcx,zcy,zd3,zd6,zd7,zdd,zdj,zdk,zdl,zdm,zdn,zdo,zds,zdt,zdu,zdv,zdw,zdx,zdy,zdz,ze0,ze1,ze2,ze3,ze9,zea,zeb,zec,zeo,zep,zeq,zer,zes,zet,zez,zf0,zf1,zf2,zf3,zf4,zf5,zf6,zf7,zf8,zf9,zfa,zfb,zfc,zfd,zfg,zfh,zfi,zfj,zfl,zfm,zfo,zfp,zfq,zfr,zfs,zft,zfu,zfv,zfw,zfx,zfy,zfz,zg0,zg1,zhb,zhc,zhd,zhe,zhf,zhg,zhp,zi8,zi9,zia,zib,zic, hl, m0, m1, m2, m3, m4, m5, m6, e1, e2, q1, q2, q3, q4, q6, execW_loop]; all_goals tactic => exact rfl))
          all_goals (rw [q5] at h; simp at h)
      · rcases hn3 with ⟨h3, h4⟩ | ⟨us, k, h3, h4, h5, h6, h7⟩
        · have g1 : ((n : Int) + 1 ≤ (U : Int)) = False := eq_false (by omega)
          (sym => (simp [etaM, etaF, z00,z01,z02,z03,z04,z05,z06,z07,z09,z0b,z0c,z0f,z0h,z0j,z0l,z0n,z0o,z0q,z0r,z0t,z0v,z0z,z12,z14,z15,z1j,z1n,z1o,z1r,z1u,z1z,z20,z21,z22,z23,z26,z29,z2g,z2h,z2j,z2t,z2v,z2w,z36,z37,z38,z39,z3g,z3h,z3i,z3k,z3m,z3p,z40,z4l,z4o,z4p,z4q,z4s,z4t,z4v,z54,z57,z59,z66,z69,z6a,z6b,z6d,z6e,z6g,z6p,z6t,z6u,z6w,z6z,z78,z7c,z7f,z7r,z7u,z7v,z7w,z81,z8a,z8d,z9d,z9e,z9g,z9i,z9j,z9k,z9l,z9m,z9n,z9p,z9r,z9s,z9v,z9w,z9y,za0,za1,za2,za3,za5,za6,za7,za8,za9,zaa,zab,zae,zaf,zal,zaq,zas,zat,zb4,zb5,zb9,zba,zbb,zbc,zbd,zbe,zbf,zbg,zbk,zbm,zbp,zbt,zbu,zbw,zbx,zby,zbz,zc2,zc3,zc4,zc5,zc6,zc8,zca,zcb,zcc,zcd,zce,zcf,zcg,zch,zci,zcj,zcn,zco,zcp,zcq,zcr,zct,zcu,zcv,zcw,zcx,zcy,zd3,zd6,zd7,zdd,zdj,zdk,zdl,zdm,zdn,zdo,zds,zdt,zdu,zdv,zdw,zdx,zdy,zdz,ze0,ze1,ze2,ze3,ze9,zea,zeb,zec,zeo,zep,zeq,zer,zes,zet,zez,zf0,zf1,zf2,zf3,zf4,zf5,zf6,zf7,zf8,zf9,zfa,zfb,zfc,zfd,zfg,zfh,zfi,zfj,zfl,zfm,zfo,zfp,zfq,zfr,zfs,zft,zfu,zfv,zfw,zfx,zfy,zfz,zg0,zg1,zhb,zhc,zhd,zhe,zhf,zhg,zhp,zi8,zi9,zia,zib,zic, g1]; all_goals tactic => exact rfl))
        · obtain ⟨m0, m1, m2, m3, m4, m5, m6⟩ := ru n h3
          have e1 := e50 n
          have e2 := e41 n
          have q1 : (g n + 1 = (n : Int) + 1) = True := eq_true (by rw [h4])
          have hm : (n : Int) ∈ us := by rw [h5]; exact (usI_mem g n U n).2 ⟨by omega, by omega, h4⟩
          have f1 := zf5 (n := (U : Int))
          rw [h5, hs n] at h6
          generalize exI (fun x => decide (g x = (n : Int))) (-1) l l.length = m at *
          unfold x49l1
          have q2 := pad
          have q3 := pad
          have q4 := pad
          have q6 := pad
          rcases kd_cases m with ⟨_, q5⟩ | ⟨q2, q5⟩ | ⟨⟨q2, q3⟩, q5⟩ | ⟨⟨q2, q3, q4⟩, q5⟩ | ⟨⟨q2, q3, q4, q6⟩, q5⟩
          · rw [h6] at q5; simp at q5
          · rw [h6] at q5
            simp only [Option.some.injEq] at q5
            subst q5
            sym =>
              simp [etaM, etaF, z00,z01,z02,z03,z04,z05,z06,z07,z09,z0b,z0c,z0f,z0h,z0j,z0l,z0n,z0o,z0q,z0r,z0t,z0v,z0z,z12,z14,z15,z1j,z1n,z1o,z1r,z1u,z1z,z20,z21,z22,z23,z26,z29,z2g,z2h,z2j,z2t,z2v,z2w,z36,z37,z38,z39,z3g,z3h,z3i,z3k,z3m,z3p,z40,z4l,z4o,z4p,z4q,z4s,z4t,z4v,z54,z57,z59,z66,z69,z6a,z6b,z6d,z6e,z6g,z6p,z6t,z6u,z6w,z6z,z78,z7c,z7f,z7r,z7u,z7v,z7w,z81,z8a,z8d,z9d,z9e,z9g,z9i,z9j,z9k,z9l,z9m,z9n,z9p,z9r,z9s,z9v,z9w,z9y,za0,za1,za2,za3,za5,za6,za7,za8,za9,zaa,zab,zae,zaf,zal,zaq,zas,zat,zb4,zb5,zb9,zba,zbb,zbc,zbd,zbe,zbf,zbg,zbk,zbm,zbp,zbt,zbu,zbw,zbx,zby,zbz,zc2,zc3,zc4,zc5,zc6,zc8,zca,zcb,zcc,zcd,zce,zcf,zcg,zch,zci,zcj,zcn,zco,zcp,zcq,zcr,zct,zcu,zcv,zcw,zcx,zcy,zd3,zd6,zd7,zdd,zdj,zdk,zdl,zdm,zdn,zdo,zds,zdt,zdu,zdv,zdw,zdx,zdy,zdz,ze0,ze1,ze2,ze3,ze9,zea,zeb,zec,zeo,zep,zeq,zer,zes,zet,zez,zf0,zf1,zf2,zf3,zf4,zf5,zf6,zf7,zf8,zf9,zfa,zfb,zfc,zfd,zfg,zfh,zfi,zfj,zfl,zfm,zfo,zfp,zfq,zfr,zfs,zft,zfu,zfv,zfw,zfx,zfy,zfz,zg0,zg1,zhb,zhc,zhd,zhe,zhf,zhg,zhp,zi8,zi9,zia,zib,zic, hl, m0, m1, m2, m3, m4, m5, m6, e1, e2, q1, q2, q3, q4, q6, execW_loop]
              tactic =>
                rw [inner n 0 _ _ h3 (by (sym => (simp [etaM, etaF, z00,z01,z02,z03,z04,z05,z06,z07,z09,z0b,z0c,z0f,z0h,z0j,z0l,z0n,z0o,z0q,z0r,z0t,z0v,z0z,z12,z14,z15,z1j,z1n,z1o,z1r,z1u,z1z,z20,z21,z22,z23,z26,z29,z2g,z2h,z2j,z2t,z2v,z2w,z36,z37,z38,z39,z3g,z3h,z3i,z3k,z3m,z3p,z40,z4l,z4o,z4p,z4q,z4s,z4t,z4v,z54,z57,z59,z66,z69,z6a,z6b,z6d,z6e,z6g,z6p,z6t,z6u,z6w,z6z,z78,z7c,z7f,z7r,z7u,z7v,z7w,z81,z8a,z8d,z9d,z9e,z9g,z9i,z9j,z9k,z9l,z9m,z9n,z9p,z9r,z9s,z9v,z9w,z9y,za0,za1,za2,za3,za5,za6,za7,za8,za9,zaa,zab,zae,zaf,zal,zaq,zas,zat,zb4,zb5,zb9,zba,zbb,zbc,zbd,zbe,zbf,zbg,zbk,zbm,zbp,zbt,zbu,zbw,zbx,zby,zbz,zc2,zc3,zc4,zc5,zc6,zc8,zca,zcb,zcc,zcd,zce,zcf,zcg,zch,zci,zcj,zcn,zco,zcp,zcq,zcr,zct,zcu,zcv,zcw,zcx,zcy,zd3,zd6,zd7,zdd,zdj,zdk,zdl,zdm,zdn,zdo,zds,zdt,zdu,zdv,zdw,zdx,zdy,zdz,ze0,ze1,ze2,ze3,ze9,zea,zeb,zec,zeo,zep,zeq,zer,zes,zet,zez,zf0,zf1,zf2,zf3,zf4,zf5,zf6,zf7,zf8,zf9,zfa,zfb,zfc,zfd,zfg,zfh,zfi,zfj,zfl,zfm,zfo,zfp,zfq,zfr,zfs,zft,zfu,zfv,zfw,zfx,zfy,zfz,zg0,zg1,zhb,zhc,zhd,zhe,zhf,zhg,zhp,zi8,zi9,zia,zib,zic]; all_goals tactic => exact rfl)))]
                rw [← h5]
                unfold x49l0
                dsimp only
                rcases us with _ | ⟨a, r⟩
                exact absurd hm (by simp)
                (sym => (simp [etaM, etaF, z00,z01,z02,z03,z04,z05,z06,z07,z09,z0b,z0c,z0f,z0h,z0j,z0l,z0n,z0o,z0q,z0r,z0t,z0v,z0z,z12,z14,z15,z1j,z1n,z1o,z1r,z1u,z1z,z20,z21,z22,z23,z26,z29,z2g,z2h,z2j,z2t,z2v,z2w,z36,z37,z38,z39,z3g,z3h,z3i,z3k,z3m,z3p,z40,z4l,z4o,z4p,z4q,z4s,z4t,z4v,z54,z57,z59,z66,z69,z6a,z6b,z6d,z6e,z6g,z6p,z6t,z6u,z6w,z6z,z78,z7c,z7f,z7r,z7u,z7v,z7w,z81,z8a,z8d,z9d,z9e,z9g,z9i,z9j,z9k,z9l,z9m,z9n,z9p,z9r,z9s,z9v,z9w,z9y,za0,za1,za2,za3,za5,za6,za7,za8,za9,zaa,zab,zae,zaf,zal,zaq,zas,zat,zb4,zb5,zb9,zba,zbb,zbc,zbd,zbe,zbf,zbg,zbk,zbm,zbp,zbt,zbu,zbw,zbx,zby,zbz,zc2,zc3,zc4,zc5,zc6,zc8,zca,zcb,zcc,zcd,zce,zcf,zcg,zch,zci,zcj,zcn,zco,zcp,zcq,zcr,zct,zcu,zcv,zcw,zcx,zcy,zd3,zd6,zd7,zdd,zdj,zdk,zdl,zdm,zdn,zdo,zds,zdt,zdu,zdv,zdw,zdx,zdy,zdz,ze0,ze1,ze2,ze3,ze9,zea,zeb,zec,zeo,zep,zeq,zer,zes,zet,zez,zf0,zf1,zf2,zf3,zf4,zf5,zf6,zf7,zf8,zf9,zfa,zfb,zfc,zfd,zfg,zfh,zfi,zfj,zfl,zfm,zfo,zfp,zfq,zfr,zfs,zft,zfu,zfv,zfw,zfx,zfy,zfz,zg0,zg1,zhb,zhc,zhd,zhe,zhf,zhg,zhp,zi8,zi9,zia,zib,zic, f1]; all_goals tactic => exact rfl))
          · rw [h6] at q5
            simp only [Option.some.injEq] at q5
            subst q5
            sym =>
              simp [etaM, etaF, z00,z01,z02,z03,z04,z05,z06,z07,z09,z0b,z0c,z0f,z0h,z0j,z0l,z0n,z0o,z0q,z0r,z0t,z0v,z0z,z12,z14,z15,z1j,z1n,z1o,z1r,z1u,z1z,z20,z21,z22,z23,z26,z29,z2g,z2h,z2j,z2t,z2v,z2w,z36,z37,z38,z39,z3g,z3h,z3i,z3k,z3m,z3p,z40,z4l,z4o,z4p,z4q,z4s,z4t,z4v,z54,z57,z59,z66,z69,z6a,z6b,z6d,z6e,z6g,z6p,z6t,z6u,z6w,z6z,z78,z7c,z7f,z7r,z7u,z7v,z7w,z81,z8a,z8d,z9d,z9e,z9g,z9i,z9j,z9k,z9l,z9m,z9n,z9p,z9r,z9s,z9v,z9w,z9y,za0,za1,za2,za3,za5,za6,za7,za8,za9,zaa,zab,zae,zaf,zal,zaq,zas,zat,zb4,zb5,zb9,zba,zbb,zbc,zbd,zbe,zbf,zbg,zbk,zbm,zbp,zbt,zbu,zbw,zbx,zby,zbz,zc2,zc3,zc4,zc5,zc6,zc8,zca,zcb,zcc,zcd,zce,zcf,zcg,zch,zci,zcj,zcn,zco,zcp,zcq,zcr,zct,zcu,zcv,zcw,zcx,zcy,zd3,zd6,zd7,zdd,zdj,zdk,zdl,zdm,zdn,zdo,zds,zdt,zdu,zdv,zdw,zdx,zdy,zdz,ze0,ze1,ze2,ze3,ze9,zea,zeb,zec,zeo,zep,zeq,zer,zes,zet,zez,zf0,zf1,zf2,zf3,zf4,zf5,zf6,zf7,zf8,zf9,zfa,zfb,zfc,zfd,zfg,zfh,zfi,zfj,zfl,zfm,zfo,zfp,zfq,zfr,zfs,zft,zfu,zfv,zfw,zfx,zfy,zfz,zg0,zg1,zhb,zhc,zhd,zhe,zhf,zhg,zhp,zi8,zi9,zia,zib,zic, hl, m0, m1, m2, m3, m4, m5, m6, e1, e2, q1, q2, q3, q4, q6, execW_loop]
              tactic =>
                rw [inner n 1 _ _ h3 (by (sym => (simp [etaM, etaF, z00,z01,z02,z03,z04,z05,z06,z07,z09,z0b,z0c,z0f,z0h,z0j,z0l,z0n,z0o,z0q,z0r,z0t,z0v,z0z,z12,z14,z15,z1j,z1n,z1o,z1r,z1u,z1z,z20,z21,z22,z23,z26,z29,z2g,z2h,z2j,z2t,z2v,z2w,z36,z37,z38,z39,z3g,z3h,z3i,z3k,z3m,z3p,z40,z4l,z4o,z4p,z4q,z4s,z4t,z4v,z54,z57,z59,z66,z69,z6a,z6b,z6d,z6e,z6g,z6p,z6t,z6u,z6w,z6z,z78,z7c,z7f,z7r,z7u,z7v,z7w,z81,z8a,z8d,z9d,z9e,z9g,z9i,z9j,z9k,z9l,z9m,z9n,z9p,z9r,z9s,z9v,z9w,z9y,za0,za1,za2,za3,za5,za6,za7,za8,za9,zaa,zab,zae,zaf,zal,zaq,zas,zat,zb4,zb5,zb9,zba,zbb,zbc,zbd,zbe,zbf,zbg,zbk,zbm,zbp,zbt,zbu,zbw,zbx,zby,zbz,zc2,zc3,zc4,zc5,zc6,zc8,zca,zcb,zcc,zcd,zce,zcf,zcg,zch,zci,zcj,zcn,zco,zcp,zcq,zcr,zct,zcu,zcv,zcw,zcx,zcy,zd3,zd6,zd7,zdd,zdj,zdk,zdl,zdm,zdn,zdo,zds,zdt,zdu,zdv,zdw,zdx,zdy,zdz,ze0,ze1,ze2,ze3,ze9,zea,zeb,zec,zeo,zep,zeq,zer,zes,zet,zez,zf0,zf1,zf2,zf3,zf4,zf5,zf6,zf7,zf8,zf9,zfa,zfb,zfc,zfd,zfg,zfh,zfi,zfj,zfl,zfm,zfo,zfp,zfq,zfr,zfs,zft,zfu,zfv,zfw,zfx,zfy,zfz,zg0,zg1,zhb,zhc,zhd,zhe,zhf,zhg,zhp,zi8,zi9,zia,zib,zic]; all_goals tactic => exact rfl)))]
                rw [← h5]
                unfold x49l0
                dsimp only
                rcases us with _ | ⟨a, r⟩
                exact absurd hm (by simp)
                (sym => (simp [etaM, etaF, z00,z01,z02,z03,z04,z05,z06,z07,z09,z0b,z0c,z0f,z0h,z0j,z0l,z0n,z0o,z0q,z0r,z0t,z0v,z0z,z12,z14,z15,z1j,z1n,z1o,z1r,z1u,z1z,z20,z21,z22,z23,z26,z29,z2g,z2h,z2j,z2t,z2v,z2w,z36,z37,z38,z39,z3g,z3h,z3i,z3k,z3m,z3p,z40,z4l,z4o,z4p,z4q,z4s,z4t,z4v,z54,z57,z59,z66,z69,z6a,z6b,z6d,z6e,z6g,z6p,z6t,z6u,z6w,z6z,z78,z7c,z7f,z7r,z7u,z7v,z7w,z81,z8a,z8d,z9d,z9e,z9g,z9i,z9j,z9k,z9l,z9m,z9n,z9p,z9r,z9s,z9v,z9w,z9y,za0,za1,za2,za3,za5,za6,za7,za8,za9,zaa,zab,zae,zaf,zal,zaq,zas,zat,zb4,zb5,zb9,zba,zbb,zbc,zbd,zbe,zbf,zbg,zbk,zbm,zbp,zbt,zbu,zbw,zbx,zby,zbz,zc2,zc3,zc4,zc5,zc6,zc8,zca,zcb,zcc,zcd,zce,zcf,zcg,zch,zci,zcj,zcn,zco,zcp,zcq,zcr,zct,zcu,zcv,zcw,zcx,zcy,zd3,zd6,zd7,zdd,zdj,zdk,zdl,zdm,zdn,zdo,zds,zdt,zdu,zdv,zdw,zdx,zdy,zdz,ze0,ze1,ze2,ze3,ze9,zea,zeb,zec,zeo,zep,zeq,zer,zes,zet,zez,zf0,zf1,zf2,zf3,zf4,zf5,zf6,zf7,zf8,zf9,zfa,zfb,zfc,zfd,zfg,zfh,zfi,zfj,zfl,zfm,zfo,zfp,zfq,zfr,zfs,zft,zfu,zfv,zfw,zfx,zfy,zfz,zg0,zg1,zhb,zhc,zhd,zhe,zhf,zhg,zhp,zi8,zi9,zia,zib,zic, f1]; all_goals tactic => exact rfl))
          · rw [h6] at q5
            simp only [Option.some.injEq] at q5
            subst q5
            sym =>
              simp [etaM, etaF, z00,z01,z02,z03,z04,z05,z06,z07,z09,z0b,z0c,z0f,z0h,z0j,z0l,z0n,z0o,z0q,z0r,z0t,z0v,z0z,z12,z14,z15,z1j,z1n,z1o,z1r,z1u,z1z,z20,z21,z22,z23,z26,z29,z2g,z2h,z2j,z2t,z2v,z2w,z36,z37,z38,z39,z3g,z3h,z3i,z3k,z3m,z3p,z40,z4l,z4o,z4p,z4q,z4s,z4t,z4v,z54,z57,z59,z66,z69,z6a,z6b,z6d,z6e,z6g,z6p,z6t,z6u,z6w,z6z,z78,z7c,z7f,z7r,z7u,z7v,z7w,z81,z8a,z8d,z9d,z9e,z9g,z9i,z9j,z9k,z9l,z9m,z9n,z9p,z9r,z9s,z9v,z9w,z9y,za0,za1,za2,za3,za5,za6,za7,za8,za9,zaa,zab,zae,zaf,zal,zaq,zas,zat,zb4,zb5,zb9,zba,zbb,zbc,zbd,zbe,zbf,zbg,zbk,zbm,zbp,zbt,zbu,zbw,zbx,zby,zbz,zc2,zc3,zc4,zc5,zc6,zc8,zca,zcb,zcc,zcd,zce,zcf,zcg,zch,zci,zcj,zcn,zco,zcp,zcq,zcr,zct,zcu,zcv,zcw,zcx,zcy,zd3,zd6,zd7,zdd,zdj,zdk,zdl,zdm,zdn,zdo,zds,zdt,zdu,zdv,zdw,zdx,zdy,zdz,ze0,ze1,ze2,ze3,ze9,zea,zeb,zec,zeo,zep,zeq,zer,zes,zet,zez,zf0,zf1,zf2,zf3,zf4,zf5,zf6,zf7,zf8,zf9,zfa,zfb,zfc,zfd,zfg,zfh,zfi,zfj,zfl,zfm,zfo,zfp,zfq,zfr,zfs,zft,zfu,zfv,zfw,zfx,zfy,zfz,zg0,zg1,zhb,zhc,zhd,zhe,zhf,zhg,zhp,zi8,zi9,zia,zib,zic, hl, m0, m1, m2, m3, m4, m5, m6, e1, e2, q1, q2, q3, q4, q6, execW_loop]
              tactic =>
                rw [inner n 2 _ _ h3 (by (sym => (simp [etaM, etaF, z00,z01,z02,z03,z04,z05,z06,z07,z09,z0b,z0c,z0f,z0h,z0j,z0l,z0n,z0o,z0q,z0r,z0t,z0v,z0z,z12,z14,z15,z1j,z1n,z1o,z1r,z1u,z1z,z20,z21,z22,z23,z26,z29,z2g,z2h,z2j,z2t,z2v,z2w,z36,z37,z38,z39,z3g,z3h,z3i,z3k,z3m,z3p,z40,z4l,z4o,z4p,z4q,z4s,z4t,z4v,z54,z57,z59,z66,z69,z6a,z6b,z6d,z6e,z6g,z6p,z6t,z6u,z6w,z6z,z78,z7c,z7f,z7r,z7u,z7v,z7w,z81,z8a,z8d,z9d,z9e,z9g,z9i,z9j,z9k,z9l,z9m,z9n,z9p,z9r,z9s,z9v,z9w,z9y,za0,za1,za2,za3,za5,za6,za7,za8,za9,zaa,zab,zae,zaf,zal,zaq,zas,zat,zb4,zb5,zb9,zba,zbb,zbc,zbd,zbe,zbf,zbg,zbk,zbm,zbp,zbt,zbu,zbw,zbx,zby,zbz,zc2,zc3,zc4,zc5,zc6,zc8,zca,zcb,zcc,zcd,zce,zcf,zcg,zch,zci,zcj,zcn,zco,zcp,zcq,zcr,zct,zcu,zcv,zcw,zcx,zcy,zd3,zd6,zd7,zdd,zdj,zdk,zdl,zdm,zdn,zdo,zds,zdt,zdu,zdv,zdw,zdx,zdy,zdz,ze0,ze1,ze2,ze3,ze9,zea,zeb,zec,zeo,zep,zeq,zer,zes,zet,zez,zf0,zf1,zf2,zf3,zf4,zf5,zf6,zf7,zf8,zf9,zfa,zfb,zfc,zfd,zfg,zfh,zfi,zfj,zfl,zfm,zfo,zfp,zfq,zfr,zfs,zft,zfu,zfv,zfw,zfx,zfy,zfz,zg0,zg1,zhb,zhc,zhd,zhe,zhf,zhg,zhp,zi8,zi9,zia,zib,zic]; all_goals tactic => exact rfl)))]
                rw [← h5]
                unfold x49l0
                dsimp only
                rcases us with _ | ⟨a, r⟩
                exact absurd hm (by simp)
                (sym => (simp [etaM, etaF, z00,z01,z02,z03,z04,z05,z06,z07,z09,z0b,z0c,z0f,z0h,z0j,z0l,z0n,z0o,z0q,z0r,z0t,z0v,z0z,z12,z14,z15,z1j,z1n,z1o,z1r,z1u,z1z,z20,z21,z22,z23,z26,z29,z2g,z2h,z2j,z2t,z2v,z2w,z36,z37,z38,z39,z3g,z3h,z3i,z3k,z3m,z3p,z40,z4l,z4o,z4p,z4q,z4s,z4t,z4v,z54,z57,z59,z66,z69,z6a,z6b,z6d,z6e,z6g,z6p,z6t,z6u,z6w,z6z,z78,z7c,z7f,z7r,z7u,z7v,z7w,z81,z8a,z8d,z9d,z9e,z9g,z9i,z9j,z9k,z9l,z9m,z9n,z9p,z9r,z9s,z9v,z9w,z9y,za0,za1,za2,za3,za5,za6,za7,za8,za9,zaa,zab,zae,zaf,zal,zaq,zas,zat,zb4,zb5,zb9,zba,zbb,zbc,zbd,zbe,zbf,zbg,zbk,zbm,zbp,zbt,zbu,zbw,zbx,zby,zbz,zc2,zc3,zc4,zc5,zc6,zc8,zca,zcb,zcc,zcd,zce,zcf,zcg,zch,zci,zcj,zcn,zco,zcp,zcq,zcr,zct,zcu,zcv,zcw,zcx,zcy,zd3,zd6,zd7,zdd,zdj,zdk,zdl,zdm,zdn,zdo,zds,zdt,zdu,zdv,zdw,zdx,zdy,zdz,ze0,ze1,ze2,ze3,ze9,zea,zeb,zec,zeo,zep,zeq,zer,zes,zet,zez,zf0,zf1,zf2,zf3,zf4,zf5,zf6,zf7,zf8,zf9,zfa,zfb,zfc,zfd,zfg,zfh,zfi,zfj,zfl,zfm,zfo,zfp,zfq,zfr,zfs,zft,zfu,zfv,zfw,zfx,zfy,zfz,zg0,zg1,zhb,zhc,zhd,zhe,zhf,zhg,zhp,zi8,zi9,zia,zib,zic, f1]; all_goals tactic => exact rfl))
          · rw [h6] at q5
            simp only [Option.some.injEq] at q5
            subst q5
            sym =>
              simp [etaM, etaF, z00,z01,z02,z03,z04,z05,z06,z07,z09,z0b,z0c,z0f,z0h,z0j,z0l,z0n,z0o,z0q,z0r,z0t,z0v,z0z,z12,z14,z15,z1j,z1n,z1o,z1r,z1u,z1z,z20,z21,z22,z23,z26,z29,z2g,z2h,z2j,z2t,z2v,z2w,z36,z37,z38,z39,z3g,z3h,z3i,z3k,z3m,z3p,z40,z4l,z4o,z4p,z4q,z4s,z4t,z4v,z54,z57,z59,z66,z69,z6a,z6b,z6d,z6e,z6g,z6p,z6t,z6u,z6w,z6z,z78,z7c,z7f,z7r,z7u,z7v,z7w,z81,z8a,z8d,z9d,z9e,z9g,z9i,z9j,z9k,z9l,z9m,z9n,z9p,z9r,z9s,z9v,z9w,z9y,za0,za1,za2,za3,za5,za6,za7,za8,za9,zaa,zab,zae,zaf,zal,zaq,zas,zat,zb4,zb5,zb9,zba,zbb,zbc,zbd,zbe,zbf,zbg,zbk,zbm,zbp,zbt,zbu,zbw,zbx,zby,zbz,zc2,zc3,zc4,zc5,zc6,zc8,zca,zcb,zcc,zcd,zce,zcf,zcg,zch,zci,zcj,zcn,zco,zcp,zcq,zcr,zct,zcu,zcv,zcw,zcx,zcy,zd3,zd6,zd7,zdd,zdj,zdk,zdl,zdm,zdn,zdo,zds,zdt,zdu,zdv,zdw,zdx,zdy,zdz,ze0,ze1,ze2,ze3,ze9,zea,zeb,zec,zeo,zep,zeq,zer,zes,zet,zez,zf0,zf1,zf2,zf3,zf4,zf5,zf6,zf7,zf8,zf9,zfa,zfb,zfc,zfd,zfg,zfh,zfi,zfj,zfl,zfm,zfo,zfp,zfq,zfr,zfs,zft,zfu,zfv,zfw,zfx,zfy,zfz,zg0,zg1,zhb,zhc,zhd,zhe,zhf,zhg,zhp,zi8,zi9,zia,zib,zic, hl, m0, m1, m2, m3, m4, m5, m6, e1, e2, q1, q2, q3, q4, q6, execW_loop]
              tactic =>
                rw [inner n 3 _ _ h3 (by (sym => (simp [etaM, etaF, z00,z01,z02,z03,z04,z05,z06,z07,z09,z0b,z0c,z0f,z0h,z0j,z0l,z0n,z0o,z0q,z0r,z0t,z0v,z0z,z12,z14,z15,z1j,z1n,z1o,z1r,z1u,z1z,z20,z21,z22,z23,z26,z29,z2g,z2h,z2j,z2t,z2v,z2w,z36,z37,z38,z39,z3g,z3h,z3i,z3k,z3m,z3p,z40,z4l,z4o,z4p,z4q,z4s,z4t,z4v,z54,z57,z59,z66,z69,z6a,z6b,z6d,z6e,z6g,z6p,z6t,z6u,z6w,z6z,z78,z7c,z7f,z7r,z7u,z7v,z7w,z81,z8a,z8d,z9d,z9e,z9g,z9i,z9j,z9k,z9l,z9m,z9n,z9p,z9r,z9s,z9v,z9w,z9y,za0,za1,za2,za3,za5,za6,za7,za8,za9,zaa,zab,zae,zaf,zal,zaq,zas,zat,zb4,zb5,zb9,zba,zbb,zbc,zbd,zbe,zbf,zbg,zbk,zbm,zbp,zbt,zbu,zbw,zbx,zby,zbz,zc2,zc3,zc4,zc5,zc6,zc8,zca,zcb,zcc,zcd,zce,zcf,zcg,zch,zci,zcj,zcn,zco,zcp,zcq,zcr,zct,zcu,zcv,zcw,zcx,zcy,zd3,zd6,zd7,zdd,zdj,zdk,zdl,zdm,zdn,zdo,zds,zdt,zdu,zdv,zdw,zdx,zdy,zdz,ze0,ze1,ze2,ze3,ze9,zea,zeb,zec,zeo,zep,zeq,zer,zes,zet,zez,zf0,zf1,zf2,zf3,zf4,zf5,zf6,zf7,zf8,zf9,zfa,zfb,zfc,zfd,zfg,zfh,zfi,zfj,zfl,zfm,zfo,zfp,zfq,zfr,zfs,zft,zfu,zfv,zfw,zfx,zfy,zfz,zg0,zg1,zhb,zhc,zhd,zhe,zhf,zhg,zhp,zi8,zi9,zia,zib,zic]; all_goals tactic => exact rfl)))]
                rw [← h5]
                unfold x49l0
                dsimp only
                rcases us with _ | ⟨a, r⟩
                exact absurd hm (by simp)
                (sym => (simp [etaM, etaF, z00,z01,z02,z03,z04,z05,z06,z07,z09,z0b,z0c,z0f,z0h,z0j,z0l,z0n,z0o,z0q,z0r,z0t,z0v,z0z,z12,z14,z15,z1j,z1n,z1o,z1r,z1u,z1z,z20,z21,z22,z23,z26,z29,z2g,z2h,z2j,z2t,z2v,z2w,z36,z37,z38,z39,z3g,z3h,z3i,z3k,z3m,z3p,z40,z4l,z4o,z4p,z4q,z4s,z4t,z4v,z54,z57,z59,z66,z69,z6a,z6b,z6d,z6e,z6g,z6p,z6t,z6u,z6w,z6z,z78,z7c,z7f,z7r,z7u,z7v,z7w,z81,z8a,z8d,z9d,z9e,z9g,z9i,z9j,z9k,z9l,z9m,z9n,z9p,z9r,z9s,z9v,z9w,z9y,za0,za1,za2,za3,za5,za6,za7,za8,za9,zaa,zab,zae,zaf,zal,zaq,zas,zat,zb4,zb5,zb9,zba,zbb,zbc,zbd,zbe,zbf,zbg,zbk,zbm,zbp,zbt,zbu,zbw,zbx,zby,zbz,zc2,zc3,zc4,zc5,zc6,zc8,zca,zcb,zcc,zcd,zce,zcf,zcg,zch,zci,zcj,zcn,zco,zcp,zcq,zcr,zct,zcu,zcv,zcw,zcx,zcy,zd3,zd6,zd7,zdd,zdj,zdk,zdl,zdm,zdn,zdo,zds,zdt,zdu,zdv,zdw,zdx,zdy,zdz,ze0,ze1,ze2,ze3,ze9,zea,zeb,zec,zeo,zep,zeq,zer,zes,zet,zez,zf0,zf1,zf2,zf3,zf4,zf5,zf6,zf7,zf8,zf9,zfa,zfb,zfc,zfd,zfg,zfh,zfi,zfj,zfl,zfm,zfo,zfp,zfq,zfr,zfs,zft,zfu,zfv,zfw,zfx,zfy,zfz,zg0,zg1,zhb,zhc,zhd,zhe,zhf,zhg,zhp,zi8,zi9,zia,zib,zic, f1]; all_goals tactic => exact rfl))
end Go.Proofs.Ytdbikamciedfdaa
namespace Go.Proofs.Ytdbikamciedfdaa
open Go Go.DL
set_option maxRecDepth 100000
set_option maxHeartbeats 1000000

theorem w39R (u : Int) (l : List Fl) (wo : Int) (g : Nat) (es : List (Int × Int)) (k : Int) (f : Int → Bool) (hn : l.length < 1000000) (hf : ∀ x ∈ l, runW progX g (I x.to :: [.pt 0 0, .pt 2 0]) [some (.blk false (.cells true [.mp 1])), mapB es, some (.blk true (.cells true [I k]))] = some (.bool (f x.to), [some (.blk false (.cells true [.mp 1])), mapB es, some (.blk true (.cells true [I k]))]) ∧ runW progX g (I x.fr :: [.pt 0 0, .pt 2 0]) [some (.blk false (.cells true [.mp 1])), mapB es, some (.blk true (.cells true [I k]))] = some (.bool (f x.fr), [some (.blk false (.cells true [.mp 1])), mapB es, some (.blk true (.cells true [I k]))])) :
    runW progX 39 [plA u l, I wo, .fn (.func g) [] [.pt 0 0, .pt 2 0]] [some (.blk false (.cells true [.mp 1])), mapB es, some (.blk true (.cells true [I k]))] = some (.agg [I (exI f wo l l.length).a, I (exI f wo l l.length).b, I (exI f wo l l.length).c, I (exI f wo l l.length).d], [some (.blk false (.cells true [.mp 1])), mapB es, some (.blk true (.cells true [I k]))]) := by
  rw [r39 (by simp)]; unfold x39; dsimp only
  have g0 := pad
  have g1 := pad
  have g2 := pad
  have g3 := pad
  have g4 := pad
  have g5 := pad
  have g6 := pad
  have k1 := pad
  have k2 := pad
  sym =>
    simp [etaM, etaF, z00,z01,z02,z03,z04,z05,z06,z07,z09,z0a,z0b,z0c,z0f,z0h,z0j,z0l,z0n,z0o,z0q,z0r,z0v,z0w,z0z,z12,z15,z1f,z1j,z1k,z1m,z1n,z1o,z1p,z1r,z1u,z1v,z1w,z20,z21,z22,z23,z24,z26,z29,z2b,z2g,z2h,z2j,z2t,z2v,z33,z34,z3h,z4l,z4o,z4q,z4t,z4u,z4y,z54,z55,z57,z59,z66,z67,z69,z6b,z6e,z6f,z6j,z6p,z6s,z7r,z7u,z7w,z84,z8d,z9d,z9e,z9g,z9i,z9j,z9k,z9l,z9m,z9n,z9p,z9r,z9s,z9t,z9v,z9w,z9x,z9y,za0,za1,za2,za3,za5,za6,za7,za8,za9,zaa,zab,zac,zae,zaf,zag,zak,zal,zam,zaq,zas,zat,zau,zav,zaw,zax,zaz,zb1,zb2,zb3,zba,zbc,zbd,zbf,zbg,zbk,zbt,zbu,zbw,zbx,zby,zbz,zc0,zc3,zc4,zc5,zc7,zc8,zca,zcc,zcd,zce,zcf,zcg,zch,zcj,zcn,zco,zcp,zcq,zcr,zcs,zct,zcu,zcv,zcw,zcx,zcy,zd3,zd6,zd7,zd8,zd9,zdb,zdd,zdj,zdk,zdl,zdm,zdn,zdo,zds,zdt,zdu,zdv,zdw,zdx,zdy,zdz,ze2,ze3,ze9,zeo,zep,zf5,zf6,zf7,zf8,zf9,zfa,zfb,zfc,zfd,zfg,zfm,zfo,zfp,zfq,zfr,zfs,zft,zfu,zfw,zfy,zfz,zg0,zg1]
    tactic =>
      unfold x39l0
      rw [loop_rule l.length (fun i => [I wo, .fn (.func g) [] [.pt 0 0, .pt 2 0], .pt 3 0, .pt 4 0, .fs (l.map Fl.row), I l.length, I (i : Nat)]) (fun i => [some (.blk false (.cells true [.mp 1])), mapB es, some (.blk true (.cells true [I k]))] ++ [some (.blk true (.cells true [I 0, I 0, I 0, I 0])), some (.blk true (.cells true [I (exI f wo l i).a, I (exI f wo l i).b, I (exI f wo l i).c, I (exI f wo l i).d]))])]
      case' hs =>
        intro i hi
        obtain ⟨x, g0⟩ := at_ix hi
        have g1 := up_ix hi (by omega)
        have g2 := lt_ix hi
        obtain ⟨k1, k2⟩ := hf x (List.mem_of_getElem? g0)
        have e3 : exI f wo l (i + 1) = exStep f wo i x (exI f wo l i) := by simp [exI, g0]
        simp only [e3, exStep]
        rcases ptf ((i : Int) = wo) with g3 | g3 <;> cases g4 : x.me <;> cases g5 : f x.to <;> cases g6 : f x.fr
      all_goals (sym => (simp [etaM, etaF, z00,z01,z02,z03,z04,z05,z06,z07,z09,z0a,z0b,z0c,z0f,z0h,z0j,z0l,z0n,z0o,z0q,z0r,z0v,z0w,z0z,z12,z15,z1f,z1j,z1k,z1m,z1n,z1o,z1p,z1r,z1u,z1v,z1w,z20,z21,z22,z23,z24,z26,z29,z2b,z2g,z2h,z2j,z2t,z2v,z33,z34,z3h,z4l,z4o,z4q,z4t,z4u,z4y,z54,z55,z57,z59,z66,z67,z69,z6b,z6e,z6f,z6j,z6p,z6s,z7r,z7u,z7w,z84,z8d,z9d,z9e,z9g,z9i,z9j,z9k,z9l,z9m,z9n,z9p,z9r,z9s,z9t,z9v,z9w,z9x,z9y,za0,za1,za2,za3,za5,za6,za7,za8,za9,zaa,zab,zac,zae,zaf,zag,zak,zal,zam,zaq,zas,zat,zau,zav,zaw,zax,zaz,zb1,zb2,zb3,zba,zbc,zbd,zbf,zbg,zbk,zbt,zbu,zbw,zbx,zby,zbz,zc0,zc3,zc4,zc5,zc7,zc8,zca,zcc,zcd,zce,zcf,zcg,zch,zcj,zcn,zco,zcp,zcq,zcr,zcs,zct,zcu,zcv,zcw,zcx,zcy,zd3,zd6,zd7,zd8,zd9,zdb,zdd,zdj,zdk,zdl,zdm,zdn,zdo,zds,zdt,zdu,zdv,zdw,zdx,zdy,zdz,ze2,ze3,ze9,zeo,zep,zf5,zf6,zf7,zf8,zf9,zfa,zfb,zfc,zfd,zfg,zfm,zfo,zfp,zfq,zfr,zfs,zft,zfu,zfw,zfy,zfz,zg0,zg1, k1, k2, g0, g1, g2, g3, g4, g5, g6, w61]; all_goals tactic => exact rfl))

theorem w71 {U : Int} {es : List (Int × Int)} {g : Int → Int} (hi : InvG U es g) (k : Int) {x : Int} (h1 : -1 ≤ x) (h2 : x < U) : runW progX 71 [I x, .pt 0 0, .pt 2 0] [some (.blk false (.cells true [.mp 1])), mapB es, some (.blk true (.cells true [I k]))] = some (.bool (decide (g x = k)), [some (.blk false (.cells true [.mp 1])), mapB es, some (.blk true (.cells true [I k]))]) := by
  have e := w57h hi h1 h2
  rw [r71 (by simp)]; unfold x71; dsimp only
  (sym => (simp [etaM, etaF, z00,z01,z03,z04,z05,z06,z07,z0a,z0b,z0c,z0n,z0v,z1k,z1m,z1p,z1v,z1w,z20,z21,z2t,z4l,z4m,z4u,z66,z67,z6f,z6p,z6q,z6y,z7r,z7s,z7z,z9d,z9e,z9g,z9i,z9l,z9m,z9n,z9p,z9r,z9t,z9v,z9w,z9y,za0,za1,za2,za3,za5,za6,za7,za8,zaa,zab,zac,zae,zaf,zag,zak,zal,zam,zaq,zas,zat,zau,zav,zaw,zax,zaz,zba,zbc,zbd,zbe,zbf,zbg,zbj,zbt,zbu,zbw,zbx,zby,zbz,zc0,zc3,zc4,zc5,zc6,zc8,zcj,zcn,zco,zcq,zcr,zcs,zct,zcu,zcv,zd3,zd6,zd7,zd8,zd9,zdj,zdm,zdn,zdo,zds,zdt,zdu,zdv,zdy,zdz,ze2,ze3,zf6,zf7,zfb,zfm,zfo,zfp,zft,zg0,zg1, e]; all_goals tactic => exact rfl))
theorem w72 {U : Int} {es : List (Int × Int)} {g : Int → Int} (hi : InvG U es g) (k : Int) {x : Int} (h1 : -1 ≤ x) (h2 : x < U) : runW progX 72 [I x, .pt 0 0, .pt 2 0] [some (.blk false (.cells true [.mp 1])), mapB es, some (.blk true (.cells true [I k]))] = some (.bool (decide (g x = k)), [some (.blk false (.cells true [.mp 1])), mapB es, some (.blk true (.cells true [I k]))]) := by
  have e := w57h hi h1 h2
  rw [r72 (by simp)]; unfold x72; dsimp only
  (sym => (simp [etaM, etaF, z00,z01,z03,z04,z05,z06,z07,z0a,z0b,z0c,z0n,z0v,z1k,z1m,z1p,z1v,z1w,z20,z21,z2t,z4l,z4m,z4u,z66,z67,z6f,z6p,z6q,z6y,z7r,z7s,z7z,z9d,z9e,z9g,z9i,z9l,z9m,z9n,z9p,z9r,z9t,z9v,z9w,z9y,za0,za1,za2,za3,za5,za6,za7,za8,zaa,zab,zac,zae,zaf,zag,zak,zal,zam,zaq,zas,zat,zau,zav,zaw,zax,zaz,zba,zbc,zbd,zbe,zbf,zbg,zbj,zbt,zbu,zbw,zbx,zby,zbz,zc0,zc3,zc4,zc5,zc6,zc8,zcj,zcn,zco,zcq,zcr,zcs,zct,zcu,zcv,zd3,zd6,zd7,zd8,zd9,zdj,zdm,zdn,zdo,zds,zdt,zdu,zdv,zdy,zdz,ze2,ze3,zf6,zf7,zfb,zfm,zfo,zfp,zft,zg0,zg1, e]; all_goals tactic => exact rfl))

/-- The side of a head, without a flow. -/
def sideX (l : List Fl) (i : Nat) (k : Int) : Ms := exI (fun x => decide (gI i l l.length x = k)) i l l.length
/-- What is found of a flow. -/
def foundP (l : List Fl) (i : Nat) (x : Fl) : Option Ms := if gI i l l.length x.fr = gI i l l.length x.to then none else if gI i l l.length x.fr = -1 then some (Ms.zero.plus (-1) (sideX l i (gI i l l.length x.to))) else some (sideX l i (gI i l l.length x.fr))
def fdA : Option Ms → AV
  | none => .tup [msA Ms.zero, .bool false]
  | some m => .tup [msA m, .bool true]
theorem w48 (U : Int) (l : List Fl) (i : Nat) (x : Fl) (hn : l.length < 1000000) (hr : rngL U l) (hx : l[i]? = some x) : runW progX 48 [plA U l, I i] [] = some (fdA (foundP l i x), []) := by
  have hi := esI_inv hr (wo := i) l.length
  have e67 := w67 U l i hn hr
  obtain ⟨r1, r2, r3, r4⟩ := hr x (List.mem_of_getElem? hx)
  have e1 := w57h hi r1 r2
  have e2 := w57h hi r3 r4
  have hlt : i < l.length := by
    rw [List.getElem?_eq_some_iff] at hx
    exact hx.1
  have g2 := lt_ix hlt
  have ea : ∀ k, runW progX 39 [plA U l, I i, .fn (.func 71) [] [.pt 0 0, .pt 2 0]] [some (.blk false (.cells true [.mp 1])), mapB (esI i l l.length), some (.blk true (.cells true [I k]))] = some (msA (sideX l i k), [some (.blk false (.cells true [.mp 1])), mapB (esI i l l.length), some (.blk true (.cells true [I k]))]) := fun k =>
    w39R U l i 71 _ k _ hn fun y hy => by
      obtain ⟨s1, s2, s3, s4⟩ := hr y hy
      exact ⟨w71 hi k s3 s4, w71 hi k s1 s2⟩
  have eb : ∀ k, runW progX 39 [plA U l, I i, .fn (.func 72) [] [.pt 0 0, .pt 2 0]] [some (.blk false (.cells true [.mp 1])), mapB (esI i l l.length), some (.blk true (.cells true [I k]))] = some (msA (sideX l i k), [some (.blk false (.cells true [.mp 1])), mapB (esI i l l.length), some (.blk true (.cells true [I k]))]) := fun k =>
    w39R U l i 72 _ k _ hn fun y hy => by
      obtain ⟨s1, s2, s3, s4⟩ := hr y hy
      exact ⟨w72 hi k s3 s4, w72 hi k s1 s2⟩
  unfold foundP
  generalize gI i l l.length = g at *
  generalize esI i l l.length = es at *
  by_cases h1 : g x.fr = g x.to
  · have h3 := eq_true h1
    rw [if_pos h1]
    unfold fdA
    rw [r48 (by simp)]; unfold x48; dsimp only
    (sym => (simp [etaM, etaF, z00,z01,z02,z03,z04,z05,z06,z07,z09,z0a,z0b,z0c,z0f,z0n,z0o,z0p,z0r,z0s,z0v,z12,z15,z1j,z1k,z1l,z1m,z1n,z1o,z1p,z1q,z1r,z1u,z1v,z1w,z20,z21,z29,z2g,z2h,z2t,z2u,z33,z34,z4f,z4l,z4m,z4o,z4p,z4q,z4t,z4u,z4y,z54,z55,z57,z59,z5d,z5g,z66,z67,z69,z6a,z6b,z6e,z6f,z6j,z6p,z6q,z6s,z6t,z6y,z7r,z7s,z7u,z7v,z7w,z8a,z8d,z8j,z91,z9d,z9e,z9g,z9i,z9j,z9k,z9l,z9m,z9n,z9p,z9r,z9s,z9t,z9v,z9x,z9y,za0,za1,za2,za3,za5,za6,za7,za8,zaa,zab,zac,zae,zaf,zag,zal,zam,zaq,zas,zat,zau,zav,zaw,zax,zaz,zba,zbc,zbd,zbf,zbg,zbj,zbk,zbt,zbu,zbw,zbx,zby,zbz,zc2,zc3,zc4,zc5,zc6,zc7,zc8,zce,zcf,zcg,zcj,zcn,zco,zcp,zcq,zcr,zct,zcu,zcv,zcw,zcx,zcy,zd3,zd5,zd6,zd7,zd8,zd9,zdd,zdj,zdk,zdl,zdm,zdn,zdo,zds,zdt,zdu,zdv,zdw,zdx,zdy,zdz,ze2,ze3,ze9,zea,zeo,zep,zf6,zf7,zf8,zf9,zfa,zfb,zfc,zfd,zfg,zfm,zfo,zfp,zfq,zfs,zft,zfv,zfw,zfx,zg0,zg1, e67, e1, e2, ea, eb, hx, g2, h3]; all_goals tactic => exact rfl))
  · have h3 := eq_false h1
    rw [if_neg h1]
    by_cases h2 : g x.fr = -1
    · have h4 := eq_true h2
      rw [if_pos h2]
      rw [h2] at e1 h3
      unfold fdA
      rw [r48 (by simp)]; unfold x48; dsimp only
      (sym => (simp [etaM, etaF, z00,z01,z02,z03,z04,z05,z06,z07,z09,z0a,z0b,z0c,z0f,z0n,z0o,z0p,z0r,z0s,z0v,z12,z15,z1j,z1k,z1l,z1m,z1n,z1o,z1p,z1q,z1r,z1u,z1v,z1w,z20,z21,z29,z2g,z2h,z2t,z2u,z33,z34,z4f,z4l,z4m,z4o,z4p,z4q,z4t,z4u,z4y,z54,z55,z57,z59,z5d,z5g,z66,z67,z69,z6a,z6b,z6e,z6f,z6j,z6p,z6q,z6s,z6t,z6y,z7r,z7s,z7u,z7v,z7w,z8a,z8d,z8j,z91,z9d,z9e,z9g,z9i,z9j,z9k,z9l,z9m,z9n,z9p,z9r,z9s,z9t,z9v,z9x,z9y,za0,za1,za2,za3,za5,za6,za7,za8,zaa,zab,zac,zae,zaf,zag,zal,zam,zaq,zas,zat,zau,zav,zaw,zax,zaz,zba,zbc,zbd,zbf,zbg,zbj,zbk,zbt,zbu,zbw,zbx,zby,zbz,zc2,zc3,zc4,zc5,zc6,zc7,zc8,zce,zcf,zcg,zcj,zcn,zco,zcp,zcq,zcr,zct,zcu,zcv,zcw,zcx,zcy,zd3,zd5,zd6,zd7,zd8,zd9,zdd,zdj,zdk,zdl,zdm,zdn,zdo,zds,zdt,zdu,zdv,zdw,zdx,zdy,zdz,ze2,ze3,ze9,zea,zeo,zep,zf6,zf7,zf8,zf9,zfa,zfb,zfc,zfd,zfg,zfm,zfo,zfp,zfq,zfs,zft,zfv,zfw,zfx,zg0,zg1, e67, e1, e2, ea, eb, hx, g2, h3, h4, w61]; all_goals tactic => exact rfl))
    · have h4 := eq_false h2
      rw [if_neg h2]
      unfold fdA
      rw [r48 (by simp)]; unfold x48; dsimp only
      (sym => (simp [etaM, etaF, z00,z01,z02,z03,z04,z05,z06,z07,z09,z0a,z0b,z0c,z0f,z0n,z0o,z0p,z0r,z0s,z0v,z12,z15,z1j,z1k,z1l,z1m,z1n,z1o,z1p,z1q,z1r,z1u,z1v,z1w,z20,z21,z29,z2g,z2h,z2t,z2u,z33,z34,z4f,z4l,z4m,z4o,z4p,z4q,z4t,z4u,z4y,z54,z55,z57,z59,z5d,z5g,z66,z67,z69,z6a,z6b,z6e,z6f,z6j,z6p,z6q,z6s,z6t,z6y,z7r,z7s,z7u,z7v,z7w,z8a,z8d,z8j,z91,z9d,z9e,z9g,z9i,z9j,z9k,z9l,z9m,z9n,z9p,z9r,z9s,z9t,z9v,z9x,z9y,za0,za1,za2,za3,za5,za6,za7,za8,zaa,zab,zac,zae,zaf,zag,zal,zam,zaq,zas,zat,zau,zav,zaw,zax,zaz,zba,zbc,zbd,zbf,zbg,zbj,zbk,zbt,zbu,zbw,zbx,zby,zbz,zc2,zc3,zc4,zc5,zc6,zc7,zc8,zce,zcf,zcg,zcj,zcn,zco,zcp,zcq,zcr,zct,zcu,zcv,zcw,zcx,zcy,zd3,zd5,zd6,zd7,zd8,zd9,zdd,zdj,zdk,zdl,zdm,zdn,zdo,zds,zdt,zdu,zdv,zdw,zdx,zdy,zdz,ze2,ze3,ze9,zea,zeo,zep,zf6,zf7,zf8,zf9,zfa,zfb,zfc,zfd,zfg,zfm,zfo,zfp,zfq,zfs,zft,zfv,zfw,zfx,zg0,zg1, e67, e1, e2, ea, eb, hx, g2, h3, h4, w61]; all_goals tactic => exact rfl))
end Go.Proofs.Ytdbikamciedfdaa
namespace Go.Proofs.Ytdbikamciedfdaa
open Go Go.DL
set_option maxRecDepth 100000
set_option maxHeartbeats 1000000

/-- What is known of a flow. -/
structure Kn where
  s : Int
  m : Ms
deriving DecidableEq
abbrev Kn.row (x : Kn) : List AV := [I x.s, I x.m.a, I x.m.b, I x.m.c, I x.m.d]
def knF (x : Fl) : Option Ms → Kn
  | none => if x.me then ⟨1, x.m⟩ else ⟨3, Ms.zero⟩
  | some m => if x.me then ⟨1, x.m⟩ else ⟨2, m⟩
def knAt (l : List Fl) (i : Nat) (x : Fl) : Kn := knF x (foundP l i x)
def knT (l : List Fl) : Nat → List Kn
  | 0 => []
  | i + 1 => match l[i]? with
    | some x => knT l i ++ [knAt l i x]
    | none => knT l i
theorem knT_len {l : List Fl} : ∀ i, i ≤ l.length → (knT l i).length = i
  | 0, _ => rfl
  | i + 1, h => by
    rw [knT, List.getElem?_eq_getElem (show i < l.length by omega)]
    simp only [List.length_append, knT_len (l := l) i (by omega), List.length_cons, List.length_nil]
theorem kn_ok (k : List Kn) : RowsOk 5 (k.map Kn.row) := by
  intro r hr
  simp only [List.mem_map] at hr
  obtain ⟨x, _, rfl⟩ := hr
  exact ⟨rfl, rfl, rfl, rfl⟩
def knC (l : List Fl) (i : Nat) : List AV := ((knT l i).map Kn.row).flatten
theorem knC_gr (l : List Fl) (i : Nat) : grL (knC l i) = true := (rows_cells (kn_ok _)).1
theorem knC_nm (l : List Fl) (i : Nat) : nmL (knC l i) = [] := (rows_cells (kn_ok _)).2.1
theorem knC_sl (l : List Fl) (i : Nat) : slL (knC l i) = [] := (rows_cells (kn_ok _)).2.2.1
theorem knC_len {l : List Fl} {i : Nat} (h : i ≤ l.length) : (knC l i).length = i * 5 := by
  rw [knC, (rows_cells (kn_ok _)).2.2.2, List.length_map, knT_len i h]
theorem knC_0 (l : List Fl) : knC l 0 = [] := rfl
theorem knC_succ {l : List Fl} {i : Nat} {x : Fl} (h : l[i]? = some x) : knC l (i + 1) = knC l i ++ (knAt l i x).row := by
  simp [knC, knT, h]
theorem knC_ch (l : List Fl) : chunks (knC l l.length) 0 5 l.length = (knT l l.length).map Kn.row := by
  have := rows_chunks (kn_ok (knT l l.length))
  rw [List.length_map, knT_len _ (Nat.le_refl _)] at this
  exact this

/-- The error of what is known. -/
def clE (U : Nat) (l : List Fl) : Int := if checkP U l = 0 then match clF (gI (-1) l l.length) U l U with
  | some _ => 12
  | none => 0
  else checkP U l
abbrev rK (k : List Kn) : AV := .fs (k.map Kn.row)
def knR (U : Nat) (l : List Fl) : Option (AV × XH) := if clE U l = 0 then some (.tup [rK (knT l l.length), I 0], []) else some (.tup [.fs [], I (clE U l)], [])
theorem w23 (U : Nat) (l : List Fl) (hn : l.length < 1000000) : runW progX 23 [plA U l] [] = knR U l := by
  have c := w20 U l hn
  by_cases h : checkP U l = 0
  · obtain ⟨u1, u2, u3, u4⟩ := checkP_u h
    have hr := rngL_of h
    have e47 := w47 U l (by omega) hn hr
    have gc := eq_true h
    cases hc : clF (gI (-1) l l.length) U l U with
    | some r =>
      have he : clE U l = 12 := by rw [clE, if_pos h, hc]
      rw [hc] at e47
      unfold clA at e47
      rw [knR, if_neg (by rw [he]; decide), he]
      rw [r23 (by simp)]; unfold x23; dsimp only
      (sym => (simp [etaM, etaF, z00,z01,z02,z03,z04,z05,z06,z07,z09,z0b,z0c,z0f,z0n,z0o,z0r,z0s,z0t,z0v,z0z,z12,z15,z1e,z1f,z1j,z1n,z1o,z1r,z1u,z1z,z20,z21,z26,z29,z2b,z2g,z2h,z2i,z2j,z2u,z2v,z33,z34,z36,z3g,z3h,z3j,z4f,z4l,z4o,z4p,z4q,z4s,z4t,z4v,z54,z55,z57,z59,z66,z67,z69,z6a,z6b,z6d,z6e,z6g,z6p,z6t,z6w,z6z,z78,z7c,z7f,z7r,z7u,z7v,z7w,z81,z8a,z8d,z9d,z9e,z9g,z9i,z9j,z9k,z9l,z9m,z9n,z9p,z9r,z9s,z9v,z9w,z9y,za0,za1,za2,za3,za5,za6,za7,za8,za9,zaa,zab,zae,zaf,zal,zaq,zas,zat,zb4,zb5,zb9,zba,zbb,zbc,zbd,zbf,zbg,zbk,zbm,zbp,zbt,zbu,zbw,zbx,zby,zbz,zc2,zc3,zc4,zc5,zc6,zc8,zca,zcc,zcd,zce,zcf,zcg,zch,zcj,zcn,zco,zcp,zcq,zcr,zct,zcu,zcv,zcw,zcx,zcy,zd3,zd6,zd7,zdd,zdj,zdk,zdl,zdm,zdn,zdo,zds,zdt,zdu,zdv,zdw,zdx,zdy,zdz,ze0,ze1,ze2,ze3,ze9,zea,zeb,zec,zeo,zep,zeq,zer,zes,zet,zez,zf0,zf1,zf2,zf3,zf4,zf5,zf6,zf7,zf8,zf9,zfa,zfb,zfc,zfd,zfg,zfh,zfi,zfj,zfl,zfm,zfo,zfp,zfq,zfr,zfs,zft,zfu,zfv,zfw,zfy,zfz,zg0,zg1,zhe,zhf,zhg,zhp,zii, c, gc, e47]; all_goals tactic => exact rfl))
    | none =>
      have he : clE U l = 0 := by rw [clE, if_pos h, hc]
      rw [hc] at e47
      unfold clA at e47
      rw [knR, if_pos he]
      have rd : ∀ i, i < l.length → ∃ x, l[i]? = some x ∧ IntKind.i64.wrap ((i : Int) + 1) = (i : Int) + 1 ∧ ((i : Int) < (l.length : Int)) = True ∧ (knC l i).length = i * 5 ∧ knC l (i + 1) = knC l i ++ (knF x (foundP l i x)).row ∧ ((i + 1) * 40 ≤ 1099511627776) = True ∧ (i + 1 ≤ 1099511627776) = True ∧ runW progX 48 [plA U l, I i] [] = some (fdA (foundP l i x), []) := by
        intro i hi
        obtain ⟨x, hx⟩ := at_ix hi
        exact ⟨x, hx, up_ix hi (by omega), lt_ix hi, knC_len (by omega), knC_succ hx, eq_true (by omega), eq_true (by omega), w48 U l i x hn hr hx⟩
      have g0 := pad
      have g1 := pad
      have g2 := pad
      have g3 := pad
      have g4 := pad
      have g5 := pad
      have g6 := pad
      have g7 := pad
      have g8 := pad
      have g9 := pad
      have en : l.length = 0 → knT l l.length = [] := fun h => by rw [h]; rfl
      have lz : (l.length = 0) = True ∨ (l.length = 0) = False := ptf _
      have el := knC_len (l := l) (Nat.le_refl l.length)
      have ec := knC_ch l
      rw [r23 (by simp)]; unfold x23; dsimp only
      sym =>
        simp [etaM, etaF, z00,z01,z02,z03,z04,z05,z06,z07,z09,z0b,z0c,z0f,z0n,z0o,z0r,z0s,z0t,z0v,z0z,z12,z15,z1e,z1f,z1j,z1n,z1o,z1r,z1u,z1z,z20,z21,z26,z29,z2b,z2g,z2h,z2i,z2j,z2u,z2v,z33,z34,z36,z3g,z3h,z3j,z4f,z4l,z4o,z4p,z4q,z4s,z4t,z4v,z54,z55,z57,z59,z66,z67,z69,z6a,z6b,z6d,z6e,z6g,z6p,z6t,z6w,z6z,z78,z7c,z7f,z7r,z7u,z7v,z7w,z81,z8a,z8d,z9d,z9e,z9g,z9i,z9j,z9k,z9l,z9m,z9n,z9p,z9r,z9s,z9v,z9w,z9y,za0,za1,za2,za3,za5,za6,za7,za8,za9,zaa,zab,zae,zaf,zal,zaq,zas,zat,zb4,zb5,zb9,zba,zbb,zbc,zbd,zbf,zbg,zbk,zbm,zbp,zbt,zbu,zbw,zbx,zby,zbz,zc2,zc3,zc4,zc5,zc6,zc8,zca,zcc,zcd,zce,zcf,zcg,zch,zcj,zcn,zco,zcp,zcq,zcr,zct,zcu,zcv,zcw,zcx,zcy,zd3,zd6,zd7,zdd,zdj,zdk,zdl,zdm,zdn,zdo,zds,zdt,zdu,zdv,zdw,zdx,zdy,zdz,ze0,ze1,ze2,ze3,ze9,zea,zeb,zec,zeo,zep,zeq,zer,zes,zet,zez,zf0,zf1,zf2,zf3,zf4,zf5,zf6,zf7,zf8,zf9,zfa,zfb,zfc,zfd,zfg,zfh,zfi,zfj,zfl,zfm,zfo,zfp,zfq,zfr,zfs,zft,zfu,zfv,zfw,zfy,zfz,zg0,zg1,zhe,zhf,zhg,zhp,zii, c, gc, e47]
        tactic =>
          unfold x23l0
          rw [loop_rule l.length (fun i => [.pt 0 0, if i = 0 then .nilsl else .sl 1 0 5 i, .fs (l.map Fl.row), I l.length, I (i : Nat)]) (fun i => if i = 0 then [some (.blk true (.cells true [I U, .fs (l.map Fl.row)]))] else
            [some (.blk true (.cells true [I U, .fs (l.map Fl.row)])), some (.blk true (.cells true (knC l i)))])]
          rcases lz with g0 | g0
          have g1 := en (of_eq_true g0)
          case' hl => rcases lz with g0 | g0
          case' hs =>
            intro i hi
            obtain ⟨x, g1, g2, g3, g4, g5, g6, g7, g8⟩ := rd i hi
            generalize foundP l i x = q at *
            rcases ptf (i = 0) with g0 | g0
            have hz := of_eq_true g0
            subst hz
            have g3 : ((0 : Int) < (l.length : Int)) = True := g3
            have g8 : runW progX 48 [plA U l, I 0] [] = some (fdA q, []) := g8
            all_goals rcases q with _ | m
            all_goals unfold fdA at g8
            all_goals unfold knF at g5
            all_goals cases g9 : x.me
            all_goals simp only [g9, if_true, if_false, Bool.false_eq_true] at g5
          all_goals (sym => (simp [etaM, etaF, z00,z01,z02,z03,z04,z05,z06,z07,z09,z0b,z0c,z0f,z0n,z0o,z0r,z0s,z0t,z0v,z0z,z12,z15,z1e,z1f,z1j,z1n,z1o,z1r,z1u,z1z,z20,z21,z26,z29,z2b,z2g,z2h,z2i,z2j,z2u,z2v,z33,z34,z36,z3g,z3h,z3j,z4f,z4l,z4o,z4p,z4q,z4s,z4t,z4v,z54,z55,z57,z59,z66,z67,z69,z6a,z6b,z6d,z6e,z6g,z6p,z6t,z6w,z6z,z78,z7c,z7f,z7r,z7u,z7v,z7w,z81,z8a,z8d,z9d,z9e,z9g,z9i,z9j,z9k,z9l,z9m,z9n,z9p,z9r,z9s,z9v,z9w,z9y,za0,za1,za2,za3,za5,za6,za7,za8,za9,zaa,zab,zae,zaf,zal,zaq,zas,zat,zb4,zb5,zb9,zba,zbb,zbc,zbd,zbf,zbg,zbk,zbm,zbp,zbt,zbu,zbw,zbx,zby,zbz,zc2,zc3,zc4,zc5,zc6,zc8,zca,zcc,zcd,zce,zcf,zcg,zch,zcj,zcn,zco,zcp,zcq,zcr,zct,zcu,zcv,zcw,zcx,zcy,zd3,zd6,zd7,zdd,zdj,zdk,zdl,zdm,zdn,zdo,zds,zdt,zdu,zdv,zdw,zdx,zdy,zdz,ze0,ze1,ze2,ze3,ze9,zea,zeb,zec,zeo,zep,zeq,zer,zes,zet,zez,zf0,zf1,zf2,zf3,zf4,zf5,zf6,zf7,zf8,zf9,zfa,zfb,zfc,zfd,zfg,zfh,zfi,zfj,zfl,zfm,zfo,zfp,zfq,zfr,zfs,zft,zfu,zfv,zfw,zfy,zfz,zg0,zg1,zhe,zhf,zhg,zhp,zii, g0, g1, g2, g3, g4, g5, g6, g7, g8, g9, el, ec, knC_gr, knC_nm, knC_sl, knC_0]; all_goals tactic => exact rfl))
  · have g := eq_false h
    have he : clE U l = checkP U l := by rw [clE, if_neg h]
    rw [knR, if_neg (by rw [he]; exact h), he]
    rw [r23 (by simp)]; unfold x23; dsimp only
    (sym => (simp [etaM, etaF, z00,z01,z02,z03,z04,z05,z06,z07,z09,z0b,z0c,z0f,z0n,z0o,z0r,z0s,z0t,z0v,z0z,z12,z15,z1e,z1f,z1j,z1n,z1o,z1r,z1u,z1z,z20,z21,z26,z29,z2b,z2g,z2h,z2i,z2j,z2u,z2v,z33,z34,z36,z3g,z3h,z3j,z4f,z4l,z4o,z4p,z4q,z4s,z4t,z4v,z54,z55,z57,z59,z66,z67,z69,z6a,z6b,z6d,z6e,z6g,z6p,z6t,z6w,z6z,z78,z7c,z7f,z7r,z7u,z7v,z7w,z81,z8a,z8d,z9d,z9e,z9g,z9i,z9j,z9k,z9l,z9m,z9n,z9p,z9r,z9s,z9v,z9w,z9y,za0,za1,za2,za3,za5,za6,za7,za8,za9,zaa,zab,zae,zaf,zal,zaq,zas,zat,zb4,zb5,zb9,zba,zbb,zbc,zbd,zbf,zbg,zbk,zbm,zbp,zbt,zbu,zbw,zbx,zby,zbz,zc2,zc3,zc4,zc5,zc6,zc8,zca,zcc,zcd,zce,zcf,zcg,zch,zcj,zcn,zco,zcp,zcq,zcr,zct,zcu,zcv,zcw,zcx,zcy,zd3,zd6,zd7,zdd,zdj,zdk,zdl,zdm,zdn,zdo,zds,zdt,zdu,zdv,zdw,zdx,zdy,zdz,ze0,ze1,ze2,ze3,ze9,zea,zeb,zec,zeo,zep,zeq,zer,zes,zet,zez,zf0,zf1,zf2,zf3,zf4,zf5,zf6,zf7,zf8,zf9,zfa,zfb,zfc,zfd,zfg,zfh,zfi,zfj,zfl,zfm,zfo,zfp,zfq,zfr,zfs,zft,zfu,zfv,zfw,zfy,zfz,zg0,zg1,zhe,zhf,zhg,zhp,zii, c, g]; all_goals tactic => exact rfl))
end Go.Proofs.Ytdbikamciedfdaa
namespace Go.Proofs.Ytdbikamciedfdaa
open Go Go.DL
set_option maxRecDepth 100000
set_option maxHeartbeats 1000000

theorem exI_skip {f : Int → Bool} {l : List Fl} {i : Nat} {x : Fl} (hx : l[i]? = some x) (hm : x.me = false) : ∀ n, exI f (-1) l n = exI f i l n
  | 0 => rfl
  | n + 1 => by
    have ih := exI_skip (f := f) hx hm n
    cases hy : l[n]? with
    | none => simp [exI, hy, ih]
    | some y =>
      have h1 : ¬ ((n : Int) = -1) := by omega
      by_cases hn : n = i
      · subst hn
        rw [hx] at hy
        simp only [Option.some.injEq] at hy
        subst hy
        simp [exI, hx, exStep, ih, hm]
      · have h2 : ¬ ((n : Int) = (i : Int)) := by omega
        simp [exI, hy, exStep, ih, h1, h2]

theorem w24 (U : Nat) (l : List Fl) (hn : l.length < 1000000) : runW progX 24 [plA U l] [] = knR U l := by
  have c := w21 U l hn
  by_cases h : checkP U l = 0
  · obtain ⟨u1, u2, u3, u4⟩ := checkP_u h
    have hr := rngL_of h
    have e49 := w49 U l (by omega) hn hr
    have gc := eq_true h
    cases hc : clF (gI (-1) l l.length) U l U with
    | some r =>
      have he : clE U l = 12 := by rw [clE, if_pos h, hc]
      -- its units are some
      have hu : ((0 : Int) < (r.1.length : Int)) = True := by
        obtain ⟨n, hn1, hn2, hn3⟩ := cl_ix (gI (-1) l l.length) U l
        rcases hn3 with ⟨_, h4⟩ | ⟨us, k, h3, h4, h5, h6, h7⟩
        · rw [hc] at h4; simp at h4
        · rw [hc] at h7
          simp only [Option.some.injEq] at h7
          have hm : (n : Int) ∈ us := by rw [h5]; exact (usI_mem _ n U n).2 ⟨by omega, by omega, h4⟩
          have := List.length_pos_of_mem hm
          rw [h7]
          exact eq_true (by dsimp only; omega)
      rw [hc] at e49
      unfold clB at e49
      rw [knR, if_neg (by rw [he]; decide), he]
      rw [r24 (by simp)]; unfold x24; dsimp only
      (sym => (simp [etaM, etaF, z00,z01,z02,z03,z04,z05,z06,z07,z08,z09,z0a,z0b,z0c,z0f,z0n,z0o,z0r,z0s,z0t,z0v,z12,z15,z1e,z1f,z1j,z1k,z1l,z1m,z1n,z1o,z1p,z1r,z1u,z1v,z1w,z1z,z20,z21,z29,z2b,z2g,z2h,z2i,z2j,z2t,z2u,z2v,z2x,z33,z34,z36,z3g,z3h,z3j,z4f,z4l,z4o,z4p,z4q,z4s,z4t,z4v,z54,z55,z57,z59,z66,z69,z6a,z6b,z6d,z6e,z6g,z6p,z6t,z6u,z6w,z6z,z78,z7c,z7f,z7r,z7u,z7v,z7w,z81,z8a,z8d,z90,z93,z9d,z9e,z9g,z9i,z9j,z9k,z9l,z9m,z9n,z9p,z9r,z9s,z9v,z9w,z9y,za0,za1,za2,za3,za5,za6,za7,za8,za9,zaa,zab,zae,zaf,zal,zaq,zas,zat,zav,zaw,zax,zaz,zb4,zb5,zb9,zba,zbb,zbc,zbd,zbe,zbf,zbg,zbk,zbm,zbp,zbt,zbu,zbw,zbx,zby,zbz,zc2,zc3,zc4,zc5,zc6,zc8,zca,zcc,zcd,zce,zcf,zcg,zch,zcj,zcn,zco,zcp,zcq,zcr,zct,zcu,zcv,zcw,zcx,zcy,zd3,zd6,zd7,zd8,zd9,zdd,zdj,zdk,zdl,zdm,zdn,zdo,zds,zdt,zdu,zdv,zdw,zdx,zdy,zdz,ze0,ze1,ze2,ze3,ze9,zea,zeb,zec,zeo,zep,zeq,zer,zes,zet,zez,zf0,zf1,zf2,zf3,zf4,zf5,zf6,zf7,zf8,zf9,zfa,zfb,zfc,zfd,zfg,zfh,zfi,zfj,zfl,zfm,zfo,zfp,zfq,zfr,zfs,zft,zfu,zfv,zfw,zfy,zfz,zg0,zg1,zhe,zhf,zhg,zhp,zii,zj4,zj7,zj8, c, gc, e49, hu]; all_goals tactic => exact rfl))
    | none =>
      have he : clE U l = 0 := by rw [clE, if_pos h, hc]
      rw [hc] at e49
      unfold clB at e49
      rw [knR, if_pos he]
      have rd : ∀ i, i < l.length → ∃ x, l[i]? = some x ∧ IntKind.i64.wrap ((i : Int) + 1) = (i : Int) + 1 ∧ ((i : Int) < (l.length : Int)) = True ∧ (knC l i).length = i * 5 ∧ knC l (i + 1) = knC l i ++ (knAt l i x).row ∧ ((i + 1) * 40 ≤ 1099511627776) = True ∧ (i + 1 ≤ 1099511627776) = True := by
        intro i hi
        obtain ⟨x, hx⟩ := at_ix hi
        exact ⟨x, hx, up_ix hi (by omega), lt_ix hi, knC_len (by omega), knC_succ hx, eq_true (by omega), eq_true (by omega)⟩
      have rh : ∀ (i : Nat) (x : Fl), l[i]? = some x → ∃ (g : Int → Int), runW progX 37 [plA U l, I i] [] = some (rI (hsL U g), []) ∧ (hsL U g).length = U + 1 ∧ (hsL U g)[(x.fr + 1).toNat]? = some (g x.fr + 1) ∧ (hsL U g)[(x.to + 1).toNat]? = some (g x.to + 1) ∧ IntKind.i64.wrap (x.fr + 1) = x.fr + 1 ∧ IntKind.i64.wrap (x.to + 1) = x.to + 1 ∧ (0 ≤ x.fr + 1) = True ∧ (0 ≤ x.to + 1) = True ∧ (x.fr + 1 < ((U + 1 : Nat) : Int)) = True ∧ (x.to + 1 < ((U + 1 : Nat) : Int)) = True ∧
          (∀ k, runW progX 50 [rI (hsL U g), I (k + 1)] [] = some (rB ((hsL U g).map fun v => decide (v = k + 1)), [])) ∧ (x.me = true ∧ knAt l i x = ⟨1, x.m⟩ ∨ x.me = false ∧
          ((∀ k, runW progX 41 [plA U l, rB ((hsL U g).map fun v => decide (v = k + 1))] [] = some (msA (sideX l i k), [])) ∧
          (((g x.fr + 1 = g x.to + 1) = True ∧ knAt l i x = ⟨3, Ms.zero⟩) ∨ ((g x.fr + 1 = g x.to + 1) = False ∧ (g x.fr + 1 = 0) = True ∧ knAt l i x = ⟨2, Ms.zero.plus (-1) (sideX l i (g x.to))⟩) ∨ ((g x.fr + 1 = g x.to + 1) = False ∧ (g x.fr + 1 = 0) = False ∧ knAt l i x = ⟨2, sideX l i (g x.fr)⟩)))) := by
        intro i x hx
        obtain ⟨r1, r2, r3, r4⟩ := hr x (List.mem_of_getElem? hx)
        refine ⟨gI i l l.length, w37 U l i hn (by omega) hr, hsL_len .., hsL_get r1 r2, hsL_get r3 r4, wrap_ok (by omega) (by omega), wrap_ok (by omega) (by omega), eq_true (by omega), eq_true (by omega), eq_true (by omega), eq_true (by omega), fun k => w50 _ _ (by rw [hsL_len]; omega), ?_⟩
        cases hm : x.me with
        | true =>
          refine .inl ⟨rfl, ?_⟩
          unfold knAt knF
          cases foundP l i x <;> simp [hm]
        | false =>
          refine .inr ⟨rfl, fun k => ?_, ?_⟩
          · have := w41 U l _ _ hn (by omega) hr (inL_side U (gI i l l.length) k)
            rw [exI_skip hx hm] at this
            exact this
          · unfold knAt foundP
            by_cases h1 : gI i l l.length x.fr = gI i l l.length x.to
            · refine .inl ⟨eq_true (by omega), ?_⟩
              rw [if_pos h1]; simp [knF, hm]
            · by_cases h2 : gI i l l.length x.fr = -1
              · refine .inr (.inl ⟨eq_false (by omega), eq_true (by omega), ?_⟩)
                rw [if_neg h1, if_pos h2]; simp [knF, hm]
              · refine .inr (.inr ⟨eq_false (by omega), eq_false (by omega), ?_⟩)
                rw [if_neg h1, if_neg h2]; simp [knF, hm]
      have g0 := pad
      have g1 := pad
      have g2 := pad
      have g3 := pad
      have g4 := pad
      have g5 := pad
      have g6 := pad
      have g7 := pad
      have g8 := pad
      have k0 := pad
      have k1 := pad
      have k2 := pad
      have k3 := pad
      have k4 := pad
      have k5 := pad
      have k6 := pad
      have k7 := pad
      have k8 := pad
      have k9 := pad
      have m0 := pad
      have m1 := pad
      have m2 := pad
      have m3 := pad
      have m4 := pad
      have en : l.length = 0 → knT l l.length = [] := fun h => by rw [h]; rfl
      have lz : (l.length = 0) = True ∨ (l.length = 0) = False := ptf _
      have el := knC_len (l := l) (Nat.le_refl l.length)
      have ec := knC_ch l
      rw [r24 (by simp)]; unfold x24; dsimp only
      sym =>
        simp [etaM, etaF, z00,z01,z02,z03,z04,z05,z06,z07,z08,z09,z0a,z0b,z0c,z0f,z0n,z0o,z0r,z0s,z0t,z0v,z12,z15,z1e,z1f,z1j,z1k,z1l,z1m,z1n,z1o,z1p,z1r,z1u,z1v,z1w,z1z,z20,z21,z29,z2b,z2g,z2h,z2i,z2j,z2t,z2u,z2v,z2x,z33,z34,z36,z3g,z3h,z3j,z4f,z4l,z4o,z4p,z4q,z4s,z4t,z4v,z54,z55,z57,z59,z66,z69,z6a,z6b,z6d,z6e,z6g,z6p,z6t,z6u,z6w,z6z,z78,z7c,z7f,z7r,z7u,z7v,z7w,z81,z8a,z8d,z90,z93,z9d,z9e,z9g,z9i,z9j,z9k,z9l,z9m,z9n,z9p,z9r,z9s,z9v,z9w,z9y,za0,za1,za2,za3,za5,za6,za7,za8,za9,zaa,zab,zae,zaf,zal,zaq,zas,zat,zav,zaw,zax,zaz,zb4,zb5,zb9,zba,zbb,zbc,zbd,zbe,zbf,zbg,zbk,zbm,zbp,zbt,zbu,zbw,zbx,zby,zbz,zc2,zc3,zc4,zc5,zc6,zc8,zca,zcc,zcd,zce,zcf,zcg,zch,zcj,zcn,zco,zcp,zcq,zcr,zct,zcu,zcv,zcw,zcx,zcy,zd3,zd6,zd7,zd8,zd9,zdd,zdj,zdk,zdl,zdm,zdn,zdo,zds,zdt,zdu,zdv,zdw,zdx,zdy,zdz,ze0,ze1,ze2,ze3,ze9,zea,zeb,zec,zeo,zep,zeq,zer,zes,zet,zez,zf0,zf1,zf2,zf3,zf4,zf5,zf6,zf7,zf8,zf9,zfa,zfb,zfc,zfd,zfg,zfh,zfi,zfj,zfl,zfm,zfo,zfp,zfq,zfr,zfs,zft,zfu,zfv,zfw,zfy,zfz,zg0,zg1,zhe,zhf,zhg,zhp,zii,zj4,zj7,zj8, c, gc, e49]
        tactic =>
          unfold x24l0
          rw [loop_rule l.length (fun i => [.pt 0 0, if i = 0 then .nilsl else .sl 1 0 5 i, I (i : Nat)]) (fun i => if i = 0 then [some (.blk true (.cells true [I U, .fs (l.map Fl.row)]))] else
            [some (.blk true (.cells true [I U, .fs (l.map Fl.row)])), some (.blk true (.cells true (knC l i)))])]
          rcases lz with g0 | g0
          have g1 := en (of_eq_true g0)
          case' hl => rcases lz with g0 | g0
          case' hs =>
            intro i hi
            obtain ⟨x, g1, g2, g3, g4, g5, g6, g7⟩ := rd i hi
            obtain ⟨g, k0, k1, k2, k3, k4, k5, k6, k7, k8, k9, m0, hm⟩ := rh i x g1
            rcases ptf (i = 0) with g0 | g0
            have hz := of_eq_true g0
            subst hz
            have g3 : ((0 : Int) < (l.length : Int)) = True := g3
            have k0 : runW progX 37 [plA U l, I 0] [] = some (rI (hsL U g), []) := k0
            all_goals rcases hm with ⟨m1, m4⟩ | ⟨m1, m2, ⟨m3, m4⟩ | ⟨m3, g8, m4⟩ | ⟨m3, g8, m4⟩⟩
            all_goals rw [m4] at g5
          all_goals (sym => (simp [etaM, etaF, z00,z01,z02,z03,z04,z05,z06,z07,z08,z09,z0a,z0b,z0c,z0f,z0n,z0o,z0r,z0s,z0t,z0v,z12,z15,z1e,z1f,z1j,z1k,z1l,z1m,z1n,z1o,z1p,z1r,z1u,z1v,z1w,z1z,z20,z21,z29,z2b,z2g,z2h,z2i,z2j,z2t,z2u,z2v,z2x,z33,z34,z36,z3g,z3h,z3j,z4f,z4l,z4o,z4p,z4q,z4s,z4t,z4v,z54,z55,z57,z59,z66,z69,z6a,z6b,z6d,z6e,z6g,z6p,z6t,z6u,z6w,z6z,z78,z7c,z7f,z7r,z7u,z7v,z7w,z81,z8a,z8d,z90,z93,z9d,z9e,z9g,z9i,z9j,z9k,z9l,z9m,z9n,z9p,z9r,z9s,z9v,z9w,z9y,za0,za1,za2,za3,za5,za6,za7,za8,za9,zaa,zab,zae,zaf,zal,zaq,zas,zat,zav,zaw,zax,zaz,zb4,zb5,zb9,zba,zbb,zbc,zbd,zbe,zbf,zbg,zbk,zbm,zbp,zbt,zbu,zbw,zbx,zby,zbz,zc2,zc3,zc4,zc5,zc6,zc8,zca,zcc,zcd,zce,zcf,zcg,zch,zcj,zcn,zco,zcp,zcq,zcr,zct,zcu,zcv,zcw,zcx,zcy,zd3,zd6,zd7,zd8,zd9,zdd,zdj,zdk,zdl,zdm,zdn,zdo,zds,zdt,zdu,zdv,zdw,zdx,zdy,zdz,ze0,ze1,ze2,ze3,ze9,zea,zeb,zec,zeo,zep,zeq,zer,zes,zet,zez,zf0,zf1,zf2,zf3,zf4,zf5,zf6,zf7,zf8,zf9,zfa,zfb,zfc,zfd,zfg,zfh,zfi,zfj,zfl,zfm,zfo,zfp,zfq,zfr,zfs,zft,zfu,zfv,zfw,zfy,zfz,zg0,zg1,zhe,zhf,zhg,zhp,zii,zj4,zj7,zj8, g0, g1, g2, g3, g4, g5, g6, g7, g8, k0, k1, k2, k3, k4, k5, k6, k7, k8, k9, m0, m1, m2, m3, el, ec, knC_gr, knC_nm, knC_sl, knC_0, w51]; all_goals tactic => exact rfl))
  · have g := eq_false h
    have he : clE U l = checkP U l := by rw [clE, if_neg h]
    rw [knR, if_neg (by rw [he]; exact h), he]
    rw [r24 (by simp)]; unfold x24; dsimp only
    (sym => (simp [etaM, etaF, z00,z01,z02,z03,z04,z05,z06,z07,z08,z09,z0a,z0b,z0c,z0f,z0n,z0o,z0r,z0s,z0t,z0v,z12,z15,z1e,z1f,z1j,z1k,z1l,z1m,z1n,z1o,z1p,z1r,z1u,z1v,z1w,z1z,z20,z21,z29,z2b,z2g,z2h,z2i,z2j,z2t,z2u,z2v,z2x,z33,z34,z36,z3g,z3h,z3j,z4f,z4l,z4o,z4p,z4q,z4s,z4t,z4v,z54,z55,z57,z59,z66,z69,z6a,z6b,z6d,z6e,z6g,z6p,z6t,z6u,z6w,z6z,z78,z7c,z7f,z7r,z7u,z7v,z7w,z81,z8a,z8d,z90,z93,z9d,z9e,z9g,z9i,z9j,z9k,z9l,z9m,z9n,z9p,z9r,z9s,z9v,z9w,z9y,za0,za1,za2,za3,za5,za6,za7,za8,za9,zaa,zab,zae,zaf,zal,zaq,zas,zat,zav,zaw,zax,zaz,zb4,zb5,zb9,zba,zbb,zbc,zbd,zbe,zbf,zbg,zbk,zbm,zbp,zbt,zbu,zbw,zbx,zby,zbz,zc2,zc3,zc4,zc5,zc6,zc8,zca,zcc,zcd,zce,zcf,zcg,zch,zcj,zcn,zco,zcp,zcq,zcr,zct,zcu,zcv,zcw,zcx,zcy,zd3,zd6,zd7,zd8,zd9,zdd,zdj,zdk,zdl,zdm,zdn,zdo,zds,zdt,zdu,zdv,zdw,zdx,zdy,zdz,ze0,ze1,ze2,ze3,ze9,zea,zeb,zec,zeo,zep,zeq,zer,zes,zet,zez,zf0,zf1,zf2,zf3,zf4,zf5,zf6,zf7,zf8,zf9,zfa,zfb,zfc,zfd,zfg,zfh,zfi,zfj,zfl,zfm,zfo,zfp,zfq,zfr,zfs,zft,zfu,zfv,zfw,zfy,zfz,zg0,zg1,zhe,zhf,zhg,zhp,zii,zj4,zj7,zj8, c, g]; all_goals tactic => exact rfl))
end Go.Proofs.Ytdbikamciedfdaa
namespace Go.Proofs.Ytdbikamciedfdaa
open Go Go.DL
set_option maxRecDepth 100000
set_option maxHeartbeats 1000000

/-- Both return the same. -/
theorem wcl (U : Int) (l : List Fl) (hn : l.length < 1000000) : ∃ (k : List Kn) (e : Int), k.length < 1000000 ∧ runW progX 23 [plA U l] [] = some (.tup [rK k, I e], []) ∧ runW progX 24 [plA U l] [] = some (.tup [rK k, I e], []) := by
  rcases nat_or U with ⟨n, rfl⟩ | h
  · have c1 := w23 n l hn
    have c2 := w24 n l hn
    unfold knR at c1 c2
    by_cases he : clE n l = 0
    · rw [if_pos he] at c1 c2
      exact ⟨_, _, by rw [knT_len _ (Nat.le_refl _)]; exact hn, c1, c2⟩
    · rw [if_neg he] at c1 c2
      exact ⟨[], _, by simp, c1, c2⟩
  · have hc := neg_check h l
    have g := eq_false hc
    have c1 := w20 U l hn
    have c2 := w21 U l hn
    refine ⟨[], checkP U l, by simp, ?_, ?_⟩
    · rw [r23 (by simp)]; unfold x23; dsimp only
      (sym => (simp [etaM, etaF, z00,z01,z05,z06,z07,z09,z0b,z0c,z0f,z0n,z0r,z0v,z1j,z1r,z1u,z20,z21,z2u,z4l,z4o,z4p,z4q,z54,z57,z59,z66,z69,z6a,z6b,z6p,z6t,z6z,z7r,z7u,z7v,z7w,z81,z8d,z9d,z9e,z9g,z9j,z9k,z9l,z9m,z9n,z9y,za2,za3,za5,za6,za7,za8,zaa,zab,zaq,zas,zat,zba,zbc,zbd,zbf,zbg,zbk,zbt,zbu,zbw,zbx,zby,zbz,zc2,zc3,zc4,zc5,zc6,zc8,zce,zcf,zcj,zcn,zco,zcq,zcr,zct,zcu,zcv,zd3,zd7,zdl,zdo,zds,zdt,zdu,zdv,zdw,zdx,zdy,zdz,ze2,ze3,zeo,zep,zf6,zf7,zfa,zfg,zfm,zfo,zfp,zft,zfv,zg0,zg1, c1, g]; all_goals tactic => exact rfl))
    · rw [r24 (by simp)]; unfold x24; dsimp only
      (sym => (simp [etaM, etaF, z00,z01,z05,z06,z07,z09,z0b,z0c,z0f,z0n,z0r,z0v,z1j,z1r,z1u,z20,z21,z2u,z4l,z4o,z4p,z4q,z54,z57,z59,z66,z69,z6a,z6b,z6p,z6t,z6z,z7r,z7u,z7v,z7w,z81,z8d,z9d,z9e,z9g,z9j,z9k,z9l,z9m,z9n,z9y,za2,za3,za5,za6,za7,za8,zaa,zab,zaq,zas,zat,zba,zbc,zbd,zbf,zbg,zbk,zbt,zbu,zbw,zbx,zby,zbz,zc2,zc3,zc4,zc5,zc6,zc8,zce,zcf,zcj,zcn,zco,zcq,zcr,zct,zcu,zcv,zd3,zd7,zdl,zdo,zds,zdt,zdu,zdv,zdw,zdx,zdy,zdz,ze2,ze3,zeo,zep,zf6,zf7,zfa,zfg,zfm,zfo,zfp,zft,zfv,zg0,zg1, c2, g]; all_goals tactic => exact rfl))
theorem w4 (U : Int) (l : List Fl) : runW progX 4 [plA U l] [] = some (.bool true, []) := by
  by_cases h2 : 40 < l.length
  · have g2 : ((40 : Int) < (l.length : Int)) = True := eq_true (by omega)
    rw [r4 (by simp)]; unfold x4; dsimp only
    (sym => (simp [etaM, etaF, z00,z01,z05,z06,z07,z08,z09,z0b,z0c,z0f,z0h,z0j,z0n,z0q,z0r,z0v,z0x,z12,z15,z1e,z1f,z1j,z1l,z1m,z1r,z1u,z20,z21,z23,z29,z2a,z2b,z2g,z2h,z2i,z2j,z2u,z2v,z2x,z33,z34,z3h,z44,z45,z4l,z4m,z4o,z4q,z54,z57,z59,z66,z67,z69,z6a,z6b,z6q,z7r,z7s,z7u,z7w,z8d,z9d,z9e,z9g,z9j,z9k,z9l,z9m,z9n,z9p,z9y,za2,za3,za5,za6,za7,za8,zaa,zab,zaq,zas,zat,zba,zbc,zbd,zbf,zbg,zbk,zbt,zbu,zbw,zbx,zby,zbz,zc0,zc3,zc4,zc5,zc6,zc8,zca,zcc,zcd,zce,zcf,zcg,zch,zcj,zcn,zco,zcq,zcr,zct,zcu,zcv,zcw,zcx,zcy,zd3,zd6,zdd,zdk,zdl,zdo,zds,zdt,zdu,zdv,zdw,zdx,ze2,ze3,zed,zeg,zeh,zei,zeo,zep,zf5,zf6,zf7,zf8,zf9,zfa,zfb,zfg,zfm,zfo,zfp,zfq,zfr,zfs,zft,zfu,zfv,zfw,zfy,zfz,zg0,zg1, g2, works_w]; all_goals tactic => exact rfl))
  have g2 : ((40 : Int) < (l.length : Int)) = False := eq_false (by omega)
  obtain ⟨k, e, hk, c1, c2⟩ := wcl U l (by omega)
  have c15 := w15 U l (by omega)
  have g0 := pad
  have g1 := pad
  have g3 := pad
  rw [r4 (by simp)]; unfold x4; dsimp only
  sym =>
    simp [etaM, etaF, z00,z01,z05,z06,z07,z08,z09,z0b,z0c,z0f,z0h,z0j,z0n,z0q,z0r,z0v,z0x,z12,z15,z1e,z1f,z1j,z1l,z1m,z1r,z1u,z20,z21,z23,z29,z2a,z2b,z2g,z2h,z2i,z2j,z2u,z2v,z2x,z33,z34,z3h,z44,z45,z4l,z4m,z4o,z4q,z54,z57,z59,z66,z67,z69,z6a,z6b,z6q,z7r,z7s,z7u,z7w,z8d,z9d,z9e,z9g,z9j,z9k,z9l,z9m,z9n,z9p,z9y,za2,za3,za5,za6,za7,za8,zaa,zab,zaq,zas,zat,zba,zbc,zbd,zbf,zbg,zbk,zbt,zbu,zbw,zbx,zby,zbz,zc0,zc3,zc4,zc5,zc6,zc8,zca,zcc,zcd,zce,zcf,zcg,zch,zcj,zcn,zco,zcq,zcr,zct,zcu,zcv,zcw,zcx,zcy,zd3,zd6,zdd,zdk,zdl,zdo,zds,zdt,zdu,zdv,zdw,zdx,ze2,ze3,zed,zeg,zeh,zei,zeo,zep,zf5,zf6,zf7,zf8,zf9,zfa,zfb,zfg,zfm,zfo,zfp,zfq,zfr,zfs,zft,zfu,zfv,zfw,zfy,zfz,zg0,zg1, g2, c1, c2, c15]
    tactic =>
      unfold x4l0
      rw [loop_rule k.length (fun i => [rK k, rK k, I (i : Nat)]) (fun _ => [])]
      case' hs =>
        intro i hi
        obtain ⟨x, g0⟩ := at_ix hi
        have g1 := up_ix hi (by omega)
        have g3 := lt_ix hi
      all_goals (sym => (simp [etaM, etaF, z00,z01,z05,z06,z07,z08,z09,z0b,z0c,z0f,z0h,z0j,z0n,z0q,z0r,z0v,z0x,z12,z15,z1e,z1f,z1j,z1l,z1m,z1r,z1u,z20,z21,z23,z29,z2a,z2b,z2g,z2h,z2i,z2j,z2u,z2v,z2x,z33,z34,z3h,z44,z45,z4l,z4m,z4o,z4q,z54,z57,z59,z66,z67,z69,z6a,z6b,z6q,z7r,z7s,z7u,z7w,z8d,z9d,z9e,z9g,z9j,z9k,z9l,z9m,z9n,z9p,z9y,za2,za3,za5,za6,za7,za8,zaa,zab,zaq,zas,zat,zba,zbc,zbd,zbf,zbg,zbk,zbt,zbu,zbw,zbx,zby,zbz,zc0,zc3,zc4,zc5,zc6,zc8,zca,zcc,zcd,zce,zcf,zcg,zch,zcj,zcn,zco,zcq,zcr,zct,zcu,zcv,zcw,zcx,zcy,zd3,zd6,zdd,zdk,zdl,zdo,zds,zdt,zdu,zdv,zdw,zdx,ze2,ze3,zed,zeg,zeh,zei,zeo,zep,zf5,zf6,zf7,zf8,zf9,zfa,zfb,zfg,zfm,zfo,zfp,zfq,zfr,zfs,zft,zfu,zfv,zfw,zfy,zfz,zg0,zg1, g0, g1, g3, works_w]; all_goals tactic => exact rfl))
end Go.Proofs.Ytdbikamciedfdaa
namespace Go.Proofs.Ytdbikamciedfdaa
open Go Go.DL
set_option maxRecDepth 100000
set_option maxHeartbeats 1000000

/-- An unmeasured flow between a set and the rest. -/
def crossP (us : List Int) (x : Fl) : Bool := !x.me && (decide (x.fr ∈ us) != decide (x.to ∈ us))
abbrev h53 (us : List Int) : XH := [some (.blk false (.cells true [.fn (.func 68) [] [.pt 1 0]])), some (.blk true (.cells true [rI us]))]
theorem w53 (us : List Int) (fr to a b c d : Int) (me : Bool) (hu : us.length < 1000000) : runW progX 53 [.agg [I fr, I to, .bool me, I a, I b, I c, I d], .pt 0 0] (h53 us) = some (.bool (crossP us ⟨fr, to, me, ⟨a, b, c, d⟩⟩), h53 us) := by
  have e1 := w68 us fr hu
  have e2 := w68 us to hu
  unfold crossP
  cases me
  · rw [r53 (by simp)]; unfold x53; dsimp only
    (sym => (simp [etaM, etaF, z00,z01,z03,z04,z05,z06,z07,z0a,z0b,z0c,z0f,z0h,z0i,z0k,z0n,z0q,z0r,z0w,z0z,z12,z1k,z1m,z1p,z1v,z1w,z20,z21,z22,z23,z25,z26,z29,z4l,z4m,z4t,z4y,z54,z55,z57,z66,z67,z6e,z6j,z6q,z7r,z7s,z7u,z7z,z8d,z9d,z9e,z9g,z9i,z9l,z9m,z9n,z9p,z9r,z9t,z9v,z9w,z9y,za0,za1,za2,za3,za5,za6,za7,za8,zaa,zab,zac,zae,zaf,zag,zak,zal,zam,zaq,zas,zat,zau,zav,zaw,zax,zaz,zba,zbc,zbd,zbf,zbg,zbk,zbt,zbu,zbw,zbx,zby,zbz,zc0,zc3,zc4,zc5,zc6,zc8,zcj,zcn,zco,zcp,zcq,zcr,zcs,zct,zcu,zcv,zd2,zd3,zd4,zd6,zd7,zd8,zd9,zdj,zdm,zdn,zdo,zds,zdt,zdu,zdv,zdw,zdx,ze2,ze3,zeo,zep,zf6,zf7,zfb,zfg,zfo,zfp,zft,zg0,zg1, e1, e2]; all_goals tactic => exact rfl))
  · rw [r53 (by simp)]; unfold x53; dsimp only
    (sym => (simp [etaM, etaF, z00,z01,z03,z04,z05,z06,z07,z0a,z0b,z0c,z0f,z0h,z0i,z0k,z0n,z0q,z0r,z0w,z0z,z12,z1k,z1m,z1p,z1v,z1w,z20,z21,z22,z23,z25,z26,z29,z4l,z4m,z4t,z4y,z54,z55,z57,z66,z67,z6e,z6j,z6q,z7r,z7s,z7u,z7z,z8d,z9d,z9e,z9g,z9i,z9l,z9m,z9n,z9p,z9r,z9t,z9v,z9w,z9y,za0,za1,za2,za3,za5,za6,za7,za8,zaa,zab,zac,zae,zaf,zag,zak,zal,zam,zaq,zas,zat,zau,zav,zaw,zax,zaz,zba,zbc,zbd,zbf,zbg,zbk,zbt,zbu,zbw,zbx,zby,zbz,zc0,zc3,zc4,zc5,zc6,zc8,zcj,zcn,zco,zcp,zcq,zcr,zcs,zct,zcu,zcv,zd2,zd3,zd4,zd6,zd7,zd8,zd9,zdj,zdm,zdn,zdo,zds,zdt,zdu,zdv,zdw,zdx,ze2,ze3,zeo,zep,zf6,zf7,zfb,zfg,zfo,zfp,zft,zg0,zg1, e1, e2]; all_goals tactic => exact rfl))
theorem w73 (us : List Int) (l : List Fl) (hu : us.length < 1000000) (hn : l.length < 1000000) : ∃ r : Int, runW progX 73 [.fs (l.map Fl.row), .fn (.func 53) [] [.pt 0 0]] (h53 us) = some (I r, h53 us) ∧ decide (0 ≤ r) = l.any (crossP us) := by
  obtain ⟨n, h1, h2, h3⟩ := first_ix (crossP us) l
  refine ⟨ixR n l.length, ?_, ?_⟩
  · have ex : (((n : Int) < (l.length : Int)) = False ∧ (0 : Nat) = 0 ∧ (0 : Nat) = 0 ∧ ixR n l.length = -1) ∨ (∃ x, ((n : Int) < (l.length : Int)) = True ∧ l[n]? = some x ∧ crossP us x = true ∧ ixR n l.length = n) := by
      rcases h3 with h3 | ⟨x, h3, h4, h5⟩
      · exact .inl ⟨eq_false (by omega), rfl, rfl, if_pos h3⟩
      · exact .inr ⟨x, lt_ix h3, h4, h5, if_neg (by omega)⟩
    have e := fun fr to a b c d me => w53 us fr to a b c d me hu
    have g0 := pad
    rw [r73 (by simp)]; unfold x73; dsimp only
    sym =>
      simp [etaM, etaF, z00,z01,z05,z07,z0b,z0c,z0n,z0v,z15,z1f,z1j,z1r,z1u,z20,z21,z2b,z2g,z2h,z2j,z2v,z33,z34,z3h,z4l,z4m,z4o,z4q,z4t,z4y,z66,z67,z69,z6b,z6e,z6j,z6p,z7r,z7w,z84,z9d,z9i,z9j,z9k,z9l,z9m,z9n,z9p,z9r,z9s,z9t,z9v,z9w,z9x,z9y,za0,za1,za2,za3,za5,za6,za7,za8,zaa,zab,zac,zae,zaf,zag,zak,zal,zam,zaq,zas,zat,zau,zba,zbt,zbu,zbw,zbx,zby,zbz,zc0,zc3,zc4,zc5,zc6,zc8,zca,zcc,zcd,zce,zcf,zcg,zch,zci,zcj,zcn,zco,zcp,zcq,zcr,zcs,zct,zcu,zcv,zcw,zcx,zcy,zdd,zdj,zdk,zdl,zdo,zds,zdt,zdu,zdv,ze2,ze3,zf8,zf9,zfa,zfm,zfo,zfp,zfq,zfr,zfs,zft,zfu,zfv,zfw,zfx,zfy,zfz,zg0,zg1]
      tactic =>
        unfold x73l0
        rw [loop_rule n (fun i => [.fs (l.map Fl.row), .fn (.func 53) [] [.pt 0 0], I l.length, I (i : Nat)]) (fun i => h53 us)]
        rcases ex with ⟨g1, g2, g3, g4⟩ | ⟨x, g1, g2, g3, g4⟩
        case' hl => rcases ex with ⟨g1, g2, g3, g4⟩ | ⟨x, g1, g2, g3, g4⟩
        case' hs =>
          intro i hi
          obtain ⟨x, g2, g3⟩ := h2 i hi
          have g0 := up_ix hi (by omega)
          have g1 := lt_ix (l := l) (i := i) (by omega)
          have g4 := pad
        case' h0 =>
          have g1 := pad
          have g2 := pad
          have g3 := pad
          have g4 := pad
        all_goals (sym => (simp [etaM, etaF, z00,z01,z05,z07,z0b,z0c,z0n,z0v,z15,z1f,z1j,z1r,z1u,z20,z21,z2b,z2g,z2h,z2j,z2v,z33,z34,z3h,z4l,z4m,z4o,z4q,z4t,z4y,z66,z67,z69,z6b,z6e,z6j,z6p,z7r,z7w,z84,z9d,z9i,z9j,z9k,z9l,z9m,z9n,z9p,z9r,z9s,z9t,z9v,z9w,z9x,z9y,za0,za1,za2,za3,za5,za6,za7,za8,zaa,zab,zac,zae,zaf,zag,zak,zal,zam,zaq,zas,zat,zau,zba,zbt,zbu,zbw,zbx,zby,zbz,zc0,zc3,zc4,zc5,zc6,zc8,zca,zcc,zcd,zce,zcf,zcg,zch,zci,zcj,zcn,zco,zcp,zcq,zcr,zcs,zct,zcu,zcv,zcw,zcx,zcy,zdd,zdj,zdk,zdl,zdo,zds,zdt,zdu,zdv,ze2,ze3,zf8,zf9,zfa,zfm,zfo,zfp,zfq,zfr,zfs,zft,zfu,zfv,zfw,zfx,zfy,zfz,zg0,zg1, e, g0, g1, g2, g3, g4]; all_goals tactic => exact rfl))
  · rcases h3 with h3 | ⟨x, h3, h4, h5⟩
    · have : l.any (crossP us) = false := by
        rw [List.any_eq_false]
        intro x hx
        obtain ⟨i, hi, he⟩ := List.mem_iff_getElem.1 hx
        obtain ⟨y, hy, h4⟩ := h2 i (by omega)
        rw [List.getElem?_eq_getElem hi, he] at hy
        simp only [Option.some.injEq] at hy
        rw [hy, h4]; simp
      rw [this, ixR, if_pos h3]; rfl
    · have : l.any (crossP us) = true := List.any_eq_true.2 ⟨x, List.mem_of_getElem? h4, h5⟩
      rw [this, ixR, if_neg (by omega)]
      simp
theorem w52 (us : List Int) (l : List Fl) (hu : us.length < 1000000) (hn : l.length < 1000000) : runW progX 52 [.fs (l.map Fl.row), .fn (.func 53) [] [.pt 0 0]] (h53 us) = some (.bool (l.any (crossP us)), h53 us) := by
  obtain ⟨r, h1, h2⟩ := w73 us l hu hn
  rw [r52 (by simp)]; unfold x52; dsimp only
  (sym => (simp [etaM, etaF, z00,z01,z05,z06,z07,z09,z0b,z0c,z0n,z0v,z1r,z1u,z20,z21,z2y,z4m,z4q,z4t,z4y,z66,z67,z6b,z6e,z6j,z6q,z6u,z72,z7s,z7w,z84,z9d,z9i,z9l,z9m,z9n,z9p,z9r,z9s,z9t,z9v,z9w,z9x,z9y,za0,za1,za2,za3,za5,za6,za7,za8,zaa,zab,zac,zae,zaf,zag,zak,zal,zam,zaq,zas,zat,zau,zba,zbc,zbd,zbe,zbt,zbu,zbw,zbx,zby,zbz,zc0,zc3,zc4,zc5,zc6,zc8,zcj,zcn,zco,zcp,zcq,zcr,zcs,zct,zcu,zcv,zcy,zdj,zdo,zds,zdt,zdu,zdv,ze2,ze3,zfm,zfo,zfp,zft,zg0,zg1, h1, h2]; all_goals tactic => exact rfl))

def exK (m : Ms) (k : Int) : Int := if k = 0 then m.a else if k = 1 then m.b else if k = 2 then m.c else m.d
/-- Whether units prove, or the error. -/
def refP (U : Int) (l : List Fl) (us : List Int) (k : Int) : Int := if chE U l us = 0 then if btw 0 k 3 then if exK (exU l us) k = 0 then 11 else if l.any (crossP us) then 11 else 0 else 18 else chE U l us
theorem kind4 {k : Int} (h : btw 0 k 3 = true) : k = 0 ∨ k = 1 ∨ k = 2 ∨ k = 3 := by
  simp only [btw, Bool.and_eq_true, decide_eq_true_eq] at h
  omega
theorem w28 (U : Int) (l : List Fl) (us : List Int) (k : Int) (hn : l.length < 1000000) (hu : us.length < 1000000) : runW progX 28 [plA U l, rI us, I k] [] = some (I (refP U l us k), []) := by
  have c := w38 U l us hn hu
  by_cases h : chE U l us = 0
  · rw [chR_0 h] at c
    have e := w39A U l (-1) 68 (us.map fun v => [I v]) (fun x => decide (x ∈ us)) hn (fun u => w68 us u hu)
    have e2 := w52 us l hu hn
    have hx : exI (fun x => decide (x ∈ us)) (-1) l l.length = exU l us := rfl
    rw [hx] at e
    rw [refP, if_pos h]
    generalize exU l us = m at *
    cases hb : btw 0 k 3 with
    | false =>
      rw [r28 (by simp)]; unfold x28; dsimp only
      (sym => (simp [etaM, etaF, z00,z01,z02,z05,z06,z07,z09,z0b,z0c,z0f,z0h,z0j,z0l,z0n,z0o,z0p,z0q,z0r,z0v,z0z,z12,z16,z1e,z1j,z1n,z1o,z1r,z1u,z20,z21,z22,z23,z26,z29,z2i,z2t,z2u,z3g,z3i,z3k,z3m,z3p,z4h,z4l,z4o,z4q,z4t,z4y,z54,z57,z59,z5c,z5h,z5j,z66,z67,z69,z6a,z6b,z6e,z6j,z6l,z6p,z6u,z72,z7r,z7u,z7w,z8d,z8n,z8p,z9d,z9e,z9g,z9i,z9j,z9k,z9l,z9m,z9n,z9p,z9r,z9s,z9t,z9v,z9x,z9y,za0,za1,za2,za3,za5,za6,za7,za8,zaa,zab,zac,zae,zaf,zag,zal,zam,zaq,zas,zat,zau,zba,zbc,zbd,zbe,zbf,zbg,zbj,zbk,zbt,zbu,zbw,zbx,zby,zbz,zc0,zc3,zc4,zc5,zc6,zc8,zce,zcf,zcg,zcj,zcn,zco,zcp,zcq,zcr,zct,zcu,zcv,zcy,zd3,zd5,zd6,zd7,zdd,zdj,zdk,zdl,zdo,zds,zdt,zdu,zdv,zdw,zdx,zdy,zdz,ze2,ze3,ze9,zeo,zep,zf6,zf7,zfa,zfb,zfc,zfd,zfg,zfm,zfo,zfp,zfq,zfs,zft,zfv,zfw,zfx,zg0,zg1, c, w42, hb]; all_goals tactic => exact rfl))
    | true =>
      rcases kind4 hb with rfl | rfl | rfl | rfl
      all_goals simp only [if_true, exK, show ¬ ((1 : Int) = 0) by decide, show ¬ ((2 : Int) = 0) by decide, show ¬ ((2 : Int) = 1) by decide, show ¬ ((3 : Int) = 0) by decide, show ¬ ((3 : Int) = 1) by decide, show ¬ ((3 : Int) = 2) by decide, if_false]
      · by_cases h0 : m.a = 0
        · have g := eq_true h0
          rw [if_pos h0]
          rw [r28 (by simp)]; unfold x28; dsimp only
          (sym => (simp [etaM, etaF, z00,z01,z02,z05,z06,z07,z09,z0b,z0c,z0f,z0h,z0j,z0l,z0n,z0o,z0p,z0q,z0r,z0v,z0z,z12,z16,z1e,z1j,z1n,z1o,z1r,z1u,z20,z21,z22,z23,z26,z29,z2i,z2t,z2u,z3g,z3i,z3k,z3m,z3p,z4h,z4l,z4o,z4q,z4t,z4y,z54,z57,z59,z5c,z5h,z5j,z66,z67,z69,z6a,z6b,z6e,z6j,z6l,z6p,z6u,z72,z7r,z7u,z7w,z8d,z8n,z8p,z9d,z9e,z9g,z9i,z9j,z9k,z9l,z9m,z9n,z9p,z9r,z9s,z9t,z9v,z9x,z9y,za0,za1,za2,za3,za5,za6,za7,za8,zaa,zab,zac,zae,zaf,zag,zal,zam,zaq,zas,zat,zau,zba,zbc,zbd,zbe,zbf,zbg,zbj,zbk,zbt,zbu,zbw,zbx,zby,zbz,zc0,zc3,zc4,zc5,zc6,zc8,zce,zcf,zcg,zcj,zcn,zco,zcp,zcq,zcr,zct,zcu,zcv,zcy,zd3,zd5,zd6,zd7,zdd,zdj,zdk,zdl,zdo,zds,zdt,zdu,zdv,zdw,zdx,zdy,zdz,ze2,ze3,ze9,zeo,zep,zf6,zf7,zfa,zfb,zfc,zfd,zfg,zfm,zfo,zfp,zfq,zfs,zft,zfv,zfw,zfx,zg0,zg1, c, w42, hb, e, e2, g]; all_goals tactic => exact rfl))
        · have g := eq_false h0
          rw [if_neg h0]
          cases g2 : l.any (crossP us)
          · rw [r28 (by simp)]; unfold x28; dsimp only
            (sym => (simp [etaM, etaF, z00,z01,z02,z05,z06,z07,z09,z0b,z0c,z0f,z0h,z0j,z0l,z0n,z0o,z0p,z0q,z0r,z0v,z0z,z12,z16,z1e,z1j,z1n,z1o,z1r,z1u,z20,z21,z22,z23,z26,z29,z2i,z2t,z2u,z3g,z3i,z3k,z3m,z3p,z4h,z4l,z4o,z4q,z4t,z4y,z54,z57,z59,z5c,z5h,z5j,z66,z67,z69,z6a,z6b,z6e,z6j,z6l,z6p,z6u,z72,z7r,z7u,z7w,z8d,z8n,z8p,z9d,z9e,z9g,z9i,z9j,z9k,z9l,z9m,z9n,z9p,z9r,z9s,z9t,z9v,z9x,z9y,za0,za1,za2,za3,za5,za6,za7,za8,zaa,zab,zac,zae,zaf,zag,zal,zam,zaq,zas,zat,zau,zba,zbc,zbd,zbe,zbf,zbg,zbj,zbk,zbt,zbu,zbw,zbx,zby,zbz,zc0,zc3,zc4,zc5,zc6,zc8,zce,zcf,zcg,zcj,zcn,zco,zcp,zcq,zcr,zct,zcu,zcv,zcy,zd3,zd5,zd6,zd7,zdd,zdj,zdk,zdl,zdo,zds,zdt,zdu,zdv,zdw,zdx,zdy,zdz,ze2,ze3,ze9,zeo,zep,zf6,zf7,zfa,zfb,zfc,zfd,zfg,zfm,zfo,zfp,zfq,zfs,zft,zfv,zfw,zfx,zg0,zg1, c, w42, hb, e, e2, g, g2]; all_goals tactic => exact rfl))
          · rw [r28 (by simp)]; unfold x28; dsimp only
            (sym => (simp [etaM, etaF, z00,z01,z02,z05,z06,z07,z09,z0b,z0c,z0f,z0h,z0j,z0l,z0n,z0o,z0p,z0q,z0r,z0v,z0z,z12,z16,z1e,z1j,z1n,z1o,z1r,z1u,z20,z21,z22,z23,z26,z29,z2i,z2t,z2u,z3g,z3i,z3k,z3m,z3p,z4h,z4l,z4o,z4q,z4t,z4y,z54,z57,z59,z5c,z5h,z5j,z66,z67,z69,z6a,z6b,z6e,z6j,z6l,z6p,z6u,z72,z7r,z7u,z7w,z8d,z8n,z8p,z9d,z9e,z9g,z9i,z9j,z9k,z9l,z9m,z9n,z9p,z9r,z9s,z9t,z9v,z9x,z9y,za0,za1,za2,za3,za5,za6,za7,za8,zaa,zab,zac,zae,zaf,zag,zal,zam,zaq,zas,zat,zau,zba,zbc,zbd,zbe,zbf,zbg,zbj,zbk,zbt,zbu,zbw,zbx,zby,zbz,zc0,zc3,zc4,zc5,zc6,zc8,zce,zcf,zcg,zcj,zcn,zco,zcp,zcq,zcr,zct,zcu,zcv,zcy,zd3,zd5,zd6,zd7,zdd,zdj,zdk,zdl,zdo,zds,zdt,zdu,zdv,zdw,zdx,zdy,zdz,ze2,ze3,ze9,zeo,zep,zf6,zf7,zfa,zfb,zfc,zfd,zfg,zfm,zfo,zfp,zfq,zfs,zft,zfv,zfw,zfx,zg0,zg1, c, w42, hb, e, e2, g, g2]; all_goals tactic => exact rfl))
      · by_cases h0 : m.b = 0
        · have g := eq_true h0
          rw [if_pos h0]
          rw [r28 (by simp)]; unfold x28; dsimp only
          (sym => (simp [etaM, etaF, z00,z01,z02,z05,z06,z07,z09,z0b,z0c,z0f,z0h,z0j,z0l,z0n,z0o,z0p,z0q,z0r,z0v,z0z,z12,z16,z1e,z1j,z1n,z1o,z1r,z1u,z20,z21,z22,z23,z26,z29,z2i,z2t,z2u,z3g,z3i,z3k,z3m,z3p,z4h,z4l,z4o,z4q,z4t,z4y,z54,z57,z59,z5c,z5h,z5j,z66,z67,z69,z6a,z6b,z6e,z6j,z6l,z6p,z6u,z72,z7r,z7u,z7w,z8d,z8n,z8p,z9d,z9e,z9g,z9i,z9j,z9k,z9l,z9m,z9n,z9p,z9r,z9s,z9t,z9v,z9x,z9y,za0,za1,za2,za3,za5,za6,za7,za8,zaa,zab,zac,zae,zaf,zag,zal,zam,zaq,zas,zat,zau,zba,zbc,zbd,zbe,zbf,zbg,zbj,zbk,zbt,zbu,zbw,zbx,zby,zbz,zc0,zc3,zc4,zc5,zc6,zc8,zce,zcf,zcg,zcj,zcn,zco,zcp,zcq,zcr,zct,zcu,zcv,zcy,zd3,zd5,zd6,zd7,zdd,zdj,zdk,zdl,zdo,zds,zdt,zdu,zdv,zdw,zdx,zdy,zdz,ze2,ze3,ze9,zeo,zep,zf6,zf7,zfa,zfb,zfc,zfd,zfg,zfm,zfo,zfp,zfq,zfs,zft,zfv,zfw,zfx,zg0,zg1, c, w42, hb, e, e2, g]; all_goals tactic => exact rfl))
        · have g := eq_false h0
          rw [if_neg h0]
          cases g2 : l.any (crossP us)
          · rw [r28 (by simp)]; unfold x28; dsimp only
            (sym => (simp [etaM, etaF, z00,z01,z02,z05,z06,z07,z09,z0b,z0c,z0f,z0h,z0j,z0l,z0n,z0o,z0p,z0q,z0r,z0v,z0z,z12,z16,z1e,z1j,z1n,z1o,z1r,z1u,z20,z21,z22,z23,z26,z29,z2i,z2t,z2u,z3g,z3i,z3k,z3m,z3p,z4h,z4l,z4o,z4q,z4t,z4y,z54,z57,z59,z5c,z5h,z5j,z66,z67,z69,z6a,z6b,z6e,z6j,z6l,z6p,z6u,z72,z7r,z7u,z7w,z8d,z8n,z8p,z9d,z9e,z9g,z9i,z9j,z9k,z9l,z9m,z9n,z9p,z9r,z9s,z9t,z9v,z9x,z9y,za0,za1,za2,za3,za5,za6,za7,za8,zaa,zab,zac,zae,zaf,zag,zal,zam,zaq,zas,zat,zau,zba,zbc,zbd,zbe,zbf,zbg,zbj,zbk,zbt,zbu,zbw,zbx,zby,zbz,zc0,zc3,zc4,zc5,zc6,zc8,zce,zcf,zcg,zcj,zcn,zco,zcp,zcq,zcr,zct,zcu,zcv,zcy,zd3,zd5,zd6,zd7,zdd,zdj,zdk,zdl,zdo,zds,zdt,zdu,zdv,zdw,zdx,zdy,zdz,ze2,ze3,ze9,zeo,zep,zf6,zf7,zfa,zfb,zfc,zfd,zfg,zfm,zfo,zfp,zfq,zfs,zft,zfv,zfw,zfx,zg0,zg1, c, w42, hb, e, e2, g, g2]; all_goals tactic => exact rfl))
          · rw [r28 (by simp)]; unfold x28; dsimp only
            (sym => (simp [etaM, etaF, z00,z01,z02,z05,z06,z07,z09,z0b,z0c,z0f,z0h,z0j,z0l,z0n,z0o,z0p,z0q,z0r,z0v,z0z,z12,z16,z1e,z1j,z1n,z1o,z1r,z1u,z20,z21,z22,z23,z26,z29,z2i,z2t,z2u,z3g,z3i,z3k,z3m,z3p,z4h,z4l,z4o,z4q,z4t,z4y,z54,z57,z59,z5c,z5h,z5j,z66,z67,z69,z6a,z6b,z6e,z6j,z6l,z6p,z6u,z72,z7r,z7u,z7w,z8d,z8n,z8p,z9d,z9e,z9g,z9i,z9j,z9k,z9l,z9m,z9n,z9p,z9r,z9s,z9t,z9v,z9x,z9y,za0,za1,za2,za3,za5,za6,za7,za8,zaa,zab,zac,zae,zaf,zag,zal,zam,zaq,zas,zat,zau,zba,zbc,zbd,zbe,zbf,zbg,zbj,zbk,zbt,zbu,zbw,zbx,zby,zbz,zc0,zc3,zc4,zc5,zc6,zc8,zce,zcf,zcg,zcj,zcn,zco,zcp,zcq,zcr,zct,zcu,zcv,zcy,zd3,zd5,zd6,zd7,zdd,zdj,zdk,zdl,zdo,zds,zdt,zdu,zdv,zdw,zdx,zdy,zdz,ze2,ze3,ze9,zeo,zep,zf6,zf7,zfa,zfb,zfc,zfd,zfg,zfm,zfo,zfp,zfq,zfs,zft,zfv,zfw,zfx,zg0,zg1, c, w42, hb, e, e2, g, g2]; all_goals tactic => exact rfl))
      · by_cases h0 : m.c = 0
        · have g := eq_true h0
          rw [if_pos h0]
          rw [r28 (by simp)]; unfold x28; dsimp only
          (sym => (simp [etaM, etaF, z00,z01,z02,z05,z06,z07,z09,z0b,z0c,z0f,z0h,z0j,z0l,z0n,z0o,z0p,z0q,z0r,z0v,z0z,z12,z16,z1e,z1j,z1n,z1o,z1r,z1u,z20,z21,z22,z23,z26,z29,z2i,z2t,z2u,z3g,z3i,z3k,z3m,z3p,z4h,z4l,z4o,z4q,z4t,z4y,z54,z57,z59,z5c,z5h,z5j,z66,z67,z69,z6a,z6b,z6e,z6j,z6l,z6p,z6u,z72,z7r,z7u,z7w,z8d,z8n,z8p,z9d,z9e,z9g,z9i,z9j,z9k,z9l,z9m,z9n,z9p,z9r,z9s,z9t,z9v,z9x,z9y,za0,za1,za2,za3,za5,za6,za7,za8,zaa,zab,zac,zae,zaf,zag,zal,zam,zaq,zas,zat,zau,zba,zbc,zbd,zbe,zbf,zbg,zbj,zbk,zbt,zbu,zbw,zbx,zby,zbz,zc0,zc3,zc4,zc5,zc6,zc8,zce,zcf,zcg,zcj,zcn,zco,zcp,zcq,zcr,zct,zcu,zcv,zcy,zd3,zd5,zd6,zd7,zdd,zdj,zdk,zdl,zdo,zds,zdt,zdu,zdv,zdw,zdx,zdy,zdz,ze2,ze3,ze9,zeo,zep,zf6,zf7,zfa,zfb,zfc,zfd,zfg,zfm,zfo,zfp,zfq,zfs,zft,zfv,zfw,zfx,zg0,zg1, c, w42, hb, e, e2, g]; all_goals tactic => exact rfl))
        · have g := eq_false h0
          rw [if_neg h0]
          cases g2 : l.any (crossP us)
          · rw [r28 (by simp)]; unfold x28; dsimp only
            (sym => (simp [etaM, etaF, z00,z01,z02,z05,z06,z07,z09,z0b,z0c,z0f,z0h,z0j,z0l,z0n,z0o,z0p,z0q,z0r,z0v,z0z,z12,z16,z1e,z1j,z1n,z1o,z1r,z1u,z20,z21,z22,z23,z26,z29,z2i,z2t,z2u,z3g,z3i,z3k,z3m,z3p,z4h,z4l,z4o,z4q,z4t,z4y,z54,z57,z59,z5c,z5h,z5j,z66,z67,z69,z6a,z6b,z6e,z6j,z6l,z6p,z6u,z72,z7r,z7u,z7w,z8d,z8n,z8p,z9d,z9e,z9g,z9i,z9j,z9k,z9l,z9m,z9n,z9p,z9r,z9s,z9t,z9v,z9x,z9y,za0,za1,za2,za3,za5,za6,za7,za8,zaa,zab,zac,zae,zaf,zag,zal,zam,zaq,zas,zat,zau,zba,zbc,zbd,zbe,zbf,zbg,zbj,zbk,zbt,zbu,zbw,zbx,zby,zbz,zc0,zc3,zc4,zc5,zc6,zc8,zce,zcf,zcg,zcj,zcn,zco,zcp,zcq,zcr,zct,zcu,zcv,zcy,zd3,zd5,zd6,zd7,zdd,zdj,zdk,zdl,zdo,zds,zdt,zdu,zdv,zdw,zdx,zdy,zdz,ze2,ze3,ze9,zeo,zep,zf6,zf7,zfa,zfb,zfc,zfd,zfg,zfm,zfo,zfp,zfq,zfs,zft,zfv,zfw,zfx,zg0,zg1, c, w42, hb, e, e2, g, g2]; all_goals tactic => exact rfl))
          · rw [r28 (by simp)]; unfold x28; dsimp only
            (sym => (simp [etaM, etaF, z00,z01,z02,z05,z06,z07,z09,z0b,z0c,z0f,z0h,z0j,z0l,z0n,z0o,z0p,z0q,z0r,z0v,z0z,z12,z16,z1e,z1j,z1n,z1o,z1r,z1u,z20,z21,z22,z23,z26,z29,z2i,z2t,z2u,z3g,z3i,z3k,z3m,z3p,z4h,z4l,z4o,z4q,z4t,z4y,z54,z57,z59,z5c,z5h,z5j,z66,z67,z69,z6a,z6b,z6e,z6j,z6l,z6p,z6u,z72,z7r,z7u,z7w,z8d,z8n,z8p,z9d,z9e,z9g,z9i,z9j,z9k,z9l,z9m,z9n,z9p,z9r,z9s,z9t,z9v,z9x,z9y,za0,za1,za2,za3,za5,za6,za7,za8,zaa,zab,zac,zae,zaf,zag,zal,zam,zaq,zas,zat,zau,zba,zbc,zbd,zbe,zbf,zbg,zbj,zbk,zbt,zbu,zbw,zbx,zby,zbz,zc0,zc3,zc4,zc5,zc6,zc8,zce,zcf,zcg,zcj,zcn,zco,zcp,zcq,zcr,zct,zcu,zcv,zcy,zd3,zd5,zd6,zd7,zdd,zdj,zdk,zdl,zdo,zds,zdt,zdu,zdv,zdw,zdx,zdy,zdz,ze2,ze3,ze9,zeo,zep,zf6,zf7,zfa,zfb,zfc,zfd,zfg,zfm,zfo,zfp,zfq,zfs,zft,zfv,zfw,zfx,zg0,zg1, c, w42, hb, e, e2, g, g2]; all_goals tactic => exact rfl))
      · by_cases h0 : m.d = 0
        · have g := eq_true h0
          rw [if_pos h0]
          rw [r28 (by simp)]; unfold x28; dsimp only
          (sym => (simp [etaM, etaF, z00,z01,z02,z05,z06,z07,z09,z0b,z0c,z0f,z0h,z0j,z0l,z0n,z0o,z0p,z0q,z0r,z0v,z0z,z12,z16,z1e,z1j,z1n,z1o,z1r,z1u,z20,z21,z22,z23,z26,z29,z2i,z2t,z2u,z3g,z3i,z3k,z3m,z3p,z4h,z4l,z4o,z4q,z4t,z4y,z54,z57,z59,z5c,z5h,z5j,z66,z67,z69,z6a,z6b,z6e,z6j,z6l,z6p,z6u,z72,z7r,z7u,z7w,z8d,z8n,z8p,z9d,z9e,z9g,z9i,z9j,z9k,z9l,z9m,z9n,z9p,z9r,z9s,z9t,z9v,z9x,z9y,za0,za1,za2,za3,za5,za6,za7,za8,zaa,zab,zac,zae,zaf,zag,zal,zam,zaq,zas,zat,zau,zba,zbc,zbd,zbe,zbf,zbg,zbj,zbk,zbt,zbu,zbw,zbx,zby,zbz,zc0,zc3,zc4,zc5,zc6,zc8,zce,zcf,zcg,zcj,zcn,zco,zcp,zcq,zcr,zct,zcu,zcv,zcy,zd3,zd5,zd6,zd7,zdd,zdj,zdk,zdl,zdo,zds,zdt,zdu,zdv,zdw,zdx,zdy,zdz,ze2,ze3,ze9,zeo,zep,zf6,zf7,zfa,zfb,zfc,zfd,zfg,zfm,zfo,zfp,zfq,zfs,zft,zfv,zfw,zfx,zg0,zg1, c, w42, hb, e, e2, g]; all_goals tactic => exact rfl))
        · have g := eq_false h0
          rw [if_neg h0]
          cases g2 : l.any (crossP us)
          · rw [r28 (by simp)]; unfold x28; dsimp only
            (sym => (simp [etaM, etaF, z00,z01,z02,z05,z06,z07,z09,z0b,z0c,z0f,z0h,z0j,z0l,z0n,z0o,z0p,z0q,z0r,z0v,z0z,z12,z16,z1e,z1j,z1n,z1o,z1r,z1u,z20,z21,z22,z23,z26,z29,z2i,z2t,z2u,z3g,z3i,z3k,z3m,z3p,z4h,z4l,z4o,z4q,z4t,z4y,z54,z57,z59,z5c,z5h,z5j,z66,z67,z69,z6a,z6b,z6e,z6j,z6l,z6p,z6u,z72,z7r,z7u,z7w,z8d,z8n,z8p,z9d,z9e,z9g,z9i,z9j,z9k,z9l,z9m,z9n,z9p,z9r,z9s,z9t,z9v,z9x,z9y,za0,za1,za2,za3,za5,za6,za7,za8,zaa,zab,zac,zae,zaf,zag,zal,zam,zaq,zas,zat,zau,zba,zbc,zbd,zbe,zbf,zbg,zbj,zbk,zbt,zbu,zbw,zbx,zby,zbz,zc0,zc3,zc4,zc5,zc6,zc8,zce,zcf,zcg,zcj,zcn,zco,zcp,zcq,zcr,zct,zcu,zcv,zcy,zd3,zd5,zd6,zd7,zdd,zdj,zdk,zdl,zdo,zds,zdt,zdu,zdv,zdw,zdx,zdy,zdz,ze2,ze3,ze9,zeo,zep,zf6,zf7,zfa,zfb,zfc,zfd,zfg,zfm,zfo,zfp,zfq,zfs,zft,zfv,zfw,zfx,zg0,zg1, c, w42, hb, e, e2, g, g2]; all_goals tactic => exact rfl))
          · rw [r28 (by simp)]; unfold x28; dsimp only
            (sym => (simp [etaM, etaF, z00,z01,z02,z05,z06,z07,z09,z0b,z0c,z0f,z0h,z0j,z0l,z0n,z0o,z0p,z0q,z0r,z0v,z0z,z12,z16,z1e,z1j,z1n,z1o,z1r,z1u,z20,z21,z22,z23,z26,z29,z2i,z2t,z2u,z3g,z3i,z3k,z3m,z3p,z4h,z4l,z4o,z4q,z4t,z4y,z54,z57,z59,z5c,z5h,z5j,z66,z67,z69,z6a,z6b,z6e,z6j,z6l,z6p,z6u,z72,z7r,z7u,z7w,z8d,z8n,z8p,z9d,z9e,z9g,z9i,z9j,z9k,z9l,z9m,z9n,z9p,z9r,z9s,z9t,z9v,z9x,z9y,za0,za1,za2,za3,za5,za6,za7,za8,zaa,zab,zac,zae,zaf,zag,zal,zam,zaq,zas,zat,zau,zba,zbc,zbd,zbe,zbf,zbg,zbj,zbk,zbt,zbu,zbw,zbx,zby,zbz,zc0,zc3,zc4,zc5,zc6,zc8,zce,zcf,zcg,zcj,zcn,zco,zcp,zcq,zcr,zct,zcu,zcv,zcy,zd3,zd5,zd6,zd7,zdd,zdj,zdk,zdl,zdo,zds,zdt,zdu,zdv,zdw,zdx,zdy,zdz,ze2,ze3,ze9,zeo,zep,zf6,zf7,zfa,zfb,zfc,zfd,zfg,zfm,zfo,zfp,zfq,zfs,zft,zfv,zfw,zfx,zg0,zg1, c, w42, hb, e, e2, g, g2]; all_goals tactic => exact rfl))
  · have g := eq_false h
    rw [chR_1 rfl h] at c
    rw [refP, if_neg h]
    rw [r28 (by simp)]; unfold x28; dsimp only
    (sym => (simp [etaM, etaF, z00,z01,z02,z05,z06,z07,z09,z0b,z0c,z0f,z0h,z0j,z0l,z0n,z0o,z0p,z0q,z0r,z0v,z0z,z12,z16,z1e,z1j,z1n,z1o,z1r,z1u,z20,z21,z22,z23,z26,z29,z2i,z2t,z2u,z3g,z3i,z3k,z3m,z3p,z4h,z4l,z4o,z4q,z4t,z4y,z54,z57,z59,z5c,z5h,z5j,z66,z67,z69,z6a,z6b,z6e,z6j,z6l,z6p,z6u,z72,z7r,z7u,z7w,z8d,z8n,z8p,z9d,z9e,z9g,z9i,z9j,z9k,z9l,z9m,z9n,z9p,z9r,z9s,z9t,z9v,z9x,z9y,za0,za1,za2,za3,za5,za6,za7,za8,zaa,zab,zac,zae,zaf,zag,zal,zam,zaq,zas,zat,zau,zba,zbc,zbd,zbe,zbf,zbg,zbj,zbk,zbt,zbu,zbw,zbx,zby,zbz,zc0,zc3,zc4,zc5,zc6,zc8,zce,zcf,zcg,zcj,zcn,zco,zcp,zcq,zcr,zct,zcu,zcv,zcy,zd3,zd5,zd6,zd7,zdd,zdj,zdk,zdl,zdo,zds,zdt,zdu,zdv,zdw,zdx,zdy,zdz,ze2,ze3,ze9,zeo,zep,zf6,zf7,zfa,zfb,zfc,zfd,zfg,zfm,zfo,zfp,zfq,zfs,zft,zfv,zfw,zfx,zg0,zg1, c, g]; all_goals tactic => exact rfl))
end Go.Proofs.Ytdbikamciedfdaa
namespace Go.Proofs.Ytdbikamciedfdaa
open Go Go.DL
set_option maxRecDepth 100000
set_option maxHeartbeats 1000000

theorem w27 (U : Nat) (l : List Fl) (us : List Int) (k : Int) (hn : l.length < 1000000) (hu : us.length < 1000000) : runW progX 27 [plA U l, rI us, I k] [] = some (I (refP U l us k), []) := by
  have c := w40 U l us hn hu
  by_cases h : chE U l us = 0
  · rw [seR_0 h] at c
    have hr := rngL_of (chE_u h)
    have hU := checkP_u (chE_u h)
    have hin := insL_in U us
    have e := w41 U l _ _ hn (by omega) hr hin
    have hx : exI (fun x => decide (x ∈ us)) (-1) l l.length = exU l us := rfl
    rw [hx] at e
    rw [refP, if_pos h]
    have hil := insL_len U us us.length
    have rd : ∀ x ∈ l, IntKind.i64.wrap (x.fr + 1) = x.fr + 1 ∧ IntKind.i64.wrap (x.to + 1) = x.to + 1 ∧ (0 ≤ x.fr + 1) = True ∧ (0 ≤ x.to + 1) = True ∧ (x.fr + 1 < ((U + 1 : Nat) : Int)) = True ∧ (x.to + 1 < ((U + 1 : Nat) : Int)) = True ∧ (insL U us us.length)[(x.fr + 1).toNat]? = some (decide (x.fr ∈ us)) ∧ (insL U us us.length)[(x.to + 1).toNat]? = some (decide (x.to ∈ us)) := by
      intro x hx
      obtain ⟨r1, r2, r3, r4⟩ := hr x hx
      exact ⟨wrap_ok (by omega) (by omega), wrap_ok (by omega) (by omega), eq_true (by omega), eq_true (by omega), eq_true (by omega), eq_true (by omega), hin.2 _ r1 r2, hin.2 _ r3 r4⟩
    generalize exU l us = m at *
    generalize insL U us us.length = bs at *
    cases hb : btw 0 k 3 with
    | false =>
      rw [r27 (by simp)]; unfold x27; dsimp only
      (sym => (simp [etaM, etaF, z00,z01,z05,z06,z07,z08,z09,z0b,z0c,z0f,z0h,z0i,z0k,z0n,z0q,z0r,z0v,z0w,z0z,z12,z15,z16,z1e,z1f,z1j,z1k,z1l,z1m,z1r,z1u,z20,z21,z22,z23,z25,z26,z29,z2a,z2b,z2g,z2h,z2i,z2j,z2t,z2u,z2v,z33,z34,z3g,z3h,z3i,z3k,z3m,z3p,z4h,z4l,z4o,z4q,z4t,z54,z57,z59,z66,z67,z69,z6a,z6b,z6e,z6p,z6u,z7r,z7u,z7w,z8d,z9d,z9e,z9g,z9j,z9k,z9l,z9m,z9n,z9p,z9r,z9v,z9w,z9y,za0,za1,za2,za3,za5,za6,za7,za8,za9,zaa,zab,zae,zaf,zal,zaq,zas,zat,zba,zbc,zbd,zbe,zbf,zbg,zbk,zbt,zbu,zbw,zbx,zby,zbz,zc0,zc3,zc4,zc5,zc6,zc8,zca,zcc,zcd,zce,zcf,zcg,zch,zci,zcj,zcn,zco,zcq,zcr,zct,zcu,zcv,zcw,zcx,zcy,zd3,zd6,zd7,zdd,zdj,zdk,zdl,zdo,zds,zdt,zdu,zdv,zdw,zdx,ze2,ze3,zeo,zep,zf6,zf7,zf8,zf9,zfa,zfb,zfg,zfm,zfo,zfp,zfq,zfr,zfs,zft,zfu,zfv,zfw,zfx,zfy,zfz,zg0,zg1,zhf,zj9,zja,zjb,zjc, c, w45, hb]; all_goals tactic => exact rfl))
    | true =>
      obtain ⟨n, h1, h2, h3⟩ := first_ix (crossP us) l
      have g0 := pad
      have g1 := pad
      have g2 := pad
      have g3 := pad
      have g4 := pad
      have g5 := pad
      have g6 := pad
      have g7 := pad
      have g8 := pad
      have g9 := pad
      have k0 := pad
      have k1 := pad
      have k2 := pad
      have k3 := pad
      have k4 := pad
      have ha : (n = l.length ∧ l.any (crossP us) = false) ∨ (∃ x, n < l.length ∧ l[n]? = some x ∧ crossP us x = true ∧ l.any (crossP us) = true) := by
        rcases h3 with h3 | ⟨x, h3, h4, h5⟩
        · refine .inl ⟨h3, ?_⟩
          rw [List.any_eq_false]
          intro x hx
          obtain ⟨i, hi, he⟩ := List.mem_iff_getElem.1 hx
          obtain ⟨y, hy, h4⟩ := h2 i (by omega)
          rw [List.getElem?_eq_getElem hi, he] at hy
          simp only [Option.some.injEq] at hy
          rw [hy, h4]; simp
        · exact .inr ⟨x, h3, h4, h5, List.any_eq_true.2 ⟨x, List.mem_of_getElem? h4, h5⟩⟩
      have lt1 : ∀ i, i < n → IntKind.i64.wrap ((i : Int) + 1) = (i : Int) + 1 ∧ ((i : Int) < (l.length : Int)) = True := fun i hi => ⟨up_ix hi (by omega), eq_true (by omega)⟩
      have bx : ∀ x, crossP us x = true → x.me = false ∧ ((decide (x.fr ∈ us) = true ∧ decide (x.to ∈ us) = false) ∨ (decide (x.fr ∈ us) = false ∧ decide (x.to ∈ us) = true)) := by
        intro x hx
        unfold crossP at hx
        cases q1 : x.me <;> cases q2 : decide (x.fr ∈ us) <;> cases q3 : decide (x.to ∈ us) <;> simp [q1, q2, q3] at hx ⊢
      have by' : ∀ x, crossP us x = false → x.me = true ∨ (x.me = false ∧ ((decide (x.fr ∈ us) = true ∧ decide (x.to ∈ us) = true) ∨ (decide (x.fr ∈ us) = false ∧ decide (x.to ∈ us) = false))) := by
        intro x hx
        unfold crossP at hx
        cases q1 : x.me <;> cases q2 : decide (x.fr ∈ us) <;> cases q3 : decide (x.to ∈ us) <;> simp [q1, q2, q3] at hx ⊢
      have zk : ∃ v, (if exK m k = 0 then (11 : Int) else if l.any (crossP us) then 11 else 0) = v ∧ ((n = l.length ∧ (((exK m k = 0) = True ∧ v = 11) ∨ ((exK m k = 0) = False ∧ v = 0))) ∨ (∃ x, n < l.length ∧ l[n]? = some x ∧ crossP us x = true ∧ v = 11)) := by
        refine ⟨_, rfl, ?_⟩
        rcases ha with ⟨h5, h6⟩ | ⟨x, h5, h6, h7, h8⟩
        · refine .inl ⟨h5, ?_⟩
          by_cases hz : exK m k = 0
          · exact .inl ⟨eq_true hz, if_pos hz⟩
          · exact .inr ⟨eq_false hz, by rw [if_neg hz, h6]; rfl⟩
        · refine .inr ⟨x, h5, h6, h7, ?_⟩
          by_cases hz : exK m k = 0
          · exact if_pos hz
          · rw [if_neg hz, h8]; rfl
      simp only [if_true]
      obtain ⟨v, hv, zk⟩ := zk
      rw [hv]
      clear hv
      have lst : ((n : Int) < (l.length : Int)) = False ∧ (((exK m k = 0) = True ∧ v = 11) ∨ ((exK m k = 0) = False ∧ v = 0)) ∨ (∃ x, ((n : Int) < (l.length : Int)) = True ∧ l[n]? = some x ∧ v = 11 ∧ x ∈ l ∧ x.me = false ∧ ((decide (x.fr ∈ us) = true ∧ decide (x.to ∈ us) = false) ∨ (decide (x.fr ∈ us) = false ∧ decide (x.to ∈ us) = true))) := by
        rcases zk with ⟨h5, h6⟩ | ⟨x, h5, h6, h7, h8⟩
        · exact .inl ⟨eq_false (by omega), h6⟩
        · exact .inr ⟨x, lt_ix h5, h6, h8, List.mem_of_getElem? h6, bx x h7⟩
      rw [r27 (by simp)]; unfold x27; dsimp only
      sym =>
        simp [etaM, etaF, z00,z01,z05,z06,z07,z08,z09,z0b,z0c,z0f,z0h,z0i,z0k,z0n,z0q,z0r,z0v,z0w,z0z,z12,z15,z16,z1e,z1f,z1j,z1k,z1l,z1m,z1r,z1u,z20,z21,z22,z23,z25,z26,z29,z2a,z2b,z2g,z2h,z2i,z2j,z2t,z2u,z2v,z33,z34,z3g,z3h,z3i,z3k,z3m,z3p,z4h,z4l,z4o,z4q,z4t,z54,z57,z59,z66,z67,z69,z6a,z6b,z6e,z6p,z6u,z7r,z7u,z7w,z8d,z9d,z9e,z9g,z9j,z9k,z9l,z9m,z9n,z9p,z9r,z9v,z9w,z9y,za0,za1,za2,za3,za5,za6,za7,za8,za9,zaa,zab,zae,zaf,zal,zaq,zas,zat,zba,zbc,zbd,zbe,zbf,zbg,zbk,zbt,zbu,zbw,zbx,zby,zbz,zc0,zc3,zc4,zc5,zc6,zc8,zca,zcc,zcd,zce,zcf,zcg,zch,zci,zcj,zcn,zco,zcq,zcr,zct,zcu,zcv,zcw,zcx,zcy,zd3,zd6,zd7,zdd,zdj,zdk,zdl,zdo,zds,zdt,zdu,zdv,zdw,zdx,ze2,ze3,zeo,zep,zf6,zf7,zf8,zf9,zfa,zfb,zfg,zfm,zfo,zfp,zfq,zfr,zfs,zft,zfu,zfv,zfw,zfx,zfy,zfz,zg0,zg1,zhf,zj9,zja,zjb,zjc, c, w45, hb]
        tactic =>
          unfold x27l0
          rw [loop_rule n (fun i => [I k, .pt 0 0, rB bs, I (i : Nat)]) (fun i => [some (.blk true (.cells true [I U, .fs (l.map Fl.row)]))])]
          · rcases lst with ⟨g0, hz⟩ | ⟨x, g0, g1, rfl, hx, g2, g3⟩
            · rcases kind4 hb with rfl | rfl | rfl | rfl
              all_goals simp only [if_true, exK, show ¬ ((1 : Int) = 0) by decide, show ¬ ((2 : Int) = 0) by decide, show ¬ ((2 : Int) = 1) by decide, show ¬ ((3 : Int) = 0) by decide, show ¬ ((3 : Int) = 1) by decide, show ¬ ((3 : Int) = 2) by decide, if_false] at hz
              all_goals rcases hz with ⟨g1, rfl⟩ | ⟨g1, rfl⟩
              all_goals (sym => (simp [etaM, etaF, z00,z01,z05,z06,z07,z08,z09,z0b,z0c,z0f,z0h,z0i,z0k,z0n,z0q,z0r,z0v,z0w,z0z,z12,z15,z16,z1e,z1f,z1j,z1k,z1l,z1m,z1r,z1u,z20,z21,z22,z23,z25,z26,z29,z2a,z2b,z2g,z2h,z2i,z2j,z2t,z2u,z2v,z33,z34,z3g,z3h,z3i,z3k,z3m,z3p,z4h,z4l,z4o,z4q,z4t,z54,z57,z59,z66,z67,z69,z6a,z6b,z6e,z6p,z6u,z7r,z7u,z7w,z8d,z9d,z9e,z9g,z9j,z9k,z9l,z9m,z9n,z9p,z9r,z9v,z9w,z9y,za0,za1,za2,za3,za5,za6,za7,za8,za9,zaa,zab,zae,zaf,zal,zaq,zas,zat,zba,zbc,zbd,zbe,zbf,zbg,zbk,zbt,zbu,zbw,zbx,zby,zbz,zc0,zc3,zc4,zc5,zc6,zc8,zca,zcc,zcd,zce,zcf,zcg,zch,zci,zcj,zcn,zco,zcq,zcr,zct,zcu,zcv,zcw,zcx,zcy,zd3,zd6,zd7,zdd,zdj,zdk,zdl,zdo,zds,zdt,zdu,zdv,zdw,zdx,ze2,ze3,zeo,zep,zf6,zf7,zf8,zf9,zfa,zfb,zfg,zfm,zfo,zfp,zfq,zfr,zfs,zft,zfu,zfv,zfw,zfx,zfy,zfz,zg0,zg1,zhf,zj9,zja,zjb,zjc, g0, g1, e]; all_goals tactic => exact rfl))
            · obtain ⟨k0, k1, k2, k3, k4, g5, g6, g7⟩ := rd x hx
              rcases g3 with ⟨g3, g4⟩ | ⟨g3, g4⟩ <;> (sym => (simp [etaM, etaF, z00,z01,z05,z06,z07,z08,z09,z0b,z0c,z0f,z0h,z0i,z0k,z0n,z0q,z0r,z0v,z0w,z0z,z12,z15,z16,z1e,z1f,z1j,z1k,z1l,z1m,z1r,z1u,z20,z21,z22,z23,z25,z26,z29,z2a,z2b,z2g,z2h,z2i,z2j,z2t,z2u,z2v,z33,z34,z3g,z3h,z3i,z3k,z3m,z3p,z4h,z4l,z4o,z4q,z4t,z54,z57,z59,z66,z67,z69,z6a,z6b,z6e,z6p,z6u,z7r,z7u,z7w,z8d,z9d,z9e,z9g,z9j,z9k,z9l,z9m,z9n,z9p,z9r,z9v,z9w,z9y,za0,za1,za2,za3,za5,za6,za7,za8,za9,zaa,zab,zae,zaf,zal,zaq,zas,zat,zba,zbc,zbd,zbe,zbf,zbg,zbk,zbt,zbu,zbw,zbx,zby,zbz,zc0,zc3,zc4,zc5,zc6,zc8,zca,zcc,zcd,zce,zcf,zcg,zch,zci,zcj,zcn,zco,zcq,zcr,zct,zcu,zcv,zcw,zcx,zcy,zd3,zd6,zd7,zdd,zdj,zdk,zdl,zdo,zds,zdt,zdu,zdv,zdw,zdx,ze2,ze3,zeo,zep,zf6,zf7,zf8,zf9,zfa,zfb,zfg,zfm,zfo,zfp,zfq,zfr,zfs,zft,zfu,zfv,zfw,zfx,zfy,zfz,zg0,zg1,zhf,zj9,zja,zjb,zjc, g0, g1, g2, g3, g4, g5, g6, g7, k0, k1, k2, k3, k4, hil]; all_goals tactic => exact rfl))
          · (sym => (simp [etaM, etaF, z00,z01,z05,z06,z07,z08,z09,z0b,z0c,z0f,z0h,z0i,z0k,z0n,z0q,z0r,z0v,z0w,z0z,z12,z15,z16,z1e,z1f,z1j,z1k,z1l,z1m,z1r,z1u,z20,z21,z22,z23,z25,z26,z29,z2a,z2b,z2g,z2h,z2i,z2j,z2t,z2u,z2v,z33,z34,z3g,z3h,z3i,z3k,z3m,z3p,z4h,z4l,z4o,z4q,z4t,z54,z57,z59,z66,z67,z69,z6a,z6b,z6e,z6p,z6u,z7r,z7u,z7w,z8d,z9d,z9e,z9g,z9j,z9k,z9l,z9m,z9n,z9p,z9r,z9v,z9w,z9y,za0,za1,za2,za3,za5,za6,za7,za8,za9,zaa,zab,zae,zaf,zal,zaq,zas,zat,zba,zbc,zbd,zbe,zbf,zbg,zbk,zbt,zbu,zbw,zbx,zby,zbz,zc0,zc3,zc4,zc5,zc6,zc8,zca,zcc,zcd,zce,zcf,zcg,zch,zci,zcj,zcn,zco,zcq,zcr,zct,zcu,zcv,zcw,zcx,zcy,zd3,zd6,zd7,zdd,zdj,zdk,zdl,zdo,zds,zdt,zdu,zdv,zdw,zdx,ze2,ze3,zeo,zep,zf6,zf7,zf8,zf9,zfa,zfb,zfg,zfm,zfo,zfp,zfq,zfr,zfs,zft,zfu,zfv,zfw,zfx,zfy,zfz,zg0,zg1,zhf,zj9,zja,zjb,zjc]; all_goals tactic => exact rfl))
          · intro i hi
            obtain ⟨x, g1, h5⟩ := h2 i hi
            obtain ⟨g8, g0⟩ := lt1 i hi
            obtain ⟨k0, k1, k2, k3, k4, g5, g6, g7⟩ := rd x (List.mem_of_getElem? g1)
            rcases by' x h5 with g2 | ⟨g2, ⟨g3, g4⟩ | ⟨g3, g4⟩⟩
            all_goals (sym => (simp [etaM, etaF, z00,z01,z05,z06,z07,z08,z09,z0b,z0c,z0f,z0h,z0i,z0k,z0n,z0q,z0r,z0v,z0w,z0z,z12,z15,z16,z1e,z1f,z1j,z1k,z1l,z1m,z1r,z1u,z20,z21,z22,z23,z25,z26,z29,z2a,z2b,z2g,z2h,z2i,z2j,z2t,z2u,z2v,z33,z34,z3g,z3h,z3i,z3k,z3m,z3p,z4h,z4l,z4o,z4q,z4t,z54,z57,z59,z66,z67,z69,z6a,z6b,z6e,z6p,z6u,z7r,z7u,z7w,z8d,z9d,z9e,z9g,z9j,z9k,z9l,z9m,z9n,z9p,z9r,z9v,z9w,z9y,za0,za1,za2,za3,za5,za6,za7,za8,za9,zaa,zab,zae,zaf,zal,zaq,zas,zat,zba,zbc,zbd,zbe,zbf,zbg,zbk,zbt,zbu,zbw,zbx,zby,zbz,zc0,zc3,zc4,zc5,zc6,zc8,zca,zcc,zcd,zce,zcf,zcg,zch,zci,zcj,zcn,zco,zcq,zcr,zct,zcu,zcv,zcw,zcx,zcy,zd3,zd6,zd7,zdd,zdj,zdk,zdl,zdo,zds,zdt,zdu,zdv,zdw,zdx,ze2,ze3,zeo,zep,zf6,zf7,zf8,zf9,zfa,zfb,zfg,zfm,zfo,zfp,zfq,zfr,zfs,zft,zfu,zfv,zfw,zfx,zfy,zfz,zg0,zg1,zhf,zj9,zja,zjb,zjc, g0, g1, g2, g3, g4, g5, g6, g7, g8, k0, k1, k2, k3, k4, hil]; all_goals tactic => exact rfl))
          · rcases lst with ⟨g0, hz⟩ | ⟨x, g0, g1, rfl, hx, g2, g3⟩
            · (sym => (simp [etaM, etaF, z00,z01,z05,z06,z07,z08,z09,z0b,z0c,z0f,z0h,z0i,z0k,z0n,z0q,z0r,z0v,z0w,z0z,z12,z15,z16,z1e,z1f,z1j,z1k,z1l,z1m,z1r,z1u,z20,z21,z22,z23,z25,z26,z29,z2a,z2b,z2g,z2h,z2i,z2j,z2t,z2u,z2v,z33,z34,z3g,z3h,z3i,z3k,z3m,z3p,z4h,z4l,z4o,z4q,z4t,z54,z57,z59,z66,z67,z69,z6a,z6b,z6e,z6p,z6u,z7r,z7u,z7w,z8d,z9d,z9e,z9g,z9j,z9k,z9l,z9m,z9n,z9p,z9r,z9v,z9w,z9y,za0,za1,za2,za3,za5,za6,za7,za8,za9,zaa,zab,zae,zaf,zal,zaq,zas,zat,zba,zbc,zbd,zbe,zbf,zbg,zbk,zbt,zbu,zbw,zbx,zby,zbz,zc0,zc3,zc4,zc5,zc6,zc8,zca,zcc,zcd,zce,zcf,zcg,zch,zci,zcj,zcn,zco,zcq,zcr,zct,zcu,zcv,zcw,zcx,zcy,zd3,zd6,zd7,zdd,zdj,zdk,zdl,zdo,zds,zdt,zdu,zdv,zdw,zdx,ze2,ze3,zeo,zep,zf6,zf7,zf8,zf9,zfa,zfb,zfg,zfm,zfo,zfp,zfq,zfr,zfs,zft,zfu,zfv,zfw,zfx,zfy,zfz,zg0,zg1,zhf,zj9,zja,zjb,zjc, g0]; all_goals tactic => exact rfl))
            · obtain ⟨k0, k1, k2, k3, k4, g5, g6, g7⟩ := rd x hx
              rcases g3 with ⟨g3, g4⟩ | ⟨g3, g4⟩ <;> (sym => (simp [etaM, etaF, z00,z01,z05,z06,z07,z08,z09,z0b,z0c,z0f,z0h,z0i,z0k,z0n,z0q,z0r,z0v,z0w,z0z,z12,z15,z16,z1e,z1f,z1j,z1k,z1l,z1m,z1r,z1u,z20,z21,z22,z23,z25,z26,z29,z2a,z2b,z2g,z2h,z2i,z2j,z2t,z2u,z2v,z33,z34,z3g,z3h,z3i,z3k,z3m,z3p,z4h,z4l,z4o,z4q,z4t,z54,z57,z59,z66,z67,z69,z6a,z6b,z6e,z6p,z6u,z7r,z7u,z7w,z8d,z9d,z9e,z9g,z9j,z9k,z9l,z9m,z9n,z9p,z9r,z9v,z9w,z9y,za0,za1,za2,za3,za5,za6,za7,za8,za9,zaa,zab,zae,zaf,zal,zaq,zas,zat,zba,zbc,zbd,zbe,zbf,zbg,zbk,zbt,zbu,zbw,zbx,zby,zbz,zc0,zc3,zc4,zc5,zc6,zc8,zca,zcc,zcd,zce,zcf,zcg,zch,zci,zcj,zcn,zco,zcq,zcr,zct,zcu,zcv,zcw,zcx,zcy,zd3,zd6,zd7,zdd,zdj,zdk,zdl,zdo,zds,zdt,zdu,zdv,zdw,zdx,ze2,ze3,zeo,zep,zf6,zf7,zf8,zf9,zfa,zfb,zfg,zfm,zfo,zfp,zfq,zfr,zfs,zft,zfu,zfv,zfw,zfx,zfy,zfz,zg0,zg1,zhf,zj9,zja,zjb,zjc, g0, g1, g2, g3, g4, g5, g6, g7, k0, k1, k2, k3, k4, hil]; all_goals tactic => exact rfl))
  · have g := eq_false h
    rw [seR_1 rfl h] at c
    rw [refP, if_neg h]
    rw [r27 (by simp)]; unfold x27; dsimp only
    (sym => (simp [etaM, etaF, z00,z01,z05,z06,z07,z08,z09,z0b,z0c,z0f,z0h,z0i,z0k,z0n,z0q,z0r,z0v,z0w,z0z,z12,z15,z16,z1e,z1f,z1j,z1k,z1l,z1m,z1r,z1u,z20,z21,z22,z23,z25,z26,z29,z2a,z2b,z2g,z2h,z2i,z2j,z2t,z2u,z2v,z33,z34,z3g,z3h,z3i,z3k,z3m,z3p,z4h,z4l,z4o,z4q,z4t,z54,z57,z59,z66,z67,z69,z6a,z6b,z6e,z6p,z6u,z7r,z7u,z7w,z8d,z9d,z9e,z9g,z9j,z9k,z9l,z9m,z9n,z9p,z9r,z9v,z9w,z9y,za0,za1,za2,za3,za5,za6,za7,za8,za9,zaa,zab,zae,zaf,zal,zaq,zas,zat,zba,zbc,zbd,zbe,zbf,zbg,zbk,zbt,zbu,zbw,zbx,zby,zbz,zc0,zc3,zc4,zc5,zc6,zc8,zca,zcc,zcd,zce,zcf,zcg,zch,zci,zcj,zcn,zco,zcq,zcr,zct,zcu,zcv,zcw,zcx,zcy,zd3,zd6,zd7,zdd,zdj,zdk,zdl,zdo,zds,zdt,zdu,zdv,zdw,zdx,ze2,ze3,zeo,zep,zf6,zf7,zf8,zf9,zfa,zfb,zfg,zfm,zfo,zfp,zfq,zfr,zfs,zft,zfu,zfv,zfw,zfx,zfy,zfz,zg0,zg1,zhf,zj9,zja,zjb,zjc, c, g]; all_goals tactic => exact rfl))

/-- What Prove returns. -/
def prR (U : Nat) (l : List Fl) : AV := if checkP U l = 0 then match clF (gI (-1) l l.length) U l U with
  | some r => .tup [rI r.1, I r.2, I 0]
  | none => .tup [.fs [], I 0, I 5]
  else .tup [.fs [], I 0, I (checkP U l)]
theorem w25 (U : Nat) (l : List Fl) (hn : l.length < 1000000) : runW progX 25 [plA U l] [] = some (prR U l, []) := by
  have c := w20 U l hn
  by_cases h : checkP U l = 0
  · obtain ⟨u1, u2, u3, u4⟩ := checkP_u h
    have e := w47 U l (by omega) hn (rngL_of h)
    have gc := eq_true h
    rw [prR, if_pos h]
    generalize clF (gI (-1) l l.length) U l U = r at *
    cases r with
    | none =>
      unfold clA at e
      rw [r25 (by simp)]; unfold x25; dsimp only
      (sym => (simp [etaM, etaF, z00,z01,z05,z06,z07,z09,z0b,z0c,z0f,z0n,z0r,z0v,z0z,z1e,z1j,z1r,z1u,z20,z21,z26,z2i,z2u,z4l,z4o,z4p,z4q,z54,z57,z59,z66,z67,z69,z6a,z6b,z6p,z6t,z6u,z6z,z7r,z7u,z7v,z7w,z81,z8d,z9d,z9e,z9g,z9j,z9k,z9l,z9m,z9n,z9p,z9y,za2,za3,za5,za6,za7,za8,zaa,zab,zaq,zas,zat,zba,zbc,zbd,zbf,zbg,zbk,zbt,zbu,zbw,zbx,zby,zbz,zc2,zc3,zc4,zc5,zc6,zc8,zce,zcf,zcg,zcj,zcn,zco,zcq,zcr,zct,zcu,zcv,zd3,zd6,zd7,zdk,zdl,zdo,zds,zdt,zdu,zdv,zdw,zdx,zdy,zdz,ze2,ze3,zeo,zep,zf6,zf7,zfa,zfg,zfm,zfo,zfp,zfq,zft,zfv,zg0,zg1, c, gc, e]; all_goals tactic => exact rfl))
    | some r =>
      unfold clA at e
      rw [r25 (by simp)]; unfold x25; dsimp only
      (sym => (simp [etaM, etaF, z00,z01,z05,z06,z07,z09,z0b,z0c,z0f,z0n,z0r,z0v,z0z,z1e,z1j,z1r,z1u,z20,z21,z26,z2i,z2u,z4l,z4o,z4p,z4q,z54,z57,z59,z66,z67,z69,z6a,z6b,z6p,z6t,z6u,z6z,z7r,z7u,z7v,z7w,z81,z8d,z9d,z9e,z9g,z9j,z9k,z9l,z9m,z9n,z9p,z9y,za2,za3,za5,za6,za7,za8,zaa,zab,zaq,zas,zat,zba,zbc,zbd,zbf,zbg,zbk,zbt,zbu,zbw,zbx,zby,zbz,zc2,zc3,zc4,zc5,zc6,zc8,zce,zcf,zcg,zcj,zcn,zco,zcq,zcr,zct,zcu,zcv,zd3,zd6,zd7,zdk,zdl,zdo,zds,zdt,zdu,zdv,zdw,zdx,zdy,zdz,ze2,ze3,zeo,zep,zf6,zf7,zfa,zfg,zfm,zfo,zfp,zfq,zft,zfv,zg0,zg1, c, gc, e]; all_goals tactic => exact rfl))
  · have g := eq_false h
    rw [prR, if_neg h]
    rw [r25 (by simp)]; unfold x25; dsimp only
    (sym => (simp [etaM, etaF, z00,z01,z05,z06,z07,z09,z0b,z0c,z0f,z0n,z0r,z0v,z0z,z1e,z1j,z1r,z1u,z20,z21,z26,z2i,z2u,z4l,z4o,z4p,z4q,z54,z57,z59,z66,z67,z69,z6a,z6b,z6p,z6t,z6u,z6z,z7r,z7u,z7v,z7w,z81,z8d,z9d,z9e,z9g,z9j,z9k,z9l,z9m,z9n,z9p,z9y,za2,za3,za5,za6,za7,za8,zaa,zab,zaq,zas,zat,zba,zbc,zbd,zbf,zbg,zbk,zbt,zbu,zbw,zbx,zby,zbz,zc2,zc3,zc4,zc5,zc6,zc8,zce,zcf,zcg,zcj,zcn,zco,zcq,zcr,zct,zcu,zcv,zd3,zd6,zd7,zdk,zdl,zdo,zds,zdt,zdu,zdv,zdw,zdx,zdy,zdz,ze2,ze3,zeo,zep,zf6,zf7,zfa,zfg,zfm,zfo,zfp,zfq,zft,zfv,zg0,zg1, c, g]; all_goals tactic => exact rfl))
theorem clF_units {g : Int → Int} {U : Nat} {l : List Fl} {r : List Int × Int} (hc : clF g U l U = some r) : ∃ n : Nat, n < U ∧ g n = n ∧ r.1 = usI g n U ∧ kd (exI (fun x => decide (x ∈ r.1)) (-1) l l.length) = some r.2 := by
  obtain ⟨n, hn1, hn2, hn3⟩ := cl_ix g U l
  rcases hn3 with ⟨_, h4⟩ | ⟨us, k, h3, h4, h5, h6, h7⟩
  · rw [hc] at h4; simp at h4
  · rw [hc] at h7
    simp only [Option.some.injEq] at h7
    rw [h7]
    exact ⟨n, h3, h4, h5, h6⟩
theorem w26 (U : Nat) (l : List Fl) (hn : l.length < 1000000) : runW progX 26 [plA U l] [] = some (prR U l, []) := by
  have c := w21 U l hn
  by_cases h : checkP U l = 0
  · obtain ⟨u1, u2, u3, u4⟩ := checkP_u h
    have e := w49 U l (by omega) hn (rngL_of h)
    have gc := eq_true h
    rw [prR, if_pos h]
    cases hc : clF (gI (-1) l l.length) U l U with
    | none =>
      rw [hc] at e
      unfold clB at e
      rw [r26 (by simp)]; unfold x26; dsimp only
      (sym => (simp [etaM, etaF, z00,z01,z05,z06,z07,z09,z0b,z0c,z0f,z0n,z0r,z0v,z1e,z1f,z1j,z1r,z1u,z20,z21,z2b,z2i,z2t,z2u,z3h,z4l,z4o,z4p,z4q,z54,z57,z59,z66,z69,z6a,z6b,z6p,z6t,z6u,z6z,z7r,z7u,z7v,z7w,z81,z8d,z9d,z9e,z9g,z9j,z9k,z9l,z9m,z9n,z9p,z9y,za2,za3,za5,za6,za7,za8,zaa,zab,zaq,zas,zat,zba,zbc,zbd,zbf,zbg,zbk,zbt,zbu,zbw,zbx,zby,zbz,zc2,zc3,zc4,zc5,zc6,zc8,zce,zcf,zcg,zcj,zcn,zco,zcq,zcr,zct,zcu,zcv,zcw,zd3,zd6,zd7,zdk,zdl,zdo,zds,zdt,zdu,zdv,zdw,zdx,zdy,zdz,ze2,ze3,zeo,zep,zf6,zf7,zfa,zfg,zfm,zfo,zfp,zfq,zft,zfv,zg0,zg1, c, gc, e]; all_goals tactic => exact rfl))
    | some r =>
      rw [hc] at e
      unfold clB at e
      obtain ⟨n, h1, h2, h3, h4⟩ := clF_units hc
      have hm : (n : Int) ∈ r.1 := by rw [h3]; exact (usI_mem _ n U n).2 ⟨by omega, by omega, h2⟩
      have hp := List.length_pos_of_mem hm
      have hu : ((r.1.length : Int) = 0) = False := eq_false (by omega)
      rw [r26 (by simp)]; unfold x26; dsimp only
      (sym => (simp [etaM, etaF, z00,z01,z05,z06,z07,z09,z0b,z0c,z0f,z0n,z0r,z0v,z1e,z1f,z1j,z1r,z1u,z20,z21,z2b,z2i,z2t,z2u,z3h,z4l,z4o,z4p,z4q,z54,z57,z59,z66,z69,z6a,z6b,z6p,z6t,z6u,z6z,z7r,z7u,z7v,z7w,z81,z8d,z9d,z9e,z9g,z9j,z9k,z9l,z9m,z9n,z9p,z9y,za2,za3,za5,za6,za7,za8,zaa,zab,zaq,zas,zat,zba,zbc,zbd,zbf,zbg,zbk,zbt,zbu,zbw,zbx,zby,zbz,zc2,zc3,zc4,zc5,zc6,zc8,zce,zcf,zcg,zcj,zcn,zco,zcq,zcr,zct,zcu,zcv,zcw,zd3,zd6,zd7,zdk,zdl,zdo,zds,zdt,zdu,zdv,zdw,zdx,zdy,zdz,ze2,ze3,zeo,zep,zf6,zf7,zfa,zfg,zfm,zfo,zfp,zfq,zft,zfv,zg0,zg1, c, gc, e, hu]; all_goals tactic => exact rfl))
  · have g := eq_false h
    rw [prR, if_neg h]
    rw [r26 (by simp)]; unfold x26; dsimp only
    (sym => (simp [etaM, etaF, z00,z01,z05,z06,z07,z09,z0b,z0c,z0f,z0n,z0r,z0v,z1e,z1f,z1j,z1r,z1u,z20,z21,z2b,z2i,z2t,z2u,z3h,z4l,z4o,z4p,z4q,z54,z57,z59,z66,z69,z6a,z6b,z6p,z6t,z6u,z6z,z7r,z7u,z7v,z7w,z81,z8d,z9d,z9e,z9g,z9j,z9k,z9l,z9m,z9n,z9p,z9y,za2,za3,za5,za6,za7,za8,zaa,zab,zaq,zas,zat,zba,zbc,zbd,zbf,zbg,zbk,zbt,zbu,zbw,zbx,zby,zbz,zc2,zc3,zc4,zc5,zc6,zc8,zce,zcf,zcg,zcj,zcn,zco,zcq,zcr,zct,zcu,zcv,zcw,zd3,zd6,zd7,zdk,zdl,zdo,zds,zdt,zdu,zdv,zdw,zdx,zdy,zdz,ze2,ze3,zeo,zep,zf6,zf7,zfa,zfg,zfm,zfo,zfp,zfq,zft,zfv,zg0,zg1, c, g]; all_goals tactic => exact rfl))
end Go.Proofs.Ytdbikamciedfdaa
namespace Go.Proofs.Ytdbikamciedfdaa
open Go Go.DL
set_option maxRecDepth 100000
set_option maxHeartbeats 1000000

/-- What a flow that is not measured joins. -/
theorem gI_joined {wo : Int} {l : List Fl} {i : Nat} {x : Fl} (hx : l[i]? = some x) (hm : x.me = false) (hw : ¬ (i : Int) = wo) : ∀ n, i < n → gI wo l n x.fr = gI wo l n x.to
  | 0, h => by omega
  | n + 1, h => by
    by_cases hn : i = n
    · subst hn
      simp only [gI, hx, hm, Bool.false_or, decide_eq_false hw]
      generalize gI wo l i x.fr = a
      generalize gI wo l i x.to = b
      simp only [Bool.false_eq_true, if_false]
      unfold mx mn
      (repeat' split) <;> omega
    · have ih := gI_joined hx hm hw n (by omega)
      cases hy : l[n]? with
      | none => simp only [gI, hy]; exact ih
      | some y => simp only [gI, hy, ih]
theorem usI_sorted (g : Int → Int) (u : Int) : ∀ v, (usI g u v).Pairwise (· < ·)
  | 0 => List.Pairwise.nil
  | v + 1 => by
    have ih := usI_sorted g u v
    rw [usI]
    split
    · rw [List.pairwise_append]
      refine ⟨ih, List.pairwise_singleton _ _, fun a ha b hb => ?_⟩
      simp only [List.mem_singleton] at hb
      have := (usI_mem g u v a).1 ha
      omega
    · exact ih
theorem selE_ok {U : Int} (h1 : 1 ≤ U) (h2 : U ≤ 8) : ∀ (us : List Int) (last : Int), us.Pairwise (· < ·) → (∀ u ∈ us, 0 ≤ u ∧ u < U ∧ last < u) → selE U last us = 0
  | [], _, _, _ => rfl
  | u :: r, last, hp, h => by
    obtain ⟨k1, k2, k3⟩ := h u (by simp)
    obtain ⟨p1, p2⟩ := List.pairwise_cons.1 hp
    have hb : btw 0 u (wr (U - 1)) = true := by
      rw [show wr (U - 1) = U - 1 from wrap_ok (by omega) (by omega)]
      simp only [btw, Bool.and_eq_true, decide_eq_true_eq]
      omega
    rw [selE, if_pos hb, if_neg (by omega)]
    exact selE_ok h1 h2 r u p2 fun x hx => ⟨(h x (by simp [hx])).1, (h x (by simp [hx])).2.1, p1 x hx⟩
theorem kd_btw {m : Ms} {k : Int} (h : kd m = some k) : btw 0 k 3 = true ∧ exK m k ≠ 0 := by
  rcases kd_cases m with ⟨_, h5⟩ | ⟨q1, h5⟩ | ⟨⟨_, q1⟩, h5⟩ | ⟨⟨_, _, q1⟩, h5⟩ | ⟨⟨_, _, _, q1⟩, h5⟩
  · rw [h] at h5; simp at h5
  all_goals (rw [h] at h5; simp only [Option.some.injEq] at h5; subst h5)
  all_goals refine ⟨rfl, ?_⟩
  all_goals simp [exK, q1]
theorem gI_m1 {U : Nat} {l : List Fl} (h : checkP U l = 0) (wo : Int) (i : Nat) : gI wo l i (-1) = -1 := by
  have := gI_ok h wo i (-1) (by omega) (by omega)
  omega
theorem prove_ok {U : Nat} {l : List Fl} (h : checkP U l = 0) {r : List Int × Int} (hc : clF (gI (-1) l l.length) U l U = some r) : refP U l r.1 r.2 = 0 := by
  obtain ⟨u1, u2, u3, u4⟩ := checkP_u h
  obtain ⟨n, h1, h2, h3, h4⟩ := clF_units hc
  have hm : (n : Int) ∈ r.1 := by rw [h3]; exact (usI_mem _ n U n).2 ⟨by omega, by omega, h2⟩
  have hne : r.1 ≠ [] := fun e => by rw [e] at hm; simp at hm
  have hs : selE U (-1) r.1 = 0 := by
    apply selE_ok u1 u2
    · rw [h3]; exact usI_sorted ..
    · intro u hu
      rw [h3] at hu
      have := (usI_mem _ n U u).1 hu
      omega
  have hce : chE U l r.1 = 0 := by rw [chE, if_pos h, if_neg hne, hs]
  obtain ⟨k1, k2⟩ := kd_btw h4
  have hex : exU l r.1 = exI (fun x => decide (x ∈ r.1)) (-1) l l.length := rfl
  have hcr : l.any (crossP r.1) = false := by
    rw [List.any_eq_false]
    intro x hx
    unfold crossP
    cases hme : x.me with
    | true => simp
    | false =>
      obtain ⟨i, hi, he⟩ := List.mem_iff_getElem.1 hx
      have hj := gI_joined (wo := -1) (l := l) (i := i) (x := x) (by rw [List.getElem?_eq_getElem hi, he]) hme (by omega) l.length hi
      obtain ⟨r1, r2, r3, r4⟩ := rngL_of h x hx
      have m1 := gI_m1 h (-1) l.length
      have e : (x.fr ∈ r.1) ↔ (x.to ∈ r.1) := by
        rw [h3, usI_mem, usI_mem, hj]
        constructor
        · rintro ⟨a, b, c⟩
          refine ⟨?_, r4, c⟩
          by_cases ht : x.to = -1
          · rw [ht, m1] at c; omega
          · omega
        · rintro ⟨a, b, c⟩
          refine ⟨?_, r2, c⟩
          by_cases ht : x.fr = -1
          · rw [← hj, ht, m1] at c; omega
          · omega
      simp [e]
  rw [refP, if_pos hce, if_pos k1, hex, if_neg k2, hcr]
  rfl

theorem w27i (U : Int) (l : List Fl) (us : List Int) (k : Int) (hn : l.length < 1000000) (hu : us.length < 1000000) : runW progX 27 [plA U l, rI us, I k] [] = some (I (refP U l us k), []) := by
  rcases nat_or U with ⟨n, rfl⟩ | h
  · exact w27 n l us k hn hu
  · have hh := neg_check h l
    have c := w40i U l us hn h
    have g := eq_false hh
    rw [refP, neg_che h, if_neg hh]
    rw [r27 (by simp)]; unfold x27; dsimp only
    (sym => (simp [etaM, etaF, z00,z01,z05,z06,z07,z09,z0b,z0c,z0f,z0n,z0r,z0v,z1e,z1j,z1r,z1u,z20,z21,z2i,z2u,z4l,z4o,z4q,z54,z57,z59,z66,z69,z6a,z6b,z6p,z6u,z7r,z7u,z7w,z8d,z9d,z9e,z9g,z9j,z9k,z9l,z9m,z9n,z9p,z9y,za2,za3,za5,za6,za7,za8,zaa,zab,zaq,zas,zat,zba,zbc,zbd,zbe,zbf,zbg,zbk,zbt,zbu,zbw,zbx,zby,zbz,zc0,zc3,zc4,zc5,zc6,zc8,zce,zcf,zcj,zcn,zco,zcq,zcr,zct,zcu,zcv,zd3,zd7,zdl,zdo,zds,zdt,zdu,zdv,zdw,zdx,ze2,ze3,zeo,zep,zf6,zf7,zfa,zfg,zfm,zfo,zfp,zft,zfv,zg0,zg1, c, g]; all_goals tactic => exact rfl))
/-- What both return, and that it proves. -/
theorem wpr (U : Int) (l : List Fl) (hn : l.length < 1000000) : ∃ (us : List Int) (k e : Int), runW progX 25 [plA U l] [] = some (.tup [rI us, I k, I e], []) ∧ runW progX 26 [plA U l] [] = some (.tup [rI us, I k, I e], []) ∧
    (((e = 0) = True ∧ us.length < 1000000 ∧ refP U l us k = 0) ∨ ((e = 0) = False ∧ us = [] ∧ k = 0)) := by
  rcases nat_or U with ⟨n, rfl⟩ | h
  · have c1 := w25 n l hn
    have c2 := w26 n l hn
    unfold prR at c1 c2
    by_cases h : checkP n l = 0
    · rw [if_pos h] at c1 c2
      cases hc : clF (gI (-1) l l.length) n l n with
      | none =>
        rw [hc] at c1 c2
        exact ⟨[], 0, 5, c1, c2, .inr ⟨eq_false (by decide), rfl, rfl⟩⟩
      | some r =>
        rw [hc] at c1 c2
        obtain ⟨m, h1, h2, h3, h4⟩ := clF_units hc
        have hl := usI_len (gI (-1) l l.length) m n
        have := checkP_u h
        exact ⟨r.1, r.2, 0, c1, c2, .inl ⟨eq_true rfl, by rw [h3]; omega, prove_ok h hc⟩⟩
    · rw [if_neg h] at c1 c2
      exact ⟨[], 0, _, c1, c2, .inr ⟨eq_false h, rfl, rfl⟩⟩
  · have hc := neg_check h l
    have g := eq_false hc
    have c1 := w20 U l hn
    have c2 := w21 U l hn
    refine ⟨[], 0, checkP U l, ?_, ?_, .inr ⟨g, rfl, rfl⟩⟩
    · rw [r25 (by simp)]; unfold x25; dsimp only
      (sym => (simp [etaM, etaF, z00,z01,z05,z06,z07,z09,z0b,z0c,z0f,z0n,z0r,z0v,z1j,z1r,z1u,z20,z21,z2u,z4l,z4o,z4p,z4q,z54,z57,z59,z66,z69,z6a,z6b,z6p,z6t,z6z,z7r,z7u,z7v,z7w,z81,z8d,z9d,z9e,z9g,z9j,z9k,z9l,z9m,z9n,z9y,za2,za3,za5,za6,za7,za8,zaa,zab,zaq,zas,zat,zba,zbc,zbd,zbf,zbg,zbk,zbt,zbu,zbw,zbx,zby,zbz,zc2,zc3,zc4,zc5,zc6,zc8,zce,zcf,zcj,zcn,zco,zcq,zcr,zct,zcu,zcv,zd3,zd7,zdl,zdo,zds,zdt,zdu,zdv,zdw,zdx,zdy,zdz,ze2,ze3,zeo,zep,zf6,zf7,zfa,zfg,zfm,zfo,zfp,zft,zfv,zg0,zg1, c1, g]; all_goals tactic => exact rfl))
    · rw [r26 (by simp)]; unfold x26; dsimp only
      (sym => (simp [etaM, etaF, z00,z01,z05,z06,z07,z09,z0b,z0c,z0f,z0n,z0r,z0v,z1j,z1r,z1u,z20,z21,z2u,z4l,z4o,z4p,z4q,z54,z57,z59,z66,z69,z6a,z6b,z6p,z6t,z6z,z7r,z7u,z7v,z7w,z81,z8d,z9d,z9e,z9g,z9j,z9k,z9l,z9m,z9n,z9y,za2,za3,za5,za6,za7,za8,zaa,zab,zaq,zas,zat,zba,zbc,zbd,zbf,zbg,zbk,zbt,zbu,zbw,zbx,zby,zbz,zc2,zc3,zc4,zc5,zc6,zc8,zce,zcf,zcj,zcn,zco,zcq,zcr,zct,zcu,zcv,zd3,zd7,zdl,zdo,zds,zdt,zdu,zdv,zdw,zdx,zdy,zdz,ze2,ze3,zeo,zep,zf6,zf7,zfa,zfg,zfm,zfo,zfp,zft,zfv,zg0,zg1, c2, g]; all_goals tactic => exact rfl))
theorem w5 (U : Int) (l : List Fl) (us : List Int) (k : Int) : runW progX 5 [plA U l, rI us, I k] [] = some (.bool true, []) := by
  by_cases h2 : 40 < l.length
  · have g2 : ((40 : Int) < (l.length : Int)) = True := eq_true (by omega)
    rw [r5 (by simp)]; unfold x5; dsimp only
    (sym => (simp [etaM, etaF, z00,z01,z02,z04,z05,z06,z07,z09,z0a,z0b,z0c,z0f,z0h,z0i,z0j,z0k,z0l,z0m,z0n,z0o,z0q,z0r,z0v,z12,z1e,z1f,z1j,z1k,z1m,z1n,z1o,z1p,z1r,z1u,z1v,z1w,z20,z21,z22,z23,z29,z2b,z2i,z2t,z2u,z2x,z3h,z4l,z4m,z4o,z4q,z54,z57,z59,z5e,z66,z67,z69,z6a,z6b,z6p,z6q,z6u,z7r,z7s,z7u,z7w,z8d,z9d,z9e,z9g,z9i,z9j,z9k,z9l,z9m,z9n,z9p,z9y,za2,za3,za5,za6,za7,za8,zaa,zab,zaq,zas,zat,zav,zaw,zax,zaz,zba,zbc,zbd,zbe,zbf,zbg,zbk,zbt,zbu,zbw,zbx,zby,zbz,zc0,zc3,zc4,zc5,zc6,zc8,zce,zcf,zcg,zcj,zcn,zco,zcp,zcq,zcr,zct,zcu,zcv,zcw,zd3,zd6,zd7,zd8,zd9,zdd,zdk,zdl,zdm,zdn,zdo,zds,zdt,zdu,zdv,zdw,zdx,ze2,ze3,ze9,zeo,zep,zf6,zf7,zfa,zfb,zfc,zfd,zfg,zfm,zfo,zfp,zfq,zft,zfv,zg0,zg1, g2, works_w]; all_goals tactic => exact rfl))
  have g2 : ((40 : Int) < (l.length : Int)) = False := eq_false (by omega)
  by_cases h3 : 40 < us.length
  · have g3 : ((40 : Int) < (us.length : Int)) = True := eq_true (by omega)
    rw [r5 (by simp)]; unfold x5; dsimp only
    (sym => (simp [etaM, etaF, z00,z01,z02,z04,z05,z06,z07,z09,z0a,z0b,z0c,z0f,z0h,z0i,z0j,z0k,z0l,z0m,z0n,z0o,z0q,z0r,z0v,z12,z1e,z1f,z1j,z1k,z1m,z1n,z1o,z1p,z1r,z1u,z1v,z1w,z20,z21,z22,z23,z29,z2b,z2i,z2t,z2u,z2x,z3h,z4l,z4m,z4o,z4q,z54,z57,z59,z5e,z66,z67,z69,z6a,z6b,z6p,z6q,z6u,z7r,z7s,z7u,z7w,z8d,z9d,z9e,z9g,z9i,z9j,z9k,z9l,z9m,z9n,z9p,z9y,za2,za3,za5,za6,za7,za8,zaa,zab,zaq,zas,zat,zav,zaw,zax,zaz,zba,zbc,zbd,zbe,zbf,zbg,zbk,zbt,zbu,zbw,zbx,zby,zbz,zc0,zc3,zc4,zc5,zc6,zc8,zce,zcf,zcg,zcj,zcn,zco,zcp,zcq,zcr,zct,zcu,zcv,zcw,zd3,zd6,zd7,zd8,zd9,zdd,zdk,zdl,zdm,zdn,zdo,zds,zdt,zdu,zdv,zdw,zdx,ze2,ze3,ze9,zeo,zep,zf6,zf7,zfa,zfb,zfc,zfd,zfg,zfm,zfo,zfp,zfq,zft,zfv,zg0,zg1, g2, g3, works_w]; all_goals tactic => exact rfl))
  have g3 : ((40 : Int) < (us.length : Int)) = False := eq_false (by omega)
  have c15 := w15 U l (by omega)
  have c28 := w28 U l us k (by omega) (by omega)
  have c27 := w27i U l us k (by omega) (by omega)
  obtain ⟨vs, j, e, c1, c2, he⟩ := wpr U l (by omega)
  rcases he with ⟨he, hv, h0⟩ | ⟨he, rfl, rfl⟩
  · have c3 := w27i U l vs j (by omega) hv
    rw [h0] at c3
    have he' := of_eq_true he
    subst he'
    rw [r5 (by simp)]; unfold x5; dsimp only
    (sym => (simp [etaM, etaF, z00,z01,z02,z04,z05,z06,z07,z09,z0a,z0b,z0c,z0f,z0h,z0i,z0j,z0k,z0l,z0m,z0n,z0o,z0q,z0r,z0v,z12,z1e,z1f,z1j,z1k,z1m,z1n,z1o,z1p,z1r,z1u,z1v,z1w,z20,z21,z22,z23,z29,z2b,z2i,z2t,z2u,z2x,z3h,z4l,z4m,z4o,z4q,z54,z57,z59,z5e,z66,z67,z69,z6a,z6b,z6p,z6q,z6u,z7r,z7s,z7u,z7w,z8d,z9d,z9e,z9g,z9i,z9j,z9k,z9l,z9m,z9n,z9p,z9y,za2,za3,za5,za6,za7,za8,zaa,zab,zaq,zas,zat,zav,zaw,zax,zaz,zba,zbc,zbd,zbe,zbf,zbg,zbk,zbt,zbu,zbw,zbx,zby,zbz,zc0,zc3,zc4,zc5,zc6,zc8,zce,zcf,zcg,zcj,zcn,zco,zcp,zcq,zcr,zct,zcu,zcv,zcw,zd3,zd6,zd7,zd8,zd9,zdd,zdk,zdl,zdm,zdn,zdo,zds,zdt,zdu,zdv,zdw,zdx,ze2,ze3,ze9,zeo,zep,zf6,zf7,zfa,zfb,zfc,zfd,zfg,zfm,zfo,zfp,zfq,zft,zfv,zg0,zg1, g2, g3, works_w, c15, c28, c27, c1, c2, c3, he]; all_goals tactic => exact rfl))
  · rw [r5 (by simp)]; unfold x5; dsimp only
    (sym => (simp [etaM, etaF, z00,z01,z02,z04,z05,z06,z07,z09,z0a,z0b,z0c,z0f,z0h,z0i,z0j,z0k,z0l,z0m,z0n,z0o,z0q,z0r,z0v,z12,z1e,z1f,z1j,z1k,z1m,z1n,z1o,z1p,z1r,z1u,z1v,z1w,z20,z21,z22,z23,z29,z2b,z2i,z2t,z2u,z2x,z3h,z4l,z4m,z4o,z4q,z54,z57,z59,z5e,z66,z67,z69,z6a,z6b,z6p,z6q,z6u,z7r,z7s,z7u,z7w,z8d,z9d,z9e,z9g,z9i,z9j,z9k,z9l,z9m,z9n,z9p,z9y,za2,za3,za5,za6,za7,za8,zaa,zab,zaq,zas,zat,zav,zaw,zax,zaz,zba,zbc,zbd,zbe,zbf,zbg,zbk,zbt,zbu,zbw,zbx,zby,zbz,zc0,zc3,zc4,zc5,zc6,zc8,zce,zcf,zcg,zcj,zcn,zco,zcp,zcq,zcr,zct,zcu,zcv,zcw,zd3,zd6,zd7,zd8,zd9,zdd,zdk,zdl,zdm,zdn,zdo,zds,zdt,zdu,zdv,zdw,zdx,ze2,ze3,ze9,zeo,zep,zf6,zf7,zfa,zfb,zfc,zfd,zfg,zfm,zfo,zfp,zfq,zft,zfv,zg0,zg1, g2, g3, works_w, c15, c28, c27, c1, c2, he]; all_goals tactic => exact rfl))
end Go.Proofs.Ytdbikamciedfdaa
namespace Go.Proofs.Ytdbikamciedfdaa
open Go Go.DL Go.ChangeShapes Go.WideShapes Go.ChangeAt Go.RowKit

theorem own : ownKnob Try.prog.godebug = none := by kernel_rfl
theorem laid : laidOutB Try.prog = true := by kernel_rfl

abbrev rowT : List CT := [.int .i64, .int .i64, .bool, .int .i64, .int .i64, .int .i64, .int .i64]
theorem flat36 : Flat Try.prog 36 [.int .i64, .int .i64, .int .i64, .int .i64] := .array (n := 4) Try.underlying36 (.int Try.underlying3) (by kernel_rfl) (by kernel_rfl)
theorem flat73 : Flat Try.prog 73 rowT := Flat.mk (rs := [[.int .i64], [.int .i64], [.bool], [.int .i64, .int .i64, .int .i64, .int .i64]]) Try.underlying73 ⟨.int Try.underlying3, by kernel_rfl, rfl, .int Try.underlying3, by kernel_rfl, rfl, .bool Try.underlying4, by kernel_rfl, rfl, flat36, by kernel_rfl, rfl, trivial⟩ (by kernel_rfl)
theorem flat22 : Flat Try.prog 22 [.sl rowT] := .sl Try.underlying22 flat73 (by kernel_rfl) (by decide)
theorem flat24 : Flat Try.prog 24 [.int .i64, .sl rowT] := Flat.mk (rs := [[.int .i64], [.sl rowT]]) Try.underlying24 ⟨.int Try.underlying3, by kernel_rfl, rfl, flat22, by kernel_rfl, rfl, trivial⟩ (by kernel_rfl)
theorem flat25 : Flat Try.prog 25 [.sl [.int .i64]] := .sl Try.underlying25 (.int Try.underlying3) (by kernel_rfl) (by decide)

theorem row_of {row : List AV} (hl : row.length = 7) (h : ∀ (i : Nat) (c : CT) (a : AV), rowT[i]? = some c → row[i]? = some a → Sh c a) : ∃ x : Fl, row = x.row := by
  match row, hl with
  | [a0, a1, a2, a3, a4, a5, a6], _ =>
    cases h 0 _ _ rfl rfl with
    | int _ n0 _ =>
    cases h 1 _ _ rfl rfl with
    | int _ n1 _ =>
    cases h 2 _ _ rfl rfl with
    | bool b2 =>
    cases h 3 _ _ rfl rfl with
    | int _ n3 _ =>
    cases h 4 _ _ rfl rfl with
    | int _ n4 _ =>
    cases h 5 _ _ rfl rfl with
    | int _ n5 _ =>
    cases h 6 _ _ rfl rfl with
    | int _ n6 _ => exact ⟨⟨n0, n1, b2, ⟨n3, n4, n5, n6⟩⟩, rfl⟩
theorem rows_of : ∀ {rows : List (List AV)}, (∀ row ∈ rows, row.length = 7) → (∀ row ∈ rows, ∀ (i : Nat) (c : CT) (a : AV), rowT[i]? = some c → row[i]? = some a → Sh c a) → ∃ l : List Fl, rows = l.map Fl.row
  | [], _, _ => ⟨[], rfl⟩
  | r :: rows, h1, h2 => by
    obtain ⟨l, rfl⟩ := rows_of (rows := rows) (fun row hr => h1 row (by simp [hr])) (fun row hr => h2 row (by simp [hr]))
    obtain ⟨x, rfl⟩ := row_of (h1 r (by simp)) (h2 r (by simp))
    exact ⟨x :: l, rfl⟩
theorem plant_of {xs : List AV} (hl : xs.length = 2) (h : ∀ (i : Nat) (c : CT) (a : AV), ([.int .i64, .sl rowT] : List CT)[i]? = some c → xs[i]? = some a → Sh c a) : ∃ U l, AV.agg xs = plA U l ∧ Gd (plA U l) := by
  match xs, hl with
  | [a0, a1], _ =>
    have s1 := h 1 _ _ rfl rfl
    have g1 := s1.gd
    cases h 0 _ _ rfl rfl with
    | int _ n0 _ =>
    cases s1 with
    | sl _ rows h1 _ h2 =>
      obtain ⟨l, rfl⟩ := rows_of h1 h2
      refine ⟨n0, l, rfl, .agg _ fun c hc => ?_⟩
      simp only [List.mem_cons, List.not_mem_nil, or_false] at hc
      rcases hc with rfl | rfl
      · exact .int _ _
      · exact g1
theorem ints_of {a : AV} (h : Sh (.sl [.int .i64]) a) : ∃ us, a = rI us := by
  cases h with
  | sl _ rows h1 _ h2 =>
    have key : ∀ rows : List (List AV), (∀ row ∈ rows, row.length = 1) → (∀ row ∈ rows, ∀ (i : Nat) (c : CT) (a : AV), ([.int .i64] : List CT)[i]? = some c → row[i]? = some a → Sh c a) → ∃ us : List Int, rows = us.map fun v => [I v] := by
      intro rows
      induction rows with
      | nil => intro _ _; exact ⟨[], rfl⟩
      | cons r rows ih =>
        intro h1 h2
        obtain ⟨us, rfl⟩ := ih (fun row hr => h1 row (by simp [hr])) (fun row hr => h2 row (by simp [hr]))
        have hl := h1 r (by simp)
        have hs := h2 r (by simp)
        match r, hl with
        | [a0], _ =>
          cases hs 0 _ _ rfl rfl with
          | int _ n0 _ => exact ⟨n0 :: us, rfl⟩
    obtain ⟨us, rfl⟩ := key rows h1 h2
    exact ⟨us, rfl⟩
theorem str_of {a : AV} (h : Sh .str a) : ∃ s, a = .str s := by cases h; exact ⟨_, rfl⟩
theorem int_of {k : IntKind} {a : AV} (h : Sh (.int k) a) : ∃ n, a = .int k n ∧ (Lit.int k n).wf = true := by cases h; exact ⟨_, rfl, by assumption⟩

section
variable {H : Type} {enc : TypeId × Value → H} {P : Program} {w : World} {r : Reach} {base : Nat}
theorem okWide_agg {t : TypeId} {fs : Array Field} (ht : P.underlying t = some (.struct fs)) {v : Value} (h : Value.okWide P w r base t v) : ∃ vs, v = .agg vs := by
  unfold Value.okWide at h
  rw [ht] at h
  obtain ⟨cs, h, _⟩ := h
  exact ⟨cs, h⟩
theorem args_1 {a : AV} {v : Value} {F : Nat → Prop} (h : Rv F w a v) : Args F w [a] #[v] := ⟨rfl, fun i a' v' h1 h2 => by
  match i with
  | 0 => simp at h1 h2; rw [← h1, ← h2]; exact h
  | i + 1 => simp at h1⟩
theorem args_3 {a b c : AV} {u v x : Value} {F : Nat → Prop} (h1 : Rv F w a u) (h2 : Rv F w b v) (h3 : Rv F w c x) : Args F w [a, b, c] #[u, v, x] := ⟨rfl, fun i a' v' e1 e2 => by
  match i with
  | 0 => simp at e1 e2; rw [← e1, ← e2]; exact h1
  | 1 => simp at e1 e2; rw [← e1, ← e2]; exact h2
  | 2 => simp at e1 e2; rw [← e1, ← e2]; exact h3
  | i + 3 => simp at e1⟩
end
end Go.Proofs.Ytdbikamciedfdaa
