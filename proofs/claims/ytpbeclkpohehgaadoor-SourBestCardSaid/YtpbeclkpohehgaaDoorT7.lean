/- Parts of a proof, joined: K48 K49 K50 K51 K52 K53 K54 K55 K56 K57 K58 K59 K60. No statement of the seed is proved here. -/
import Derived.Test.YtpbeclkpohehgaaDoorT6
set_option linter.unusedSimpArgs false
set_option linter.unusedVariables false
set_option linter.unusedSectionVars false
namespace Go.Proofs.YtpbeclkpohehgaaDoor
open Go Go.DL
set_option maxRecDepth 100000
set_option maxHeartbeats 4000000
def putT (x : P5) (i : Nat) (T : List Int) : List Int := if 128 < x.e ∧ T ≠ [] then (i : Int) :: T else T ++ [(i : Int)]
def neL : List Int → Nat
  | [] => 0
  | _ => 1
abbrev csT (T0 T1 T2 : List Int) : List AV := [oS 6 T0,oS (6 + neL T0) T1,oS (6 + neL T0 + neL T1) T2]
abbrev bsT (T0 T1 T2 : List Int) : XH := oG T0 ++ oG T1 ++ oG T2
abbrev upT (x : P5) (i t : Nat) (T : List Int) : List Int := if x.e / 2 % 3 = t then putT x i T else T
theorem rj39_0 {q : Qu} (hq : q.Ok) {x : P5} (hx : q.ls[0]? = some x) :
    headX 0 [1,2,3,10,11] (execW progX 39 0 none (match x39l2 with | .loop _ a => a | c => c) (envL [1,2,3,10,11] [.pt 0 0,.pt 1 0,.pt 2 0,.pt 4 0,I 0]) (hN0 q)) =
      some ([.pt 0 0,.pt 1 0,.pt 2 0,.pt 5 0,I 1],hN q [x.ld] 1 (csT (upT x 0 0 []) (upT x 0 1 []) (upT x 0 2 [])) (bsT (upT x 0 0 []) (upT x 0 1 []) (upT x 0 2 []))) := by
  have ht : x.e / 2 % 3 = 0 ∨ x.e / 2 % 3 = 1 ∨ x.e / 2 % 3 = 2 := by omega
  have p0 : putT x 0 [] = [0] := by unfold putT; rw [if_neg (by simp)]; rfl
  unfold upT
  rw [p0]
  rcases ht with ht | ht | ht
  · rw [if_pos ht,if_neg (show ¬ x.e / 2 % 3 = 1 by omega),if_neg (show ¬ x.e / 2 % 3 = 2 by omega)]
    exact r39_000_0 hq hx ht
  · rw [if_pos ht,if_neg (show ¬ x.e / 2 % 3 = 0 by omega),if_neg (show ¬ x.e / 2 % 3 = 2 by omega)]
    exact r39_000_1 hq hx ht
  · rw [if_pos ht,if_neg (show ¬ x.e / 2 % 3 = 0 by omega),if_neg (show ¬ x.e / 2 % 3 = 1 by omega)]
    exact r39_000_2 hq hx ht
theorem rj39 {q : Qu} (hq : q.Ok) {x : P5} {i : Nat} (hi : i < 5) (hx : q.ls[i]? = some x) {L : List Ld} (hL : L.length = i) (T0 T1 T2 : List Int) (ne : T0 ≠ [] ∨ T1 ≠ [] ∨ T2 ≠ []) (l0 : T0.length ≤ 6) (l1 : T1.length ≤ 6) (l2 : T2.length ≤ 6) :
    headX 0 [1,2,3,10,11] (execW progX 39 0 none (match x39l2 with | .loop _ a => a | c => c) (envL [1,2,3,10,11] [.pt 0 0,.pt 1 0,.pt 2 0,.pt 5 0,I (i : Nat)]) (hN q L i (csT T0 T1 T2) (bsT T0 T1 T2))) =
      some ([.pt 0 0,.pt 1 0,.pt 2 0,.pt 5 0,I (i + 1 : Nat)],hN q (L ++ [x.ld]) (i + 1) (csT (upT x i 0 T0) (upT x i 1 T1) (upT x i 2 T2)) (bsT (upT x i 0 T0) (upT x i 1 T1) (upT x i 2 T2))) := by
  have ht : x.e / 2 % 3 = 0 ∨ x.e / 2 % 3 = 1 ∨ x.e / 2 % 3 = 2 := by omega
  have pe : putT x i [] = [(i : Int)] := by unfold putT; rw [if_neg (by simp)]; rfl
  have pp : ∀ a r,128 < x.e → putT x i (a :: r) = (i : Int) :: a :: r := fun a r h => by unfold putT; rw [if_pos ⟨h,by simp⟩]
  have pa : ∀ a r,¬ 128 < x.e → putT x i (a :: r) = a :: (r ++ [(i : Int)]) := fun a r h => by unfold putT; rw [if_neg fun hc => h hc.1]; rfl
  have ap : ∀ (a : Int) r,oG (a :: (r ++ [(i : Int)])) = [some (.blk true (.cells true (I a :: (r.map I ++ [I (i : Nat)]))))] := fun a r => by
    show [some (XB.blk true (.cells true (I a :: (r ++ [(i : Int)]).map I)))] = _
    rw [List.map_append]; rfl
  have al : ∀ p (a : Int) r,oS p (a :: (r ++ [(i : Int)])) = .sl p 0 1 (r.length + 1 + 1) := fun p a r => by
    show AV.sl p 0 1 ((r ++ [(i : Int)]).length + 1) = _
    rw [List.length_append]; rfl
  unfold upT csT bsT
  rcases T0 with _ | ⟨a0,r0⟩
  all_goals rcases T1 with _ | ⟨a1,r1⟩
  all_goals rcases T2 with _ | ⟨a2,r2⟩
  all_goals rcases ht with ht | ht | ht
  · simp at ne
  · simp at ne
  · simp at ne
  · rw [if_pos ht,if_neg (show ¬ x.e / 2 % 3 = 1 by omega),if_neg (show ¬ x.e / 2 % 3 = 2 by omega)]
    rw [pe]
    exact r39_001_0 hq hi hx ht hL a2 r2 (by simp at l2; omega)
  · rw [if_pos ht,if_neg (show ¬ x.e / 2 % 3 = 0 by omega),if_neg (show ¬ x.e / 2 % 3 = 2 by omega)]
    rw [pe]
    exact r39_001_1 hq hi hx ht hL a2 r2 (by simp at l2; omega)
  · rw [if_pos ht,if_neg (show ¬ x.e / 2 % 3 = 0 by omega),if_neg (show ¬ x.e / 2 % 3 = 1 by omega)]
    by_cases h8 : 128 < x.e
    · rw [pp _ _ h8]
      exact r39_001_2p hq hi hx ht h8 hL a2 r2 (by simp at l2; omega)
    · rw [pa _ _ h8,ap,al]
      exact r39_001_2 hq hi hx ht h8 hL a2 r2 (by simp at l2; omega)
  · rw [if_pos ht,if_neg (show ¬ x.e / 2 % 3 = 1 by omega),if_neg (show ¬ x.e / 2 % 3 = 2 by omega)]
    rw [pe]
    exact r39_010_0 hq hi hx ht hL a1 r1 (by simp at l1; omega)
  · rw [if_pos ht,if_neg (show ¬ x.e / 2 % 3 = 0 by omega),if_neg (show ¬ x.e / 2 % 3 = 2 by omega)]
    by_cases h8 : 128 < x.e
    · rw [pp _ _ h8]
      exact r39_010_1p hq hi hx ht h8 hL a1 r1 (by simp at l1; omega)
    · rw [pa _ _ h8,ap,al]
      exact r39_010_1 hq hi hx ht h8 hL a1 r1 (by simp at l1; omega)
  · rw [if_pos ht,if_neg (show ¬ x.e / 2 % 3 = 0 by omega),if_neg (show ¬ x.e / 2 % 3 = 1 by omega)]
    rw [pe]
    exact r39_010_2 hq hi hx ht hL a1 r1 (by simp at l1; omega)
  · rw [if_pos ht,if_neg (show ¬ x.e / 2 % 3 = 1 by omega),if_neg (show ¬ x.e / 2 % 3 = 2 by omega)]
    rw [pe]
    exact r39_011_0 hq hi hx ht hL a1 a2 r1 r2 (by simp at l1; omega) (by simp at l2; omega)
  · rw [if_pos ht,if_neg (show ¬ x.e / 2 % 3 = 0 by omega),if_neg (show ¬ x.e / 2 % 3 = 2 by omega)]
    by_cases h8 : 128 < x.e
    · rw [pp _ _ h8]
      exact r39_011_1p hq hi hx ht h8 hL a1 a2 r1 r2 (by simp at l1; omega) (by simp at l2; omega)
    · rw [pa _ _ h8,ap,al]
      exact r39_011_1 hq hi hx ht h8 hL a1 a2 r1 r2 (by simp at l1; omega) (by simp at l2; omega)
  · rw [if_pos ht,if_neg (show ¬ x.e / 2 % 3 = 0 by omega),if_neg (show ¬ x.e / 2 % 3 = 1 by omega)]
    by_cases h8 : 128 < x.e
    · rw [pp _ _ h8]
      exact r39_011_2p hq hi hx ht h8 hL a1 a2 r1 r2 (by simp at l1; omega) (by simp at l2; omega)
    · rw [pa _ _ h8,ap,al]
      exact r39_011_2 hq hi hx ht h8 hL a1 a2 r1 r2 (by simp at l1; omega) (by simp at l2; omega)
  · rw [if_pos ht,if_neg (show ¬ x.e / 2 % 3 = 1 by omega),if_neg (show ¬ x.e / 2 % 3 = 2 by omega)]
    by_cases h8 : 128 < x.e
    · rw [pp _ _ h8]
      exact r39_100_0p hq hi hx ht h8 hL a0 r0 (by simp at l0; omega)
    · rw [pa _ _ h8,ap,al]
      exact r39_100_0 hq hi hx ht h8 hL a0 r0 (by simp at l0; omega)
  · rw [if_pos ht,if_neg (show ¬ x.e / 2 % 3 = 0 by omega),if_neg (show ¬ x.e / 2 % 3 = 2 by omega)]
    rw [pe]
    exact r39_100_1 hq hi hx ht hL a0 r0 (by simp at l0; omega)
  · rw [if_pos ht,if_neg (show ¬ x.e / 2 % 3 = 0 by omega),if_neg (show ¬ x.e / 2 % 3 = 1 by omega)]
    rw [pe]
    exact r39_100_2 hq hi hx ht hL a0 r0 (by simp at l0; omega)
  · rw [if_pos ht,if_neg (show ¬ x.e / 2 % 3 = 1 by omega),if_neg (show ¬ x.e / 2 % 3 = 2 by omega)]
    by_cases h8 : 128 < x.e
    · rw [pp _ _ h8]
      exact r39_101_0p hq hi hx ht h8 hL a0 a2 r0 r2 (by simp at l0; omega) (by simp at l2; omega)
    · rw [pa _ _ h8,ap,al]
      exact r39_101_0 hq hi hx ht h8 hL a0 a2 r0 r2 (by simp at l0; omega) (by simp at l2; omega)
  · rw [if_pos ht,if_neg (show ¬ x.e / 2 % 3 = 0 by omega),if_neg (show ¬ x.e / 2 % 3 = 2 by omega)]
    rw [pe]
    exact r39_101_1 hq hi hx ht hL a0 a2 r0 r2 (by simp at l0; omega) (by simp at l2; omega)
  · rw [if_pos ht,if_neg (show ¬ x.e / 2 % 3 = 0 by omega),if_neg (show ¬ x.e / 2 % 3 = 1 by omega)]
    by_cases h8 : 128 < x.e
    · rw [pp _ _ h8]
      exact r39_101_2p hq hi hx ht h8 hL a0 a2 r0 r2 (by simp at l0; omega) (by simp at l2; omega)
    · rw [pa _ _ h8,ap,al]
      exact r39_101_2 hq hi hx ht h8 hL a0 a2 r0 r2 (by simp at l0; omega) (by simp at l2; omega)
  · rw [if_pos ht,if_neg (show ¬ x.e / 2 % 3 = 1 by omega),if_neg (show ¬ x.e / 2 % 3 = 2 by omega)]
    by_cases h8 : 128 < x.e
    · rw [pp _ _ h8]
      exact r39_110_0p hq hi hx ht h8 hL a0 a1 r0 r1 (by simp at l0; omega) (by simp at l1; omega)
    · rw [pa _ _ h8,ap,al]
      exact r39_110_0 hq hi hx ht h8 hL a0 a1 r0 r1 (by simp at l0; omega) (by simp at l1; omega)
  · rw [if_pos ht,if_neg (show ¬ x.e / 2 % 3 = 0 by omega),if_neg (show ¬ x.e / 2 % 3 = 2 by omega)]
    by_cases h8 : 128 < x.e
    · rw [pp _ _ h8]
      exact r39_110_1p hq hi hx ht h8 hL a0 a1 r0 r1 (by simp at l0; omega) (by simp at l1; omega)
    · rw [pa _ _ h8,ap,al]
      exact r39_110_1 hq hi hx ht h8 hL a0 a1 r0 r1 (by simp at l0; omega) (by simp at l1; omega)
  · rw [if_pos ht,if_neg (show ¬ x.e / 2 % 3 = 0 by omega),if_neg (show ¬ x.e / 2 % 3 = 1 by omega)]
    rw [pe]
    exact r39_110_2 hq hi hx ht hL a0 a1 r0 r1 (by simp at l0; omega) (by simp at l1; omega)
  · rw [if_pos ht,if_neg (show ¬ x.e / 2 % 3 = 1 by omega),if_neg (show ¬ x.e / 2 % 3 = 2 by omega)]
    by_cases h8 : 128 < x.e
    · rw [pp _ _ h8]
      exact r39_111_0p hq hi hx ht h8 hL a0 a1 a2 r0 r1 r2 (by simp at l0; omega) (by simp at l1; omega) (by simp at l2; omega)
    · rw [pa _ _ h8,ap,al]
      exact r39_111_0 hq hi hx ht h8 hL a0 a1 a2 r0 r1 r2 (by simp at l0; omega) (by simp at l1; omega) (by simp at l2; omega)
  · rw [if_pos ht,if_neg (show ¬ x.e / 2 % 3 = 0 by omega),if_neg (show ¬ x.e / 2 % 3 = 2 by omega)]
    by_cases h8 : 128 < x.e
    · rw [pp _ _ h8]
      exact r39_111_1p hq hi hx ht h8 hL a0 a1 a2 r0 r1 r2 (by simp at l0; omega) (by simp at l1; omega) (by simp at l2; omega)
    · rw [pa _ _ h8,ap,al]
      exact r39_111_1 hq hi hx ht h8 hL a0 a1 a2 r0 r1 r2 (by simp at l0; omega) (by simp at l1; omega) (by simp at l2; omega)
  · rw [if_pos ht,if_neg (show ¬ x.e / 2 % 3 = 0 by omega),if_neg (show ¬ x.e / 2 % 3 = 1 by omega)]
    by_cases h8 : 128 < x.e
    · rw [pp _ _ h8]
      exact r39_111_2p hq hi hx ht h8 hL a0 a1 a2 r0 r1 r2 (by simp at l0; omega) (by simp at l1; omega) (by simp at l2; omega)
    · rw [pa _ _ h8,ap,al]
      exact r39_111_2 hq hi hx ht h8 hL a0 a1 a2 r0 r1 r2 (by simp at l0; omega) (by simp at l1; omega) (by simp at l2; omega)
end Go.Proofs.YtpbeclkpohehgaaDoor
namespace Go.Proofs.YtpbeclkpohehgaaDoor
open Go Go.DL
set_option maxRecDepth 100000
set_option maxHeartbeats 8000000
def trN (q : Qu) : Nat → Nat → List Int
  | 0,_ => []
  | i + 1,t => upT (q.ls.getD i ⟨0,0,0,0,0⟩) i t (trN q i t)
def lsN (q : Qu) (i : Nat) : List Ld := (q.ls.take i).map P5.ld
def fewL (q : Qu) : Nat := min q.ls.length 5
def nzT (T0 T1 T2 : List Int) : List (List Int) := [T0,T1,T2].filter fun T => !T.isEmpty
def mdL (q : Qu) : Li := ⟨[mdK q.k0,mdK q.k1],lsN q (fewL q),nzT (trN q (fewL q) 0) (trN q (fewL q) 1) (trN q (fewL q) 2),(q.s0 : Nat),((q.s0 + q.s1 : Nat) : Int)⟩
theorem put_len (x : P5) (i : Nat) (T : List Int) : (putT x i T).length = T.length + 1 := by
  unfold putT
  split
  · rfl
  · rw [List.length_append]; rfl
theorem tr_len (q : Qu) : ∀ i t,(trN q i t).length ≤ i
  | 0,t => Nat.le_refl _
  | i + 1,t => by
    have ih := tr_len q i t
    rw [trN]
    unfold upT
    split
    · rw [put_len]; omega
    · omega
theorem tr_ne (q : Qu) : ∀ i,trN q (i + 1) 0 ≠ [] ∨ trN q (i + 1) 1 ≠ [] ∨ trN q (i + 1) 2 ≠ [] := by
  intro i
  have pn : ∀ T,putT (q.ls.getD i ⟨0,0,0,0,0⟩) i T ≠ [] := fun T h => by
    have := put_len (q.ls.getD i ⟨0,0,0,0,0⟩) i T
    rw [h] at this; simp at this
  have ht : (q.ls.getD i ⟨0,0,0,0,0⟩).e / 2 % 3 = 0 ∨ (q.ls.getD i ⟨0,0,0,0,0⟩).e / 2 % 3 = 1 ∨ (q.ls.getD i ⟨0,0,0,0,0⟩).e / 2 % 3 = 2 := by omega
  rw [trN,trN,trN]
  unfold upT
  rcases ht with h | h | h
  · exact .inl (by rw [if_pos h]; exact pn _)
  · exact .inr (.inl (by rw [if_pos h]; exact pn _))
  · exact .inr (.inr (by rw [if_pos h]; exact pn _))
theorem ls_up {q : Qu} {i : Nat} {x : P5} (hx : q.ls[i]? = some x) : lsN q (i + 1) = lsN q i ++ [x.ld] := by
  unfold lsN
  rw [List.take_add_one,hx,List.map_append]
  rfl
def gM2 (q : Qu) : Nat → XH
  | 0 => hN0 q
  | i + 1 => hN q (lsN q (i + 1)) (i + 1) (csT (trN q (i + 1) 0) (trN q (i + 1) 1) (trN q (i + 1) 2)) (bsT (trN q (i + 1) 0) (trN q (i + 1) 1) (trN q (i + 1) 2))
def sM2 : Nat → List AV
  | 0 => [.pt 0 0,.pt 1 0,.pt 2 0,.pt 4 0,I 0]
  | i + 1 => [.pt 0 0,.pt 1 0,.pt 2 0,.pt 5 0,I (i + 1 : Nat)]
theorem gM2_up {q : Qu} (hq : q.Ok) {i : Nat} (hi : i < fewL q) : headX 0 [1,2,3,10,11] (execW progX 39 0 none (match x39l2 with | .loop _ a => a | c => c) (envL [1,2,3,10,11] (sM2 i)) (gM2 q i)) = some (sM2 (i + 1),gM2 q (i + 1)) := by
  have hi2 : i < q.ls.length ∧ i < 5 := by unfold fewL at hi; omega
  obtain ⟨x,hx⟩ := at_ix hi2.1
  have e : ∀ t,trN q (i + 1) t = upT x i t (trN q i t) := fun t => by rw [trN,getD_of hx]
  cases i with
  | zero =>
    have h := rj39_0 hq hx
    have e0 : ∀ t,trN q 1 t = upT x 0 t [] := fun t => e t
    have e1 : lsN q 1 = [x.ld] := ls_up hx
    rw [← e0 0,← e0 1,← e0 2,← e1] at h
    exact h
  | succ j =>
    have l := fun t => tr_len q (j + 1) t
    have h := rj39 hq hi2.2 hx (L := lsN q (j + 1)) (by unfold lsN; rw [List.length_map,List.length_take]; omega) (trN q (j + 1) 0) (trN q (j + 1) 1) (trN q (j + 1) 2) (tr_ne q j) (by have := l 0; omega) (by have := l 1; omega) (by have := l 2; omega)
    rw [← e 0,← e 1,← e 2,← ls_up hx] at h
    exact h
theorem few_outL (q : Qu) : (((fewL q : Nat) : Int) < (q.ls.length : Int)) = False ∨ ((((fewL q : Nat) : Int) < (q.ls.length : Int)) = True ∧ (((fewL q : Nat) : Int) < 5) = False) := by
  unfold fewL
  by_cases h : q.ls.length ≤ 5
  · exact .inl (eq_false (by omega))
  · exact .inr ⟨eq_true (by omega),eq_false (by omega)⟩
def gM1 (q : Qu) : Nat → XH
  | 0 => hM0 q
  | 1 => hM1 q
  | _ => hM2 q
theorem w39 {q : Qu} (hq : q.Ok) : runW progX 39 [.agg q.c] [] = some (.agg (mdL q).c,[]) := by
  have wa := wr8 hq.s.1
  have wb := wr8 hq.s.2
  have wc : IntKind.i64.wrap ((q.s0 : Int) + (q.s1 : Int)) = ((q.s0 + q.s1 : Nat) : Int) := by
    have := hq.s
    rw [wrap_ok (by omega) (by omega)]; omega
  have e44 := w44
  have r1 := round39 hq
  have rd1 : ∀ i : Nat,i < 2 → headX 0 [1,2,3,34,35] (execW progX 39 0 none (match x39l1 with | .loop _ a => a | c => c) (envL [1,2,3,34,35] [.pt 0 0,.pt 1 0,.pt 2 0,.agg [rP q.k0,rP q.k1],I (i : Nat)]) (gM1 q i)) = some ([.pt 0 0,.pt 1 0,.pt 2 0,.agg [rP q.k0,rP q.k1],I (i + 1 : Nat)],gM1 q (i + 1)) := by
    intro i hi
    match i,hi with
    | 0,_ => exact r1.1
    | 1,_ => exact r1.2
  have g10 : gM1 q 0 = hM0 q := rfl
  have g12 : gM1 q 2 = hM2 q := rfl
  have rd2 := fun i hi => gM2_up hq (i := i) hi
  have fo := few_outL q
  have s0 : sM2 0 = [.pt 0 0,.pt 1 0,.pt 2 0,.pt 4 0,I 0] := rfl
  have g20 : gM2 q 0 = hN0 q := rfl
  have hm : fewL q ≤ 5 := by unfold fewL; omega
  have chL := cL_ch (lsN q (fewL q))
  have clL := cL_len (lsN q (fewL q))
  have lsl : (lsN q (fewL q)).length = fewL q := by unfold lsN fewL; rw [List.length_map,List.length_take]; omega
  rw [lsl] at chL clL
  unfold mdL
  by_cases hz : fewL q = 0
  · have fo : ((0 : Int) < (q.ls.length : Int)) = False := eq_false (by unfold fewL at hz; omega)
    have lz : lsN q (fewL q) = [] := List.eq_nil_of_length_eq_zero (lsl.trans hz)
    rw [lz,hz]
    have tz : ∀ t,trN q 0 t = [] := fun _ => rfl
    rw [tz,tz,tz]
    have nz : nzT [] [] [] = [] := rfl
    rw [nz]
    rw [r39 (by simp)]; unfold x39; dsimp only
    sym =>
      simp [Za,Zb,Zc,Zd,Ze,Zf,Zg,Zh,Zj,Zl,Zm,Zn,Zo,Zp,Zr,Zu,Zv,Zx,Zy,Zz,Z0,Z2,Z4,Z5,Z6,Z8,ZD,ZF,ZJ,ZK,ZN,ZO,ZR,ZS,ZT,ZU,ZV,ZX,ZY,Ya,Yb,Yc,Yi,Yq,Ys,Yw,Yx,Yy,Yz,Y0,Y1,Y3,Y4,Y6,YA,YK,YL,YN,YP,YR,YT,YU,YX,Xb,Xd,Xe,Xf,Xi,Xm,Xo,Xq,Xr,Xs,Xu,Xy,X0,XK,XM,XP,XQ,XV,XW,XX,XY,Wa,Wc,We,Wh,Wn,Wo,Wp,Wy,Wz,W0,W3,W4,W5,W6,W7,W8,W9,WA,WB,WE,WF,WH,WI,WJ,WK,WL,WM,WN,WO,WP,WQ,WR,WS,WV,WW,WX,Vb,Vc,Ve,Vf,Vg,Vo,Vp,Vq,Vr,Vs,Vt,Vu,Vv,V0,V1,V2,V3,V5,V6,V8,V9,VA,VB,VC,VF,VG,VH,VJ,VK,VL,VM,VN,VO,VP,VQ,VR,VT,VU,VV,VW,VX,VY,Ua,Ub,Uc,Ud,Uf,Ui,Uk,Ur,Us,Ut,Uv,Uw,Ux,Uy,Uz,U0,U1,U2,U3,U4,U5,U6,U7,U8,U9,UA,UB,UC,UD,UE,UF,UG,UJ,UK,UL,UM,UN,UO,UT,UU,UV,UW,UX,UY,Ta,Tb,Te,Tf,Tg,Th,Tk,Tl,Tm,Tn,Tq,Tr,Ts,Tt,Tu,Tv,Tw,Tx,Ty,T3,T5,T6,T7,T8,TB,TC,TD,TE,TI,TL,TM,TN,TO,TP,TQ,TR,TS,TT,Sy,Sz,S2,SB,SC,SE,wa,wb,wc,e44]
      tactic =>
        unfold x39l1
        rw [loop_rule 2 (fun i => [.pt 0 0,.pt 1 0,.pt 2 0,.agg [rP q.k0,rP q.k1],I (i : Nat)]) (gM1 q)]
        · rw [g12]
          unfold x39l2 x39l3
          (sym => (simp [Za,Zb,Zc,Zd,Ze,Zf,Zg,Zh,Zj,Zl,Zm,Zn,Zo,Zp,Zr,Zu,Zv,Zx,Zy,Zz,Z0,Z2,Z4,Z5,Z6,Z8,ZD,ZF,ZJ,ZK,ZN,ZO,ZR,ZS,ZT,ZU,ZV,ZX,ZY,Ya,Yb,Yc,Yi,Yq,Ys,Yw,Yx,Yy,Yz,Y0,Y1,Y3,Y4,Y6,YA,YK,YL,YN,YP,YR,YT,YU,YX,Xb,Xd,Xe,Xf,Xi,Xm,Xo,Xq,Xr,Xs,Xu,Xy,X0,XK,XM,XP,XQ,XV,XW,XX,XY,Wa,Wc,We,Wh,Wn,Wo,Wp,Wy,Wz,W0,W3,W4,W5,W6,W7,W8,W9,WA,WB,WE,WF,WH,WI,WJ,WK,WL,WM,WN,WO,WP,WQ,WR,WS,WV,WW,WX,Vb,Vc,Ve,Vf,Vg,Vo,Vp,Vq,Vr,Vs,Vt,Vu,Vv,V0,V1,V2,V3,V5,V6,V8,V9,VA,VB,VC,VF,VG,VH,VJ,VK,VL,VM,VN,VO,VP,VQ,VR,VT,VU,VV,VW,VX,VY,Ua,Ub,Uc,Ud,Uf,Ui,Uk,Ur,Us,Ut,Uv,Uw,Ux,Uy,Uz,U0,U1,U2,U3,U4,U5,U6,U7,U8,U9,UA,UB,UC,UD,UE,UF,UG,UJ,UK,UL,UM,UN,UO,UT,UU,UV,UW,UX,UY,Ta,Tb,Te,Tf,Tg,Th,Tk,Tl,Tm,Tn,Tq,Tr,Ts,Tt,Tu,Tv,Tw,Tx,Ty,T3,T5,T6,T7,T8,TB,TC,TD,TE,TI,TL,TM,TN,TO,TP,TQ,TR,TS,TT,Sy,Sz,S2,SB,SC,SE,loopU,fo]; all_goals tactic => exact rfl))
        · rw [g10]
          (sym => (simp [Za,Zb,Zc,Zd,Ze,Zf,Zg,Zh,Zj,Zl,Zm,Zn,Zo,Zp,Zr,Zu,Zv,Zx,Zy,Zz,Z0,Z2,Z4,Z5,Z6,Z8,ZD,ZF,ZJ,ZK,ZN,ZO,ZR,ZS,ZT,ZU,ZV,ZX,ZY,Ya,Yb,Yc,Yi,Yq,Ys,Yw,Yx,Yy,Yz,Y0,Y1,Y3,Y4,Y6,YA,YK,YL,YN,YP,YR,YT,YU,YX,Xb,Xd,Xe,Xf,Xi,Xm,Xo,Xq,Xr,Xs,Xu,Xy,X0,XK,XM,XP,XQ,XV,XW,XX,XY,Wa,Wc,We,Wh,Wn,Wo,Wp,Wy,Wz,W0,W3,W4,W5,W6,W7,W8,W9,WA,WB,WE,WF,WH,WI,WJ,WK,WL,WM,WN,WO,WP,WQ,WR,WS,WV,WW,WX,Vb,Vc,Ve,Vf,Vg,Vo,Vp,Vq,Vr,Vs,Vt,Vu,Vv,V0,V1,V2,V3,V5,V6,V8,V9,VA,VB,VC,VF,VG,VH,VJ,VK,VL,VM,VN,VO,VP,VQ,VR,VT,VU,VV,VW,VX,VY,Ua,Ub,Uc,Ud,Uf,Ui,Uk,Ur,Us,Ut,Uv,Uw,Ux,Uy,Uz,U0,U1,U2,U3,U4,U5,U6,U7,U8,U9,UA,UB,UC,UD,UE,UF,UG,UJ,UK,UL,UM,UN,UO,UT,UU,UV,UW,UX,UY,Ta,Tb,Te,Tf,Tg,Th,Tk,Tl,Tm,Tn,Tq,Tr,Ts,Tt,Tu,Tv,Tw,Tx,Ty,T3,T5,T6,T7,T8,TB,TC,TD,TE,TI,TL,TM,TN,TO,TP,TQ,TR,TS,TT,Sy,Sz,S2,SB,SC,SE]; all_goals tactic => exact rfl))
        · exact rd1
        · rw [g12]
          (sym => (simp [Za,Zb,Zc,Zd,Ze,Zf,Zg,Zh,Zj,Zl,Zm,Zn,Zo,Zp,Zr,Zu,Zv,Zx,Zy,Zz,Z0,Z2,Z4,Z5,Z6,Z8,ZD,ZF,ZJ,ZK,ZN,ZO,ZR,ZS,ZT,ZU,ZV,ZX,ZY,Ya,Yb,Yc,Yi,Yq,Ys,Yw,Yx,Yy,Yz,Y0,Y1,Y3,Y4,Y6,YA,YK,YL,YN,YP,YR,YT,YU,YX,Xb,Xd,Xe,Xf,Xi,Xm,Xo,Xq,Xr,Xs,Xu,Xy,X0,XK,XM,XP,XQ,XV,XW,XX,XY,Wa,Wc,We,Wh,Wn,Wo,Wp,Wy,Wz,W0,W3,W4,W5,W6,W7,W8,W9,WA,WB,WE,WF,WH,WI,WJ,WK,WL,WM,WN,WO,WP,WQ,WR,WS,WV,WW,WX,Vb,Vc,Ve,Vf,Vg,Vo,Vp,Vq,Vr,Vs,Vt,Vu,Vv,V0,V1,V2,V3,V5,V6,V8,V9,VA,VB,VC,VF,VG,VH,VJ,VK,VL,VM,VN,VO,VP,VQ,VR,VT,VU,VV,VW,VX,VY,Ua,Ub,Uc,Ud,Uf,Ui,Uk,Ur,Us,Ut,Uv,Uw,Ux,Uy,Uz,U0,U1,U2,U3,U4,U5,U6,U7,U8,U9,UA,UB,UC,UD,UE,UF,UG,UJ,UK,UL,UM,UN,UO,UT,UU,UV,UW,UX,UY,Ta,Tb,Te,Tf,Tg,Th,Tk,Tl,Tm,Tn,Tq,Tr,Ts,Tt,Tu,Tv,Tw,Tx,Ty,T3,T5,T6,T7,T8,TB,TC,TD,TE,TI,TL,TM,TN,TO,TP,TQ,TR,TS,TT,Sy,Sz,S2,SB,SC,SE]; all_goals tactic => exact rfl))
  · obtain ⟨m,hmm⟩ : ∃ m,fewL q = m + 1 := ⟨fewL q - 1,by omega⟩
    have gL : gM2 q (fewL q) = hN q (lsN q (fewL q)) (fewL q) (csT (trN q (fewL q) 0) (trN q (fewL q) 1) (trN q (fewL q) 2)) (bsT (trN q (fewL q) 0) (trN q (fewL q) 1) (trN q (fewL q) 2)) := by rw [hmm]; rfl
    have sL : sM2 (fewL q) = [.pt 0 0,.pt 1 0,.pt 2 0,.pt 5 0,I (fewL q : Nat)] := by rw [hmm]; rfl
    have ne : trN q (fewL q) 0 ≠ [] ∨ trN q (fewL q) 1 ≠ [] ∨ trN q (fewL q) 2 ≠ [] := by rw [hmm]; exact tr_ne q m
    have ce : (fewL q * 5 ≤ fewL q * 5) = True := eq_true (Nat.le_refl _)
    have gp : ∀ r : List Int,((0 : Int) < ((r.length + 1 : Nat) : Int)) = True := fun r => eq_true (by omega)
    rw [r39 (by simp)]; unfold x39; dsimp only
    sym =>
      simp [Za,Zb,Zc,Zd,Ze,Zf,Zg,Zh,Zj,Zl,Zm,Zn,Zo,Zp,Zr,Zu,Zv,Zx,Zy,Zz,Z0,Z2,Z4,Z5,Z6,Z8,ZD,ZF,ZJ,ZK,ZN,ZO,ZR,ZS,ZT,ZU,ZV,ZX,ZY,Ya,Yb,Yc,Yi,Yq,Ys,Yw,Yx,Yy,Yz,Y0,Y1,Y3,Y4,Y6,YA,YK,YL,YN,YP,YR,YT,YU,YX,Xb,Xd,Xe,Xf,Xi,Xm,Xo,Xq,Xr,Xs,Xu,Xy,X0,XK,XM,XP,XQ,XV,XW,XX,XY,Wa,Wc,We,Wh,Wn,Wo,Wp,Wy,Wz,W0,W3,W4,W5,W6,W7,W8,W9,WA,WB,WE,WF,WH,WI,WJ,WK,WL,WM,WN,WO,WP,WQ,WR,WS,WV,WW,WX,Vb,Vc,Ve,Vf,Vg,Vo,Vp,Vq,Vr,Vs,Vt,Vu,Vv,V0,V1,V2,V3,V5,V6,V8,V9,VA,VB,VC,VF,VG,VH,VJ,VK,VL,VM,VN,VO,VP,VQ,VR,VT,VU,VV,VW,VX,VY,Ua,Ub,Uc,Ud,Uf,Ui,Uk,Ur,Us,Ut,Uv,Uw,Ux,Uy,Uz,U0,U1,U2,U3,U4,U5,U6,U7,U8,U9,UA,UB,UC,UD,UE,UF,UG,UJ,UK,UL,UM,UN,UO,UT,UU,UV,UW,UX,UY,Ta,Tb,Te,Tf,Tg,Th,Tk,Tl,Tm,Tn,Tq,Tr,Ts,Tt,Tu,Tv,Tw,Tx,Ty,T3,T5,T6,T7,T8,TB,TC,TD,TE,TI,TL,TM,TN,TO,TP,TQ,TR,TS,TT,Sy,Sz,S2,SB,SC,SE,wa,wb,wc,e44]
      tactic =>
        unfold x39l1
        rw [loop_rule 2 (fun i => [.pt 0 0,.pt 1 0,.pt 2 0,.agg [rP q.k0,rP q.k1],I (i : Nat)]) (gM1 q)]
        · rw [g12]
          sym =>
            simp [Za,Zb,Zc,Zd,Ze,Zf,Zg,Zh,Zj,Zl,Zm,Zn,Zo,Zp,Zr,Zu,Zv,Zx,Zy,Zz,Z0,Z2,Z4,Z5,Z6,Z8,ZD,ZF,ZJ,ZK,ZN,ZO,ZR,ZS,ZT,ZU,ZV,ZX,ZY,Ya,Yb,Yc,Yi,Yq,Ys,Yw,Yx,Yy,Yz,Y0,Y1,Y3,Y4,Y6,YA,YK,YL,YN,YP,YR,YT,YU,YX,Xb,Xd,Xe,Xf,Xi,Xm,Xo,Xq,Xr,Xs,Xu,Xy,X0,XK,XM,XP,XQ,XV,XW,XX,XY,Wa,Wc,We,Wh,Wn,Wo,Wp,Wy,Wz,W0,W3,W4,W5,W6,W7,W8,W9,WA,WB,WE,WF,WH,WI,WJ,WK,WL,WM,WN,WO,WP,WQ,WR,WS,WV,WW,WX,Vb,Vc,Ve,Vf,Vg,Vo,Vp,Vq,Vr,Vs,Vt,Vu,Vv,V0,V1,V2,V3,V5,V6,V8,V9,VA,VB,VC,VF,VG,VH,VJ,VK,VL,VM,VN,VO,VP,VQ,VR,VT,VU,VV,VW,VX,VY,Ua,Ub,Uc,Ud,Uf,Ui,Uk,Ur,Us,Ut,Uv,Uw,Ux,Uy,Uz,U0,U1,U2,U3,U4,U5,U6,U7,U8,U9,UA,UB,UC,UD,UE,UF,UG,UJ,UK,UL,UM,UN,UO,UT,UU,UV,UW,UX,UY,Ta,Tb,Te,Tf,Tg,Th,Tk,Tl,Tm,Tn,Tq,Tr,Ts,Tt,Tu,Tv,Tw,Tx,Ty,T3,T5,T6,T7,T8,TB,TC,TD,TE,TI,TL,TM,TN,TO,TP,TQ,TR,TS,TT,Sy,Sz,S2,SB,SC,SE]
            tactic =>
              unfold x39l2
              rw [loop_rule (fewL q) sM2 (gM2 q)]
              · rw [gL,sL]
                generalize trN q (fewL q) 0 = T0 at *
                generalize trN q (fewL q) 1 = T1 at *
                generalize trN q (fewL q) 2 = T2 at *
                generalize lsN q (fewL q) = L at *
                generalize fewL q = fl at *
                unfold x39l3
                unfold nzT
                rcases T0 with _ | ⟨a0,r0⟩
                all_goals rcases T1 with _ | ⟨a1,r1⟩
                all_goals rcases T2 with _ | ⟨a2,r2⟩
                · simp at ne
                all_goals try simp only [neL]
                all_goals simp only [List.filter,List.isEmpty,Bool.not_true,Bool.not_false]
                all_goals rcases fo with fo | ⟨fo,fo2⟩
                all_goals first | (sym => (simp [Za,Zb,Zc,Zd,Ze,Zf,Zg,Zh,Zj,Zl,Zm,Zn,Zo,Zp,Zr,Zu,Zv,Zx,Zy,Zz,Z0,Z2,Z4,Z5,Z6,Z8,ZD,ZF,ZJ,ZK,ZN,ZO,ZR,ZS,ZT,ZU,ZV,ZX,ZY,Ya,Yb,Yc,Yi,Yq,Ys,Yw,Yx,Yy,Yz,Y0,Y1,Y3,Y4,Y6,YA,YK,YL,YN,YP,YR,YT,YU,YX,Xb,Xd,Xe,Xf,Xi,Xm,Xo,Xq,Xr,Xs,Xu,Xy,X0,XK,XM,XP,XQ,XV,XW,XX,XY,Wa,Wc,We,Wh,Wn,Wo,Wp,Wy,Wz,W0,W3,W4,W5,W6,W7,W8,W9,WA,WB,WE,WF,WH,WI,WJ,WK,WL,WM,WN,WO,WP,WQ,WR,WS,WV,WW,WX,Vb,Vc,Ve,Vf,Vg,Vo,Vp,Vq,Vr,Vs,Vt,Vu,Vv,V0,V1,V2,V3,V5,V6,V8,V9,VA,VB,VC,VF,VG,VH,VJ,VK,VL,VM,VN,VO,VP,VQ,VR,VT,VU,VV,VW,VX,VY,Ua,Ub,Uc,Ud,Uf,Ui,Uk,Ur,Us,Ut,Uv,Uw,Ux,Uy,Uz,U0,U1,U2,U3,U4,U5,U6,U7,U8,U9,UA,UB,UC,UD,UE,UF,UG,UJ,UK,UL,UM,UN,UO,UT,UU,UV,UW,UX,UY,Ta,Tb,Te,Tf,Tg,Th,Tk,Tl,Tm,Tn,Tq,Tr,Ts,Tt,Tu,Tv,Tw,Tx,Ty,T3,T5,T6,T7,T8,TB,TC,TD,TE,TI,TL,TM,TN,TO,TP,TQ,TR,TS,TT,Sy,Sz,S2,SB,SC,SE,loopU,fo,fo2,chL,clL,ce,gp]; all_goals tactic => exact rfl)) | (sym => (simp [Za,Zb,Zc,Zd,Ze,Zf,Zg,Zh,Zj,Zl,Zm,Zn,Zo,Zp,Zr,Zu,Zv,Zx,Zy,Zz,Z0,Z2,Z4,Z5,Z6,Z8,ZD,ZF,ZJ,ZK,ZN,ZO,ZR,ZS,ZT,ZU,ZV,ZX,ZY,Ya,Yb,Yc,Yi,Yq,Ys,Yw,Yx,Yy,Yz,Y0,Y1,Y3,Y4,Y6,YA,YK,YL,YN,YP,YR,YT,YU,YX,Xb,Xd,Xe,Xf,Xi,Xm,Xo,Xq,Xr,Xs,Xu,Xy,X0,XK,XM,XP,XQ,XV,XW,XX,XY,Wa,Wc,We,Wh,Wn,Wo,Wp,Wy,Wz,W0,W3,W4,W5,W6,W7,W8,W9,WA,WB,WE,WF,WH,WI,WJ,WK,WL,WM,WN,WO,WP,WQ,WR,WS,WV,WW,WX,Vb,Vc,Ve,Vf,Vg,Vo,Vp,Vq,Vr,Vs,Vt,Vu,Vv,V0,V1,V2,V3,V5,V6,V8,V9,VA,VB,VC,VF,VG,VH,VJ,VK,VL,VM,VN,VO,VP,VQ,VR,VT,VU,VV,VW,VX,VY,Ua,Ub,Uc,Ud,Uf,Ui,Uk,Ur,Us,Ut,Uv,Uw,Ux,Uy,Uz,U0,U1,U2,U3,U4,U5,U6,U7,U8,U9,UA,UB,UC,UD,UE,UF,UG,UJ,UK,UL,UM,UN,UO,UT,UU,UV,UW,UX,UY,Ta,Tb,Te,Tf,Tg,Th,Tk,Tl,Tm,Tn,Tq,Tr,Ts,Tt,Tu,Tv,Tw,Tx,Ty,T3,T5,T6,T7,T8,TB,TC,TD,TE,TI,TL,TM,TN,TO,TP,TQ,TR,TS,TT,Sy,Sz,S2,SB,SC,SE,loopU,fo,chL,clL,ce,gp]; all_goals tactic => exact rfl))
              · rw [s0,g20]
                (sym => (simp [Za,Zb,Zc,Zd,Ze,Zf,Zg,Zh,Zj,Zl,Zm,Zn,Zo,Zp,Zr,Zu,Zv,Zx,Zy,Zz,Z0,Z2,Z4,Z5,Z6,Z8,ZD,ZF,ZJ,ZK,ZN,ZO,ZR,ZS,ZT,ZU,ZV,ZX,ZY,Ya,Yb,Yc,Yi,Yq,Ys,Yw,Yx,Yy,Yz,Y0,Y1,Y3,Y4,Y6,YA,YK,YL,YN,YP,YR,YT,YU,YX,Xb,Xd,Xe,Xf,Xi,Xm,Xo,Xq,Xr,Xs,Xu,Xy,X0,XK,XM,XP,XQ,XV,XW,XX,XY,Wa,Wc,We,Wh,Wn,Wo,Wp,Wy,Wz,W0,W3,W4,W5,W6,W7,W8,W9,WA,WB,WE,WF,WH,WI,WJ,WK,WL,WM,WN,WO,WP,WQ,WR,WS,WV,WW,WX,Vb,Vc,Ve,Vf,Vg,Vo,Vp,Vq,Vr,Vs,Vt,Vu,Vv,V0,V1,V2,V3,V5,V6,V8,V9,VA,VB,VC,VF,VG,VH,VJ,VK,VL,VM,VN,VO,VP,VQ,VR,VT,VU,VV,VW,VX,VY,Ua,Ub,Uc,Ud,Uf,Ui,Uk,Ur,Us,Ut,Uv,Uw,Ux,Uy,Uz,U0,U1,U2,U3,U4,U5,U6,U7,U8,U9,UA,UB,UC,UD,UE,UF,UG,UJ,UK,UL,UM,UN,UO,UT,UU,UV,UW,UX,UY,Ta,Tb,Te,Tf,Tg,Th,Tk,Tl,Tm,Tn,Tq,Tr,Ts,Tt,Tu,Tv,Tw,Tx,Ty,T3,T5,T6,T7,T8,TB,TC,TD,TE,TI,TL,TM,TN,TO,TP,TQ,TR,TS,TT,Sy,Sz,S2,SB,SC,SE]; all_goals tactic => exact rfl))
              · exact rd2
              · rw [gL,sL]
                generalize fewL q = fl at *
                rcases fo with fo | ⟨fo,fo2⟩
                · (sym => (simp [Za,Zb,Zc,Zd,Ze,Zf,Zg,Zh,Zj,Zl,Zm,Zn,Zo,Zp,Zr,Zu,Zv,Zx,Zy,Zz,Z0,Z2,Z4,Z5,Z6,Z8,ZD,ZF,ZJ,ZK,ZN,ZO,ZR,ZS,ZT,ZU,ZV,ZX,ZY,Ya,Yb,Yc,Yi,Yq,Ys,Yw,Yx,Yy,Yz,Y0,Y1,Y3,Y4,Y6,YA,YK,YL,YN,YP,YR,YT,YU,YX,Xb,Xd,Xe,Xf,Xi,Xm,Xo,Xq,Xr,Xs,Xu,Xy,X0,XK,XM,XP,XQ,XV,XW,XX,XY,Wa,Wc,We,Wh,Wn,Wo,Wp,Wy,Wz,W0,W3,W4,W5,W6,W7,W8,W9,WA,WB,WE,WF,WH,WI,WJ,WK,WL,WM,WN,WO,WP,WQ,WR,WS,WV,WW,WX,Vb,Vc,Ve,Vf,Vg,Vo,Vp,Vq,Vr,Vs,Vt,Vu,Vv,V0,V1,V2,V3,V5,V6,V8,V9,VA,VB,VC,VF,VG,VH,VJ,VK,VL,VM,VN,VO,VP,VQ,VR,VT,VU,VV,VW,VX,VY,Ua,Ub,Uc,Ud,Uf,Ui,Uk,Ur,Us,Ut,Uv,Uw,Ux,Uy,Uz,U0,U1,U2,U3,U4,U5,U6,U7,U8,U9,UA,UB,UC,UD,UE,UF,UG,UJ,UK,UL,UM,UN,UO,UT,UU,UV,UW,UX,UY,Ta,Tb,Te,Tf,Tg,Th,Tk,Tl,Tm,Tn,Tq,Tr,Ts,Tt,Tu,Tv,Tw,Tx,Ty,T3,T5,T6,T7,T8,TB,TC,TD,TE,TI,TL,TM,TN,TO,TP,TQ,TR,TS,TT,Sy,Sz,S2,SB,SC,SE,fo]; all_goals tactic => exact rfl))
                · (sym => (simp [Za,Zb,Zc,Zd,Ze,Zf,Zg,Zh,Zj,Zl,Zm,Zn,Zo,Zp,Zr,Zu,Zv,Zx,Zy,Zz,Z0,Z2,Z4,Z5,Z6,Z8,ZD,ZF,ZJ,ZK,ZN,ZO,ZR,ZS,ZT,ZU,ZV,ZX,ZY,Ya,Yb,Yc,Yi,Yq,Ys,Yw,Yx,Yy,Yz,Y0,Y1,Y3,Y4,Y6,YA,YK,YL,YN,YP,YR,YT,YU,YX,Xb,Xd,Xe,Xf,Xi,Xm,Xo,Xq,Xr,Xs,Xu,Xy,X0,XK,XM,XP,XQ,XV,XW,XX,XY,Wa,Wc,We,Wh,Wn,Wo,Wp,Wy,Wz,W0,W3,W4,W5,W6,W7,W8,W9,WA,WB,WE,WF,WH,WI,WJ,WK,WL,WM,WN,WO,WP,WQ,WR,WS,WV,WW,WX,Vb,Vc,Ve,Vf,Vg,Vo,Vp,Vq,Vr,Vs,Vt,Vu,Vv,V0,V1,V2,V3,V5,V6,V8,V9,VA,VB,VC,VF,VG,VH,VJ,VK,VL,VM,VN,VO,VP,VQ,VR,VT,VU,VV,VW,VX,VY,Ua,Ub,Uc,Ud,Uf,Ui,Uk,Ur,Us,Ut,Uv,Uw,Ux,Uy,Uz,U0,U1,U2,U3,U4,U5,U6,U7,U8,U9,UA,UB,UC,UD,UE,UF,UG,UJ,UK,UL,UM,UN,UO,UT,UU,UV,UW,UX,UY,Ta,Tb,Te,Tf,Tg,Th,Tk,Tl,Tm,Tn,Tq,Tr,Ts,Tt,Tu,Tv,Tw,Tx,Ty,T3,T5,T6,T7,T8,TB,TC,TD,TE,TI,TL,TM,TN,TO,TP,TQ,TR,TS,TT,Sy,Sz,S2,SB,SC,SE,fo,fo2]; all_goals tactic => exact rfl))
        · rw [g10]
          (sym => (simp [Za,Zb,Zc,Zd,Ze,Zf,Zg,Zh,Zj,Zl,Zm,Zn,Zo,Zp,Zr,Zu,Zv,Zx,Zy,Zz,Z0,Z2,Z4,Z5,Z6,Z8,ZD,ZF,ZJ,ZK,ZN,ZO,ZR,ZS,ZT,ZU,ZV,ZX,ZY,Ya,Yb,Yc,Yi,Yq,Ys,Yw,Yx,Yy,Yz,Y0,Y1,Y3,Y4,Y6,YA,YK,YL,YN,YP,YR,YT,YU,YX,Xb,Xd,Xe,Xf,Xi,Xm,Xo,Xq,Xr,Xs,Xu,Xy,X0,XK,XM,XP,XQ,XV,XW,XX,XY,Wa,Wc,We,Wh,Wn,Wo,Wp,Wy,Wz,W0,W3,W4,W5,W6,W7,W8,W9,WA,WB,WE,WF,WH,WI,WJ,WK,WL,WM,WN,WO,WP,WQ,WR,WS,WV,WW,WX,Vb,Vc,Ve,Vf,Vg,Vo,Vp,Vq,Vr,Vs,Vt,Vu,Vv,V0,V1,V2,V3,V5,V6,V8,V9,VA,VB,VC,VF,VG,VH,VJ,VK,VL,VM,VN,VO,VP,VQ,VR,VT,VU,VV,VW,VX,VY,Ua,Ub,Uc,Ud,Uf,Ui,Uk,Ur,Us,Ut,Uv,Uw,Ux,Uy,Uz,U0,U1,U2,U3,U4,U5,U6,U7,U8,U9,UA,UB,UC,UD,UE,UF,UG,UJ,UK,UL,UM,UN,UO,UT,UU,UV,UW,UX,UY,Ta,Tb,Te,Tf,Tg,Th,Tk,Tl,Tm,Tn,Tq,Tr,Ts,Tt,Tu,Tv,Tw,Tx,Ty,T3,T5,T6,T7,T8,TB,TC,TD,TE,TI,TL,TM,TN,TO,TP,TQ,TR,TS,TT,Sy,Sz,S2,SB,SC,SE]; all_goals tactic => exact rfl))
        · exact rd1
        · rw [g12]
          (sym => (simp [Za,Zb,Zc,Zd,Ze,Zf,Zg,Zh,Zj,Zl,Zm,Zn,Zo,Zp,Zr,Zu,Zv,Zx,Zy,Zz,Z0,Z2,Z4,Z5,Z6,Z8,ZD,ZF,ZJ,ZK,ZN,ZO,ZR,ZS,ZT,ZU,ZV,ZX,ZY,Ya,Yb,Yc,Yi,Yq,Ys,Yw,Yx,Yy,Yz,Y0,Y1,Y3,Y4,Y6,YA,YK,YL,YN,YP,YR,YT,YU,YX,Xb,Xd,Xe,Xf,Xi,Xm,Xo,Xq,Xr,Xs,Xu,Xy,X0,XK,XM,XP,XQ,XV,XW,XX,XY,Wa,Wc,We,Wh,Wn,Wo,Wp,Wy,Wz,W0,W3,W4,W5,W6,W7,W8,W9,WA,WB,WE,WF,WH,WI,WJ,WK,WL,WM,WN,WO,WP,WQ,WR,WS,WV,WW,WX,Vb,Vc,Ve,Vf,Vg,Vo,Vp,Vq,Vr,Vs,Vt,Vu,Vv,V0,V1,V2,V3,V5,V6,V8,V9,VA,VB,VC,VF,VG,VH,VJ,VK,VL,VM,VN,VO,VP,VQ,VR,VT,VU,VV,VW,VX,VY,Ua,Ub,Uc,Ud,Uf,Ui,Uk,Ur,Us,Ut,Uv,Uw,Ux,Uy,Uz,U0,U1,U2,U3,U4,U5,U6,U7,U8,U9,UA,UB,UC,UD,UE,UF,UG,UJ,UK,UL,UM,UN,UO,UT,UU,UV,UW,UX,UY,Ta,Tb,Te,Tf,Tg,Th,Tk,Tl,Tm,Tn,Tq,Tr,Ts,Tt,Tu,Tv,Tw,Tx,Ty,T3,T5,T6,T7,T8,TB,TC,TD,TE,TI,TL,TM,TN,TO,TP,TQ,TR,TS,TT,Sy,Sz,S2,SB,SC,SE]; all_goals tactic => exact rfl))
end Go.Proofs.YtpbeclkpohehgaaDoor
namespace Go.Proofs.YtpbeclkpohehgaaDoor
open Go Go.DL
set_option maxRecDepth 100000
set_option maxHeartbeats 4000000

def vld (n : Nat) (b : Nat → Nat) : Nat → List Nat → Prop
  | d,[] => pop d n = n
  | d,k :: ks => k < n ∧ canB b d k = true ∧ vld n b (d ||| 2 ^ k) ks
def ordW (l : Li) : Nat → List Nat → Int
  | _,[] => 0
  | d,k :: ks => mxI (lastF l (d ||| 2 ^ k) k) (ordW l (d ||| 2 ^ k) ks)
theorem mx_le {a c a' c' : Int} (h1 : a ≤ a') (h2 : c ≤ c') : mxI a c ≤ mxI a' c' := by unfold mxI; split <;> split <;> omega
theorem mx_l (a c : Int) : a ≤ mxI a c ∧ c ≤ mxI a c := by unfold mxI; split <;> omega
theorem mx_lt {a c m : Int} (h1 : a ≤ m) (h2 : c ≤ m) : mxI a c ≤ m := by unfold mxI; split <;> omega
theorem vld_len {n : Nat} {b : Nat → Nat} : ∀ {d : Nat} {ks : List Nat},vld n b d ks → pop d n + ks.length = n
  | d,[],h => h
  | d,k :: ks,h => by
    have h1 := (pop_or (can_bit h.2.1) n).1 h.1
    have h2 := vld_len h.2.2
    rw [List.length_cons]
    omega
theorem vld_lt {n : Nat} {b : Nat → Nat} : ∀ {d : Nat} {ks : List Nat},vld n b d ks → ∀ k ∈ ks,k < n
  | d,[],_,k,hk => by simp at hk
  | d,j :: ks,h,k,hk => by
    rcases List.mem_cons.1 hk with rfl | hk
    · exact h.1
    · exact vld_lt h.2.2 k hk
theorem ord_pos {l : Li} (g : Good l) {b : Nat → Nat} : ∀ {d : Nat} {ks : List Nat},vld l.ls.length b d ks → 0 ≤ ordW l d ks ∧ ordW l d ks ≤ 1000000
  | d,[],_ => by rw [ordW]; omega
  | d,k :: ks,h => mx_bd (last_bd g h.1) (ord_pos g h.2.2)
theorem ord_min {l : Li} {b : Nat → Nat} : ∀ {d : Nat} {ks : List Nat},vld l.ls.length b d ks → rstF l b d ≤ ordW l d ks
  | d,[],h => by rw [rest_full h]; exact Int.le_refl _
  | d,k :: ks,h => by
    have h1 := (pop_or (can_bit h.2.1) l.ls.length).1 h.1
    have h2 := pop_le (d ||| 2 ^ k) l.ls.length
    have h3 := rest_le (l := l) (by omega) h.1 h.2.1
    exact Int.le_trans h3 (mx_le (Int.le_refl _) (ord_min h.2.2))
theorem bst_vld {l : Li} (g : Good l) {b : Nat → Nat} (p : Prec l.ls.length b) {w : Int} (hw0 : 0 ≤ w) : ∀ (m d : Nat),d < 2 ^ l.ls.length → l.ls.length - pop d l.ls.length = m → rstF l b d ≤ w → vld l.ls.length b d (bstF l b w d) ∧ ordW l d (bstF l b w d) ≤ w
  | 0,d,hd,hm,hw => by
    have hle := pop_le d l.ls.length
    have e : bstF l b w d = [] := by rw [bstF,hm,bestF]
    rw [e]
    exact ⟨by show pop d l.ls.length = _; omega,hw0⟩
  | m + 1,d,hd,hm,hw => by
    obtain ⟨k,hk⟩ := pick_ex g p hd (by omega) hw
    obtain ⟨h1,h2,h3,h4,h5,_⟩ := bst_some hk
    have hr := mx_l (lastF l (d ||| 2 ^ k) k) (rstF l b (d ||| 2 ^ k))
    unfold wthF at h4
    have ih := bst_vld g p hw0 m (d ||| 2 ^ k) (or_lt hd h2) (by omega) (by omega)
    rw [h1]
    exact ⟨⟨h2,h3,ih.1⟩,mx_lt (by omega) ih.2⟩
theorem best_vld {l : Li} (g : Good l) : vld l.ls.length (behF l.ts) 0 (bestO l) ∧ ordW l 0 (bestO l) = minW l := by
  have p := g.prec
  have h := bst_vld g p (rest_bd g (behF l.ts) 0).1 _ 0 (Nat.two_pow_pos _) rfl (Int.le_refl (minW l))
  exact ⟨h.1,Int.le_antisymm h.2 (ord_min h.1)⟩
theorem Good.kd {l : Li} (g : Good l) {t : Nat} {k : List St} (ht : l.ks[t]? = some k) {m m' : Int} (hm : m ≤ m') : ∀ i,i ≤ k.length → soN k m i ≤ soN k m' i ∧ (∀ x,i < k.length → k[i]? = some x → soN k m' i < x.s)
  | 0,_ => ⟨Int.le_refl _,fun x hi hx => by
    have := g.st ht hx
    rw [soN]; omega⟩
  | i + 1,hi => by
    obtain ⟨y,hy⟩ := at_ix (l := k) (i := i) (by omega)
    obtain ⟨h1,h2⟩ := g.kd ht hm i (by omega)
    have h2 := h2 y (by omega) hy
    have up : soN k m' (i + 1) ≤ y.s := by
      rcases soN_up (m := m') hy with ⟨_,h⟩ | ⟨_,h⟩ <;> rw [h] <;> omega
    refine ⟨?_,fun x hi hx => ?_⟩
    · rcases soN_up (m := m) hy with ⟨a1,h3⟩ | ⟨a1,h3⟩
      · rcases soN_up (m := m') hy with ⟨_,h4⟩ | ⟨a2,_⟩
        · rw [h3,h4]; exact Int.le_refl _
        · have a1 := of_eq_true a1
          have a2 := of_eq_false a2
          omega
      · rcases soN_up (m := m') hy with ⟨_,h4⟩ | ⟨_,h4⟩
        · rw [h3,h4]; omega
        · rw [h3,h4]; exact h1
    · have hr := (g.st ht hx).2.2.2.2
      rw [(pr_up hy).2] at hr
      omega
theorem so_mono {l : Li} (g : Good l) {t : Nat} {k : List St} (ht : l.ks[t]? = some k) {m m' : Int} (hm : m ≤ m') : sourF k m ≤ sourF k m' := (g.kd ht hm _ (Nat.le_refl _)).1
theorem en_mono {l : Li} (g : Good l) {a c : Nat} (h : ∀ i,a.testBit i = true → c.testBit i = true) : ∀ n,n ≤ l.ls.length → fR (enS l) l.hi a n ≤ fR (enS l) l.hi c n
  | 0,_ => Int.le_refl _
  | n + 1,hn => by
    have ih := en_mono g h n (by omega)
    obtain ⟨x,kd,h1,h2,_,_,_,_,_,h8⟩ := g.ldn (v := n) (by omega)
    rw [fR,fR]
    cases ha : a.testBit n with
    | true =>
      rw [h n ha,if_pos rfl,if_pos rfl]
      show fR (enS l) l.hi a n + (ldN l n).ch ≤ fR (enS l) l.hi c n + (ldN l n).ch
      omega
    | false =>
      rw [if_neg (by simp)]
      split
      · show fR (enS l) l.hi a n ≤ fR (enS l) l.hi c n + (ldN l n).ch
        rw [h2]; omega
      · exact ih
theorem end_mono {l : Li} (g : Good l) {a c : Nat} (hc : c < 2 ^ l.ls.length) (h : ∀ i,a.testBit i = true → c.testBit i = true) : endF l a ≤ endF l c := by
  have ha : a < 2 ^ l.ls.length := by
    by_cases he : a = c
    · rw [he]; exact hc
    · have := sub_lt h he; omega
  have e1 : fR (enS l) l.hi a l.ls.length = endF l a := fR_el ha g.few
  have e2 : fR (enS l) l.hi c l.ls.length = endF l c := fR_el hc g.few
  rw [← e1,← e2]
  exact en_mono g h _ (Nat.le_refl _)
theorem last_mono {l : Li} (g : Good l) {a c k : Nat} (hk : k < l.ls.length) (hc : c < 2 ^ l.ls.length) (h : ∀ i,a.testBit i = true → c.testBit i = true) : lastF l a k ≤ lastF l c k := by
  obtain ⟨x,kd,h1,h2,h3,h4,h5,h6,h7,h8⟩ := g.ldn hk
  unfold lastF
  rw [h2,h5]
  have := end_mono g hc h
  exact so_mono g h4 (by omega)
theorem sh_le {l : Li} {b : Nat → Nat} {a : Nat} : ∀ (ks : List Nat) (n : Int),ks.foldl (shS l b a) n ≤ n ∧ ∀ k ∈ ks,freeB b a k = true → ks.foldl (shS l b a) n ≤ lastF l a k
  | [],n => ⟨Int.le_refl _,fun k hk => by simp at hk⟩
  | k :: ks,n => by
    rw [List.foldl_cons]
    obtain ⟨h1,h2⟩ := sh_le (l := l) (b := b) (a := a) ks (shS l b a n k)
    have h3 : shS l b a n k ≤ n ∧ (freeB b a k = true → shS l b a n k ≤ lastF l a k) := by
      unfold shS mnI
      cases freeB b a k with
      | false => exact ⟨by rw [if_neg (by simp)]; exact Int.le_refl _,fun h => by simp at h⟩
      | true =>
        rw [if_pos rfl]
        refine ⟨?_,fun _ => ?_⟩ <;> split <;> omega
    refine ⟨by omega,fun j hj hf => ?_⟩
    rcases List.mem_cons.1 hj with rfl | hj
    · have := h3.2 hf; omega
    · exact h2 j hj hf
theorem ord_shows {l : Li} (g : Good l) {b : Nat → Nat} (p : Prec l.ls.length b) {s : Nat} (hs : s < 2 ^ l.ls.length) : ∀ {ks : List Nat} {d : Nat},d < 2 ^ l.ls.length → clB b l.ls.length d = true → vld l.ls.length b d ks → (∃ i,s.testBit i = true ∧ d.testBit i = false) → shF l b s ≤ ordW l d ks
  | [],d,hd,_,h,⟨i,h1,h2⟩ => by
    have hi : i < l.ls.length := by
      by_cases hc : i < l.ls.length
      · exact hc
      · rw [bit_lt hs (by omega)] at h1; simp at h1
    have := pop_full.1 h i hi
    rw [h2] at this; simp at this
  | k :: ks,d,hd,hcl,h,hx => by
    have ml := mx_l (lastF l (d ||| 2 ^ k) k) (ordW l (d ||| 2 ^ k) ks)
    by_cases hc : ∃ i,s.testBit i = true ∧ (d ||| 2 ^ k).testBit i = false
    · have := ord_shows g p hs (or_lt hd h.1) (cl_next p g.few hd h.1 hcl h.2.1) h.2.2 hc
      rw [ordW]; omega
    · have hsub : ∀ i,s.testBit i = true → (d ||| 2 ^ k).testBit i = true := fun i hi => by
        cases hb : (d ||| 2 ^ k).testBit i with
        | true => rfl
        | false => exact absurd ⟨i,hi,hb⟩ hc
      obtain ⟨i,h1,h2⟩ := hx
      have hik : i = k := by
        have := hsub i h1
        rw [or_bit,h2,Bool.false_or,decide_eq_true_iff] at this
        exact this.symm
      subst hik
      have hi10 : i < 10 := by have := h.1; have := g.few; omega
      have hf : freeB b s i = true := by
        unfold freeB
        rw [List.all_eq_true]
        intro j hj
        have hjs := (el_mem.1 hj).2
        have hjd := hsub j hjs
        cases hb : (b j).testBit i with
        | false => rfl
        | true =>
          exfalso
          by_cases hji : j = i
          · subst hji
            rw [p.irr] at hb; simp at hb
          · rw [or_bit,decide_eq_false (fun hc => hji hc.symm),Bool.or_false] at hjd
            have hj2 : j < l.ls.length := el_lt hs hj
            have hz := (gdN_iff _).1 hcl j hj2 hjd
            have lb := lt_10 (p.lt j) g.few
            have ld := lt_10 hd g.few
            have := (dif_zero (by omega) (by omega)).1 hz i hb
            rw [h2] at this; simp at this
      have hle := (sh_le (l := l) (b := b) (a := s) (el s) 1000000).2 i (el_mem.2 ⟨hi10,h1⟩) hf
      have hm := last_mono g h.1 (or_lt hd h.1) hsub
      unfold shF at *
      rw [ordW]; omega
end Go.Proofs.YtpbeclkpohehgaaDoor
namespace Go.Proofs.YtpbeclkpohehgaaDoor
open Go Go.DL
set_option maxRecDepth 100000
set_option maxHeartbeats 4000000

theorem firstN_z {f : Nat → Int} : ∀ n,(∀ i,i < n → f i = 0) → firstN f n = 0
  | 0,_ => rfl
  | n + 1,h => by rw [firstN,firstN_z n fun i hi => h i (by omega),if_pos rfl]; exact h n (by omega)
theorem ix_mem {α : Type} {l : List α} {i : Nat} {d : α} (h : i < l.length) : l.getD i d ∈ l := by
  obtain ⟨x,hx⟩ := at_ix h
  rw [getD_of hx]
  exact List.mem_of_getElem? hx
theorem nodup_ix {t : List Int} (h : t.Nodup) {i j : Nat} (hi : i < j) (hj : j < t.length) : t.getD i 0 ≠ t.getD j 0 := by
  obtain ⟨x,hx⟩ := at_ix (l := t) (i := i) (by omega)
  obtain ⟨y,hy⟩ := at_ix hj
  rw [getD_of hx,getD_of hy]
  have := List.pairwise_iff_getElem.1 h i j (by omega) hj hi
  rw [(List.getElem?_eq_some_iff.1 hx).2,(List.getElem?_eq_some_iff.1 hy).2] at this
  exact this
theorem tracks_ok {n : Nat} {T : List (List Int)} (h1 : ∀ t ∈ T,t ≠ []) (h2 : ∀ t ∈ T,∀ v ∈ t,0 ≤ v ∧ v < n) (h3 : ∀ t ∈ T,t.Nodup) (h4 : T.Pairwise fun s t => ∀ v ∈ s,v ∉ t) (h5 : ∀ k : Nat,k < n → ∃ t,t ∈ T ∧ (k : Int) ∈ t) : tracksE n T = 0 := by
  have er : ∀ j,j < T.length → errT n (T.getD j []) (accT T j) = 0 := by
    intro j hj
    have hT : T.getD j [] ∈ T := ix_mem hj
    unfold errT
    have hne := h1 _ hT
    rw [if_neg fun hz => hne (List.eq_nil_of_length_eq_zero hz)]
    refine firstN_z _ fun i hi => ?_
    have hv := ix_mem (d := 0) hi
    have hr := h2 _ hT _ hv
    rcases elE_of (n := n) (all := allT (T.getD j []) (accT T j) i) ((T.getD j []).getD i 0) with ⟨_,_,_,h⟩ | ⟨_,_,hb,_⟩ | ⟨hb,_⟩
    · exact h
    · exfalso
      rcases allT_bit.1 hb with h | ⟨i',h6,h7⟩
      · obtain ⟨j',h6,i',h7,h8⟩ := accT_bit.1 h
        have hT' : T.getD j' [] ∈ T := ix_mem (by omega)
        have hv' := ix_mem (d := 0) h7
        have hr' := h2 _ hT' _ hv'
        have he : (T.getD j' []).getD i' 0 = (T.getD j []).getD i 0 := by unfold plc at h8; omega
        rw [he] at hv'
        obtain ⟨s,hs⟩ := at_ix (l := T) (i := j') (by omega)
        obtain ⟨t,ht⟩ := at_ix hj
        have hp := List.pairwise_iff_getElem.1 h4 j' j (by omega) hj h6
        rw [(List.getElem?_eq_some_iff.1 hs).2,(List.getElem?_eq_some_iff.1 ht).2] at hp
        rw [getD_of hs] at hv'
        rw [getD_of ht] at hv hv'
        exact hp _ hv' hv
      · have hv' := ix_mem (l := T.getD j []) (d := 0) (i := i') (by omega)
        have hr' := h2 _ hT _ hv'
        exact nodup_ix (h3 _ hT) h6 hi (by omega)
    · have : btw 0 ((T.getD j []).getD i 0) ((n : Int) - 1) = true := btwF.2 (by omega)
      rw [hb] at this; simp at this
  unfold tracksE
  rw [if_pos (firstN_z _ er)]
  have : pop (accT T T.length) n = n := pop_full.2 fun k hk => by
    obtain ⟨t,h6,h7⟩ := h5 k hk
    obtain ⟨j,hj⟩ := List.getElem?_of_mem h6
    obtain ⟨i,hi⟩ := List.getElem?_of_mem h7
    exact accT_bit.2 ⟨j,lt_of hj,i,by rw [getD_of hj]; exact lt_of hi,by rw [plc,getD_of hj,getD_of hi,Int.toNat_natCast]⟩
  rw [if_neg (by omega)]
theorem put_mem {x : P5} {i : Nat} {T : List Int} {v : Int} : v ∈ putT x i T ↔ v = (i : Int) ∨ v ∈ T := by
  unfold putT
  split
  · rw [List.mem_cons]
  · rw [List.mem_append,List.mem_singleton]; exact Or.comm
theorem put_nodup {x : P5} {i : Nat} {T : List Int} (h : T.Nodup) (hi : (i : Int) ∉ T) : (putT x i T).Nodup := by
  unfold putT
  split
  · exact List.nodup_cons.2 ⟨hi,h⟩
  · rw [List.nodup_append]
    refine ⟨h,by simp,fun a ha b hb => ?_⟩
    rw [List.mem_singleton] at hb
    subst hb
    intro hc
    subst hc
    exact hi ha
structure TrOk (q : Qu) (i : Nat) : Prop where
  bd : ∀ t,∀ v ∈ trN q i t,0 ≤ v ∧ v < i
  nd : ∀ t,(trN q i t).Nodup
  dj : ∀ t t',t ≠ t' → ∀ v ∈ trN q i t,v ∉ trN q i t'
  all : ∀ k : Nat,k < i → ∃ t,t < 3 ∧ (k : Int) ∈ trN q i t
theorem tr_ok (q : Qu) : ∀ i,TrOk q i
  | 0 => ⟨fun t v hv => by simp [trN] at hv,fun t => by simp [trN],fun t t' _ v hv => by simp [trN] at hv,fun k hk => by omega⟩
  | i + 1 => by
    have ih := tr_ok q i
    have hi : ∀ t,(i : Int) ∉ trN q i t := fun t h => by have := ih.bd t _ h; omega
    have mem : ∀ t v,v ∈ trN q (i + 1) t ↔ ((q.ls.getD i ⟨0,0,0,0,0⟩).e / 2 % 3 = t ∧ v = (i : Int)) ∨ v ∈ trN q i t := by
      intro t v
      rw [trN]
      unfold upT
      by_cases h : (q.ls.getD i ⟨0,0,0,0,0⟩).e / 2 % 3 = t
      · rw [if_pos h,put_mem]
        exact ⟨fun h2 => h2.elim (fun h3 => .inl ⟨h,h3⟩) .inr,fun h2 => h2.elim (fun h3 => .inl h3.2) .inr⟩
      · rw [if_neg h]
        exact ⟨.inr,fun h2 => h2.elim (fun h3 => absurd h3.1 h) id⟩
    refine ⟨fun t v hv => ?_,fun t => ?_,fun t t' ht v hv hv' => ?_,fun k hk => ?_⟩
    · rcases (mem t v).1 hv with ⟨_,rfl⟩ | h
      · omega
      · have := ih.bd t v h; omega
    · rw [trN]
      unfold upT
      split
      · exact put_nodup (ih.nd t) (hi t)
      · exact ih.nd t
    · rcases (mem t v).1 hv with ⟨h1,rfl⟩ | h
      · rcases (mem t' _).1 hv' with ⟨h2,_⟩ | h2
        · exact ht (h1.symm.trans h2)
        · exact hi t' h2
      · rcases (mem t' _).1 hv' with ⟨_,rfl⟩ | h2
        · exact hi t h
        · exact ih.dj t t' ht v h h2
    · by_cases hki : k = i
      · subst hki
        exact ⟨(q.ls.getD k ⟨0,0,0,0,0⟩).e / 2 % 3,by omega,(mem _ _).2 (.inl ⟨rfl,rfl⟩)⟩
      · obtain ⟨t,h1,h2⟩ := ih.all k (by omega)
        exact ⟨t,h1,(mem _ _).2 (.inr h2)⟩
theorem nz_mem {T0 T1 T2 t : List Int} : t ∈ nzT T0 T1 T2 ↔ (t = T0 ∨ t = T1 ∨ t = T2) ∧ t ≠ [] := by
  unfold nzT
  rw [List.mem_filter]
  simp [List.isEmpty_iff]
theorem md_tracks (q : Qu) (n : Nat) (hn : n = fewL q) : tracksE n (nzT (trN q (fewL q) 0) (trN q (fewL q) 1) (trN q (fewL q) 2)) = 0 := by
  have h := tr_ok q (fewL q)
  subst hn
  refine tracks_ok (fun t ht => (nz_mem.1 ht).2) (fun t ht v hv => ?_) (fun t ht => ?_) ?_ (fun k hk => ?_)
  · rcases (nz_mem.1 ht).1 with rfl | rfl | rfl <;> exact h.bd _ v hv
  · rcases (nz_mem.1 ht).1 with rfl | rfl | rfl <;> exact h.nd _
  · unfold nzT
    refine List.Pairwise.filter _ ?_
    simp only [List.pairwise_cons,List.mem_cons,List.not_mem_nil,or_false,false_implies,implies_true,List.Pairwise.nil,and_true,forall_eq_or_imp,forall_eq]
    exact ⟨⟨h.dj 0 1 (by decide),h.dj 0 2 (by decide)⟩,h.dj 1 2 (by decide)⟩
  · obtain ⟨t,h1,h2⟩ := h.all k hk
    refine ⟨trN q (fewL q) t,nz_mem.2 ⟨?_,fun hc => by rw [hc] at h2; simp at h2⟩,h2⟩
    match t,h1 with
    | 0,_ => exact .inl rfl
    | 1,_ => exact .inr (.inl rfl)
    | 2,_ => exact .inr (.inr rfl)
theorem st_get {x : List P2} : ∀ {m i : Nat},i < m → (stN x m)[i]? = some ⟨(afN x (i + 1) : Nat),(nnN x (i + 1) : Nat)⟩
  | 0,i,h => by omega
  | m + 1,i,h => by
    rw [stN]
    by_cases hi : i = m
    · subst hi
      rw [List.getElem?_append_right (by rw [stN_len]; omega),stN_len,Nat.sub_self]
      rfl
    · rw [List.getElem?_append_left (by rw [stN_len]; omega)]
      exact st_get (by omega)
theorem md_kind {x : List P2} (hx : ∀ y ∈ x,y.a < 256 ∧ y.b < 256) : chkD (mdK x) = 0 := by
  have hl : (mdK x).length = fewK x := stN_len x _
  have h4 : fewK x ≤ 4 ∧ fewK x ≤ x.length := by unfold fewK; omega
  unfold chkD
  rw [hl,if_neg (by omega)]
  refine firstN_z _ fun i hi => ?_
  have hg : (mdK x)[i]? = some ⟨(afN x (i + 1) : Nat),(nnN x (i + 1) : Nat)⟩ := st_get hi
  have bd := af_bd hx (i + 1) (by omega)
  have pr : prA (mdK x) i < (afN x (i + 1) : Nat) ∧ prS (mdK x) i < (nnN x (i + 1) : Nat) ∧ 1 ≤ nnN x (i + 1) := by
    cases i with
    | zero =>
      have e1 : prA (mdK x) 0 = -1 := rfl
      have e2 : prS (mdK x) 0 = 0 := rfl
      rw [e1,e2,afN,nnN]
      omega
    | succ j =>
      have hg' : (mdK x)[j]? = some ⟨(afN x (j + 1) : Nat),(nnN x (j + 1) : Nat)⟩ := st_get (by omega)
      have e := pr_up hg'
      have e3 : afN x (j + 1 + 1) = afN x (j + 1) + 1 + (x.getD (j + 1) ⟨0,0⟩).a := rfl
      have e4 : nnN x (j + 1 + 1) = nnN x (j + 1) + 1 + (x.getD (j + 1) ⟨0,0⟩).b % 9 := rfl
      rw [e.1,e.2]
      dsimp only
      omega
  rcases kErr_of hg with ⟨_,_,_,_,h⟩ | ⟨_,_,_,h,_⟩ | ⟨_,_,h,_⟩ | ⟨_,h,_⟩ | ⟨h,_⟩
  · exact h
  · have := of_eq_true h; dsimp only at this; omega
  · have := of_eq_true h; dsimp only at this; omega
  · have : btw 1 ((nnN x (i + 1) : Nat) : Int) 1000000 = true := btwF.2 (by omega)
    rw [this] at h; simp at h
  · have : btw 0 ((afN x (i + 1) : Nat) : Int) 100000 = true := btwF.2 (by omega)
    rw [this] at h; simp at h
theorem md_ls {q : Qu} : (lsN q (fewL q)).length = fewL q := by unfold lsN fewL; rw [List.length_map,List.length_take]; omega
theorem md_good {q : Qu} (hq : q.Ok) : checkL (mdL q) = 0 := by
  unfold checkL
  have hk : kindsE (mdL q).ks = 0 := by
    unfold kindsE
    rw [if_neg (by simp [mdL])]
    refine firstN_z _ fun i hi => ?_
    have hi2 : i < 2 := hi
    match i,hi2 with
    | 0,_ => exact md_kind hq.k0
    | 1,_ => exact md_kind hq.k1
  have hm : fewL q ≤ 5 := by unfold fewL; omega
  have hl : (mdL q).ls.length = fewL q := md_ls
  have hs := hq.s
  rw [if_pos hk,if_neg (by omega)]
  have hld : firstN (ldEr (mdL q)) (mdL q).ls.length = 0 := by
    refine firstN_z _ fun i hi => ?_
    have hi2 : i < q.ls.length ∧ i < fewL q := by unfold fewL at *; omega
    obtain ⟨x,hx⟩ := at_ix hi2.1
    have hb := hq.ls x (List.mem_of_getElem? hx)
    have hg : (mdL q).ls[i]? = some x.ld := by
      show (lsN q (fewL q))[i]? = _
      unfold lsN
      rw [List.getElem?_map,List.getElem?_take,if_pos hi2.2,hx]; rfl
    unfold ldEr
    rw [getD_of hg]
    have hks : (mdL q).ks.length = 2 := rfl
    rw [hks]
    rcases ldE_of 2 x.ld with ⟨_,_,_,h⟩ | ⟨_,_,h,_⟩ | ⟨_,h,_⟩ | ⟨h,_⟩
    · exact h
    · have : inS x.ld.cl x.ld.ch 1 10000 = true := inSF.2 (by unfold P5.ld; dsimp only; omega)
      rw [this] at h; simp at h
    · have : inS x.ld.al x.ld.ah 0 100000 = true := inSF.2 (by unfold P5.ld; dsimp only; omega)
      rw [this] at h; simp at h
    · have : btw 0 x.ld.k (((2 : Nat) : Int) - 1) = true := btwF.2 (by unfold P5.ld; dsimp only; omega)
      rw [this] at h; simp at h
  rw [if_pos hld]
  have ht : tracksE (mdL q).ls.length (mdL q).ts = 0 := md_tracks q _ hl
  have hst : inS (mdL q).lo (mdL q).hi 0 100000 = true := inSF.2 (by unfold mdL; dsimp only; omega)
  rw [if_pos ht,hst]
  rfl
theorem md_fit (q : Qu) : (mdL q).Fit := by
  have hm : fewL q ≤ 5 := by unfold fewL; omega
  refine ⟨?_,fun t ht => ?_⟩
  · have : (nzT (trN q (fewL q) 0) (trN q (fewL q) 1) (trN q (fewL q) 2)).length ≤ 3 := by
      unfold nzT
      exact Nat.le_trans (List.length_filter_le _ _) (by simp)
    show (nzT _ _ _).length ≤ _
    omega
  · have h := tr_len q (fewL q)
    rcases (nz_mem.1 ht).1 with rfl | rfl | rfl
    · have := h 0; omega
    · have := h 1; omega
    · have := h 2; omega
end Go.Proofs.YtpbeclkpohehgaaDoor
namespace Go.Proofs.YtpbeclkpohehgaaDoor
open Go Go.DL
set_option maxRecDepth 100000
set_option maxHeartbeats 4000000

def ordsI (n : Nat) (b : Nat → Nat) : Nat → Nat → List Int → List (List Int)
  | 0,_,os => [os]
  | m + 1,d,os => ((List.range n).filter (canB b d)).flatMap fun k : Nat => ordsI n b m (d ||| 2 ^ k) (os ++ [(k : Int)])
def eoN (n : Nat) (b : Nat → Nat) (m d : Nat) (os : List Int) (k : Nat) : List (List Int) := ((List.range k).filter (canB b d)).flatMap fun k : Nat => ordsI n b m (d ||| 2 ^ k) (os ++ [(k : Int)])
theorem eoN_up (n : Nat) (b : Nat → Nat) (m d : Nat) (os : List Int) (k : Nat) : eoN n b m d os (k + 1) = if canB b d k = true then eoN n b m d os k ++ ordsI n b m (d ||| 2 ^ k) (os ++ [(k : Int)]) else eoN n b m d os k := by
  unfold eoN
  rw [List.range_succ,List.filter_append,List.flatMap_append]
  cases h : canB b d k <;> simp [h]
theorem ords_len (n : Nat) (b : Nat → Nat) : ∀ (m d : Nat) (os : List Int),(ordsI n b m d os).length ≤ n ^ m
  | 0,d,os => by simp [ordsI]
  | m + 1,d,os => by
    have key : ∀ ks : List Nat,(ks.flatMap fun k : Nat => ordsI n b m (d ||| 2 ^ k) (os ++ [(k : Int)])).length ≤ ks.length * n ^ m := by
      intro ks
      induction ks with
      | nil => simp
      | cons k ks ih =>
        rw [List.flatMap_cons,List.length_append,List.length_cons,Nat.add_mul,Nat.one_mul]
        have := ords_len n b m (d ||| 2 ^ k) (os ++ [(k : Int)])
        omega
    have h1 := key ((List.range n).filter (canB b d))
    have h2 := List.length_filter_le (canB b d) (List.range n)
    rw [List.length_range] at h2
    have h3 := Nat.mul_le_mul_right (n ^ m) h2
    rw [ordsI,Nat.pow_succ,Nat.mul_comm]
    omega
theorem eo_len (n : Nat) (b : Nat → Nat) (m d : Nat) (os : List Int) {k : Nat} (hk : k ≤ n) : (eoN n b m d os k).length ≤ n * n ^ m := by
  have key : ∀ ks : List Nat,(ks.flatMap fun k : Nat => ordsI n b m (d ||| 2 ^ k) (os ++ [(k : Int)])).length ≤ ks.length * n ^ m := by
    intro ks
    induction ks with
    | nil => simp
    | cons k ks ih =>
      rw [List.flatMap_cons,List.length_append,List.length_cons,Nat.add_mul,Nat.one_mul]
      have := ords_len n b m (d ||| 2 ^ k) (os ++ [(k : Int)])
      omega
  have h1 := key ((List.range k).filter (canB b d))
  have h2 := List.length_filter_le (canB b d) (List.range k)
  rw [List.length_range] at h2
  have h3 := Nat.mul_le_mul_right (n ^ m) (Nat.le_trans h2 hk)
  unfold eoN
  omega
def dL (n d : Nat) : List Bool := (List.range n).map fun k => d.testBit k
theorem dL_len (n d : Nat) : (dL n d).length = n := by simp [dL]
theorem dL_get {n d k : Nat} (h : k < n) : (dL n d)[k]? = some (d.testBit k) := by
  unfold dL
  rw [List.getElem?_map,List.getElem?_range h]; rfl
theorem dL_set {n d k : Nat} (h : k < n) : setX (dL n d) k true = dL n (d ||| 2 ^ k) := by
  rw [setX_set (by rw [dL_len]; exact h)]
  apply List.ext_getElem?
  intro j
  rw [List.getElem?_set]
  by_cases hj : j < n
  · rw [dL_get hj,dL_get hj,dL_len,or_bit]
    by_cases hkj : k = j
    · rw [if_pos hkj,if_pos h,decide_eq_true hkj,Bool.or_true]
    · rw [if_neg hkj,decide_eq_false hkj,Bool.or_false]
  · rw [List.getElem?_eq_none (by rw [dL_len]; omega),List.getElem?_eq_none (by rw [dL_len]; omega),if_neg (by omega)]
theorem dL_0 (n : Nat) : List.replicate n false = dL n 0 := by
  unfold dL
  have : (fun k => Nat.testBit 0 k) = fun _ => false := by funext k; exact Nat.zero_testBit k
  rw [this,List.map_const']
  simp
def cO (L : List (List Int)) : List AV := L.map fun os => rI os
abbrev rO (L : List (List Int)) : AV := .fs (L.map fun os => [rI os])
theorem cO_gr (L : List (List Int)) : grL (cO L) = true := by
  induction L with
  | nil => rfl
  | cons a r ih => rw [cO,List.map_cons,grL]; exact ih
theorem cO_nm (L : List (List Int)) : nmL (cO L) = [] := by
  induction L with
  | nil => rfl
  | cons a r ih => rw [cO,List.map_cons,nmL]; exact ih
theorem cO_sl (L : List (List Int)) : slL (cO L) = [] := by
  induction L with
  | nil => rfl
  | cons a r ih => rw [cO,List.map_cons,slL]; exact ih
theorem cO_len (L : List (List Int)) : (cO L).length = L.length := by simp [cO]
theorem cO_app (A B : List (List Int)) : cO (A ++ B) = cO A ++ cO B := by simp [cO]
theorem cO_fl (L : List (List Int)) : (L.map fun os => [rI os]).flatten = cO L := by
  induction L with
  | nil => rfl
  | cons a r ih => rw [List.map_cons,List.flatten_cons,ih]; rfl
theorem cO_all (L : List (List Int)) : ((L.map fun os => [rI os]).all fun r => r.length == 1) = true := by
  rw [List.all_eq_true]
  intro r hr
  obtain ⟨os,_,rfl⟩ := List.mem_map.1 hr
  rfl
theorem cO_ch (L : List (List Int)) : chunks (cO L) 0 1 L.length = L.map fun os => [rI os] := by
  have := chunksV (cO L) []
  rw [List.nil_append,show ([] : List AV).length = 0 from rfl,cO_len] at this
  rw [this,cO,List.map_map]
  rfl
def cnN (b : Nat → Nat) (d k : Nat) : Nat → Bool
  | 0 => !d.testBit k
  | j + 1 => cnN b d k j && (d.testBit j || !(b k).testBit j)
theorem cnN_iff {b : Nat → Nat} {d k : Nat} : ∀ n,(cnN b d k n = true ↔ d.testBit k = false ∧ ∀ j,j < n → (b k).testBit j = true → d.testBit j = true)
  | 0 => by
    rw [cnN]
    cases d.testBit k <;> simp
  | n + 1 => by
    rw [cnN,Bool.and_eq_true,cnN_iff n]
    constructor
    · rintro ⟨⟨h1,h2⟩,h3⟩
      refine ⟨h1,fun j hj hb => ?_⟩
      by_cases hjn : j = n
      · subst hjn
        rw [hb] at h3
        simpa using h3
      · exact h2 j (by omega) hb
    · rintro ⟨h1,h2⟩
      refine ⟨⟨h1,fun j hj => h2 j (by omega)⟩,?_⟩
      cases hb : (b k).testBit n with
      | false => simp
      | true => rw [h2 n (by omega) hb]; rfl
theorem cn_can {n : Nat} {b : Nat → Nat} (p : Prec n b) (hn : n ≤ 10) {d k : Nat} (hd : d < 2 ^ n) : cnN b d k n = canB b d k := by
  apply Bool.eq_iff_iff.2
  rw [cnN_iff,canB_iff p hn hd]
  constructor
  · rintro ⟨h1,h2⟩
    refine ⟨h1,fun i hi => ?_⟩
    by_cases hin : i < n
    · exact h2 i hin hi
    · rw [bit_lt (p.lt k) (by omega)] at hi; simp at hi
  · rintro ⟨h1,h2⟩
    exact ⟨h1,fun j _ => h2 j⟩
end Go.Proofs.YtpbeclkpohehgaaDoor
namespace Go.Proofs.YtpbeclkpohehgaaDoor
open Go Go.DL
set_option maxRecDepth 100000
set_option maxHeartbeats 4000000
def oW (p : Nat) : List (List Int) → AV
  | [] => .nilsl
  | _ :: es => .sl p 0 1 (es.length + 1)
def oX : List (List Int) → XH
  | [] => []
  | e :: es => [some (.blk true (.cells true (rI e :: cO es)))]
theorem oW_0 (p : Nat) : oW p [] = .nilsl := rfl
theorem oW_1 (p : Nat) (e : List Int) (es : List (List Int)) : oW p (e :: es) = .sl p 0 1 (es.length + 1) := rfl
theorem oX_0 : oX [] = [] := rfl
theorem oX_1 (e : List Int) (es : List (List Int)) : oX (e :: es) = [some (.blk true (.cells true (rI e :: cO es)))] := rfl
section
variable {l : Li}
theorem round45aS (hn : l.ls.length ≤ 10) {os : List Int} (hl : os.length ≤ 10) {d : Nat} {i : Nat} {v : Int} (hv : os[i]? = some v) (hr : 0 ≤ v ∧ v < l.ls.length) :
    headX 1 [1,2,5,24,25,26] (execW progX 45 1 none (match x45l0 with | .loop _ a => a | c => c) (envL [1,2,5,24,25,26] [.sl 0 0 1 os.length,.pt 1 0,.sl 2 0 1 l.ls.length,.sl 0 0 1 os.length,I os.length,I (i : Nat)]) [some (.blk true (.cells true (os.map I))),some (.blk true (.cells true l.c)),some (.blk true (.cells true ((dL l.ls.length d).map AV.bool)))]) =
      some ([.sl 0 0 1 os.length,.pt 1 0,.sl 2 0 1 l.ls.length,.sl 0 0 1 os.length,I os.length,I (i + 1 : Nat)],[some (.blk true (.cells true (os.map I))),some (.blk true (.cells true l.c)),some (.blk true (.cells true ((dL l.ls.length (d ||| 2 ^ v.toNat)).map AV.bool)))]) := by
  have a1 := lt_ix (lt_of hv)
  have a2 := up_ix (lt_of hv) (by omega)
  have c1 : (0 ≤ v) = True := eq_true (by omega)
  have c2 : (v < (l.ls.length : Int)) = True := eq_true (by omega)
  have s1 := dL_set (n := l.ls.length) (d := d) (k := v.toNat) (by omega)
  have s2 := dL_len l.ls.length d
  have i3 : (v.toNat + 1 ≤ l.ls.length) = True := eq_true (by omega)
  generalize dL l.ls.length (d ||| 2 ^ v.toNat) = dl2 at *
  generalize dL l.ls.length d = dl at *
  unfold x45l0
  dsimp only
  (sym => (simp [cO_gr,cO_nm,cO_sl,cO_len,Za,Zb,Zc,Zf,Zh,Zl,Zm,Zu,Z2,Z7,ZF,ZJ,ZK,Ye,Yi,Yq,Yu,Yv,YN,YT,YU,Xc,Xm,Xr,Xs,Wm,Wy,Wz,W0,W3,WA,WB,WE,WF,WH,WI,WJ,WL,WN,WO,WP,WQ,WV,WW,Va,Vb,VL,VM,VN,VO,VP,VU,VV,VW,VX,VY,VZ,Ua,Ub,Uc,Ud,Ue,Uf,Ui,Ur,Uv,Uw,U1,U2,U3,U4,U5,U6,Ta,Tb,Tf,Tg,Th,Tr,Ts,Tu,Tw,Tx,T3,T6,T7,T8,TB,TC,TF,a1,a2,hv,c1,c2,s1,s2,i3]; all_goals tactic => exact rfl))
theorem round45cS (g : Good l) (hf : l.Fit) {os : List Int} {d k j : Nat} (L : List (List Int)) (hk : k < l.ls.length) (hj : j < l.ls.length) (f r : Bool) (hr : r = (f && (d.testBit j || !(behF l.ts k).testBit j))) :
    headX 1 [1,2,5,8,9,10,36,37,47,48] (execW progX 45 1 none (match x45l1 with | .loop _ a => a | c => c) (envL [1,2,5,8,9,10,36,37,47,48] [.sl 0 0 1 os.length,.pt 1 0,.sl 2 0 1 l.ls.length,oW 3 L,I (k : Nat),.bool f,I l.ls.length,I (k : Nat),I l.ls.length,I (j : Nat)]) ([some (.blk true (.cells true (os.map I))),some (.blk true (.cells true l.c)),some (.blk true (.cells true ((dL l.ls.length d).map AV.bool)))] ++ oX L)) =
      some ([.sl 0 0 1 os.length,.pt 1 0,.sl 2 0 1 l.ls.length,oW 3 L,I (k : Nat),.bool r,I l.ls.length,I (k : Nat),I l.ls.length,I (j + 1 : Nat)],[some (.blk true (.cells true (os.map I))),some (.blk true (.cells true l.c)),some (.blk true (.cells true ((dL l.ls.length d).map AV.bool)))] ++ oX L) := by
  have hn := g.few
  have a1 := lt_ix hj
  have a2 := up_ix hj (by omega)
  have t1 := dL_get (n := l.ls.length) (d := d) (k := j) hj
  have t4 := dL_len l.ls.length d
  have e92 := w92 hf (k : Int) (j : Int)
  rw [std_beh g] at e92
  subst hr
  generalize dL l.ls.length d = dl at *
  generalize (behF l.ts k).testBit j = bb at *
  generalize d.testBit j = db at *
  unfold x45l1
  dsimp only
  rcases L with _ | ⟨e,es⟩
  · rw [oW_0,oX_0]
    cases f <;> cases db <;> cases bb <;> (sym => (simp [cO_gr,cO_nm,cO_sl,cO_len,Za,Zb,Zf,Zg,Zh,Zj,Zl,Zm,Zo,Zp,Zq,Zr,Zs,Zt,Zu,Zx,Z2,Z3,Z7,ZF,ZN,ZO,ZS,ZT,ZU,ZV,ZW,Ye,Yi,Yq,Yu,Yv,YN,YO,YP,YR,YT,YU,YX,Xm,Xn,Xo,Xq,Xr,Xs,Xu,Wy,Wz,W0,W4,W5,W6,W7,WA,WB,WE,WF,WH,WI,WJ,WK,WL,WM,WN,WO,WP,WQ,WR,WS,WV,WW,Va,Vb,Ve,Vf,Vg,Vr,Vt,Vu,Vw,Vx,Vz,VL,VM,VN,VO,VP,VU,VV,VW,VX,VY,VZ,Ua,Ub,Uc,Ue,Uf,Ui,Uk,Ul,Um,Uo,Uq,Ur,Uv,Uw,U0,U1,U2,U3,U4,Ta,Tb,Te,Tf,Tr,Ts,Tu,Tw,Tx,T3,T6,T7,T8,TB,TC,SB,SC,SD,a1,a2,t1,t4,e92]; all_goals tactic => exact rfl))
  · rw [oW_1,oX_1]
    cases f <;> cases db <;> cases bb <;> (sym => (simp [cO_gr,cO_nm,cO_sl,cO_len,Za,Zb,Zf,Zg,Zh,Zj,Zl,Zm,Zo,Zp,Zq,Zr,Zs,Zt,Zu,Zx,Z2,Z3,Z7,ZF,ZN,ZO,ZS,ZT,ZU,ZV,ZW,Ye,Yi,Yq,Yu,Yv,YN,YO,YP,YR,YT,YU,YX,Xm,Xn,Xo,Xq,Xr,Xs,Xu,Wy,Wz,W0,W4,W5,W6,W7,WA,WB,WE,WF,WH,WI,WJ,WK,WL,WM,WN,WO,WP,WQ,WR,WS,WV,WW,Va,Vb,Ve,Vf,Vg,Vr,Vt,Vu,Vw,Vx,Vz,VL,VM,VN,VO,VP,VU,VV,VW,VX,VY,VZ,Ua,Ub,Uc,Ue,Uf,Ui,Uk,Ul,Um,Uo,Uq,Ur,Uv,Uw,U0,U1,U2,U3,U4,Ta,Tb,Te,Tf,Tr,Ts,Tu,Tw,Tx,T3,T6,T7,T8,TB,TC,SB,SC,SD,a1,a2,t1,t4,e92]; all_goals tactic => exact rfl))
theorem round45cT (g : Good l) (hf : l.Fit) {d k j : Nat} (L : List (List Int)) (hk : k < l.ls.length) (hj : j < l.ls.length) (f r : Bool) (hr : r = (f && (d.testBit j || !(behF l.ts k).testBit j))) :
    headX 0 [1,2,5,8,9,10,36,37,47,48] (execW progX 45 0 none (match x45l1 with | .loop _ a => a | c => c) (envL [1,2,5,8,9,10,36,37,47,48] [.fs [],.pt 0 0,.sl 1 0 1 l.ls.length,oW 2 L,I (k : Nat),.bool f,I l.ls.length,I (k : Nat),I l.ls.length,I (j : Nat)]) ([some (.blk true (.cells true l.c)),some (.blk true (.cells true ((dL l.ls.length d).map AV.bool)))] ++ oX L)) =
      some ([.fs [],.pt 0 0,.sl 1 0 1 l.ls.length,oW 2 L,I (k : Nat),.bool r,I l.ls.length,I (k : Nat),I l.ls.length,I (j + 1 : Nat)],[some (.blk true (.cells true l.c)),some (.blk true (.cells true ((dL l.ls.length d).map AV.bool)))] ++ oX L) := by
  have hn := g.few
  have a1 := lt_ix hj
  have a2 := up_ix hj (by omega)
  have t1 := dL_get (n := l.ls.length) (d := d) (k := j) hj
  have t4 := dL_len l.ls.length d
  have e92 := w92 hf (k : Int) (j : Int)
  rw [std_beh g] at e92
  subst hr
  generalize dL l.ls.length d = dl at *
  generalize (behF l.ts k).testBit j = bb at *
  generalize d.testBit j = db at *
  unfold x45l1
  dsimp only
  rcases L with _ | ⟨e,es⟩
  · rw [oW_0,oX_0]
    cases f <;> cases db <;> cases bb <;> (sym => (simp [cO_gr,cO_nm,cO_sl,cO_len,Za,Zb,Zf,Zg,Zh,Zj,Zl,Zm,Zo,Zp,Zq,Zr,Zs,Zt,Zu,Zx,Z2,Z3,Z7,ZF,ZN,ZO,ZS,ZT,ZU,ZV,ZW,Ye,Yi,Yq,Yu,Yv,YN,YO,YP,YR,YT,YU,YX,Xm,Xn,Xo,Xq,Xr,Xs,Xu,Wy,Wz,W0,W4,W5,W6,W7,WA,WB,WE,WF,WH,WI,WJ,WK,WL,WM,WN,WO,WP,WQ,WR,WS,WV,WW,Vb,Ve,Vf,Vg,Vr,Vt,Vu,Vw,Vx,Vz,VL,VM,VN,VO,VP,VU,VV,VW,VX,VY,Ua,Ub,Uc,Ue,Uf,Ui,Uk,Ul,Um,Uo,Uq,Ur,Uv,Uw,U0,U1,U2,U3,U4,Ta,Tb,Te,Tf,Tr,Ts,Tu,Tw,Tx,T3,T6,T7,T8,TB,TC,TD,SB,SC,SD,a1,a2,t1,t4,e92]; all_goals tactic => exact rfl))
  · rw [oW_1,oX_1]
    cases f <;> cases db <;> cases bb <;> (sym => (simp [cO_gr,cO_nm,cO_sl,cO_len,Za,Zb,Zf,Zg,Zh,Zj,Zl,Zm,Zo,Zp,Zq,Zr,Zs,Zt,Zu,Zx,Z2,Z3,Z7,ZF,ZN,ZO,ZS,ZT,ZU,ZV,ZW,Ye,Yi,Yq,Yu,Yv,YN,YO,YP,YR,YT,YU,YX,Xm,Xn,Xo,Xq,Xr,Xs,Xu,Wy,Wz,W0,W4,W5,W6,W7,WA,WB,WE,WF,WH,WI,WJ,WK,WL,WM,WN,WO,WP,WQ,WR,WS,WV,WW,Vb,Ve,Vf,Vg,Vr,Vt,Vu,Vw,Vx,Vz,VL,VM,VN,VO,VP,VU,VV,VW,VX,VY,Ua,Ub,Uc,Ue,Uf,Ui,Uk,Ul,Um,Uo,Uq,Ur,Uv,Uw,U0,U1,U2,U3,U4,Ta,Tb,Te,Tf,Tr,Ts,Tu,Tw,Tx,T3,T6,T7,T8,TB,TC,TD,SB,SC,SD,a1,a2,t1,t4,e92]; all_goals tactic => exact rfl))
end
end Go.Proofs.YtpbeclkpohehgaaDoor
namespace Go.Proofs.YtpbeclkpohehgaaDoor
open Go Go.DL
set_option maxRecDepth 100000
set_option maxHeartbeats 4000000
section
variable {l : Li}
theorem round45S (g : Good l) (hf : l.Fit) {os : List Int} (hos : os.length ≤ 10) {d k : Nat} (hd : d < 2 ^ l.ls.length) (L E : List (List Int)) (hL : L.length ≤ 1000000) (hE : E.length ≤ 1000000) (hk : k < l.ls.length) (Z : Option XB)
    (hz : Z = none ∨ Z = some (.blk true (.cells true ((os ++ [(k : Int)]).map I))))
    (hx : canB (behF l.ts) d k = true → E ≠ [] ∧ runW progX 45 [.agg l.c,.sl 0 0 1 (os ++ [(k : Int)]).length] [some (.blk true (.cells true ((os ++ [(k : Int)]).map I)))] = some (rO E,[Z])) :
    headX 1 [1,2,5,8,36,37] (execW progX 45 1 none (match x45l2 with | .loop _ a => a | c => c) (envL [1,2,5,8,36,37] [.sl 0 0 1 os.length,.pt 1 0,.sl 2 0 1 l.ls.length,oW 3 L,I l.ls.length,I (k : Nat)]) ([some (.blk true (.cells true (os.map I))),some (.blk true (.cells true l.c)),some (.blk true (.cells true ((dL l.ls.length d).map AV.bool)))] ++ oX L)) =
      some ([.sl 0 0 1 os.length,.pt 1 0,.sl 2 0 1 l.ls.length,oW 3 (if canB (behF l.ts) d k = true then L ++ E else L),I l.ls.length,I (k + 1 : Nat)],[some (.blk true (.cells true (os.map I))),some (.blk true (.cells true l.c)),some (.blk true (.cells true ((dL l.ls.length d).map AV.bool)))] ++ oX (if canB (behF l.ts) d k = true then L ++ E else L)) := by
  have hn := g.few
  have p := g.prec
  have a1 := lt_ix hk
  have a2 := up_ix hk (by omega)
  have t1 := dL_get (n := l.ls.length) (d := d) (k := k) hk
  have t4 := dL_len l.ls.length d
  have z := UZ (n := (l.ls.length : Int))
  have rd := fun j hj => round45cS g hf (os := os) (d := d) (k := k) (j := j) L hk hj (cnN (behF l.ts) d k j) (cnN (behF l.ts) d k (j + 1)) rfl
  have c0 : cnN (behF l.ts) d k 0 = !d.testBit k := rfl
  have cn := cn_can p hn (k := k) hd
  have b1 : ((os.length + 1) * 8 ≤ 1099511627776) = True := eq_true (by omega)
  have b2 : (os.length + 1 ≤ 1099511627776) = True := eq_true (by omega)
  have b3 : (os.length * 8 ≤ 1099511627776) = True := eq_true (by omega)
  have b4 : (os.length ≤ 1099511627776) = True := eq_true (by omega)
  have b5 : List.take os.length (List.drop 0 (os.map I)) = os.map I := List.take_of_length_le (by simp)
  generalize behF l.ts = b at *
  generalize dL l.ls.length d = dl at *
  generalize d.testBit k = dk at *
  unfold x45l2
  dsimp only
  rcases L with _ | ⟨e,es⟩
  · rw [oW_0,oX_0] at *
    sym =>
      simp [cO_gr,cO_nm,cO_sl,cO_len,cO_fl,cO_all,Za,Zb,Zd,Ze,Zf,Zg,Zh,Zk,Zl,Zm,Zn,Zu,Z0,Z2,Z3,Z5,Z7,ZD,ZF,ZG,ZI,ZL,ZP,ZQ,ZS,ZT,ZW,ZY,Ya,Ye,Yi,Yq,Yu,Yv,Y0,YN,YO,YP,YR,YT,YU,YX,Xb,Xm,Xn,Xo,Xq,Xr,Xs,Xu,Wl,Wv,Wx,Wy,Wz,W0,W3,W4,W5,W6,W7,W9,WA,WB,WC,WE,WF,WH,WI,WJ,WK,WL,WM,WN,WO,WP,WQ,WR,WS,WT,WU,WV,WW,Va,Vb,Ve,Vf,Vg,Vh,Vi,Vj,Vk,Vm,Vr,Vt,Vu,Vw,Vx,Vz,VL,VM,VN,VO,VP,VQ,VR,VU,VV,VW,VX,VY,VZ,Ua,Ub,Uc,Ud,Ue,Uf,Ui,Um,Un,Ur,Uv,Uw,Ux,Uy,Uz,U0,U1,U2,U3,U4,U5,U6,UD,UE,UF,UG,UL,UM,UN,UO,US,UT,UU,UV,UW,UX,UY,UZ,Ta,Tb,Te,Tf,Tk,Tl,Tm,Tn,Tp,Tq,Tr,Ts,Tu,Tv,Tw,Tx,Ty,T3,T5,T6,T7,T8,TB,TC,TE,TI,TU,Su,Sw,Sx,SB,SC,SD,a1,t1,t4]
      tactic =>
        unfold x45l1
        rw [loop_rule l.ls.length (fun j => [.sl 0 0 1 os.length,.pt 1 0,.sl 2 0 1 l.ls.length,.nilsl,I (k : Nat),.bool (cnN b d k j),I l.ls.length,I (k : Nat),I l.ls.length,I (j : Nat)]) (fun _ => [some (.blk true (.cells true (os.map I))),some (.blk true (.cells true l.c)),some (.blk true (.cells true (dl.map AV.bool)))])]
        · rw [cn]
          cases hc : canB b d k with
          | false =>
            rw [if_neg (by simp),oW_0,oX_0]
            (sym => (simp [cO_gr,cO_nm,cO_sl,cO_len,cO_fl,cO_all,Za,Zb,Zd,Ze,Zf,Zg,Zh,Zk,Zl,Zm,Zn,Zu,Z0,Z2,Z3,Z5,Z7,ZD,ZF,ZG,ZI,ZL,ZP,ZQ,ZS,ZT,ZW,ZY,Ya,Ye,Yi,Yq,Yu,Yv,Y0,YN,YO,YP,YR,YT,YU,YX,Xb,Xm,Xn,Xo,Xq,Xr,Xs,Xu,Wl,Wv,Wx,Wy,Wz,W0,W3,W4,W5,W6,W7,W9,WA,WB,WC,WE,WF,WH,WI,WJ,WK,WL,WM,WN,WO,WP,WQ,WR,WS,WT,WU,WV,WW,Va,Vb,Ve,Vf,Vg,Vh,Vi,Vj,Vk,Vm,Vr,Vt,Vu,Vw,Vx,Vz,VL,VM,VN,VO,VP,VQ,VR,VU,VV,VW,VX,VY,VZ,Ua,Ub,Uc,Ud,Ue,Uf,Ui,Um,Un,Ur,Uv,Uw,Ux,Uy,Uz,U0,U1,U2,U3,U4,U5,U6,UD,UE,UF,UG,UL,UM,UN,UO,US,UT,UU,UV,UW,UX,UY,UZ,Ta,Tb,Te,Tf,Tk,Tl,Tm,Tn,Tp,Tq,Tr,Ts,Tu,Tv,Tw,Tx,Ty,T3,T5,T6,T7,T8,TB,TC,TE,TI,TU,Su,Sw,Sx,SB,SC,SD,z,a2]; all_goals tactic => exact rfl))
          | true =>
            obtain ⟨hE2,hx⟩ := hx hc
            rw [if_pos rfl]
            rcases E with _ | ⟨f,fs⟩
            · exact absurd rfl hE2
            have l1 : ((fs.length + 1) * 24 ≤ 1099511627776) = True := eq_true (by simp at hE; omega)
            have l2 : (fs.length + 1 ≤ 1099511627776) = True := eq_true (by simp at hE; omega)
            rw [List.nil_append,oW_1,oX_1]
            simp only [List.map_append,List.map_cons,List.map_nil,List.length_append,List.length_cons,List.length_nil,Nat.zero_add,List.nil_append] at hx hz
            rcases hz with rfl | rfl
            · (sym => (simp [cO_gr,cO_nm,cO_sl,cO_len,cO_fl,cO_all,Za,Zb,Zd,Ze,Zf,Zg,Zh,Zk,Zl,Zm,Zn,Zu,Z0,Z2,Z3,Z5,Z7,ZD,ZF,ZG,ZI,ZL,ZP,ZQ,ZS,ZT,ZW,ZY,Ya,Ye,Yi,Yq,Yu,Yv,Y0,YN,YO,YP,YR,YT,YU,YX,Xb,Xm,Xn,Xo,Xq,Xr,Xs,Xu,Wl,Wv,Wx,Wy,Wz,W0,W3,W4,W5,W6,W7,W9,WA,WB,WC,WE,WF,WH,WI,WJ,WK,WL,WM,WN,WO,WP,WQ,WR,WS,WT,WU,WV,WW,Va,Vb,Ve,Vf,Vg,Vh,Vi,Vj,Vk,Vm,Vr,Vt,Vu,Vw,Vx,Vz,VL,VM,VN,VO,VP,VQ,VR,VU,VV,VW,VX,VY,VZ,Ua,Ub,Uc,Ud,Ue,Uf,Ui,Um,Un,Ur,Uv,Uw,Ux,Uy,Uz,U0,U1,U2,U3,U4,U5,U6,UD,UE,UF,UG,UL,UM,UN,UO,US,UT,UU,UV,UW,UX,UY,UZ,Ta,Tb,Te,Tf,Tk,Tl,Tm,Tn,Tp,Tq,Tr,Ts,Tu,Tv,Tw,Tx,Ty,T3,T5,T6,T7,T8,TB,TC,TE,TI,TU,Su,Sw,Sx,SB,SC,SD,z,a2,hx,b1,b2,b3,b4,b5,l1,l2]; all_goals tactic => exact rfl))
            · (sym => (simp [cO_gr,cO_nm,cO_sl,cO_len,cO_fl,cO_all,Za,Zb,Zd,Ze,Zf,Zg,Zh,Zk,Zl,Zm,Zn,Zu,Z0,Z2,Z3,Z5,Z7,ZD,ZF,ZG,ZI,ZL,ZP,ZQ,ZS,ZT,ZW,ZY,Ya,Ye,Yi,Yq,Yu,Yv,Y0,YN,YO,YP,YR,YT,YU,YX,Xb,Xm,Xn,Xo,Xq,Xr,Xs,Xu,Wl,Wv,Wx,Wy,Wz,W0,W3,W4,W5,W6,W7,W9,WA,WB,WC,WE,WF,WH,WI,WJ,WK,WL,WM,WN,WO,WP,WQ,WR,WS,WT,WU,WV,WW,Va,Vb,Ve,Vf,Vg,Vh,Vi,Vj,Vk,Vm,Vr,Vt,Vu,Vw,Vx,Vz,VL,VM,VN,VO,VP,VQ,VR,VU,VV,VW,VX,VY,VZ,Ua,Ub,Uc,Ud,Ue,Uf,Ui,Um,Un,Ur,Uv,Uw,Ux,Uy,Uz,U0,U1,U2,U3,U4,U5,U6,UD,UE,UF,UG,UL,UM,UN,UO,US,UT,UU,UV,UW,UX,UY,UZ,Ta,Tb,Te,Tf,Tk,Tl,Tm,Tn,Tp,Tq,Tr,Ts,Tu,Tv,Tw,Tx,Ty,T3,T5,T6,T7,T8,TB,TC,TE,TI,TU,Su,Sw,Sx,SB,SC,SD,z,a2,hx,b1,b2,b3,b4,b5,l1,l2]; all_goals tactic => exact rfl))
        · rw [c0]; (sym => (simp [cO_gr,cO_nm,cO_sl,cO_len,cO_fl,cO_all,Za,Zb,Zd,Ze,Zf,Zg,Zh,Zk,Zl,Zm,Zn,Zu,Z0,Z2,Z3,Z5,Z7,ZD,ZF,ZG,ZI,ZL,ZP,ZQ,ZS,ZT,ZW,ZY,Ya,Ye,Yi,Yq,Yu,Yv,Y0,YN,YO,YP,YR,YT,YU,YX,Xb,Xm,Xn,Xo,Xq,Xr,Xs,Xu,Wl,Wv,Wx,Wy,Wz,W0,W3,W4,W5,W6,W7,W9,WA,WB,WC,WE,WF,WH,WI,WJ,WK,WL,WM,WN,WO,WP,WQ,WR,WS,WT,WU,WV,WW,Va,Vb,Ve,Vf,Vg,Vh,Vi,Vj,Vk,Vm,Vr,Vt,Vu,Vw,Vx,Vz,VL,VM,VN,VO,VP,VQ,VR,VU,VV,VW,VX,VY,VZ,Ua,Ub,Uc,Ud,Ue,Uf,Ui,Um,Un,Ur,Uv,Uw,Ux,Uy,Uz,U0,U1,U2,U3,U4,U5,U6,UD,UE,UF,UG,UL,UM,UN,UO,US,UT,UU,UV,UW,UX,UY,UZ,Ta,Tb,Te,Tf,Tk,Tl,Tm,Tn,Tp,Tq,Tr,Ts,Tu,Tv,Tw,Tx,Ty,T3,T5,T6,T7,T8,TB,TC,TE,TI,TU,Su,Sw,Sx,SB,SC,SD]; all_goals tactic => exact rfl))
        · exact rd
        · (sym => (simp [cO_gr,cO_nm,cO_sl,cO_len,cO_fl,cO_all,Za,Zb,Zd,Ze,Zf,Zg,Zh,Zk,Zl,Zm,Zn,Zu,Z0,Z2,Z3,Z5,Z7,ZD,ZF,ZG,ZI,ZL,ZP,ZQ,ZS,ZT,ZW,ZY,Ya,Ye,Yi,Yq,Yu,Yv,Y0,YN,YO,YP,YR,YT,YU,YX,Xb,Xm,Xn,Xo,Xq,Xr,Xs,Xu,Wl,Wv,Wx,Wy,Wz,W0,W3,W4,W5,W6,W7,W9,WA,WB,WC,WE,WF,WH,WI,WJ,WK,WL,WM,WN,WO,WP,WQ,WR,WS,WT,WU,WV,WW,Va,Vb,Ve,Vf,Vg,Vh,Vi,Vj,Vk,Vm,Vr,Vt,Vu,Vw,Vx,Vz,VL,VM,VN,VO,VP,VQ,VR,VU,VV,VW,VX,VY,VZ,Ua,Ub,Uc,Ud,Ue,Uf,Ui,Um,Un,Ur,Uv,Uw,Ux,Uy,Uz,U0,U1,U2,U3,U4,U5,U6,UD,UE,UF,UG,UL,UM,UN,UO,US,UT,UU,UV,UW,UX,UY,UZ,Ta,Tb,Te,Tf,Tk,Tl,Tm,Tn,Tp,Tq,Tr,Ts,Tu,Tv,Tw,Tx,Ty,T3,T5,T6,T7,T8,TB,TC,TE,TI,TU,Su,Sw,Sx,SB,SC,SD,z]; all_goals tactic => exact rfl))
  · rw [oW_1,oX_1] at *
    sym =>
      simp [cO_gr,cO_nm,cO_sl,cO_len,cO_fl,cO_all,Za,Zb,Zd,Ze,Zf,Zg,Zh,Zk,Zl,Zm,Zn,Zu,Z0,Z2,Z3,Z5,Z7,ZD,ZF,ZG,ZI,ZL,ZP,ZQ,ZS,ZT,ZW,ZY,Ya,Ye,Yi,Yq,Yu,Yv,Y0,YN,YO,YP,YR,YT,YU,YX,Xb,Xm,Xn,Xo,Xq,Xr,Xs,Xu,Wl,Wv,Wx,Wy,Wz,W0,W3,W4,W5,W6,W7,W9,WA,WB,WC,WE,WF,WH,WI,WJ,WK,WL,WM,WN,WO,WP,WQ,WR,WS,WT,WU,WV,WW,Va,Vb,Ve,Vf,Vg,Vh,Vi,Vj,Vk,Vm,Vr,Vt,Vu,Vw,Vx,Vz,VL,VM,VN,VO,VP,VQ,VR,VU,VV,VW,VX,VY,VZ,Ua,Ub,Uc,Ud,Ue,Uf,Ui,Um,Un,Ur,Uv,Uw,Ux,Uy,Uz,U0,U1,U2,U3,U4,U5,U6,UD,UE,UF,UG,UL,UM,UN,UO,US,UT,UU,UV,UW,UX,UY,UZ,Ta,Tb,Te,Tf,Tk,Tl,Tm,Tn,Tp,Tq,Tr,Ts,Tu,Tv,Tw,Tx,Ty,T3,T5,T6,T7,T8,TB,TC,TE,TI,TU,Su,Sw,Sx,SB,SC,SD,a1,t1,t4]
      tactic =>
        unfold x45l1
        rw [loop_rule l.ls.length (fun j => [.sl 0 0 1 os.length,.pt 1 0,.sl 2 0 1 l.ls.length,.sl 3 0 1 (es.length + 1),I (k : Nat),.bool (cnN b d k j),I l.ls.length,I (k : Nat),I l.ls.length,I (j : Nat)]) (fun _ => [some (.blk true (.cells true (os.map I))),some (.blk true (.cells true l.c)),some (.blk true (.cells true (dl.map AV.bool))),some (.blk true (.cells true (rI e :: cO es)))])]
        · rw [cn]
          cases hc : canB b d k with
          | false =>
            rw [if_neg (by simp),oW_1,oX_1]
            (sym => (simp [cO_gr,cO_nm,cO_sl,cO_len,cO_fl,cO_all,Za,Zb,Zd,Ze,Zf,Zg,Zh,Zk,Zl,Zm,Zn,Zu,Z0,Z2,Z3,Z5,Z7,ZD,ZF,ZG,ZI,ZL,ZP,ZQ,ZS,ZT,ZW,ZY,Ya,Ye,Yi,Yq,Yu,Yv,Y0,YN,YO,YP,YR,YT,YU,YX,Xb,Xm,Xn,Xo,Xq,Xr,Xs,Xu,Wl,Wv,Wx,Wy,Wz,W0,W3,W4,W5,W6,W7,W9,WA,WB,WC,WE,WF,WH,WI,WJ,WK,WL,WM,WN,WO,WP,WQ,WR,WS,WT,WU,WV,WW,Va,Vb,Ve,Vf,Vg,Vh,Vi,Vj,Vk,Vm,Vr,Vt,Vu,Vw,Vx,Vz,VL,VM,VN,VO,VP,VQ,VR,VU,VV,VW,VX,VY,VZ,Ua,Ub,Uc,Ud,Ue,Uf,Ui,Um,Un,Ur,Uv,Uw,Ux,Uy,Uz,U0,U1,U2,U3,U4,U5,U6,UD,UE,UF,UG,UL,UM,UN,UO,US,UT,UU,UV,UW,UX,UY,UZ,Ta,Tb,Te,Tf,Tk,Tl,Tm,Tn,Tp,Tq,Tr,Ts,Tu,Tv,Tw,Tx,Ty,T3,T5,T6,T7,T8,TB,TC,TE,TI,TU,Su,Sw,Sx,SB,SC,SD,z,a2]; all_goals tactic => exact rfl))
          | true =>
            obtain ⟨hE2,hx⟩ := hx hc
            rw [if_pos rfl,List.cons_append,oW_1,oX_1,cO_app,List.length_append]
            simp only [List.map_append,List.map_cons,List.map_nil,List.length_append,List.length_cons,List.length_nil,Nat.zero_add,List.nil_append] at hx hz
            have l1 : ((es.length + 1 + E.length) * 24 ≤ 1099511627776) = True := eq_true (by simp at hL; omega)
            have l2 : (es.length + 1 + E.length ≤ 1099511627776) = True := eq_true (by simp at hL; omega)
            have l3 : es.length + 1 + E.length = es.length + E.length + 1 := by omega
            have l4 : ((es.length + E.length + 1) * 24 ≤ 1099511627776) = True := eq_true (by simp at hL; omega)
            have l5 : (es.length + E.length + 1 ≤ 1099511627776) = True := eq_true (by simp at hL; omega)
            rcases hz with rfl | rfl
            · (sym => (simp [cO_gr,cO_nm,cO_sl,cO_len,cO_fl,cO_all,Za,Zb,Zd,Ze,Zf,Zg,Zh,Zk,Zl,Zm,Zn,Zu,Z0,Z2,Z3,Z5,Z7,ZD,ZF,ZG,ZI,ZL,ZP,ZQ,ZS,ZT,ZW,ZY,Ya,Ye,Yi,Yq,Yu,Yv,Y0,YN,YO,YP,YR,YT,YU,YX,Xb,Xm,Xn,Xo,Xq,Xr,Xs,Xu,Wl,Wv,Wx,Wy,Wz,W0,W3,W4,W5,W6,W7,W9,WA,WB,WC,WE,WF,WH,WI,WJ,WK,WL,WM,WN,WO,WP,WQ,WR,WS,WT,WU,WV,WW,Va,Vb,Ve,Vf,Vg,Vh,Vi,Vj,Vk,Vm,Vr,Vt,Vu,Vw,Vx,Vz,VL,VM,VN,VO,VP,VQ,VR,VU,VV,VW,VX,VY,VZ,Ua,Ub,Uc,Ud,Ue,Uf,Ui,Um,Un,Ur,Uv,Uw,Ux,Uy,Uz,U0,U1,U2,U3,U4,U5,U6,UD,UE,UF,UG,UL,UM,UN,UO,US,UT,UU,UV,UW,UX,UY,UZ,Ta,Tb,Te,Tf,Tk,Tl,Tm,Tn,Tp,Tq,Tr,Ts,Tu,Tv,Tw,Tx,Ty,T3,T5,T6,T7,T8,TB,TC,TE,TI,TU,Su,Sw,Sx,SB,SC,SD,z,a2,hx,b1,b2,b3,b4,b5,l3,l4,l5]; all_goals tactic => exact rfl))
            · (sym => (simp [cO_gr,cO_nm,cO_sl,cO_len,cO_fl,cO_all,Za,Zb,Zd,Ze,Zf,Zg,Zh,Zk,Zl,Zm,Zn,Zu,Z0,Z2,Z3,Z5,Z7,ZD,ZF,ZG,ZI,ZL,ZP,ZQ,ZS,ZT,ZW,ZY,Ya,Ye,Yi,Yq,Yu,Yv,Y0,YN,YO,YP,YR,YT,YU,YX,Xb,Xm,Xn,Xo,Xq,Xr,Xs,Xu,Wl,Wv,Wx,Wy,Wz,W0,W3,W4,W5,W6,W7,W9,WA,WB,WC,WE,WF,WH,WI,WJ,WK,WL,WM,WN,WO,WP,WQ,WR,WS,WT,WU,WV,WW,Va,Vb,Ve,Vf,Vg,Vh,Vi,Vj,Vk,Vm,Vr,Vt,Vu,Vw,Vx,Vz,VL,VM,VN,VO,VP,VQ,VR,VU,VV,VW,VX,VY,VZ,Ua,Ub,Uc,Ud,Ue,Uf,Ui,Um,Un,Ur,Uv,Uw,Ux,Uy,Uz,U0,U1,U2,U3,U4,U5,U6,UD,UE,UF,UG,UL,UM,UN,UO,US,UT,UU,UV,UW,UX,UY,UZ,Ta,Tb,Te,Tf,Tk,Tl,Tm,Tn,Tp,Tq,Tr,Ts,Tu,Tv,Tw,Tx,Ty,T3,T5,T6,T7,T8,TB,TC,TE,TI,TU,Su,Sw,Sx,SB,SC,SD,z,a2,hx,b1,b2,b3,b4,b5,l3,l4,l5]; all_goals tactic => exact rfl))
        · rw [c0]; (sym => (simp [cO_gr,cO_nm,cO_sl,cO_len,cO_fl,cO_all,Za,Zb,Zd,Ze,Zf,Zg,Zh,Zk,Zl,Zm,Zn,Zu,Z0,Z2,Z3,Z5,Z7,ZD,ZF,ZG,ZI,ZL,ZP,ZQ,ZS,ZT,ZW,ZY,Ya,Ye,Yi,Yq,Yu,Yv,Y0,YN,YO,YP,YR,YT,YU,YX,Xb,Xm,Xn,Xo,Xq,Xr,Xs,Xu,Wl,Wv,Wx,Wy,Wz,W0,W3,W4,W5,W6,W7,W9,WA,WB,WC,WE,WF,WH,WI,WJ,WK,WL,WM,WN,WO,WP,WQ,WR,WS,WT,WU,WV,WW,Va,Vb,Ve,Vf,Vg,Vh,Vi,Vj,Vk,Vm,Vr,Vt,Vu,Vw,Vx,Vz,VL,VM,VN,VO,VP,VQ,VR,VU,VV,VW,VX,VY,VZ,Ua,Ub,Uc,Ud,Ue,Uf,Ui,Um,Un,Ur,Uv,Uw,Ux,Uy,Uz,U0,U1,U2,U3,U4,U5,U6,UD,UE,UF,UG,UL,UM,UN,UO,US,UT,UU,UV,UW,UX,UY,UZ,Ta,Tb,Te,Tf,Tk,Tl,Tm,Tn,Tp,Tq,Tr,Ts,Tu,Tv,Tw,Tx,Ty,T3,T5,T6,T7,T8,TB,TC,TE,TI,TU,Su,Sw,Sx,SB,SC,SD]; all_goals tactic => exact rfl))
        · exact rd
        · (sym => (simp [cO_gr,cO_nm,cO_sl,cO_len,cO_fl,cO_all,Za,Zb,Zd,Ze,Zf,Zg,Zh,Zk,Zl,Zm,Zn,Zu,Z0,Z2,Z3,Z5,Z7,ZD,ZF,ZG,ZI,ZL,ZP,ZQ,ZS,ZT,ZW,ZY,Ya,Ye,Yi,Yq,Yu,Yv,Y0,YN,YO,YP,YR,YT,YU,YX,Xb,Xm,Xn,Xo,Xq,Xr,Xs,Xu,Wl,Wv,Wx,Wy,Wz,W0,W3,W4,W5,W6,W7,W9,WA,WB,WC,WE,WF,WH,WI,WJ,WK,WL,WM,WN,WO,WP,WQ,WR,WS,WT,WU,WV,WW,Va,Vb,Ve,Vf,Vg,Vh,Vi,Vj,Vk,Vm,Vr,Vt,Vu,Vw,Vx,Vz,VL,VM,VN,VO,VP,VQ,VR,VU,VV,VW,VX,VY,VZ,Ua,Ub,Uc,Ud,Ue,Uf,Ui,Um,Un,Ur,Uv,Uw,Ux,Uy,Uz,U0,U1,U2,U3,U4,U5,U6,UD,UE,UF,UG,UL,UM,UN,UO,US,UT,UU,UV,UW,UX,UY,UZ,Ta,Tb,Te,Tf,Tk,Tl,Tm,Tn,Tp,Tq,Tr,Ts,Tu,Tv,Tw,Tx,Ty,T3,T5,T6,T7,T8,TB,TC,TE,TI,TU,Su,Sw,Sx,SB,SC,SD,z]; all_goals tactic => exact rfl))
theorem round45T (g : Good l) (hf : l.Fit) {d k : Nat} (hd : d < 2 ^ l.ls.length) (L E : List (List Int)) (hL : L.length ≤ 1000000) (hE : E.length ≤ 1000000) (hk : k < l.ls.length) (Z : Option XB)
    (hz : Z = none ∨ Z = some (.blk true (.cells true ([(k : Int)].map I))))
    (hx : canB (behF l.ts) d k = true → E ≠ [] ∧ runW progX 45 [.agg l.c,.sl 0 0 1 1] [some (.blk true (.cells true ([(k : Int)].map I)))] = some (rO E,[Z])) :
    headX 0 [1,2,5,8,36,37] (execW progX 45 0 none (match x45l2 with | .loop _ a => a | c => c) (envL [1,2,5,8,36,37] [.fs [],.pt 0 0,.sl 1 0 1 l.ls.length,oW 2 L,I l.ls.length,I (k : Nat)]) ([some (.blk true (.cells true l.c)),some (.blk true (.cells true ((dL l.ls.length d).map AV.bool)))] ++ oX L)) =
      some ([.fs [],.pt 0 0,.sl 1 0 1 l.ls.length,oW 2 (if canB (behF l.ts) d k = true then L ++ E else L),I l.ls.length,I (k + 1 : Nat)],[some (.blk true (.cells true l.c)),some (.blk true (.cells true ((dL l.ls.length d).map AV.bool)))] ++ oX (if canB (behF l.ts) d k = true then L ++ E else L)) := by
  have hn := g.few
  have p := g.prec
  have a1 := lt_ix hk
  have a2 := up_ix hk (by omega)
  have t1 := dL_get (n := l.ls.length) (d := d) (k := k) hk
  have t4 := dL_len l.ls.length d
  have z := UZ (n := (l.ls.length : Int))
  have rd := fun j hj => round45cT g hf (d := d) (k := k) (j := j) L hk hj (cnN (behF l.ts) d k j) (cnN (behF l.ts) d k (j + 1)) rfl
  have c0 : cnN (behF l.ts) d k 0 = !d.testBit k := rfl
  have cn := cn_can p hn (k := k) hd
  generalize behF l.ts = b at *
  generalize dL l.ls.length d = dl at *
  generalize d.testBit k = dk at *
  unfold x45l2
  dsimp only
  rcases L with _ | ⟨e,es⟩
  · rw [oW_0,oX_0] at *
    sym =>
      simp [cO_gr,cO_nm,cO_sl,cO_len,cO_fl,cO_all,Za,Zb,Zd,Ze,Zf,Zg,Zh,Zk,Zl,Zm,Zn,Zu,Z0,Z2,Z3,Z5,Z7,ZD,ZF,ZG,ZI,ZL,ZP,ZQ,ZS,ZT,ZW,ZY,Ya,Ye,Yi,Yq,Yu,Yv,Y0,YN,YO,YP,YR,YT,YU,YX,Xb,Xm,Xn,Xo,Xq,Xr,Xs,Xu,Wl,Wv,Wx,Wy,Wz,W0,W3,W4,W5,W6,W7,W9,WA,WB,WC,WE,WF,WH,WI,WJ,WK,WL,WM,WN,WO,WP,WQ,WR,WS,WT,WU,WV,WW,Vb,Ve,Vf,Vg,Vh,Vi,Vj,Vk,Vm,Vr,Vt,Vu,Vw,Vx,Vz,VL,VM,VN,VO,VP,VQ,VR,VU,VV,VW,VX,VY,Ua,Ub,Uc,Ud,Ue,Uf,Ui,Um,Un,Ur,Uv,Uw,Ux,Uy,Uz,U0,U1,U2,U3,U4,U5,U6,UD,UE,UF,UG,UL,UM,UN,UO,US,UT,UU,UV,UW,UX,UY,UZ,Ta,Tb,Te,Tf,Tk,Tl,Tm,Tn,Tp,Tq,Tr,Ts,Tu,Tv,Tw,Tx,Ty,T3,T5,T6,T7,T8,TB,TC,TD,TI,TU,Su,Sw,Sx,SB,SC,SD,a1,t1,t4]
      tactic =>
        unfold x45l1
        rw [loop_rule l.ls.length (fun j => [.fs [],.pt 0 0,.sl 1 0 1 l.ls.length,.nilsl,I (k : Nat),.bool (cnN b d k j),I l.ls.length,I (k : Nat),I l.ls.length,I (j : Nat)]) (fun _ => [some (.blk true (.cells true l.c)),some (.blk true (.cells true (dl.map AV.bool)))])]
        · rw [cn]
          cases hc : canB b d k with
          | false =>
            rw [if_neg (by simp),oW_0,oX_0]
            (sym => (simp [cO_gr,cO_nm,cO_sl,cO_len,cO_fl,cO_all,Za,Zb,Zd,Ze,Zf,Zg,Zh,Zk,Zl,Zm,Zn,Zu,Z0,Z2,Z3,Z5,Z7,ZD,ZF,ZG,ZI,ZL,ZP,ZQ,ZS,ZT,ZW,ZY,Ya,Ye,Yi,Yq,Yu,Yv,Y0,YN,YO,YP,YR,YT,YU,YX,Xb,Xm,Xn,Xo,Xq,Xr,Xs,Xu,Wl,Wv,Wx,Wy,Wz,W0,W3,W4,W5,W6,W7,W9,WA,WB,WC,WE,WF,WH,WI,WJ,WK,WL,WM,WN,WO,WP,WQ,WR,WS,WT,WU,WV,WW,Vb,Ve,Vf,Vg,Vh,Vi,Vj,Vk,Vm,Vr,Vt,Vu,Vw,Vx,Vz,VL,VM,VN,VO,VP,VQ,VR,VU,VV,VW,VX,VY,Ua,Ub,Uc,Ud,Ue,Uf,Ui,Um,Un,Ur,Uv,Uw,Ux,Uy,Uz,U0,U1,U2,U3,U4,U5,U6,UD,UE,UF,UG,UL,UM,UN,UO,US,UT,UU,UV,UW,UX,UY,UZ,Ta,Tb,Te,Tf,Tk,Tl,Tm,Tn,Tp,Tq,Tr,Ts,Tu,Tv,Tw,Tx,Ty,T3,T5,T6,T7,T8,TB,TC,TD,TI,TU,Su,Sw,Sx,SB,SC,SD,z,a2]; all_goals tactic => exact rfl))
          | true =>
            obtain ⟨hE2,hx⟩ := hx hc
            rw [if_pos rfl]
            rcases E with _ | ⟨f,fs⟩
            · exact absurd rfl hE2
            have l1 : ((fs.length + 1) * 24 ≤ 1099511627776) = True := eq_true (by simp at hE; omega)
            have l2 : (fs.length + 1 ≤ 1099511627776) = True := eq_true (by simp at hE; omega)
            rw [List.nil_append,oW_1,oX_1]
            simp only [List.map_append,List.map_cons,List.map_nil,List.length_append,List.length_cons,List.length_nil,Nat.zero_add,List.nil_append] at hx hz
            rcases hz with rfl | rfl
            · (sym => (simp [cO_gr,cO_nm,cO_sl,cO_len,cO_fl,cO_all,Za,Zb,Zd,Ze,Zf,Zg,Zh,Zk,Zl,Zm,Zn,Zu,Z0,Z2,Z3,Z5,Z7,ZD,ZF,ZG,ZI,ZL,ZP,ZQ,ZS,ZT,ZW,ZY,Ya,Ye,Yi,Yq,Yu,Yv,Y0,YN,YO,YP,YR,YT,YU,YX,Xb,Xm,Xn,Xo,Xq,Xr,Xs,Xu,Wl,Wv,Wx,Wy,Wz,W0,W3,W4,W5,W6,W7,W9,WA,WB,WC,WE,WF,WH,WI,WJ,WK,WL,WM,WN,WO,WP,WQ,WR,WS,WT,WU,WV,WW,Vb,Ve,Vf,Vg,Vh,Vi,Vj,Vk,Vm,Vr,Vt,Vu,Vw,Vx,Vz,VL,VM,VN,VO,VP,VQ,VR,VU,VV,VW,VX,VY,Ua,Ub,Uc,Ud,Ue,Uf,Ui,Um,Un,Ur,Uv,Uw,Ux,Uy,Uz,U0,U1,U2,U3,U4,U5,U6,UD,UE,UF,UG,UL,UM,UN,UO,US,UT,UU,UV,UW,UX,UY,UZ,Ta,Tb,Te,Tf,Tk,Tl,Tm,Tn,Tp,Tq,Tr,Ts,Tu,Tv,Tw,Tx,Ty,T3,T5,T6,T7,T8,TB,TC,TD,TI,TU,Su,Sw,Sx,SB,SC,SD,z,a2,hx,l1,l2]; all_goals tactic => exact rfl))
            · (sym => (simp [cO_gr,cO_nm,cO_sl,cO_len,cO_fl,cO_all,Za,Zb,Zd,Ze,Zf,Zg,Zh,Zk,Zl,Zm,Zn,Zu,Z0,Z2,Z3,Z5,Z7,ZD,ZF,ZG,ZI,ZL,ZP,ZQ,ZS,ZT,ZW,ZY,Ya,Ye,Yi,Yq,Yu,Yv,Y0,YN,YO,YP,YR,YT,YU,YX,Xb,Xm,Xn,Xo,Xq,Xr,Xs,Xu,Wl,Wv,Wx,Wy,Wz,W0,W3,W4,W5,W6,W7,W9,WA,WB,WC,WE,WF,WH,WI,WJ,WK,WL,WM,WN,WO,WP,WQ,WR,WS,WT,WU,WV,WW,Vb,Ve,Vf,Vg,Vh,Vi,Vj,Vk,Vm,Vr,Vt,Vu,Vw,Vx,Vz,VL,VM,VN,VO,VP,VQ,VR,VU,VV,VW,VX,VY,Ua,Ub,Uc,Ud,Ue,Uf,Ui,Um,Un,Ur,Uv,Uw,Ux,Uy,Uz,U0,U1,U2,U3,U4,U5,U6,UD,UE,UF,UG,UL,UM,UN,UO,US,UT,UU,UV,UW,UX,UY,UZ,Ta,Tb,Te,Tf,Tk,Tl,Tm,Tn,Tp,Tq,Tr,Ts,Tu,Tv,Tw,Tx,Ty,T3,T5,T6,T7,T8,TB,TC,TD,TI,TU,Su,Sw,Sx,SB,SC,SD,z,a2,hx,l1,l2]; all_goals tactic => exact rfl))
        · rw [c0]; (sym => (simp [cO_gr,cO_nm,cO_sl,cO_len,cO_fl,cO_all,Za,Zb,Zd,Ze,Zf,Zg,Zh,Zk,Zl,Zm,Zn,Zu,Z0,Z2,Z3,Z5,Z7,ZD,ZF,ZG,ZI,ZL,ZP,ZQ,ZS,ZT,ZW,ZY,Ya,Ye,Yi,Yq,Yu,Yv,Y0,YN,YO,YP,YR,YT,YU,YX,Xb,Xm,Xn,Xo,Xq,Xr,Xs,Xu,Wl,Wv,Wx,Wy,Wz,W0,W3,W4,W5,W6,W7,W9,WA,WB,WC,WE,WF,WH,WI,WJ,WK,WL,WM,WN,WO,WP,WQ,WR,WS,WT,WU,WV,WW,Vb,Ve,Vf,Vg,Vh,Vi,Vj,Vk,Vm,Vr,Vt,Vu,Vw,Vx,Vz,VL,VM,VN,VO,VP,VQ,VR,VU,VV,VW,VX,VY,Ua,Ub,Uc,Ud,Ue,Uf,Ui,Um,Un,Ur,Uv,Uw,Ux,Uy,Uz,U0,U1,U2,U3,U4,U5,U6,UD,UE,UF,UG,UL,UM,UN,UO,US,UT,UU,UV,UW,UX,UY,UZ,Ta,Tb,Te,Tf,Tk,Tl,Tm,Tn,Tp,Tq,Tr,Ts,Tu,Tv,Tw,Tx,Ty,T3,T5,T6,T7,T8,TB,TC,TD,TI,TU,Su,Sw,Sx,SB,SC,SD]; all_goals tactic => exact rfl))
        · exact rd
        · (sym => (simp [cO_gr,cO_nm,cO_sl,cO_len,cO_fl,cO_all,Za,Zb,Zd,Ze,Zf,Zg,Zh,Zk,Zl,Zm,Zn,Zu,Z0,Z2,Z3,Z5,Z7,ZD,ZF,ZG,ZI,ZL,ZP,ZQ,ZS,ZT,ZW,ZY,Ya,Ye,Yi,Yq,Yu,Yv,Y0,YN,YO,YP,YR,YT,YU,YX,Xb,Xm,Xn,Xo,Xq,Xr,Xs,Xu,Wl,Wv,Wx,Wy,Wz,W0,W3,W4,W5,W6,W7,W9,WA,WB,WC,WE,WF,WH,WI,WJ,WK,WL,WM,WN,WO,WP,WQ,WR,WS,WT,WU,WV,WW,Vb,Ve,Vf,Vg,Vh,Vi,Vj,Vk,Vm,Vr,Vt,Vu,Vw,Vx,Vz,VL,VM,VN,VO,VP,VQ,VR,VU,VV,VW,VX,VY,Ua,Ub,Uc,Ud,Ue,Uf,Ui,Um,Un,Ur,Uv,Uw,Ux,Uy,Uz,U0,U1,U2,U3,U4,U5,U6,UD,UE,UF,UG,UL,UM,UN,UO,US,UT,UU,UV,UW,UX,UY,UZ,Ta,Tb,Te,Tf,Tk,Tl,Tm,Tn,Tp,Tq,Tr,Ts,Tu,Tv,Tw,Tx,Ty,T3,T5,T6,T7,T8,TB,TC,TD,TI,TU,Su,Sw,Sx,SB,SC,SD,z]; all_goals tactic => exact rfl))
  · rw [oW_1,oX_1] at *
    sym =>
      simp [cO_gr,cO_nm,cO_sl,cO_len,cO_fl,cO_all,Za,Zb,Zd,Ze,Zf,Zg,Zh,Zk,Zl,Zm,Zn,Zu,Z0,Z2,Z3,Z5,Z7,ZD,ZF,ZG,ZI,ZL,ZP,ZQ,ZS,ZT,ZW,ZY,Ya,Ye,Yi,Yq,Yu,Yv,Y0,YN,YO,YP,YR,YT,YU,YX,Xb,Xm,Xn,Xo,Xq,Xr,Xs,Xu,Wl,Wv,Wx,Wy,Wz,W0,W3,W4,W5,W6,W7,W9,WA,WB,WC,WE,WF,WH,WI,WJ,WK,WL,WM,WN,WO,WP,WQ,WR,WS,WT,WU,WV,WW,Vb,Ve,Vf,Vg,Vh,Vi,Vj,Vk,Vm,Vr,Vt,Vu,Vw,Vx,Vz,VL,VM,VN,VO,VP,VQ,VR,VU,VV,VW,VX,VY,Ua,Ub,Uc,Ud,Ue,Uf,Ui,Um,Un,Ur,Uv,Uw,Ux,Uy,Uz,U0,U1,U2,U3,U4,U5,U6,UD,UE,UF,UG,UL,UM,UN,UO,US,UT,UU,UV,UW,UX,UY,UZ,Ta,Tb,Te,Tf,Tk,Tl,Tm,Tn,Tp,Tq,Tr,Ts,Tu,Tv,Tw,Tx,Ty,T3,T5,T6,T7,T8,TB,TC,TD,TI,TU,Su,Sw,Sx,SB,SC,SD,a1,t1,t4]
      tactic =>
        unfold x45l1
        rw [loop_rule l.ls.length (fun j => [.fs [],.pt 0 0,.sl 1 0 1 l.ls.length,.sl 2 0 1 (es.length + 1),I (k : Nat),.bool (cnN b d k j),I l.ls.length,I (k : Nat),I l.ls.length,I (j : Nat)]) (fun _ => [some (.blk true (.cells true l.c)),some (.blk true (.cells true (dl.map AV.bool))),some (.blk true (.cells true (rI e :: cO es)))])]
        · rw [cn]
          cases hc : canB b d k with
          | false =>
            rw [if_neg (by simp),oW_1,oX_1]
            (sym => (simp [cO_gr,cO_nm,cO_sl,cO_len,cO_fl,cO_all,Za,Zb,Zd,Ze,Zf,Zg,Zh,Zk,Zl,Zm,Zn,Zu,Z0,Z2,Z3,Z5,Z7,ZD,ZF,ZG,ZI,ZL,ZP,ZQ,ZS,ZT,ZW,ZY,Ya,Ye,Yi,Yq,Yu,Yv,Y0,YN,YO,YP,YR,YT,YU,YX,Xb,Xm,Xn,Xo,Xq,Xr,Xs,Xu,Wl,Wv,Wx,Wy,Wz,W0,W3,W4,W5,W6,W7,W9,WA,WB,WC,WE,WF,WH,WI,WJ,WK,WL,WM,WN,WO,WP,WQ,WR,WS,WT,WU,WV,WW,Vb,Ve,Vf,Vg,Vh,Vi,Vj,Vk,Vm,Vr,Vt,Vu,Vw,Vx,Vz,VL,VM,VN,VO,VP,VQ,VR,VU,VV,VW,VX,VY,Ua,Ub,Uc,Ud,Ue,Uf,Ui,Um,Un,Ur,Uv,Uw,Ux,Uy,Uz,U0,U1,U2,U3,U4,U5,U6,UD,UE,UF,UG,UL,UM,UN,UO,US,UT,UU,UV,UW,UX,UY,UZ,Ta,Tb,Te,Tf,Tk,Tl,Tm,Tn,Tp,Tq,Tr,Ts,Tu,Tv,Tw,Tx,Ty,T3,T5,T6,T7,T8,TB,TC,TD,TI,TU,Su,Sw,Sx,SB,SC,SD,z,a2]; all_goals tactic => exact rfl))
          | true =>
            obtain ⟨hE2,hx⟩ := hx hc
            rw [if_pos rfl,List.cons_append,oW_1,oX_1,cO_app,List.length_append]
            simp only [List.map_append,List.map_cons,List.map_nil,List.length_append,List.length_cons,List.length_nil,Nat.zero_add,List.nil_append] at hx hz
            have l1 : ((es.length + 1 + E.length) * 24 ≤ 1099511627776) = True := eq_true (by simp at hL; omega)
            have l2 : (es.length + 1 + E.length ≤ 1099511627776) = True := eq_true (by simp at hL; omega)
            have l3 : es.length + 1 + E.length = es.length + E.length + 1 := by omega
            have l4 : ((es.length + E.length + 1) * 24 ≤ 1099511627776) = True := eq_true (by simp at hL; omega)
            have l5 : (es.length + E.length + 1 ≤ 1099511627776) = True := eq_true (by simp at hL; omega)
            rcases hz with rfl | rfl
            · (sym => (simp [cO_gr,cO_nm,cO_sl,cO_len,cO_fl,cO_all,Za,Zb,Zd,Ze,Zf,Zg,Zh,Zk,Zl,Zm,Zn,Zu,Z0,Z2,Z3,Z5,Z7,ZD,ZF,ZG,ZI,ZL,ZP,ZQ,ZS,ZT,ZW,ZY,Ya,Ye,Yi,Yq,Yu,Yv,Y0,YN,YO,YP,YR,YT,YU,YX,Xb,Xm,Xn,Xo,Xq,Xr,Xs,Xu,Wl,Wv,Wx,Wy,Wz,W0,W3,W4,W5,W6,W7,W9,WA,WB,WC,WE,WF,WH,WI,WJ,WK,WL,WM,WN,WO,WP,WQ,WR,WS,WT,WU,WV,WW,Vb,Ve,Vf,Vg,Vh,Vi,Vj,Vk,Vm,Vr,Vt,Vu,Vw,Vx,Vz,VL,VM,VN,VO,VP,VQ,VR,VU,VV,VW,VX,VY,Ua,Ub,Uc,Ud,Ue,Uf,Ui,Um,Un,Ur,Uv,Uw,Ux,Uy,Uz,U0,U1,U2,U3,U4,U5,U6,UD,UE,UF,UG,UL,UM,UN,UO,US,UT,UU,UV,UW,UX,UY,UZ,Ta,Tb,Te,Tf,Tk,Tl,Tm,Tn,Tp,Tq,Tr,Ts,Tu,Tv,Tw,Tx,Ty,T3,T5,T6,T7,T8,TB,TC,TD,TI,TU,Su,Sw,Sx,SB,SC,SD,z,a2,hx,l3,l4,l5]; all_goals tactic => exact rfl))
            · (sym => (simp [cO_gr,cO_nm,cO_sl,cO_len,cO_fl,cO_all,Za,Zb,Zd,Ze,Zf,Zg,Zh,Zk,Zl,Zm,Zn,Zu,Z0,Z2,Z3,Z5,Z7,ZD,ZF,ZG,ZI,ZL,ZP,ZQ,ZS,ZT,ZW,ZY,Ya,Ye,Yi,Yq,Yu,Yv,Y0,YN,YO,YP,YR,YT,YU,YX,Xb,Xm,Xn,Xo,Xq,Xr,Xs,Xu,Wl,Wv,Wx,Wy,Wz,W0,W3,W4,W5,W6,W7,W9,WA,WB,WC,WE,WF,WH,WI,WJ,WK,WL,WM,WN,WO,WP,WQ,WR,WS,WT,WU,WV,WW,Vb,Ve,Vf,Vg,Vh,Vi,Vj,Vk,Vm,Vr,Vt,Vu,Vw,Vx,Vz,VL,VM,VN,VO,VP,VQ,VR,VU,VV,VW,VX,VY,Ua,Ub,Uc,Ud,Ue,Uf,Ui,Um,Un,Ur,Uv,Uw,Ux,Uy,Uz,U0,U1,U2,U3,U4,U5,U6,UD,UE,UF,UG,UL,UM,UN,UO,US,UT,UU,UV,UW,UX,UY,UZ,Ta,Tb,Te,Tf,Tk,Tl,Tm,Tn,Tp,Tq,Tr,Ts,Tu,Tv,Tw,Tx,Ty,T3,T5,T6,T7,T8,TB,TC,TD,TI,TU,Su,Sw,Sx,SB,SC,SD,z,a2,hx,l3,l4,l5]; all_goals tactic => exact rfl))
        · rw [c0]; (sym => (simp [cO_gr,cO_nm,cO_sl,cO_len,cO_fl,cO_all,Za,Zb,Zd,Ze,Zf,Zg,Zh,Zk,Zl,Zm,Zn,Zu,Z0,Z2,Z3,Z5,Z7,ZD,ZF,ZG,ZI,ZL,ZP,ZQ,ZS,ZT,ZW,ZY,Ya,Ye,Yi,Yq,Yu,Yv,Y0,YN,YO,YP,YR,YT,YU,YX,Xb,Xm,Xn,Xo,Xq,Xr,Xs,Xu,Wl,Wv,Wx,Wy,Wz,W0,W3,W4,W5,W6,W7,W9,WA,WB,WC,WE,WF,WH,WI,WJ,WK,WL,WM,WN,WO,WP,WQ,WR,WS,WT,WU,WV,WW,Vb,Ve,Vf,Vg,Vh,Vi,Vj,Vk,Vm,Vr,Vt,Vu,Vw,Vx,Vz,VL,VM,VN,VO,VP,VQ,VR,VU,VV,VW,VX,VY,Ua,Ub,Uc,Ud,Ue,Uf,Ui,Um,Un,Ur,Uv,Uw,Ux,Uy,Uz,U0,U1,U2,U3,U4,U5,U6,UD,UE,UF,UG,UL,UM,UN,UO,US,UT,UU,UV,UW,UX,UY,UZ,Ta,Tb,Te,Tf,Tk,Tl,Tm,Tn,Tp,Tq,Tr,Ts,Tu,Tv,Tw,Tx,Ty,T3,T5,T6,T7,T8,TB,TC,TD,TI,TU,Su,Sw,Sx,SB,SC,SD]; all_goals tactic => exact rfl))
        · exact rd
        · (sym => (simp [cO_gr,cO_nm,cO_sl,cO_len,cO_fl,cO_all,Za,Zb,Zd,Ze,Zf,Zg,Zh,Zk,Zl,Zm,Zn,Zu,Z0,Z2,Z3,Z5,Z7,ZD,ZF,ZG,ZI,ZL,ZP,ZQ,ZS,ZT,ZW,ZY,Ya,Ye,Yi,Yq,Yu,Yv,Y0,YN,YO,YP,YR,YT,YU,YX,Xb,Xm,Xn,Xo,Xq,Xr,Xs,Xu,Wl,Wv,Wx,Wy,Wz,W0,W3,W4,W5,W6,W7,W9,WA,WB,WC,WE,WF,WH,WI,WJ,WK,WL,WM,WN,WO,WP,WQ,WR,WS,WT,WU,WV,WW,Vb,Ve,Vf,Vg,Vh,Vi,Vj,Vk,Vm,Vr,Vt,Vu,Vw,Vx,Vz,VL,VM,VN,VO,VP,VQ,VR,VU,VV,VW,VX,VY,Ua,Ub,Uc,Ud,Ue,Uf,Ui,Um,Un,Ur,Uv,Uw,Ux,Uy,Uz,U0,U1,U2,U3,U4,U5,U6,UD,UE,UF,UG,UL,UM,UN,UO,US,UT,UU,UV,UW,UX,UY,UZ,Ta,Tb,Te,Tf,Tk,Tl,Tm,Tn,Tp,Tq,Tr,Ts,Tu,Tv,Tw,Tx,Ty,T3,T5,T6,T7,T8,TB,TC,TD,TI,TU,Su,Sw,Sx,SB,SC,SD,z]; all_goals tactic => exact rfl))
end
end Go.Proofs.YtpbeclkpohehgaaDoor
namespace Go.Proofs.YtpbeclkpohehgaaDoor
open Go Go.DL
set_option maxRecDepth 100000
set_option maxHeartbeats 4000000

theorem allT_ext {t t' : List Int} {a : Nat} : ∀ i,(∀ j,j < i → t.getD j 0 = t'.getD j 0) → allT t a i = allT t' a i
  | 0,_ => rfl
  | i + 1,h => by rw [allT,allT,allT_ext i fun j hj => h j (by omega),h i (by omega)]
theorem allT_snoc (os : List Int) (k : Nat) : allT (os ++ [(k : Int)]) 0 (os ++ [(k : Int)]).length = allT os 0 os.length ||| 2 ^ k := by
  rw [List.length_append,List.length_singleton,allT,allT_ext (t' := os) os.length fun j hj => by
    obtain ⟨x,hx⟩ := at_ix hj
    rw [getD_of hx,getD_of (by rw [List.getElem?_append_left hj]; exact hx)]]
  have : (os ++ [(k : Int)]).getD os.length 0 = (k : Int) := getD_of (by rw [List.getElem?_append_right (Nat.le_refl _),Nat.sub_self]; rfl)
  rw [this,Int.toNat_natCast]
theorem ords_ne {l : Li} {b : Nat → Nat} (p : Prec l.ls.length b) (hn : l.ls.length ≤ 10) : ∀ (m d : Nat) (os : List Int),d < 2 ^ l.ls.length → l.ls.length - pop d l.ls.length = m → ordsI l.ls.length b m d os ≠ []
  | 0,d,os,_,_ => by simp [ordsI]
  | m + 1,d,os,hd,hm => by
    obtain ⟨k,h1,h2⟩ := can_ex p hn hd (by omega)
    have h3 := (pop_or (can_bit h2) l.ls.length).1 h1
    have ih := ords_ne p hn m (d ||| 2 ^ k) (os ++ [(k : Int)]) (or_lt hd h1) (by omega)
    rw [ordsI]
    intro hc
    rw [List.flatMap_eq_nil_iff] at hc
    exact ih (hc k (nx_mem.2 ⟨h1,h2⟩))
theorem pow_bd {n m : Nat} (hn : n ≤ 5) (hm : m ≤ 5) : n * n ^ m ≤ 1000000 ∧ n ^ m ≤ 1000000 := by
  have h1 : n ^ m ≤ 5 ^ 5 := Nat.le_trans (Nat.pow_le_pow_left hn m) (Nat.pow_le_pow_right (by omega) hm)
  have h2 := Nat.mul_le_mul hn h1
  omega
section
variable {l : Li}
theorem w45S (g : Good l) (hf : l.Fit) (h5 : l.ls.length ≤ 5) : ∀ (m d : Nat) (os : List Int),d < 2 ^ l.ls.length → l.ls.length - pop d l.ls.length = m → os.length + m = l.ls.length → (∀ v ∈ os,0 ≤ v ∧ v < l.ls.length) → d = allT os 0 os.length →
    runW progX 45 [.agg l.c,.sl 0 0 1 os.length] [some (.blk true (.cells true (os.map I)))] = some (rO (ordsI l.ls.length (behF l.ts) m d os),[if m = 0 then none else some (.blk true (.cells true (os.map I)))])
  | 0,d,os,hd,hm,hl,hv,hda => by
    have q : ((os.length : Int) = (l.ls.length : Int)) = True := eq_true (by omega)
    rw [ordsI,if_pos rfl]
    rw [r45 (by simp)]; unfold x45; dsimp only
    (sym => (simp [cO_gr,cO_nm,cO_sl,cO_len,cO_fl,cO_all,Za,Zb,Zd,Ze,Zf,Zg,Zh,Zj,Zl,Zm,Zn,Zu,Zy,Z0,Z2,Z5,Z9,ZD,ZF,ZY,Ya,Yb,Yo,Yq,Yu,Yv,Y0,Y2,YN,YR,YT,YU,YX,Xb,Xc,Xd,Xe,Xi,Xm,Xq,Xr,Xs,Xu,XK,XW,Wa,Wc,We,Wf,Wn,Wo,Wy,Wz,W0,W3,W4,W5,W6,W7,W8,W9,WA,WB,WE,WF,WH,WI,WJ,WL,WN,WO,WP,WQ,WU,WV,WW,WZ,Va,Vb,Vo,Vp,Vq,Vr,Vs,Vt,Vu,Vv,V0,V1,V3,V5,V6,V8,V9,VA,VB,VC,VF,VG,VH,VI,VK,VL,VM,VN,VO,VP,VQ,VR,VT,VU,VV,VW,VX,VY,VZ,Ua,Ub,Uc,Ud,Uf,Ui,Ur,Uv,Uw,Ux,Uy,Uz,U1,U2,U3,U4,U5,U6,UB,UC,UD,UE,UF,UG,UJ,UK,UL,UM,UN,UO,UQ,UR,UZ,Ta,Tb,Tf,Tk,Tr,Ts,Tt,Tu,Tv,Tw,Tx,Ty,Tz,T5,T6,T7,T8,TB,TC,TE,TG,TH,TI,TL,TM,Sy,Sz,S2,SB,SC,SE,q]; all_goals tactic => exact rfl))
  | m + 1, d, os,hd,hm,hl,hv,hda => by
    have hn := g.few
    have p := g.prec
    have q : ((os.length : Int) = (l.ls.length : Int)) = False := eq_false (by omega)
    have z := UZ (n := (l.ls.length : Int))
    have z1 := UZ (n := (os.length : Int))
    have k1 : (0 ≤ (l.ls.length : Int)) = True := eq_true (by omega)
    have k2 : (1 * (l.ls.length : Int) ≤ 281474976710656) = True := eq_true (by omega)
    have k3 : ((l.ls.length : Int) ≤ 9223372036854775807) = True := eq_true (by omega)
    have k4 : ((l.ls.length : Int) ≤ (l.ls.length : Int)) = True := eq_true (by omega)
    have r0 := dL_0 l.ls.length
    have rd1 : ∀ i,i < os.length → headX 1 [1,2,5,24,25,26] (execW progX 45 1 none (match x45l0 with | .loop _ a => a | c => c) (envL [1,2,5,24,25,26] [.sl 0 0 1 os.length,.pt 1 0,.sl 2 0 1 l.ls.length,.sl 0 0 1 os.length,I os.length,I (i : Nat)]) [some (.blk true (.cells true (os.map I))),some (.blk true (.cells true l.c)),some (.blk true (.cells true ((dL l.ls.length (allT os 0 i)).map AV.bool)))]) =
        some ([.sl 0 0 1 os.length,.pt 1 0,.sl 2 0 1 l.ls.length,.sl 0 0 1 os.length,I os.length,I (i + 1 : Nat)],[some (.blk true (.cells true (os.map I))),some (.blk true (.cells true l.c)),some (.blk true (.cells true ((dL l.ls.length (allT os 0 (i + 1))).map AV.bool)))]) := by
      intro i hi
      obtain ⟨v,hx⟩ := at_ix hi
      rw [allT,getD_of hx]
      exact round45aS hn (by omega) hx (hv v (List.mem_of_getElem? hx))
    have rd2 : ∀ k,k < l.ls.length → headX 1 [1,2,5,8,36,37] (execW progX 45 1 none (match x45l2 with | .loop _ a => a | c => c) (envL [1,2,5,8,36,37] [.sl 0 0 1 os.length,.pt 1 0,.sl 2 0 1 l.ls.length,oW 3 (eoN l.ls.length (behF l.ts) m d os k),I l.ls.length,I (k : Nat)]) ([some (.blk true (.cells true (os.map I))),some (.blk true (.cells true l.c)),some (.blk true (.cells true ((dL l.ls.length d).map AV.bool)))] ++ oX (eoN l.ls.length (behF l.ts) m d os k))) =
        some ([.sl 0 0 1 os.length,.pt 1 0,.sl 2 0 1 l.ls.length,oW 3 (eoN l.ls.length (behF l.ts) m d os (k + 1)),I l.ls.length,I (k + 1 : Nat)],[some (.blk true (.cells true (os.map I))),some (.blk true (.cells true l.c)),some (.blk true (.cells true ((dL l.ls.length d).map AV.bool)))] ++ oX (eoN l.ls.length (behF l.ts) m d os (k + 1))) := by
      intro k hk
      have hp5 := pow_bd (n := l.ls.length) (m := m) h5 (by omega)
      have h1 := eo_len l.ls.length (behF l.ts) m d os (k := k) (by omega)
      have h2 := ords_len l.ls.length (behF l.ts) m (d ||| 2 ^ k) (os ++ [(k : Int)])
      rw [eoN_up]
      refine round45S g hf (by omega) hd _ _ (by omega) (by omega) hk (if m = 0 then none else some (.blk true (.cells true ((os ++ [(k : Int)]).map I)))) ?_ ?_
      · by_cases hm0 : m = 0
        · exact .inl (if_pos hm0)
        · exact .inr (if_neg hm0)
      · intro hc
        have h3 := (pop_or (can_bit hc) l.ls.length).1 hk
        have hm2 : l.ls.length - pop (d ||| 2 ^ k) l.ls.length = m := by omega
        refine ⟨ords_ne p hn m _ _ (or_lt hd hk) hm2,w45S g hf h5 m (d ||| 2 ^ k) (os ++ [(k : Int)]) (or_lt hd hk) hm2 (by rw [List.length_append,List.length_singleton]; omega) (fun v hv2 => ?_) ?_⟩
        · rcases List.mem_append.1 hv2 with h | h
          · exact hv v h
          · rw [List.mem_singleton] at h; omega
        · rw [allT_snoc,← hda]
    have en : eoN l.ls.length (behF l.ts) m d os l.ls.length = ordsI l.ls.length (behF l.ts) (m + 1) d os := rfl
    have e0 : eoN l.ls.length (behF l.ts) m d os 0 = [] := rfl
    have hne := ords_ne p hn (m + 1) d os hd hm
    have al0 : allT os 0 0 = 0 := rfl
    rw [if_neg (by omega)]
    generalize behF l.ts = b at *
    rw [r45 (by simp)]; unfold x45; dsimp only
    sym =>
      simp [cO_gr,cO_nm,cO_sl,cO_len,cO_fl,cO_all,Za,Zb,Zd,Ze,Zf,Zg,Zh,Zj,Zl,Zm,Zn,Zu,Zy,Z0,Z2,Z5,Z9,ZD,ZF,ZY,Ya,Yb,Yo,Yq,Yu,Yv,Y0,Y2,YN,YR,YT,YU,YX,Xb,Xc,Xd,Xe,Xi,Xm,Xq,Xr,Xs,Xu,XK,XW,Wa,Wc,We,Wf,Wn,Wo,Wy,Wz,W0,W3,W4,W5,W6,W7,W8,W9,WA,WB,WE,WF,WH,WI,WJ,WL,WN,WO,WP,WQ,WU,WV,WW,WZ,Va,Vb,Vo,Vp,Vq,Vr,Vs,Vt,Vu,Vv,V0,V1,V3,V5,V6,V8,V9,VA,VB,VC,VF,VG,VH,VI,VK,VL,VM,VN,VO,VP,VQ,VR,VT,VU,VV,VW,VX,VY,VZ,Ua,Ub,Uc,Ud,Uf,Ui,Ur,Uv,Uw,Ux,Uy,Uz,U1,U2,U3,U4,U5,U6,UB,UC,UD,UE,UF,UG,UJ,UK,UL,UM,UN,UO,UQ,UR,UZ,Ta,Tb,Tf,Tk,Tr,Ts,Tt,Tu,Tv,Tw,Tx,Ty,Tz,T5,T6,T7,T8,TB,TC,TE,TG,TH,TI,TL,TM,Sy,Sz,S2,SB,SC,SE,q,k1,k2,k3,k4,r0]
      tactic =>
        unfold x45l0
        rw [loop_rule os.length (fun i => [.sl 0 0 1 os.length,.pt 1 0,.sl 2 0 1 l.ls.length,.sl 0 0 1 os.length,I os.length,I (i : Nat)]) (fun i => [some (.blk true (.cells true (os.map I))),some (.blk true (.cells true l.c)),some (.blk true (.cells true ((dL l.ls.length (allT os 0 i)).map AV.bool)))])]
        · rw [← hda]
          sym =>
            simp [cO_gr,cO_nm,cO_sl,cO_len,cO_fl,cO_all,Za,Zb,Zd,Ze,Zf,Zg,Zh,Zj,Zl,Zm,Zn,Zu,Zy,Z0,Z2,Z5,Z9,ZD,ZF,ZY,Ya,Yb,Yo,Yq,Yu,Yv,Y0,Y2,YN,YR,YT,YU,YX,Xb,Xc,Xd,Xe,Xi,Xm,Xq,Xr,Xs,Xu,XK,XW,Wa,Wc,We,Wf,Wn,Wo,Wy,Wz,W0,W3,W4,W5,W6,W7,W8,W9,WA,WB,WE,WF,WH,WI,WJ,WL,WN,WO,WP,WQ,WU,WV,WW,WZ,Va,Vb,Vo,Vp,Vq,Vr,Vs,Vt,Vu,Vv,V0,V1,V3,V5,V6,V8,V9,VA,VB,VC,VF,VG,VH,VI,VK,VL,VM,VN,VO,VP,VQ,VR,VT,VU,VV,VW,VX,VY,VZ,Ua,Ub,Uc,Ud,Uf,Ui,Ur,Uv,Uw,Ux,Uy,Uz,U1,U2,U3,U4,U5,U6,UB,UC,UD,UE,UF,UG,UJ,UK,UL,UM,UN,UO,UQ,UR,UZ,Ta,Tb,Tf,Tk,Tr,Ts,Tt,Tu,Tv,Tw,Tx,Ty,Tz,T5,T6,T7,T8,TB,TC,TE,TG,TH,TI,TL,TM,Sy,Sz,S2,SB,SC,SE,z1]
            tactic =>
              unfold x45l2
              rw [loop_rule l.ls.length (fun k => [.sl 0 0 1 os.length,.pt 1 0,.sl 2 0 1 l.ls.length,oW 3 (eoN l.ls.length b m d os k),I l.ls.length,I (k : Nat)]) (fun k => [some (.blk true (.cells true (os.map I))),some (.blk true (.cells true l.c)),some (.blk true (.cells true ((dL l.ls.length d).map AV.bool)))] ++ oX (eoN l.ls.length b m d os k))]
              · rw [en]
                generalize ordsI l.ls.length b (m + 1) d os = L at *
                rcases L with _ | ⟨e,es⟩
                · exact absurd rfl hne
                have ch : chunks (rI e :: cO es) 0 1 (es.length + 1) = [rI e] :: es.map fun os => [rI os] := cO_ch (e :: es)
                rw [oW_1,oX_1]
                (sym => (simp [cO_gr,cO_nm,cO_sl,cO_len,cO_fl,cO_all,Za,Zb,Zd,Ze,Zf,Zg,Zh,Zj,Zl,Zm,Zn,Zu,Zy,Z0,Z2,Z5,Z9,ZD,ZF,ZY,Ya,Yb,Yo,Yq,Yu,Yv,Y0,Y2,YN,YR,YT,YU,YX,Xb,Xc,Xd,Xe,Xi,Xm,Xq,Xr,Xs,Xu,XK,XW,Wa,Wc,We,Wf,Wn,Wo,Wy,Wz,W0,W3,W4,W5,W6,W7,W8,W9,WA,WB,WE,WF,WH,WI,WJ,WL,WN,WO,WP,WQ,WU,WV,WW,WZ,Va,Vb,Vo,Vp,Vq,Vr,Vs,Vt,Vu,Vv,V0,V1,V3,V5,V6,V8,V9,VA,VB,VC,VF,VG,VH,VI,VK,VL,VM,VN,VO,VP,VQ,VR,VT,VU,VV,VW,VX,VY,VZ,Ua,Ub,Uc,Ud,Uf,Ui,Ur,Uv,Uw,Ux,Uy,Uz,U1,U2,U3,U4,U5,U6,UB,UC,UD,UE,UF,UG,UJ,UK,UL,UM,UN,UO,UQ,UR,UZ,Ta,Tb,Tf,Tk,Tr,Ts,Tt,Tu,Tv,Tw,Tx,Ty,Tz,T5,T6,T7,T8,TB,TC,TE,TG,TH,TI,TL,TM,Sy,Sz,S2,SB,SC,SE,z,ch]; all_goals tactic => exact rfl))
              · rw [e0,oW_0,oX_0]
                generalize dL l.ls.length d = dl at *
                (sym => (simp [cO_gr,cO_nm,cO_sl,cO_len,cO_fl,cO_all,Za,Zb,Zd,Ze,Zf,Zg,Zh,Zj,Zl,Zm,Zn,Zu,Zy,Z0,Z2,Z5,Z9,ZD,ZF,ZY,Ya,Yb,Yo,Yq,Yu,Yv,Y0,Y2,YN,YR,YT,YU,YX,Xb,Xc,Xd,Xe,Xi,Xm,Xq,Xr,Xs,Xu,XK,XW,Wa,Wc,We,Wf,Wn,Wo,Wy,Wz,W0,W3,W4,W5,W6,W7,W8,W9,WA,WB,WE,WF,WH,WI,WJ,WL,WN,WO,WP,WQ,WU,WV,WW,WZ,Va,Vb,Vo,Vp,Vq,Vr,Vs,Vt,Vu,Vv,V0,V1,V3,V5,V6,V8,V9,VA,VB,VC,VF,VG,VH,VI,VK,VL,VM,VN,VO,VP,VQ,VR,VT,VU,VV,VW,VX,VY,VZ,Ua,Ub,Uc,Ud,Uf,Ui,Ur,Uv,Uw,Ux,Uy,Uz,U1,U2,U3,U4,U5,U6,UB,UC,UD,UE,UF,UG,UJ,UK,UL,UM,UN,UO,UQ,UR,UZ,Ta,Tb,Tf,Tk,Tr,Ts,Tt,Tu,Tv,Tw,Tx,Ty,Tz,T5,T6,T7,T8,TB,TC,TE,TG,TH,TI,TL,TM,Sy,Sz,S2,SB,SC,SE]; all_goals tactic => exact rfl))
              · exact rd2
              · rw [en]
                generalize ordsI l.ls.length b (m + 1) d os = L at *
                generalize dL l.ls.length d = dl at *
                rcases L with _ | ⟨e,es⟩
                · exact absurd rfl hne
                rw [oW_1,oX_1]
                (sym => (simp [cO_gr,cO_nm,cO_sl,cO_len,cO_fl,cO_all,Za,Zb,Zd,Ze,Zf,Zg,Zh,Zj,Zl,Zm,Zn,Zu,Zy,Z0,Z2,Z5,Z9,ZD,ZF,ZY,Ya,Yb,Yo,Yq,Yu,Yv,Y0,Y2,YN,YR,YT,YU,YX,Xb,Xc,Xd,Xe,Xi,Xm,Xq,Xr,Xs,Xu,XK,XW,Wa,Wc,We,Wf,Wn,Wo,Wy,Wz,W0,W3,W4,W5,W6,W7,W8,W9,WA,WB,WE,WF,WH,WI,WJ,WL,WN,WO,WP,WQ,WU,WV,WW,WZ,Va,Vb,Vo,Vp,Vq,Vr,Vs,Vt,Vu,Vv,V0,V1,V3,V5,V6,V8,V9,VA,VB,VC,VF,VG,VH,VI,VK,VL,VM,VN,VO,VP,VQ,VR,VT,VU,VV,VW,VX,VY,VZ,Ua,Ub,Uc,Ud,Uf,Ui,Ur,Uv,Uw,Ux,Uy,Uz,U1,U2,U3,U4,U5,U6,UB,UC,UD,UE,UF,UG,UJ,UK,UL,UM,UN,UO,UQ,UR,UZ,Ta,Tb,Tf,Tk,Tr,Ts,Tt,Tu,Tv,Tw,Tx,Ty,Tz,T5,T6,T7,T8,TB,TC,TE,TG,TH,TI,TL,TM,Sy,Sz,S2,SB,SC,SE,z]; all_goals tactic => exact rfl))
        · rw [al0]
          generalize dL l.ls.length 0 = dl at *
          (sym => (simp [cO_gr,cO_nm,cO_sl,cO_len,cO_fl,cO_all,Za,Zb,Zd,Ze,Zf,Zg,Zh,Zj,Zl,Zm,Zn,Zu,Zy,Z0,Z2,Z5,Z9,ZD,ZF,ZY,Ya,Yb,Yo,Yq,Yu,Yv,Y0,Y2,YN,YR,YT,YU,YX,Xb,Xc,Xd,Xe,Xi,Xm,Xq,Xr,Xs,Xu,XK,XW,Wa,Wc,We,Wf,Wn,Wo,Wy,Wz,W0,W3,W4,W5,W6,W7,W8,W9,WA,WB,WE,WF,WH,WI,WJ,WL,WN,WO,WP,WQ,WU,WV,WW,WZ,Va,Vb,Vo,Vp,Vq,Vr,Vs,Vt,Vu,Vv,V0,V1,V3,V5,V6,V8,V9,VA,VB,VC,VF,VG,VH,VI,VK,VL,VM,VN,VO,VP,VQ,VR,VT,VU,VV,VW,VX,VY,VZ,Ua,Ub,Uc,Ud,Uf,Ui,Ur,Uv,Uw,Ux,Uy,Uz,U1,U2,U3,U4,U5,U6,UB,UC,UD,UE,UF,UG,UJ,UK,UL,UM,UN,UO,UQ,UR,UZ,Ta,Tb,Tf,Tk,Tr,Ts,Tt,Tu,Tv,Tw,Tx,Ty,Tz,T5,T6,T7,T8,TB,TC,TE,TG,TH,TI,TL,TM,Sy,Sz,S2,SB,SC,SE]; all_goals tactic => exact rfl))
        · exact rd1
        · generalize dL l.ls.length (allT os 0 os.length) = dl at *
          (sym => (simp [cO_gr,cO_nm,cO_sl,cO_len,cO_fl,cO_all,Za,Zb,Zd,Ze,Zf,Zg,Zh,Zj,Zl,Zm,Zn,Zu,Zy,Z0,Z2,Z5,Z9,ZD,ZF,ZY,Ya,Yb,Yo,Yq,Yu,Yv,Y0,Y2,YN,YR,YT,YU,YX,Xb,Xc,Xd,Xe,Xi,Xm,Xq,Xr,Xs,Xu,XK,XW,Wa,Wc,We,Wf,Wn,Wo,Wy,Wz,W0,W3,W4,W5,W6,W7,W8,W9,WA,WB,WE,WF,WH,WI,WJ,WL,WN,WO,WP,WQ,WU,WV,WW,WZ,Va,Vb,Vo,Vp,Vq,Vr,Vs,Vt,Vu,Vv,V0,V1,V3,V5,V6,V8,V9,VA,VB,VC,VF,VG,VH,VI,VK,VL,VM,VN,VO,VP,VQ,VR,VT,VU,VV,VW,VX,VY,VZ,Ua,Ub,Uc,Ud,Uf,Ui,Ur,Uv,Uw,Ux,Uy,Uz,U1,U2,U3,U4,U5,U6,UB,UC,UD,UE,UF,UG,UJ,UK,UL,UM,UN,UO,UQ,UR,UZ,Ta,Tb,Tf,Tk,Tr,Ts,Tt,Tu,Tv,Tw,Tx,Ty,Tz,T5,T6,T7,T8,TB,TC,TE,TG,TH,TI,TL,TM,Sy,Sz,S2,SB,SC,SE,z1]; all_goals tactic => exact rfl))
end
end Go.Proofs.YtpbeclkpohehgaaDoor
namespace Go.Proofs.YtpbeclkpohehgaaDoor
open Go Go.DL
set_option maxRecDepth 100000
set_option maxHeartbeats 4000000
section
variable {l : Li}
theorem w45T (g : Good l) (hf : l.Fit) (h5 : l.ls.length ≤ 5) : runW progX 45 [.agg l.c,.fs []] [] = some (rO (ordsI l.ls.length (behF l.ts) l.ls.length 0 []),[]) := by
  by_cases hz : l.ls.length = 0
  · have q : ((0 : Int) = (l.ls.length : Int)) = True := eq_true (by omega)
    have e : ordsI l.ls.length (behF l.ts) l.ls.length 0 [] = [[]] := by rw [hz,ordsI]
    rw [e]
    rw [r45 (by simp)]; unfold x45; dsimp only
    (sym => (simp [cO_gr,cO_nm,cO_sl,cO_len,cO_fl,cO_all,Za,Zb,Zd,Ze,Zf,Zg,Zh,Zj,Zl,Zm,Zn,Zu,Zy,Z0,Z2,Z5,Z9,ZD,ZF,ZY,Ya,Yo,Yq,Yu,Yv,Y0,Y2,YN,YR,YT,YU,YX,Xb,Xc,Xd,Xe,Xi,Xm,Xq,Xr,Xs,Xu,XJ,XK,XW,Wa,Wc,We,Wn,Wo,Wy,Wz,W0,W3,W4,W5,W6,W7,W8,W9,WA,WB,WE,WF,WH,WI,WJ,WL,WN,WO,WP,WQ,WV,WW,Vb,Vo,Vp,Vq,Vr,Vs,Vt,Vu,Vv,V1,V3,V5,V6,V8,V9,VA,VB,VC,VF,VG,VH,VI,VK,VL,VM,VN,VO,VP,VQ,VR,VT,VU,VV,VW,VX,VY,Ua,Ub,Uc,Ud,Uf,Ui,Ur,Uv,Uw,Ux,Uy,Uz,U1,U2,U3,U4,U5,U6,UB,UC,UD,UE,UF,UG,UJ,UK,UL,UM,UN,UO,UQ,UR,UZ,Ta,Tb,Tf,Tk,Tr,Ts,Tt,Tu,Tv,Tw,Tx,Ty,Tz,T5,T6,T7,T8,TB,TC,TD,TE,TH,TI,TL,TM,Sy,Sz,S2,SB,SC,SE,q]; all_goals tactic => exact rfl))
  · obtain ⟨m,hm⟩ : ∃ m,l.ls.length = m + 1 := ⟨l.ls.length - 1,by omega⟩
    have hn := g.few
    have p := g.prec
    have hd : 0 < 2 ^ l.ls.length := Nat.two_pow_pos _
    have q : ((0 : Int) = (l.ls.length : Int)) = False := eq_false (by omega)
    have z := UZ (n := (l.ls.length : Int))
    have k1 : (0 ≤ (l.ls.length : Int)) = True := eq_true (by omega)
    have k2 : (1 * (l.ls.length : Int) ≤ 281474976710656) = True := eq_true (by omega)
    have k3 : ((l.ls.length : Int) ≤ 9223372036854775807) = True := eq_true (by omega)
    have k4 : ((l.ls.length : Int) ≤ (l.ls.length : Int)) = True := eq_true (by omega)
    have r0 := dL_0 l.ls.length
    have rd2 : ∀ k,k < l.ls.length → headX 0 [1,2,5,8,36,37] (execW progX 45 0 none (match x45l2 with | .loop _ a => a | c => c) (envL [1,2,5,8,36,37] [.fs [],.pt 0 0,.sl 1 0 1 l.ls.length,oW 2 (eoN l.ls.length (behF l.ts) m 0 [] k),I l.ls.length,I (k : Nat)]) ([some (.blk true (.cells true l.c)),some (.blk true (.cells true ((dL l.ls.length 0).map AV.bool)))] ++ oX (eoN l.ls.length (behF l.ts) m 0 [] k))) =
        some ([.fs [],.pt 0 0,.sl 1 0 1 l.ls.length,oW 2 (eoN l.ls.length (behF l.ts) m 0 [] (k + 1)),I l.ls.length,I (k + 1 : Nat)],[some (.blk true (.cells true l.c)),some (.blk true (.cells true ((dL l.ls.length 0).map AV.bool)))] ++ oX (eoN l.ls.length (behF l.ts) m 0 [] (k + 1))) := by
      intro k hk
      have hp5 := pow_bd (n := l.ls.length) (m := m) h5 (by omega)
      have h1 := eo_len l.ls.length (behF l.ts) m 0 [] (k := k) (by omega)
      have h2 := ords_len l.ls.length (behF l.ts) m (0 ||| 2 ^ k) ([] ++ [(k : Int)])
      rw [eoN_up]
      refine round45T g hf hd _ _ (by omega) (by omega) hk (if m = 0 then none else some (.blk true (.cells true ([(k : Int)].map I)))) ?_ ?_
      · by_cases hm0 : m = 0
        · exact .inl (if_pos hm0)
        · exact .inr (if_neg hm0)
      · intro hc
        have h3 := (pop_or (can_bit hc) l.ls.length).1 hk
        rw [pop_0] at h3
        have hm2 : l.ls.length - pop (0 ||| 2 ^ k) l.ls.length = m := by omega
        refine ⟨ords_ne p hn m _ _ (or_lt hd hk) hm2,?_⟩
        have := w45S g hf h5 m (0 ||| 2 ^ k) [(k : Int)] (or_lt hd hk) hm2 (by simp; omega) (fun v hv2 => by rw [List.mem_singleton] at hv2; omega) (by
          have := allT_snoc [] k
          exact this.symm)
        exact this
    have en : eoN l.ls.length (behF l.ts) m 0 [] l.ls.length = ordsI l.ls.length (behF l.ts) (m + 1) 0 [] := rfl
    have e0 : eoN l.ls.length (behF l.ts) m 0 [] 0 = [] := rfl
    have hne := ords_ne p hn (m + 1) 0 [] hd (by rw [pop_0]; omega)
    have hes : ordsI l.ls.length (behF l.ts) l.ls.length 0 [] = ordsI l.ls.length (behF l.ts) (m + 1) 0 [] := by
      have : ∀ k,k = m + 1 → ordsI l.ls.length (behF l.ts) k 0 [] = ordsI l.ls.length (behF l.ts) (m + 1) 0 [] := fun k hk => by rw [hk]
      exact this _ hm
    rw [hes]
    clear hes
    generalize behF l.ts = b at *
    rw [r45 (by simp)]; unfold x45; dsimp only
    sym =>
      simp [cO_gr,cO_nm,cO_sl,cO_len,cO_fl,cO_all,Za,Zb,Zd,Ze,Zf,Zg,Zh,Zj,Zl,Zm,Zn,Zu,Zy,Z0,Z2,Z5,Z9,ZD,ZF,ZY,Ya,Yo,Yq,Yu,Yv,Y0,Y2,YN,YR,YT,YU,YX,Xb,Xc,Xd,Xe,Xi,Xm,Xq,Xr,Xs,Xu,XJ,XK,XW,Wa,Wc,We,Wn,Wo,Wy,Wz,W0,W3,W4,W5,W6,W7,W8,W9,WA,WB,WE,WF,WH,WI,WJ,WL,WN,WO,WP,WQ,WV,WW,Vb,Vo,Vp,Vq,Vr,Vs,Vt,Vu,Vv,V1,V3,V5,V6,V8,V9,VA,VB,VC,VF,VG,VH,VI,VK,VL,VM,VN,VO,VP,VQ,VR,VT,VU,VV,VW,VX,VY,Ua,Ub,Uc,Ud,Uf,Ui,Ur,Uv,Uw,Ux,Uy,Uz,U1,U2,U3,U4,U5,U6,UB,UC,UD,UE,UF,UG,UJ,UK,UL,UM,UN,UO,UQ,UR,UZ,Ta,Tb,Tf,Tk,Tr,Ts,Tt,Tu,Tv,Tw,Tx,Ty,Tz,T5,T6,T7,T8,TB,TC,TD,TE,TH,TI,TL,TM,Sy,Sz,S2,SB,SC,SE,q,k1,k2,k3,k4,r0]
      tactic =>
        unfold x45l0
        rw [loop_rule 0 (fun _ => [.fs [],.pt 0 0,.sl 1 0 1 l.ls.length,.fs [],I 0,I 0]) (fun _ => [some (.blk true (.cells true l.c)),some (.blk true (.cells true ((dL l.ls.length 0).map AV.bool)))])]
        · sym =>
            simp [cO_gr,cO_nm,cO_sl,cO_len,cO_fl,cO_all,Za,Zb,Zd,Ze,Zf,Zg,Zh,Zj,Zl,Zm,Zn,Zu,Zy,Z0,Z2,Z5,Z9,ZD,ZF,ZY,Ya,Yo,Yq,Yu,Yv,Y0,Y2,YN,YR,YT,YU,YX,Xb,Xc,Xd,Xe,Xi,Xm,Xq,Xr,Xs,Xu,XJ,XK,XW,Wa,Wc,We,Wn,Wo,Wy,Wz,W0,W3,W4,W5,W6,W7,W8,W9,WA,WB,WE,WF,WH,WI,WJ,WL,WN,WO,WP,WQ,WV,WW,Vb,Vo,Vp,Vq,Vr,Vs,Vt,Vu,Vv,V1,V3,V5,V6,V8,V9,VA,VB,VC,VF,VG,VH,VI,VK,VL,VM,VN,VO,VP,VQ,VR,VT,VU,VV,VW,VX,VY,Ua,Ub,Uc,Ud,Uf,Ui,Ur,Uv,Uw,Ux,Uy,Uz,U1,U2,U3,U4,U5,U6,UB,UC,UD,UE,UF,UG,UJ,UK,UL,UM,UN,UO,UQ,UR,UZ,Ta,Tb,Tf,Tk,Tr,Ts,Tt,Tu,Tv,Tw,Tx,Ty,Tz,T5,T6,T7,T8,TB,TC,TD,TE,TH,TI,TL,TM,Sy,Sz,S2,SB,SC,SE]
            tactic =>
              unfold x45l2
              rw [loop_rule l.ls.length (fun k => [.fs [],.pt 0 0,.sl 1 0 1 l.ls.length,oW 2 (eoN l.ls.length b m 0 [] k),I l.ls.length,I (k : Nat)]) (fun k => [some (.blk true (.cells true l.c)),some (.blk true (.cells true ((dL l.ls.length 0).map AV.bool)))] ++ oX (eoN l.ls.length b m 0 [] k))]
              · rw [en]
                generalize ordsI l.ls.length b (m + 1) 0 [] = L at *
                rcases L with _ | ⟨e,es⟩
                · exact absurd rfl hne
                have ch : chunks (rI e :: cO es) 0 1 (es.length + 1) = [rI e] :: es.map fun os => [rI os] := cO_ch (e :: es)
                rw [oW_1,oX_1]
                (sym => (simp [cO_gr,cO_nm,cO_sl,cO_len,cO_fl,cO_all,Za,Zb,Zd,Ze,Zf,Zg,Zh,Zj,Zl,Zm,Zn,Zu,Zy,Z0,Z2,Z5,Z9,ZD,ZF,ZY,Ya,Yo,Yq,Yu,Yv,Y0,Y2,YN,YR,YT,YU,YX,Xb,Xc,Xd,Xe,Xi,Xm,Xq,Xr,Xs,Xu,XJ,XK,XW,Wa,Wc,We,Wn,Wo,Wy,Wz,W0,W3,W4,W5,W6,W7,W8,W9,WA,WB,WE,WF,WH,WI,WJ,WL,WN,WO,WP,WQ,WV,WW,Vb,Vo,Vp,Vq,Vr,Vs,Vt,Vu,Vv,V1,V3,V5,V6,V8,V9,VA,VB,VC,VF,VG,VH,VI,VK,VL,VM,VN,VO,VP,VQ,VR,VT,VU,VV,VW,VX,VY,Ua,Ub,Uc,Ud,Uf,Ui,Ur,Uv,Uw,Ux,Uy,Uz,U1,U2,U3,U4,U5,U6,UB,UC,UD,UE,UF,UG,UJ,UK,UL,UM,UN,UO,UQ,UR,UZ,Ta,Tb,Tf,Tk,Tr,Ts,Tt,Tu,Tv,Tw,Tx,Ty,Tz,T5,T6,T7,T8,TB,TC,TD,TE,TH,TI,TL,TM,Sy,Sz,S2,SB,SC,SE,z,ch]; all_goals tactic => exact rfl))
              · rw [e0,oW_0,oX_0]
                generalize dL l.ls.length 0 = dl at *
                (sym => (simp [cO_gr,cO_nm,cO_sl,cO_len,cO_fl,cO_all,Za,Zb,Zd,Ze,Zf,Zg,Zh,Zj,Zl,Zm,Zn,Zu,Zy,Z0,Z2,Z5,Z9,ZD,ZF,ZY,Ya,Yo,Yq,Yu,Yv,Y0,Y2,YN,YR,YT,YU,YX,Xb,Xc,Xd,Xe,Xi,Xm,Xq,Xr,Xs,Xu,XJ,XK,XW,Wa,Wc,We,Wn,Wo,Wy,Wz,W0,W3,W4,W5,W6,W7,W8,W9,WA,WB,WE,WF,WH,WI,WJ,WL,WN,WO,WP,WQ,WV,WW,Vb,Vo,Vp,Vq,Vr,Vs,Vt,Vu,Vv,V1,V3,V5,V6,V8,V9,VA,VB,VC,VF,VG,VH,VI,VK,VL,VM,VN,VO,VP,VQ,VR,VT,VU,VV,VW,VX,VY,Ua,Ub,Uc,Ud,Uf,Ui,Ur,Uv,Uw,Ux,Uy,Uz,U1,U2,U3,U4,U5,U6,UB,UC,UD,UE,UF,UG,UJ,UK,UL,UM,UN,UO,UQ,UR,UZ,Ta,Tb,Tf,Tk,Tr,Ts,Tt,Tu,Tv,Tw,Tx,Ty,Tz,T5,T6,T7,T8,TB,TC,TD,TE,TH,TI,TL,TM,Sy,Sz,S2,SB,SC,SE]; all_goals tactic => exact rfl))
              · exact rd2
              · rw [en]
                generalize ordsI l.ls.length b (m + 1) 0 [] = L at *
                generalize dL l.ls.length 0 = dl at *
                rcases L with _ | ⟨e,es⟩
                · exact absurd rfl hne
                rw [oW_1,oX_1]
                (sym => (simp [cO_gr,cO_nm,cO_sl,cO_len,cO_fl,cO_all,Za,Zb,Zd,Ze,Zf,Zg,Zh,Zj,Zl,Zm,Zn,Zu,Zy,Z0,Z2,Z5,Z9,ZD,ZF,ZY,Ya,Yo,Yq,Yu,Yv,Y0,Y2,YN,YR,YT,YU,YX,Xb,Xc,Xd,Xe,Xi,Xm,Xq,Xr,Xs,Xu,XJ,XK,XW,Wa,Wc,We,Wn,Wo,Wy,Wz,W0,W3,W4,W5,W6,W7,W8,W9,WA,WB,WE,WF,WH,WI,WJ,WL,WN,WO,WP,WQ,WV,WW,Vb,Vo,Vp,Vq,Vr,Vs,Vt,Vu,Vv,V1,V3,V5,V6,V8,V9,VA,VB,VC,VF,VG,VH,VI,VK,VL,VM,VN,VO,VP,VQ,VR,VT,VU,VV,VW,VX,VY,Ua,Ub,Uc,Ud,Uf,Ui,Ur,Uv,Uw,Ux,Uy,Uz,U1,U2,U3,U4,U5,U6,UB,UC,UD,UE,UF,UG,UJ,UK,UL,UM,UN,UO,UQ,UR,UZ,Ta,Tb,Tf,Tk,Tr,Ts,Tt,Tu,Tv,Tw,Tx,Ty,Tz,T5,T6,T7,T8,TB,TC,TD,TE,TH,TI,TL,TM,Sy,Sz,S2,SB,SC,SE,z]; all_goals tactic => exact rfl))
        · generalize dL l.ls.length 0 = dl at *
          (sym => (simp [cO_gr,cO_nm,cO_sl,cO_len,cO_fl,cO_all,Za,Zb,Zd,Ze,Zf,Zg,Zh,Zj,Zl,Zm,Zn,Zu,Zy,Z0,Z2,Z5,Z9,ZD,ZF,ZY,Ya,Yo,Yq,Yu,Yv,Y0,Y2,YN,YR,YT,YU,YX,Xb,Xc,Xd,Xe,Xi,Xm,Xq,Xr,Xs,Xu,XJ,XK,XW,Wa,Wc,We,Wn,Wo,Wy,Wz,W0,W3,W4,W5,W6,W7,W8,W9,WA,WB,WE,WF,WH,WI,WJ,WL,WN,WO,WP,WQ,WV,WW,Vb,Vo,Vp,Vq,Vr,Vs,Vt,Vu,Vv,V1,V3,V5,V6,V8,V9,VA,VB,VC,VF,VG,VH,VI,VK,VL,VM,VN,VO,VP,VQ,VR,VT,VU,VV,VW,VX,VY,Ua,Ub,Uc,Ud,Uf,Ui,Ur,Uv,Uw,Ux,Uy,Uz,U1,U2,U3,U4,U5,U6,UB,UC,UD,UE,UF,UG,UJ,UK,UL,UM,UN,UO,UQ,UR,UZ,Ta,Tb,Tf,Tk,Tr,Ts,Tt,Tu,Tv,Tw,Tx,Ty,Tz,T5,T6,T7,T8,TB,TC,TD,TE,TH,TI,TL,TM,Sy,Sz,S2,SB,SC,SE]; all_goals tactic => exact rfl))
        · intro i hi; omega
        · generalize dL l.ls.length 0 = dl at *
          (sym => (simp [cO_gr,cO_nm,cO_sl,cO_len,cO_fl,cO_all,Za,Zb,Zd,Ze,Zf,Zg,Zh,Zj,Zl,Zm,Zn,Zu,Zy,Z0,Z2,Z5,Z9,ZD,ZF,ZY,Ya,Yo,Yq,Yu,Yv,Y0,Y2,YN,YR,YT,YU,YX,Xb,Xc,Xd,Xe,Xi,Xm,Xq,Xr,Xs,Xu,XJ,XK,XW,Wa,Wc,We,Wn,Wo,Wy,Wz,W0,W3,W4,W5,W6,W7,W8,W9,WA,WB,WE,WF,WH,WI,WJ,WL,WN,WO,WP,WQ,WV,WW,Vb,Vo,Vp,Vq,Vr,Vs,Vt,Vu,Vv,V1,V3,V5,V6,V8,V9,VA,VB,VC,VF,VG,VH,VI,VK,VL,VM,VN,VO,VP,VQ,VR,VT,VU,VV,VW,VX,VY,Ua,Ub,Uc,Ud,Uf,Ui,Ur,Uv,Uw,Ux,Uy,Uz,U1,U2,U3,U4,U5,U6,UB,UC,UD,UE,UF,UG,UJ,UK,UL,UM,UN,UO,UQ,UR,UZ,Ta,Tb,Tf,Tk,Tr,Ts,Tt,Tu,Tv,Tw,Tx,Ty,Tz,T5,T6,T7,T8,TB,TC,TD,TE,TH,TI,TL,TM,Sy,Sz,S2,SB,SC,SE]; all_goals tactic => exact rfl))
end
theorem ords_of {n : Nat} {b : Nat → Nat} : ∀ (m d : Nat) (os o : List Int),n - pop d n = m → o ∈ ordsI n b m d os → ∃ ks,o = os ++ ofN ks ∧ vld n b d ks
  | 0,d,os,o,hm,ho => by
    rw [ordsI,List.mem_singleton] at ho
    have := pop_le d n
    exact ⟨[],by rw [ho]; simp [ofN],by show pop d n = n; omega⟩
  | m + 1,d,os,o,hm,ho => by
    rw [ordsI,List.mem_flatMap] at ho
    obtain ⟨k,h1,h2⟩ := ho
    have h1 := nx_mem.1 h1
    have h3 := (pop_or (can_bit h1.2) n).1 h1.1
    obtain ⟨ks,h4,h5⟩ := ords_of m (d ||| 2 ^ k) (os ++ [(k : Int)]) o (by omega) h2
    exact ⟨k :: ks,by rw [h4,ofN_c]; simp,h1.1,h1.2,h5⟩
theorem mx_as (a b c : Int) : mxI (mxI a b) c = mxI a (mxI b c) := by
  unfold mxI
  repeat' split
  all_goals omega
theorem fR_or {l : Li} {d k : Nat} (h : d.testBit k = false) : ∀ n,(k < n → fR (enS l) l.hi (d ||| 2 ^ k) n = fR (enS l) l.hi d n + (ldN l k).ch) ∧ (n ≤ k → fR (enS l) l.hi (d ||| 2 ^ k) n = fR (enS l) l.hi d n)
  | 0 => ⟨fun h => by omega,fun _ => rfl⟩
  | n + 1 => by
    have ih := fR_or (l := l) h n
    rw [fR,fR,or_bit]
    constructor
    · intro hk
      by_cases hkn : k = n
      · subst hkn
        rw [ih.2 (Nat.le_refl _),h,decide_eq_true rfl]
        rfl
      · rw [ih.1 (by omega),decide_eq_false hkn,Bool.or_false]
        split
        · show fR (enS l) l.hi d n + (ldN l k).ch + (ldN l n).ch = fR (enS l) l.hi d n + (ldN l n).ch + (ldN l k).ch
          omega
        · rfl
    · intro hk
      rw [ih.2 (by omega),decide_eq_false (by omega : ¬ k = n),Bool.or_false]
theorem end_or {l : Li} (g : Good l) {d k : Nat} (hd : d < 2 ^ l.ls.length) (hk : k < l.ls.length) (h : d.testBit k = false) : endF l (d ||| 2 ^ k) = endF l d + (ldN l k).ch := by
  have e1 : fR (enS l) l.hi (d ||| 2 ^ k) l.ls.length = endF l (d ||| 2 ^ k) := fR_el (or_lt hd hk) g.few
  have e2 : fR (enS l) l.hi d l.ls.length = endF l d := fR_el hd g.few
  rw [← e1,← e2]
  exact (fR_or h _).1 hk
theorem ms_ord {l : Li} (g : Good l) {b : Nat → Nat} {o : List Int} : ∀ (ks : List Nat) (i d : Nat),d < 2 ^ l.ls.length → vld l.ls.length b d ks → o.drop i = ofN ks → nwH l o i = endF l d → msN l o (i + ks.length) = mxI (msN l o i) (ordW l d ks)
  | [],i,d,_,_,_,_ => by
    have : ∀ j,0 ≤ msN l o j := fun j => by
      induction j with
      | zero => exact Int.le_refl _
      | succ j ih => rw [msN]; have := mx_l (msN l o j) (soHi l o j); omega
    have := this i
    rw [ordW]
    show msN l o i = _
    unfold mxI
    split <;> omega
  | k :: ks,i,d,hd,hv,ho,hw => by
    rw [ofN_c] at ho
    have hi : o[i]? = some (k : Int) := by
      have := congrArg (fun q => q[0]?) ho
      simpa using this
    have ho2 : o.drop (i + 1) = ofN ks := by
      have := congrArg (List.drop 1) ho
      rw [List.drop_drop] at this
      simpa using this
    have e1 : ldAt l (k : Int) = ldN l k := by unfold ldAt ldN; rw [Int.toNat_natCast]
    have hw2 : nwH l o (i + 1) = endF l (d ||| 2 ^ k) := by
      rw [nwH,getD_of hi,hw,e1,end_or g hd hv.1 (can_bit hv.2.1)]
    have hs : soHi l o i = lastF l (d ||| 2 ^ k) k := by
      unfold soHi lastF
      rw [getD_of hi,e1,hw2]
    have ih := ms_ord g ks (i + 1) (d ||| 2 ^ k) (or_lt hd hv.1) hv.2.2 ho2 hw2
    rw [List.length_cons,show i + (ks.length + 1) = i + 1 + ks.length by omega,ih,msN,ordW,hs,mx_as]
theorem end_0 (l : Li) : endF l 0 = l.hi := rfl
theorem ms_all {l : Li} (g : Good l) {b : Nat → Nat} {ks : List Nat} (h : vld l.ls.length b 0 ks) : msN l (ofN ks) (ofN ks).length = ordW l 0 ks := by
  have h1 := ms_ord g (o := ofN ks) ks 0 0 (Nat.two_pow_pos _) h (List.drop_zero) (end_0 l).symm
  have h2 := ord_pos g h
  have ol : (ofN ks).length = ks.length := by simp [ofN]
  rw [ol]
  rw [Nat.zero_add] at h1
  rw [h1]
  have h0 : msN l (ofN ks) 0 = 0 := rfl
  rw [h0]
  unfold mxI
  split <;> omega
end Go.Proofs.YtpbeclkpohehgaaDoor
namespace Go.Proofs.YtpbeclkpohehgaaDoor
open Go Go.DL
set_option maxRecDepth 100000
set_option maxHeartbeats 4000000

section
variable {l : Li}
theorem vs_all {n a : Nat} (ha : a < 2 ^ n) : firstN (vsE n (ofN (el a))) (ofN (el a)).length = 0 := by
  rw [ofN_len]
  exact firstN_z _ fun i hi => el_vs ha i hi
end
theorem w45N (l : Li) : runW progX 45 [.agg l.c,.nilsl] [] = runW progX 45 [.agg l.c,.fs []] [] := by
  rw [r45 (by simp),r45 (by simp)]
  rfl
end Go.Proofs.YtpbeclkpohehgaaDoor
namespace Go.Proofs.YtpbeclkpohehgaaDoor
open Go Go.DL
set_option maxRecDepth 100000
set_option maxHeartbeats 4000000

theorem ord_ok0 {n : Nat} {b : Nat → Nat} (p : Prec n b) (hn : n ≤ 10) {o : List Int} : ∀ (ks : List Nat) (i d : Nat),d < 2 ^ n → vld n b d ks → o.drop i = ofN ks → allT o 0 i = d → i + ks.length = o.length → ∀ j,i ≤ j → j < o.length → ordE n b (allT o 0 j) (o.getD j 0) = 0
  | [],i,d,_,_,_,_,hl,j,h1,h2 => by simp at hl; omega
  | k :: ks,i,d,hd,hv,ho,ha,hl,j,h1,h2 => by
    rw [ofN_c] at ho
    have hi : o[i]? = some (k : Int) := by
      have := congrArg (fun q => q[0]?) ho
      simpa using this
    have ho2 : o.drop (i + 1) = ofN ks := by
      have := congrArg (List.drop 1) ho
      rw [List.drop_drop] at this
      simpa using this
    have hc := (canB_iff p hn hd).1 hv.2.1
    by_cases hj : j = i
    · subst hj
      rw [getD_of hi,ha]
      have e := Int.toNat_natCast k
      have lb := lt_10 (p.lt k) hn
      have ld := lt_10 hd hn
      rcases ordE_of (n := n) (b := b) (a := d) (k : Int) with ⟨_,_,_,_,h⟩ | ⟨_,_,_,h,_⟩ | ⟨_,_,h,_⟩ | ⟨h,_⟩
      · exact h
      · rw [e] at h
        exact absurd ((dif_zero (by omega) (by omega)).2 hc.2) h
      · rw [e,hc.1] at h; simp at h
      · have := hv.1
        have : btw 0 (k : Int) ((n : Int) - 1) = true := btwF.2 (by omega)
        rw [this] at h; simp at h
    · refine ord_ok0 p hn ks (i + 1) (d ||| 2 ^ k) (or_lt hd hv.1) hv.2.2 ho2 ?_ ?_ j (by omega) h2
      · rw [allT,getD_of hi,Int.toNat_natCast,ha]
      · rw [List.length_cons] at hl; omega
theorem ord_ok {l : Li} (g : Good l) (hc : checkL l = 0) {ks : List Nat} (h : vld l.ls.length (behF l.ts) 0 ks) : runE l (ofN ks) = 0 := by
  have hl := vld_len h
  rw [pop_0] at hl
  have ol := ofN_len ks
  unfold runE
  rw [if_pos hc]
  unfold orderE
  rw [if_pos (by omega)]
  exact firstN_z _ fun j hj => ord_ok0 g.prec g.few ks 0 0 (Nat.two_pow_pos _) h List.drop_zero rfl (by omega) j (by omega) hj
theorem ws_set {s : List Sp} {k : Nat} {x : Sp} (hk : s[k]? = some ⟨0,0⟩) (hx : 0 ≤ x.hi) : ∀ n,0 ≤ wsN s n ∧ (n ≤ k → wsN (s.set k x) n = wsN s n) ∧ (k < n → n ≤ s.length → wsN (s.set k x) n = mxI (wsN s n) x.hi)
  | 0 => ⟨Int.le_refl _,fun _ => rfl,fun h => by omega⟩
  | n + 1 => by
    obtain ⟨h0,h1,h2⟩ := ws_set hk hx n
    have hp : 0 ≤ wsN s (n + 1) := by rw [wsN]; unfold mxI; split <;> omega
    refine ⟨hp,fun h => ?_,fun h hl => ?_⟩
    · rw [wsN,wsN,h1 (by omega)]
      congr 1
      obtain ⟨y,hy⟩ | hy : (∃ y,s[n]? = some y) ∨ s[n]? = none := by cases s[n]? <;> simp
      · rw [getD_of hy,getD_of (by rw [List.getElem?_set_ne (by omega)]; exact hy)]
      · rw [List.getD_eq_getElem?_getD,List.getD_eq_getElem?_getD,List.getElem?_set_ne (by omega)]
    · by_cases hkn : k = n
      · subst hkn
        rw [wsN,wsN,h1 (Nat.le_refl _),getD_of hk,getD_of (List.getElem?_set_self (by omega))]
        unfold mxI
        dsimp only
        repeat' split
        all_goals omega
      · obtain ⟨y,hy⟩ := at_ix (l := s) (i := n) (by omega)
        rw [wsN,wsN,h2 (by omega) (by omega),getD_of hy,getD_of (by rw [List.getElem?_set_ne hkn]; exact hy)]
        unfold mxI
        repeat' split
        all_goals omega
theorem ws_rep : ∀ n,wsN (List.replicate n ⟨0,0⟩) n = 0 := by
  intro n
  have : ∀ m,m ≤ n → wsN (List.replicate n ⟨0,0⟩) m = 0 := by
    intro m
    induction m with
    | zero => intro _; rfl
    | succ m ih =>
      intro hm
      have e : (List.replicate n (⟨0,0⟩ : Sp)).getD m ⟨0,0⟩ = ⟨0,0⟩ := by
        rw [List.getD_eq_getElem?_getD,List.getElem?_replicate_of_lt (by omega)]; rfl
      rw [wsN,ih (by omega),e]
      rfl
  exact this n (Nat.le_refl _)
theorem so_pos {l : Li} (g : Good l) {o : List Int} {n : Nat} (ho : ∀ i,i < n → 0 ≤ o.getD i 0 ∧ o.getD i 0 < l.ls.length) {i : Nat} (hi : i < n) : 0 ≤ soHi l o i := by
  obtain ⟨x,k,_,h2,_,h4,h5,_⟩ := g.ld (ho i hi)
  unfold soHi sourF
  rw [h2,h5]
  exact (so_bd g h4 _ _ (Nat.le_refl _)).1
theorem ws_ms {l : Li} (g : Good l) {o : List Int} (hord : orderE l.ls.length (behF l.ts) o = 0) : ∀ i,i ≤ l.ls.length → wsN (sA l o i) l.ls.length = msN l o i ∧ ∀ k,k < l.ls.length → (allT o 0 i).testBit k = false → (sA l o i)[k]? = some ⟨0,0⟩
  | 0,_ => by
    refine ⟨ws_rep _,fun k hk _ => ?_⟩
    rw [sA,List.getElem?_replicate_of_lt hk]
  | i + 1,hi => by
    obtain ⟨hl,hoe,ho⟩ := ord_of hord
    obtain ⟨h1,h2⟩ := ws_ms g hord i (by omega)
    have hr := ho i (by omega)
    have he := hoe i (by omega)
    have hb : (allT o 0 i).testBit (o.getD i 0).toNat = false := by
      rcases ordE_of (n := l.ls.length) (b := behF l.ts) (a := allT o 0 i) (o.getD i 0) with ⟨_,_,h,_,_⟩ | ⟨_,_,h,_,_⟩ | ⟨_,_,_,h⟩ | ⟨_,h⟩
      · exact h
      · exact h
      · rw [he] at h; simp at h
      · rw [he] at h; simp at h
    have hz := h2 (o.getD i 0).toNat (by omega) hb
    have sl := sA_len l o i
    refine ⟨?_,fun k hk hkb => ?_⟩
    · rw [sA,(ws_set hz (x := ⟨soLo l o i,soHi l o i⟩) (so_pos g ho (i := i) (by omega)) l.ls.length).2.2 (by omega) (by omega),h1,msN]
    · rw [allT,or_bit,Bool.or_eq_false_iff] at hkb
      have hne : (o.getD i 0).toNat ≠ k := by simpa using hkb.2
      rw [sA,List.getElem?_set_ne hne]
      exact h2 k hk hkb.1
theorem worst_ms {l : Li} {o : List Int} (h : runE l o = 0) : worst l o = msN l o o.length := by
  obtain ⟨g,hl,hord⟩ := runE_len h
  have := (ws_ms g hord l.ls.length (Nat.le_refl _)).1
  unfold worst
  rw [hl]
  exact this
theorem worst_ord {l : Li} (g : Good l) (hc : checkL l = 0) {ks : List Nat} (h : vld l.ls.length (behF l.ts) 0 ks) : worst l (ofN ks) = ordW l 0 ks := by
  rw [worst_ms (ord_ok g hc h),ms_all g h]
end Go.Proofs.YtpbeclkpohehgaaDoor
namespace Go.Proofs.YtpbeclkpohehgaaDoor
open Go Go.DL
set_option maxRecDepth 100000
set_option maxHeartbeats 4000000

def ordsK (n : Nat) (b : Nat → Nat) : Nat → Nat → List (List Nat)
  | 0,_ => [[]]
  | m + 1,d => ((List.range n).filter (canB b d)).flatMap fun k : Nat => (ordsK n b m (d ||| 2 ^ k)).map (k :: ·)
theorem ords_K (n : Nat) (b : Nat → Nat) : ∀ (m d : Nat) (os : List Int),ordsI n b m d os = (ordsK n b m d).map fun ks => os ++ ofN ks
  | 0,d,os => by simp [ordsI,ordsK,ofN]
  | m + 1,d,os => by
    rw [ordsI,ordsK,List.map_flatMap]
    congr 1
    funext k
    rw [ords_K n b m,List.map_map]
    congr 1
    funext ks
    show os ++ [(k : Int)] ++ ofN ks = os ++ ofN (k :: ks)
    rw [ofN_c]
    simp
theorem find_map {α β : Type} (f : α → β) (p : β → Bool) : ∀ l : List α,(l.map f).find? p = (l.find? fun x => p (f x)).map f
  | [] => rfl
  | a :: l => by
    rw [List.map_cons,List.find?_cons,List.find?_cons,find_map f p l]
    cases p (f a) <;> rfl
theorem find_flat {α β : Type} (f : α → List β) (p : β → Bool) : ∀ l : List α,(l.flatMap f).find? p = l.findSome? fun x => (f x).find? p
  | [] => rfl
  | a :: l => by
    rw [List.flatMap_cons,List.find?_append,find_flat f p l,List.findSome?_cons]
    cases (f a).find? p <;> rfl
theorem some_filter {α β : Type} (c q : α → Bool) (g : α → Option β) (h : α → β) (hq : ∀ x,q x = true → c x = true) : ∀ l : List α,(∀ x ∈ l,c x = true → g x = if q x = true then some (h x) else none) → (l.filter c).findSome? g = (l.find? q).map h
  | [],_ => rfl
  | a :: l,hg => by
    have ih := some_filter c q g h hq l fun x hx => hg x (by simp [hx])
    rw [List.find?_cons]
    cases hc : c a with
    | true =>
      rw [List.filter_cons_of_pos hc,List.findSome?_cons,hg a (by simp) hc,ih]
      cases q a <;> simp
    | false =>
      rw [List.filter_cons_of_neg (by simp [hc]),ih]
      cases hqa : q a with
      | true => rw [hq a hqa] at hc; simp at hc
      | false => rfl
theorem K_of {n : Nat} {b : Nat → Nat} {m d : Nat} {ks : List Nat} (hm : n - pop d n = m) (h : ks ∈ ordsK n b m d) : vld n b d ks := by
  have : ofN ks ∈ ordsI n b m d [] := by
    rw [ords_K]
    exact List.mem_map.2 ⟨ks,h,by simp⟩
  obtain ⟨ks',h1,h2⟩ := ords_of m d [] (ofN ks) hm this
  rw [List.nil_append] at h1
  have : ks = ks' := by
    have := congrArg (List.map Int.toNat) h1
    unfold ofN at this
    rw [List.map_map,List.map_map] at this
    have e : (Int.toNat ∘ Int.ofNat) = id := by funext x; rfl
    rw [e,List.map_id,List.map_id] at this
    exact this
  rw [this]
  exact h2
theorem first_bst {l : Li} (g : Good l) {b : Nat → Nat} (p : Prec l.ls.length b) {w : Int} (hw0 : 0 ≤ w) : ∀ (m d : Nat),d < 2 ^ l.ls.length → l.ls.length - pop d l.ls.length = m → rstF l b d ≤ w →
    (ordsK l.ls.length b m d).find? (fun ks => decide (ordW l d ks ≤ w)) = some (bstF l b w d)
  | 0,d,hd,hm,hw => by
    have e : bstF l b w d = [] := by rw [bstF,hm,bestF]
    rw [ordsK,e,List.find?_cons]
    have : decide (ordW l d [] ≤ w) = true := decide_eq_true (by rw [ordW]; exact hw0)
    rw [this]
  | m + 1,d,hd,hm,hw => by
    have hle := pop_le d l.ls.length
    rw [ordsK,find_flat,some_filter (canB b d) (goodB l b w d) _ (fun k => k :: bstF l b w (d ||| 2 ^ k))]
    · obtain ⟨k,hk⟩ := pick_ex g p hd (by omega) hw
      have hb := bst_some hk
      unfold pickF at hk
      rw [hk,hb.1]
      rfl
    · intro k hk
      unfold goodB at hk
      rw [Bool.and_eq_true] at hk
      exact hk.1
    · intro k hkr hc
      have hk := List.mem_range.1 hkr
      rw [find_map]
      have hcw : ∀ ks : List Nat,decide (ordW l d (k :: ks) ≤ w) = decide (mxI (lastF l (d ||| 2 ^ k) k) (ordW l (d ||| 2 ^ k) ks) ≤ w) := fun _ => rfl
      simp only [hcw]
      have hpo := (pop_or (can_bit hc) l.ls.length).1 hk
      have hm2 : l.ls.length - pop (d ||| 2 ^ k) l.ls.length = m := by omega
      have hgd : goodB l b w d k = decide (wthF l b d k ≤ w) := by unfold goodB; rw [hc,Bool.true_and]
      rw [hgd]
      by_cases hwk : wthF l b d k ≤ w
      · rw [decide_eq_true hwk,if_pos rfl]
        unfold wthF at hwk
        have hm1 := mx_l (lastF l (d ||| 2 ^ k) k) (rstF l b (d ||| 2 ^ k))
        have hcongr : (fun ks : List Nat => decide (mxI (lastF l (d ||| 2 ^ k) k) (ordW l (d ||| 2 ^ k) ks) ≤ w)) = fun ks => decide (ordW l (d ||| 2 ^ k) ks ≤ w) := by
          funext ks
          have h1 := mx_l (lastF l (d ||| 2 ^ k) k) (ordW l (d ||| 2 ^ k) ks)
          have h2 := mx_lt (a := lastF l (d ||| 2 ^ k) k) (c := ordW l (d ||| 2 ^ k) ks) (m := w)
          by_cases h : ordW l (d ||| 2 ^ k) ks ≤ w
          · rw [decide_eq_true h,decide_eq_true (h2 (by omega) h)]
          · rw [decide_eq_false h,decide_eq_false (by omega)]
        rw [hcongr,first_bst g p hw0 m (d ||| 2 ^ k) (or_lt hd hk) hm2 (by omega)]
        rfl
      · rw [decide_eq_false hwk,if_neg (by simp)]
        rw [Option.map_eq_none_iff,List.find?_eq_none]
        intro ks hks
        have hv := K_of hm2 hks
        have h1 := ord_min hv
        unfold wthF at hwk
        have := mx_le (Int.le_refl (lastF l (d ||| 2 ^ k) k)) h1
        simp only [decide_eq_true_iff]
        omega
theorem first_best {l : Li} (g : Good l) : (ordsI l.ls.length (behF l.ts) l.ls.length 0 []).find? (fun o => decide (msN l o o.length ≤ minW l)) = some (ofN (bestO l)) := by
  have p := g.prec
  have hz : l.ls.length - pop 0 l.ls.length = l.ls.length := by rw [pop_0]; rfl
  have h := first_bst g p (rest_bd g (behF l.ts) 0).1 l.ls.length 0 (Nat.two_pow_pos _) hz (Int.le_refl (minW l))
  rw [ords_K,find_map]
  have hc : ∀ L : List (List Nat),(∀ ks ∈ L,vld l.ls.length (behF l.ts) 0 ks) → L.find? (fun ks => decide (msN l ([] ++ ofN ks) ([] ++ ofN ks).length ≤ minW l)) = L.find? (fun ks => decide (ordW l 0 ks ≤ minW l)) := by
    intro L
    induction L with
    | nil => intro _; rfl
    | cons ks L ih =>
      intro hL
      rw [List.find?_cons,List.find?_cons,ih fun x hx => hL x (by simp [hx]),List.nil_append,ms_all g (hL ks (by simp))]
  rw [hc _ fun ks hks => K_of hz hks]
  have h : (ordsK l.ls.length (behF l.ts) l.ls.length 0).find? (fun ks => decide (ordW l 0 ks ≤ minW l)) = some (bestO l) := h
  rw [h]
  rfl
end Go.Proofs.YtpbeclkpohehgaaDoor
namespace Go.Proofs.YtpbeclkpohehgaaDoor
open Go Go.DL
set_option maxRecDepth 100000
set_option maxHeartbeats 4000000

theorem ord_le {l : Li} {b : Nat → Nat} {M : Int} (hM : 0 ≤ M) (h : ∀ a k,k < l.ls.length → lastF l a k ≤ M) : ∀ {d : Nat} {ks : List Nat},vld l.ls.length b d ks → ordW l d ks ≤ M
  | d,[],_ => hM
  | d,k :: ks,hv => mx_lt (h _ k hv.1) (ord_le hM h hv.2.2)
theorem st_36 {x : List P2} (hx : ∀ y ∈ x,y.a < 256 ∧ y.b < 256) (m : Int) : ∀ i,i ≤ (mdK x).length → soN (mdK x) m i ≤ 36
  | 0,_ => by rw [soN]; decide
  | i + 1,hi => by
    have ih := st_36 hx m i (by omega)
    have hl : (mdK x).length = fewK x := stN_len x _
    have h4 : fewK x ≤ 4 ∧ fewK x ≤ x.length := by unfold fewK; omega
    have hg : (mdK x)[i]? = some ⟨(afN x (i + 1) : Nat),(nnN x (i + 1) : Nat)⟩ := st_get (by omega)
    have bd := af_bd hx (i + 1) (by omega)
    rcases soN_up (m := m) hg with ⟨_,h⟩ | ⟨_,h⟩
    · rw [h]; dsimp only; omega
    · rw [h]; exact ih
theorem md_36 {q : Qu} (hq : q.Ok) (a k : Nat) (hk : k < (mdL q).ls.length) : lastF (mdL q) a k ≤ 36 := by
  have g := good_of (md_good hq)
  obtain ⟨x,kd,h1,h2,h3,h4,h5,_⟩ := g.ldn hk
  unfold lastF sourF
  rw [h2,h5]
  have hm := List.mem_of_getElem? h4
  have hks : (mdL q).ks = [mdK q.k0,mdK q.k1] := rfl
  rw [hks] at hm
  simp only [List.mem_cons,List.not_mem_nil,or_false] at hm
  rcases hm with rfl | rfl
  · exact st_36 hq.k0 _ _ (Nat.le_refl _)
  · exact st_36 hq.k1 _ _ (Nat.le_refl _)
def fdN (l : Li) (os : List (List Int)) (w : Int) : Nat → Bool
  | 0 => false
  | i + 1 => fdN l os w i || decide (msN l (os.getD i []) (os.getD i []).length = w)
theorem fd_iff {l : Li} {os : List (List Int)} {w : Int} : ∀ i,(fdN l os w i = true ↔ ∃ j,j < i ∧ msN l (os.getD j []) (os.getD j []).length = w)
  | 0 => ⟨fun h => by simp [fdN] at h,fun ⟨j,hj,_⟩ => by omega⟩
  | i + 1 => by
    rw [fdN,Bool.or_eq_true,fd_iff i,decide_eq_true_iff]
    constructor
    · rintro (⟨j,h1,h2⟩ | h)
      · exact ⟨j,by omega,h2⟩
      · exact ⟨i,by omega,h⟩
    · rintro ⟨j,h1,h2⟩
      by_cases hj : j = i
      · subst hj; exact .inr h2
      · exact .inl ⟨j,by omega,h2⟩
theorem find_at {α : Type} {p : α → Bool} : ∀ {L : List α} {i : Nat} {x y : α},L.find? p = some y → L[i]? = some x → p x = true → (∀ j z,j < i → L[j]? = some z → p z = false) → x = y
  | [],i,x,y,_,h,_,_ => by simp at h
  | a :: L,0,x,y,h1,h2,h3,_ => by
    simp only [List.getElem?_cons_zero,Option.some.injEq] at h2
    subst h2
    rw [List.find?_cons,h3] at h1
    exact Option.some.inj h1
  | a :: L,i + 1,x,y,h1,h2,h3,h4 => by
    have ha := h4 0 a (by omega) (by simp)
    rw [List.find?_cons,ha] at h1
    exact find_at h1 (by simpa using h2) h3 fun j z hj hz => h4 (j + 1) z (by omega) (by simpa using hz)
section
variable {l : Li}
theorem round9 (g : Good l) (h5 : l.ls.length ≤ 5) {w : Int} {bo : List Int} {os : List (List Int)} {sv : AV} (hsv : sv = .fs [] ∨ ∃ ss : List Int,sv = rI ss) {ge : Int} (hos : os.length ≤ 1000000) (hbo : bo.length ≤ 10)
    (ho : ∀ o ∈ os,o.length = l.ls.length ∧ (∀ i,i < o.length → 0 ≤ o.getD i 0 ∧ o.getD i 0 < l.ls.length) ∧ w ≤ msN l o o.length) (hf : os.find? (fun o => decide (msN l o o.length ≤ w)) = some bo) {i : Nat} (hi : i < os.length) :
    headX 0 [3,4,5,9,10,11,46,47,48] (execW progX 9 0 none (match x9l0 with | .loop _ a => a | c => c) (envL [3,4,5,9,10,11,46,47,48] [.pt 0 0,rI bo,I w,sv,I ge,.bool (fdN l os w i),rO os,I os.length,I (i : Nat)]) (hL l)) =
      some ([.pt 0 0,rI bo,I w,sv,I ge,.bool (fdN l os w (i + 1)),rO os,I os.length,I (i + 1 : Nat)],hL l) := by
  have a1 := lt_ix hi
  have a2 := up_ix hi (by omega)
  obtain ⟨o,hx⟩ := at_ix hi
  obtain ⟨h1,h2,h3⟩ := ho o (List.mem_of_getElem? hx)
  have e41 := w41 g (o := o) (by omega) h2
  have c1 : (msN l o o.length < w) = False := eq_false (by omega)
  have e34 := w34s bo (by omega)
  have hfirst : msN l o o.length = w → fdN l os w i = false → o = bo := by
    intro hm hfd
    refine find_at hf hx (decide_eq_true (by omega)) fun j z hj hz => ?_
    have hz3 := (ho z (List.mem_of_getElem? hz)).2.2
    by_cases hzw : msN l z z.length = w
    · have : fdN l os w i = true := (fd_iff i).2 ⟨j,hj,by rw [getD_of hz]; exact hzw⟩
      rw [hfd] at this; simp at this
    · exact decide_eq_false (by omega)
  rw [fdN,getD_of hx]
  cases hfd : fdN l os w i with
  | true =>
    clear hfirst
    generalize msN l o o.length = mv at *
    unfold x9l0
    dsimp only
    rcases ptf (mv = w) with h | h
    · rcases hsv with rfl | ⟨ss,rfl⟩ <;> (sym => (simp [Za,Zb,Zf,Zg,Zh,Zj,Zl,Zm,Zo,Zp,Zq,Zr,Zs,Zu,Zx,Z2,Z3,Z7,ZF,ZN,ZO,ZS,ZT,ZU,ZV,ZW,Yf,Yg,Yi,Yo,Yq,Yu,Yv,YN,YO,YP,YR,YU,Xm,Xn,Xo,Xq,Xs,XJ,We,Wy,Wz,W0,W4,W5,W6,W7,W9,WA,WE,WF,WH,WI,WJ,WK,WL,WM,WN,WO,WP,WQ,WR,WS,WV,WW,Vb,Ve,Vf,Vg,Vr,Vt,Vu,Vv,Vw,Vx,Vz,VL,VM,VN,VO,VP,VQ,VU,VV,VX,VY,Ua,Ub,Uc,Ud,Ue,Uf,Ul,Um,Uo,Uq,Ur,Uv,Uw,Ux,U0,U1,U2,U3,U4,Ta,Tb,Tc,Td,Te,Tf,Tr,Ts,Tu,Tw,Tx,T3,T6,T7,T8,TD,Sy,SB,SC,SD,SE,a1,a2,hx,e41,c1,h]; all_goals tactic => exact rfl))
    · rcases hsv with rfl | ⟨ss,rfl⟩ <;> (sym => (simp [Za,Zb,Zf,Zg,Zh,Zj,Zl,Zm,Zo,Zp,Zq,Zr,Zs,Zu,Zx,Z2,Z3,Z7,ZF,ZN,ZO,ZS,ZT,ZU,ZV,ZW,Yf,Yg,Yi,Yo,Yq,Yu,Yv,YN,YO,YP,YR,YU,Xm,Xn,Xo,Xq,Xs,XJ,We,Wy,Wz,W0,W4,W5,W6,W7,W9,WA,WE,WF,WH,WI,WJ,WK,WL,WM,WN,WO,WP,WQ,WR,WS,WV,WW,Vb,Ve,Vf,Vg,Vr,Vt,Vu,Vv,Vw,Vx,Vz,VL,VM,VN,VO,VP,VQ,VU,VV,VX,VY,Ua,Ub,Uc,Ud,Ue,Uf,Ul,Um,Uo,Uq,Ur,Uv,Uw,Ux,U0,U1,U2,U3,U4,Ta,Tb,Tc,Td,Te,Tf,Tr,Ts,Tu,Tw,Tx,T3,T6,T7,T8,TD,Sy,SB,SC,SD,SE,a1,a2,hx,e41,c1,h]; all_goals tactic => exact rfl))
  | false =>
    rcases ptf (msN l o o.length = w) with h | h
    · have := hfirst (of_eq_true h) hfd
      subst this
      rw [decide_eq_true (of_eq_true h)]
      clear hfirst hf
      generalize msN l o o.length = mv at *
      unfold x9l0
      dsimp only
      rcases hsv with rfl | ⟨ss,rfl⟩ <;> (sym => (simp [Za,Zb,Zf,Zg,Zh,Zj,Zl,Zm,Zo,Zp,Zq,Zr,Zs,Zu,Zx,Z2,Z3,Z7,ZF,ZN,ZO,ZS,ZT,ZU,ZV,ZW,Yf,Yg,Yi,Yo,Yq,Yu,Yv,YN,YO,YP,YR,YU,Xm,Xn,Xo,Xq,Xs,XJ,We,Wy,Wz,W0,W4,W5,W6,W7,W9,WA,WE,WF,WH,WI,WJ,WK,WL,WM,WN,WO,WP,WQ,WR,WS,WV,WW,Vb,Ve,Vf,Vg,Vr,Vt,Vu,Vv,Vw,Vx,Vz,VL,VM,VN,VO,VP,VQ,VU,VV,VX,VY,Ua,Ub,Uc,Ud,Ue,Uf,Ul,Um,Uo,Uq,Ur,Uv,Uw,Ux,U0,U1,U2,U3,U4,Ta,Tb,Tc,Td,Te,Tf,Tr,Ts,Tu,Tw,Tx,T3,T6,T7,T8,TD,Sy,SB,SC,SD,SE,a1,a2,hx,e41,c1,h,e34]; all_goals tactic => exact rfl))
    · rw [decide_eq_false (of_eq_false h)]
      clear hfirst
      generalize msN l o o.length = mv at *
      unfold x9l0
      dsimp only
      rcases hsv with rfl | ⟨ss,rfl⟩ <;> (sym => (simp [Za,Zb,Zf,Zg,Zh,Zj,Zl,Zm,Zo,Zp,Zq,Zr,Zs,Zu,Zx,Z2,Z3,Z7,ZF,ZN,ZO,ZS,ZT,ZU,ZV,ZW,Yf,Yg,Yi,Yo,Yq,Yu,Yv,YN,YO,YP,YR,YU,Xm,Xn,Xo,Xq,Xs,XJ,We,Wy,Wz,W0,W4,W5,W6,W7,W9,WA,WE,WF,WH,WI,WJ,WK,WL,WM,WN,WO,WP,WQ,WR,WS,WV,WW,Vb,Ve,Vf,Vg,Vr,Vt,Vu,Vv,Vw,Vx,Vz,VL,VM,VN,VO,VP,VQ,VU,VV,VX,VY,Ua,Ub,Uc,Ud,Ue,Uf,Ul,Um,Uo,Uq,Ur,Uv,Uw,Ux,U0,U1,U2,U3,U4,Ta,Tb,Tc,Td,Te,Tf,Tr,Ts,Tu,Tw,Tx,T3,T6,T7,T8,TD,Sy,SB,SC,SD,SE,a1,a2,hx,e41,c1,h]; all_goals tactic => exact rfl))
end
theorem w9 {q : Qu} (hq : q.Ok) : runW progX 9 [.agg q.c] [] = some (.bool true,[]) := by
  have e39 := w39 hq
  have hc := md_good hq
  have hf := md_fit q
  have h36 := md_36 hq
  have h5 : (mdL q).ls.length ≤ 5 := by
    have : (mdL q).ls.length = fewL q := md_ls
    rw [this]; unfold fewL; omega
  generalize mdL q = l at *
  have g := good_of hc
  have hn := g.few
  obtain ⟨bv,bw⟩ := best_vld g
  have hw36 : minW l ≤ 36 := by rw [← bw]; exact ord_le (by decide) h36 bv
  have hw0 : 0 ≤ minW l := (rest_bd g _ 0).1
  have e29 := w29 l hf
  unfold bestR at e29
  rw [if_pos hc] at e29
  have e19 := w19 l hf (ofN (bestO l))
  unfold worR at e19
  rw [if_pos (ord_ok g hc bv),worst_ord g hc bv,bw] at e19
  have e45 := (w45N l).trans (w45T g hf h5)
  have hol := ords_len l.ls.length (behF l.ts) l.ls.length 0 []
  have hp5 := (pow_bd (n := l.ls.length) (m := l.ls.length) h5 h5).2
  have fb := first_best g
  have hblen : (ofN (bestO l)).length ≤ 10 := by
    have := vld_len bv
    rw [ofN_len]; omega
  have ho : ∀ o ∈ ordsI l.ls.length (behF l.ts) l.ls.length 0 [],o.length = l.ls.length ∧ (∀ i,i < o.length → 0 ≤ o.getD i 0 ∧ o.getD i 0 < l.ls.length) ∧ minW l ≤ msN l o o.length := by
    intro o ho
    obtain ⟨ks,h1,h2⟩ := ords_of _ _ _ _ (by rw [pop_0]; rfl) ho
    rw [List.nil_append] at h1
    subst h1
    have hl := vld_len h2
    rw [pop_0] at hl
    refine ⟨by rw [ofN_len]; omega,fun i hi => ?_,by rw [ms_all g h2]; exact ord_min h2⟩
    rw [ofN_len] at hi
    obtain ⟨v,hv⟩ := at_ix hi
    rw [getD_of (ofN_ix hv)]
    have := vld_lt h2 v (List.mem_of_getElem? hv)
    omega
  have hfound : fdN l (ordsI l.ls.length (behF l.ts) l.ls.length 0 []) (minW l) (ordsI l.ls.length (behF l.ts) l.ls.length 0 []).length = true := by
    have hm := List.mem_of_find?_eq_some fb
    obtain ⟨j,hj⟩ := List.getElem?_of_mem hm
    refine (fd_iff _).2 ⟨j,lt_of hj,?_⟩
    rw [getD_of hj,ms_all g bv,bw]
  have e32 := w32 hf
  have hv : ∀ s,s ≠ 0 → s < 2 ^ l.ls.length → 1 ≤ minW l → minW l ≤ shF l (behF l.ts) s → runW progX 36 [.agg l.c,I (minW l),rI (ofN (el s))] [] = some (I 0,[]) ∧ runW progX 36 [.agg l.c,I (minW l + 1),rI (ofN (el s))] [] = some (I 11,[]) := by
    intro s s0 s1 s2 s3
    have hlen : (ofN (el s)).length ≤ 1000 := by rw [ofN_len]; have := el_len s; omega
    have e1 := w36 hf (minW l) (ofN (el s)) hlen
    have e2 := w36 hf (minW l + 1) (ofN (el s)) hlen
    rw [ver_ok hc s2 (by omega) s0 s1 s3] at e1
    refine ⟨e1,?_⟩
    have hex : ∃ i,s.testBit i = true ∧ (0 : Nat).testBit i = false := by
      have hne : el s ≠ [] := fun hc2 => s0 ((el_0 s (lt_10 s1 hn)).1 hc2)
      obtain ⟨k,hk⟩ := List.exists_mem_of_ne_nil _ hne
      exact ⟨k,(el_mem.1 hk).2,Nat.zero_testBit k⟩
    have hsh := ord_shows g g.prec s1 (d := 0) (Nat.two_pow_pos _) (cl_0 _ _) bv hex
    rw [bw] at hsh
    have ev : verE l (minW l + 1) (ofN (el s)) = 11 := by
      unfold verE
      rw [if_pos hc,if_pos (btwF.2 (by omega)),if_neg fun hz => s0 ((el_0 s (lt_10 s1 hn)).1 (List.eq_nil_of_length_eq_zero (by rw [ofN_len] at hz; exact hz))),if_pos (vs_all s1),el_allT (lt_10 s1 hn),if_pos (by omega)]
    rw [ev] at e2
    exact e2
  have hr := fun (sv : AV) (hsv : sv = .fs [] ∨ ∃ ss : List Int,sv = rI ss) (ge : Int) (i : Nat) (hi : i < (ordsI l.ls.length (behF l.ts) l.ls.length 0 []).length) => round9 g h5 hsv (ge := ge) (by omega) hblen ho fb hi
  have f0 : fdN l (ordsI l.ls.length (behF l.ts) l.ls.length 0 []) (minW l) 0 = false := rfl
  have hprv : prvE l = if minW l = 0 then 5 else 0 := by unfold prvE; rw [if_pos hc]
  have ww : IntKind.i64.wrap (minW l + 1) = minW l + 1 := wrap_ok (by omega) (by omega)
  clear fb ho h36 bv bw
  generalize ordsI l.ls.length (behF l.ts) l.ls.length 0 [] = ords at *
  generalize minW l = w at *
  generalize ofN (bestO l) = bo at *
  have zz := UZ (n := (ords.length : Int))
  rcases e32 with ⟨p0,e32⟩ | ⟨p0,_,s,s0,s1,s2,_,s3,e32⟩
  · have hw : w = 0 := by
      by_cases hw : w = 0
      · exact hw
      · rw [hprv,if_neg hw] at p0; exact absurd rfl p0
    rw [hprv,if_pos hw] at e32
    subst hw
    rw [r9 (by simp)]; unfold x9; dsimp only
    sym =>
      simp [Za,Zb,Zc,Zf,Zg,Zh,Zj,Zl,Zm,Zn,Zo,Zp,Zq,Zu,Zv,Zx,Zy,Z2,ZC,ZD,ZF,ZJ,ZK,ZN,ZO,ZS,ZT,ZU,ZV,Ya,Yh,Yi,Yo,Yp,Yq,Y0,YN,YO,YP,YR,YU,YX,Xb,Xd,Xe,Xi,Xm,Xn,Xo,Xp,Xq,Xs,Xu,Xz,XJ,Wa,Wb,Wc,We,Wn,Wy,Wz,W0,W3,W4,W5,W6,W7,W8,W9,WA,WE,WF,WH,WI,WJ,WK,WL,WM,WN,WO,WP,WQ,WR,WS,WV,WW,Vb,Ve,Vf,Vg,Vr,Vt,Vu,Vv,Vw,Vx,Vz,V5,V6,V8,V9,VA,VB,VC,VF,VG,VH,VI,VK,VL,VM,VN,VO,VP,VQ,VR,VT,VU,VV,VW,VX,VY,Ua,Ub,Uc,Ud,Uf,Ui,Ul,Ur,Uv,Uw,Ux,U0,U1,U2,U3,U4,U5,U6,UB,UC,UD,UJ,UK,UZ,Ta,Tb,Te,Tg,Th,Tk,Tr,Ts,Tt,Tu,Tv,Tw,Tx,Ty,Tz,T5,T6,T7,T8,TD,Sy,SB,SC,SD,SE,e39,e29,e19,e32,e45]
      tactic =>
        unfold x9l0
        rw [loop_rule ords.length (fun i => [.pt 0 0,rI bo,I 0,.fs [],I 5,.bool (fdN l ords 0 i),rO ords,I ords.length,I (i : Nat)]) (fun _ => hL l)]
        · rw [hfound]; (sym => (simp [Za,Zb,Zc,Zf,Zg,Zh,Zj,Zl,Zm,Zn,Zo,Zp,Zq,Zu,Zv,Zx,Zy,Z2,ZC,ZD,ZF,ZJ,ZK,ZN,ZO,ZS,ZT,ZU,ZV,Ya,Yh,Yi,Yo,Yp,Yq,Y0,YN,YO,YP,YR,YU,YX,Xb,Xd,Xe,Xi,Xm,Xn,Xo,Xp,Xq,Xs,Xu,Xz,XJ,Wa,Wb,Wc,We,Wn,Wy,Wz,W0,W3,W4,W5,W6,W7,W8,W9,WA,WE,WF,WH,WI,WJ,WK,WL,WM,WN,WO,WP,WQ,WR,WS,WV,WW,Vb,Ve,Vf,Vg,Vr,Vt,Vu,Vv,Vw,Vx,Vz,V5,V6,V8,V9,VA,VB,VC,VF,VG,VH,VI,VK,VL,VM,VN,VO,VP,VQ,VR,VT,VU,VV,VW,VX,VY,Ua,Ub,Uc,Ud,Uf,Ui,Ul,Ur,Uv,Uw,Ux,U0,U1,U2,U3,U4,U5,U6,UB,UC,UD,UJ,UK,UZ,Ta,Tb,Te,Tg,Th,Tk,Tr,Ts,Tt,Tu,Tv,Tw,Tx,Ty,Tz,T5,T6,T7,T8,TD,Sy,SB,SC,SD,SE,zz,works_w]; all_goals tactic => exact rfl))
        · rw [f0]; (sym => (simp [Za,Zb,Zc,Zf,Zg,Zh,Zj,Zl,Zm,Zn,Zo,Zp,Zq,Zu,Zv,Zx,Zy,Z2,ZC,ZD,ZF,ZJ,ZK,ZN,ZO,ZS,ZT,ZU,ZV,Ya,Yh,Yi,Yo,Yp,Yq,Y0,YN,YO,YP,YR,YU,YX,Xb,Xd,Xe,Xi,Xm,Xn,Xo,Xp,Xq,Xs,Xu,Xz,XJ,Wa,Wb,Wc,We,Wn,Wy,Wz,W0,W3,W4,W5,W6,W7,W8,W9,WA,WE,WF,WH,WI,WJ,WK,WL,WM,WN,WO,WP,WQ,WR,WS,WV,WW,Vb,Ve,Vf,Vg,Vr,Vt,Vu,Vv,Vw,Vx,Vz,V5,V6,V8,V9,VA,VB,VC,VF,VG,VH,VI,VK,VL,VM,VN,VO,VP,VQ,VR,VT,VU,VV,VW,VX,VY,Ua,Ub,Uc,Ud,Uf,Ui,Ul,Ur,Uv,Uw,Ux,U0,U1,U2,U3,U4,U5,U6,UB,UC,UD,UJ,UK,UZ,Ta,Tb,Te,Tg,Th,Tk,Tr,Ts,Tt,Tu,Tv,Tw,Tx,Ty,Tz,T5,T6,T7,T8,TD,Sy,SB,SC,SD,SE]; all_goals tactic => exact rfl))
        · exact hr _ (.inl rfl) 5
        · (sym => (simp [Za,Zb,Zc,Zf,Zg,Zh,Zj,Zl,Zm,Zn,Zo,Zp,Zq,Zu,Zv,Zx,Zy,Z2,ZC,ZD,ZF,ZJ,ZK,ZN,ZO,ZS,ZT,ZU,ZV,Ya,Yh,Yi,Yo,Yp,Yq,Y0,YN,YO,YP,YR,YU,YX,Xb,Xd,Xe,Xi,Xm,Xn,Xo,Xp,Xq,Xs,Xu,Xz,XJ,Wa,Wb,Wc,We,Wn,Wy,Wz,W0,W3,W4,W5,W6,W7,W8,W9,WA,WE,WF,WH,WI,WJ,WK,WL,WM,WN,WO,WP,WQ,WR,WS,WV,WW,Vb,Ve,Vf,Vg,Vr,Vt,Vu,Vv,Vw,Vx,Vz,V5,V6,V8,V9,VA,VB,VC,VF,VG,VH,VI,VK,VL,VM,VN,VO,VP,VQ,VR,VT,VU,VV,VW,VX,VY,Ua,Ub,Uc,Ud,Uf,Ui,Ul,Ur,Uv,Uw,Ux,U0,U1,U2,U3,U4,U5,U6,UB,UC,UD,UJ,UK,UZ,Ta,Tb,Te,Tg,Th,Tk,Tr,Ts,Tt,Tu,Tv,Tw,Tx,Ty,Tz,T5,T6,T7,T8,TD,Sy,SB,SC,SD,SE,zz]; all_goals tactic => exact rfl))
  · obtain ⟨v1,v2⟩ := hv s s0 s1 s2 s3
    have hwz : (w = 0) = False := eq_false (by omega)
    generalize ofN (el s) = ss at *
    rw [r9 (by simp)]; unfold x9; dsimp only
    sym =>
      simp [Za,Zb,Zc,Zf,Zg,Zh,Zj,Zl,Zm,Zn,Zo,Zp,Zq,Zu,Zv,Zx,Zy,Z2,ZC,ZD,ZF,ZJ,ZK,ZN,ZO,ZS,ZT,ZU,ZV,Ya,Yh,Yi,Yo,Yp,Yq,Y0,YN,YO,YP,YR,YU,YX,Xb,Xd,Xe,Xi,Xm,Xn,Xo,Xp,Xq,Xs,Xu,Xz,XJ,Wa,Wb,Wc,We,Wn,Wy,Wz,W0,W3,W4,W5,W6,W7,W8,W9,WA,WE,WF,WH,WI,WJ,WK,WL,WM,WN,WO,WP,WQ,WR,WS,WV,WW,Vb,Ve,Vf,Vg,Vr,Vt,Vu,Vv,Vw,Vx,Vz,V5,V6,V8,V9,VA,VB,VC,VF,VG,VH,VI,VK,VL,VM,VN,VO,VP,VQ,VR,VT,VU,VV,VW,VX,VY,Ua,Ub,Uc,Ud,Uf,Ui,Ul,Ur,Uv,Uw,Ux,U0,U1,U2,U3,U4,U5,U6,UB,UC,UD,UJ,UK,UZ,Ta,Tb,Te,Tg,Th,Tk,Tr,Ts,Tt,Tu,Tv,Tw,Tx,Ty,Tz,T5,T6,T7,T8,TD,Sy,SB,SC,SD,SE,e39,e29,e19,e32,e45]
      tactic =>
        unfold x9l0
        rw [loop_rule ords.length (fun i => [.pt 0 0,rI bo,I w,rI ss,I 0,.bool (fdN l ords w i),rO ords,I ords.length,I (i : Nat)]) (fun _ => hL l)]
        · rw [hfound]; (sym => (simp [Za,Zb,Zc,Zf,Zg,Zh,Zj,Zl,Zm,Zn,Zo,Zp,Zq,Zu,Zv,Zx,Zy,Z2,ZC,ZD,ZF,ZJ,ZK,ZN,ZO,ZS,ZT,ZU,ZV,Ya,Yh,Yi,Yo,Yp,Yq,Y0,YN,YO,YP,YR,YU,YX,Xb,Xd,Xe,Xi,Xm,Xn,Xo,Xp,Xq,Xs,Xu,Xz,XJ,Wa,Wb,Wc,We,Wn,Wy,Wz,W0,W3,W4,W5,W6,W7,W8,W9,WA,WE,WF,WH,WI,WJ,WK,WL,WM,WN,WO,WP,WQ,WR,WS,WV,WW,Vb,Ve,Vf,Vg,Vr,Vt,Vu,Vv,Vw,Vx,Vz,V5,V6,V8,V9,VA,VB,VC,VF,VG,VH,VI,VK,VL,VM,VN,VO,VP,VQ,VR,VT,VU,VV,VW,VX,VY,Ua,Ub,Uc,Ud,Uf,Ui,Ul,Ur,Uv,Uw,Ux,U0,U1,U2,U3,U4,U5,U6,UB,UC,UD,UJ,UK,UZ,Ta,Tb,Te,Tg,Th,Tk,Tr,Ts,Tt,Tu,Tv,Tw,Tx,Ty,Tz,T5,T6,T7,T8,TD,Sy,SB,SC,SD,SE,zz,hwz,v1,v2,ww,works_w]; all_goals tactic => exact rfl))
        · rw [f0]; (sym => (simp [Za,Zb,Zc,Zf,Zg,Zh,Zj,Zl,Zm,Zn,Zo,Zp,Zq,Zu,Zv,Zx,Zy,Z2,ZC,ZD,ZF,ZJ,ZK,ZN,ZO,ZS,ZT,ZU,ZV,Ya,Yh,Yi,Yo,Yp,Yq,Y0,YN,YO,YP,YR,YU,YX,Xb,Xd,Xe,Xi,Xm,Xn,Xo,Xp,Xq,Xs,Xu,Xz,XJ,Wa,Wb,Wc,We,Wn,Wy,Wz,W0,W3,W4,W5,W6,W7,W8,W9,WA,WE,WF,WH,WI,WJ,WK,WL,WM,WN,WO,WP,WQ,WR,WS,WV,WW,Vb,Ve,Vf,Vg,Vr,Vt,Vu,Vv,Vw,Vx,Vz,V5,V6,V8,V9,VA,VB,VC,VF,VG,VH,VI,VK,VL,VM,VN,VO,VP,VQ,VR,VT,VU,VV,VW,VX,VY,Ua,Ub,Uc,Ud,Uf,Ui,Ul,Ur,Uv,Uw,Ux,U0,U1,U2,U3,U4,U5,U6,UB,UC,UD,UJ,UK,UZ,Ta,Tb,Te,Tg,Th,Tk,Tr,Ts,Tt,Tu,Tv,Tw,Tx,Ty,Tz,T5,T6,T7,T8,TD,Sy,SB,SC,SD,SE]; all_goals tactic => exact rfl))
        · exact hr _ (.inr ⟨ss,rfl⟩) 0
        · (sym => (simp [Za,Zb,Zc,Zf,Zg,Zh,Zj,Zl,Zm,Zn,Zo,Zp,Zq,Zu,Zv,Zx,Zy,Z2,ZC,ZD,ZF,ZJ,ZK,ZN,ZO,ZS,ZT,ZU,ZV,Ya,Yh,Yi,Yo,Yp,Yq,Y0,YN,YO,YP,YR,YU,YX,Xb,Xd,Xe,Xi,Xm,Xn,Xo,Xp,Xq,Xs,Xu,Xz,XJ,Wa,Wb,Wc,We,Wn,Wy,Wz,W0,W3,W4,W5,W6,W7,W8,W9,WA,WE,WF,WH,WI,WJ,WK,WL,WM,WN,WO,WP,WQ,WR,WS,WV,WW,Vb,Ve,Vf,Vg,Vr,Vt,Vu,Vv,Vw,Vx,Vz,V5,V6,V8,V9,VA,VB,VC,VF,VG,VH,VI,VK,VL,VM,VN,VO,VP,VQ,VR,VT,VU,VV,VW,VX,VY,Ua,Ub,Uc,Ud,Uf,Ui,Ul,Ur,Uv,Uw,Ux,U0,U1,U2,U3,U4,U5,U6,UB,UC,UD,UJ,UK,UZ,Ta,Tb,Te,Tg,Th,Tk,Tr,Ts,Tt,Tu,Tv,Tw,Tx,Ty,Tz,T5,T6,T7,T8,TD,Sy,SB,SC,SD,SE,zz]; all_goals tactic => exact rfl))
end Go.Proofs.YtpbeclkpohehgaaDoor
