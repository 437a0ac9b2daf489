/- Parts of a proof, joined: LA LB. No statement of the seed is proved here. -/
import Derived.Test.YtdbikamciedfdaaRows
import Derived.WalkKit
import Derived.ProofKit
import Derived.OpenShut
import Derived.Test.YtdbikamciedfdaaS5
set_option linter.unusedSimpArgs false
set_option linter.unusedVariables false
set_option linter.unusedSectionVars false
namespace Go.Proofs.Ytdbikamciedfdaa
open Go Go.DL Go.ChangeShapes Go.WideShapes Go.ChangeAt Go.RowKit

theorem own : ownKnob Try.prog.godebug = none := by kernel_rfl
theorem laid : laidOutB Try.prog = true := by kernel_rfl

theorem int_of {k : IntKind} {a : AV} (h : Sh (.int k) a) : ∃ n, a = .int k n ∧ (Lit.int k n).wf = true := by cases h; exact ⟨_, rfl, by assumption⟩

section
variable {H : Type} {enc : TypeId × Value → H} {P : Program} {w : World} {r : Reach} {base : Nat}
theorem okWide_agg {t : TypeId} {fs : Array Field} (ht : P.underlying t = some (.struct fs)) {v : Value} (h : Value.okWide P w r base t v) : ∃ vs, v = .agg vs := by
  unfold Value.okWide at h
  rw [ht] at h
  obtain ⟨cs, h, _⟩ := h
  exact ⟨cs, h⟩
end
end Go.Proofs.Ytdbikamciedfdaa
namespace Go.Proofs.Ytdbikamciedfdaa
open Go Go.DL Go.ChangeShapes Go.WideShapes Go.ChangeAt Go.RowKit

abbrev millT : List CT := [.int .u8, .sl [.int .u8, .int .u8], .sl [.int .u8], .int .u16]
theorem flat117 : Flat Try.prog 117 [.int .u8, .int .u8] := .array (n := 2) Try.underlying117 (.int Try.underlying5) (by kernel_rfl) (by kernel_rfl)
theorem flat64 : Flat Try.prog 64 [.sl [.int .u8, .int .u8]] := .sl Try.underlying64 flat117 (by kernel_rfl) (by decide)
theorem flat65 : Flat Try.prog 65 [.sl [.int .u8]] := .sl Try.underlying65 (.int Try.underlying5) (by kernel_rfl) (by decide)
theorem flat68 : Flat Try.prog 68 millT := Flat.mk (rs := [[.int .u8], [.sl [.int .u8, .int .u8]], [.sl [.int .u8]], [.int .u16]]) Try.underlying68 ⟨.int Try.underlying5, by kernel_rfl, rfl, flat64, by kernel_rfl, rfl, flat65, by kernel_rfl, rfl, .int Try.underlying66, by kernel_rfl, rfl, trivial⟩ (by kernel_rfl)
theorem u8_of {n : Int} (h : (Lit.int .u8 n).wf = true) : 0 ≤ n ∧ n ≤ 255 := by
  simp [Lit.wf, IntKind.bits, IntKind.signed, IntKind.min, IntKind.max] at h
  omega
theorem bytes_of {a : AV} (h : Sh (.sl [.int .u8]) a) : ∃ us : List Int, (∀ v ∈ us, 0 ≤ v ∧ v ≤ 255) ∧ us.length ≤ maxLen ∧ a = .fs (us.map fun v => [.int .u8 v]) := by
  cases h with
  | sl _ rows h1 hn h2 =>
    have key : ∀ rows : List (List AV), (∀ row ∈ rows, row.length = 1) → (∀ row ∈ rows, ∀ (i : Nat) (c : CT) (a : AV), ([.int .u8] : List CT)[i]? = some c → row[i]? = some a → Sh c a) → ∃ us : List Int, (∀ v ∈ us, 0 ≤ v ∧ v ≤ 255) ∧ rows = us.map fun v => [.int .u8 v] := by
      intro rows
      induction rows with
      | nil => intro _ _; exact ⟨[], by simp, rfl⟩
      | cons r rows ih =>
        intro h1 h2
        obtain ⟨us, hus, rfl⟩ := ih (fun row hr => h1 row (by simp [hr])) (fun row hr => h2 row (by simp [hr]))
        have hl := h1 r (by simp)
        have hs := h2 r (by simp)
        match r, hl with
        | [a0], _ =>
          cases hs 0 _ _ rfl rfl with
          | int _ n0 q0 =>
            refine ⟨n0 :: us, fun v hv => ?_, rfl⟩
            rcases List.mem_cons.1 hv with hv | hv
            · rw [hv]; exact u8_of q0
            · exact hus v hv
    obtain ⟨us, hus, rfl⟩ := key rows h1 h2
    exact ⟨us, hus, by simpa using hn, rfl⟩
theorem ends_of {a : AV} (h : Sh (.sl [.int .u8, .int .u8]) a) : ∃ us : List (Int × Int), (∀ e ∈ us, (0 ≤ e.1 ∧ e.1 ≤ 255) ∧ (0 ≤ e.2 ∧ e.2 ≤ 255)) ∧ a = .fs (us.map fun e => [.int .u8 e.1, .int .u8 e.2]) := by
  cases h with
  | sl _ rows h1 _ h2 =>
    have key : ∀ rows : List (List AV), (∀ row ∈ rows, row.length = 2) → (∀ row ∈ rows, ∀ (i : Nat) (c : CT) (a : AV), ([.int .u8, .int .u8] : List CT)[i]? = some c → row[i]? = some a → Sh c a) → ∃ us : List (Int × Int), (∀ e ∈ us, (0 ≤ e.1 ∧ e.1 ≤ 255) ∧ (0 ≤ e.2 ∧ e.2 ≤ 255)) ∧ rows = us.map fun e => [.int .u8 e.1, .int .u8 e.2] := by
      intro rows
      induction rows with
      | nil => intro _ _; exact ⟨[], by simp, rfl⟩
      | cons r rows ih =>
        intro h1 h2
        obtain ⟨us, hus, rfl⟩ := ih (fun row hr => h1 row (by simp [hr])) (fun row hr => h2 row (by simp [hr]))
        have hl := h1 r (by simp)
        have hs := h2 r (by simp)
        match r, hl with
        | [a0, a1], _ =>
          cases hs 0 _ _ rfl rfl with
          | int _ n0 q0 =>
          cases hs 1 _ _ rfl rfl with
          | int _ n1 q1 =>
            refine ⟨(n0, n1) :: us, fun v hv => ?_, rfl⟩
            rcases List.mem_cons.1 hv with hv | hv
            · rw [hv]; exact ⟨u8_of q0, u8_of q1⟩
            · exact hus v hv
    obtain ⟨us, hus, rfl⟩ := key rows h1 h2
    exact ⟨us, hus, rfl⟩
theorem mill_of {xs : List AV} (hl : xs.length = 4) (h : ∀ (i : Nat) (c : CT) (a : AV), millT[i]? = some c → xs[i]? = some a → Sh c a) : ∃ m : Mi, AV.agg xs = .agg (miC m) ∧ Gd (.agg (miC m)) ∧ m.Ok := by
  match xs, hl with
  | [a0, a1, a2, a3], _ =>
    have s1 := h 1 _ _ rfl rfl
    have g1 := s1.gd
    have s2 := h 2 _ _ rfl rfl
    have g2 := s2.gd
    obtain ⟨es, hes, rfl⟩ := ends_of s1
    obtain ⟨ms, hms, _, rfl⟩ := bytes_of s2
    cases h 0 _ _ rfl rfl with
    | int _ n0 q0 =>
    cases h 3 _ _ rfl rfl with
    | int _ n3 q3 =>
    refine ⟨⟨n0, es, ms, n3⟩, rfl, .agg _ fun c hc => ?_, ⟨u8_of q0, hes, hms⟩⟩
    simp only [List.mem_cons, List.not_mem_nil, or_false] at hc
    rcases hc with rfl | rfl | rfl | rfl
    · exact .int _ _
    · exact g1
    · exact g2
    · exact .int _ _
section
variable {w : World}
theorem args_4 {a b c d : AV} {u v x y : Value} {F : Nat → Prop} (h1 : Rv F w a u) (h2 : Rv F w b v) (h3 : Rv F w c x) (h4 : Rv F w d y) : Args F w [a, b, c, d] #[u, v, x, y] := ⟨rfl, fun i a' v' e1 e2 => by
  match i with
  | 0 => simp at e1 e2; rw [← e1, ← e2]; exact h1
  | 1 => simp at e1 e2; rw [← e1, ← e2]; exact h2
  | 2 => simp at e1 e2; rw [← e1, ← e2]; exact h3
  | 3 => simp at e1 e2; rw [← e1, ← e2]; exact h4
  | i + 4 => simp at e1⟩
end
end Go.Proofs.Ytdbikamciedfdaa
