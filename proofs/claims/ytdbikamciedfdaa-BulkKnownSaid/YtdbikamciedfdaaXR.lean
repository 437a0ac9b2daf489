/- From what a function computes to what a call of it does. No statement of the seed is proved here. -/
import Derived.Carry
import Derived.OpenShut
import Derived.Test.YtdbikamciedfdaaXE
namespace Go.DL
open Go.RowKit
variable {P : Program} {D : Nat → Option XFn}

theorem SH.none : SH D (fun _ => Option.none) (fun _ => Option.none) [] noH :=
  ⟨fun b c hb => by simp at hb, fun b c c' x y hx => by simp [hat] at hx, fun b x hx => by simp [hat] at hx⟩

/-- A call at the root: all that was there lies as it lay. -/
theorem root (ok : XOk P D) {n K : Nat} {as : List AV} {v : AV} {h' : XH} (hrun : runX D n K as [] = some (v, h')) (has : ∀ a ∈ as, Gd a) (hv : Gd v) {w : World} {vs : Array Value} (hA : Args (fun b => b < w.heap.size) w as vs) :
    Calls P K vs w fun e w' => ∃ F' q, e = .returned q ∧ Rv F' w' v q ∧ Below w.heap.size w w' := by
  have hfn := (run_sound ok n ⟨fun b => b < w.heap.size, w⟩ (fun _ => Option.none) (fun l i h => by simp at h)).1 (fun _ => Option.none) [] noH K as as v h' SH.none (RnL.self fun a ha => (has a ha).rn) hrun
  have hc := hfn.2 (fun b => b < w.heap.size) w vs (Up.refl _ _) ⟨fun b hb => hb, fun b x hb => by simp [noH] at hb, fun b x hb => by simp [noH] at hb⟩ hA
  refine (callsIn_wide.1 hc).mono ?_
  rintro e w' ⟨q, v', F', H', rfl, h1, h2, h3, r', _, _, h4⟩
  obtain ⟨rfl, _⟩ := h4.same hv.gr
  exact ⟨F', q, rfl, h3, h1.io.os, h1.io.tape, h1.io.output, h1.le, fun k hk => h1.same k hk (by simp [wrH, noH])⟩

theorem rv_true {F : Nat → Prop} {w : World} {b : Bool} {q : Value} (h : Rv F w (.bool b) q) : q = .bool b := by cases h; rfl

section
variable {H : Type} {enc : TypeId × Value → H}

/-- Arguments that lie below read as they did. -/
theorem args_again (hl : laidOutB P = true) {W W' : World} (hb : Below W.heap.size W W') : ∀ (ts : List TypeId) (vs : List Value) (ds : List (DataW H)) (ps : List MemPlace), (ts.all fun t => P.readableRec t && decide (t < P.types.size)) = true →
    (∀ x ∈ ps, x.block < W.heap.size) → DataW.TrodAll enc P W 0 (fun _ => true) true ts vs ds ps → DataW.TrodAll enc P W' 0 (fun b => decide (b < W.heap.size)) true ts vs ds ps
  | [], [], [], ps, _, _, h => h
  | t :: ts, v :: vs, d :: ds, ps, ht, hlt, h => by
    obtain ⟨p, q, h1, h2, rfl⟩ := h
    simp only [List.all_cons, Bool.and_eq_true, decide_eq_true_eq] at ht
    exact ⟨p, q, Below.trod hl ht.1.1 ht.1.2 h1 hb (fun x hx => hlt x (by simp [hx])), args_again hl hb ts vs ds q ht.2 (fun x hx => hlt x (by simp [hx])) h2, rfl⟩
  | [], [], _ :: _, _, _, _, h => h.elim
  | [], _ :: _, _, _, _, _, h => h.elim
  | _ :: _, [], _, _, _, _, h => h.elim
  | _ :: _, _ :: _, [], _, _, _, h => h.elim

/-- A law's row: true came back, the arguments read as before. -/
theorem law_post (hl : laidOutB P = true) {f : Func} {s : ChangeSpec} {W W' : World} {args : Array Value} {ds gs : List (DataW H)} {before : List MemPlace} {t : TypeId}
    (hW : DataW.Whole enc P f.params.toList s.vars false W args.toList ds gs before) (hv : s.vars = []) (hs : (s.fn H (ds ++ gs)).results = [.lit (.bool true)]) (hs2 : (s.fn H (ds ++ gs)).args = ds) (hs3 : (s.fn H (ds ++ gs)).vars = [])
    (ht : f.resultTypes = #[t]) (hu : P.underlying t = some .bool) (hp : (f.params.toList.all fun t => P.readableRec t && decide (t < P.types.size)) = true) (hb : Below W.heap.size W W') :
    s.post enc P f false true false false W args (.bool true) W' := by
  have hlt := hW.lt
  have hW0 := hW
  obtain ⟨p, q, h1, h2, rfl, h4, h5⟩ := hW
  rw [hv] at h2
  cases gs with
  | cons g gs => exact h2.elim
  | nil =>
    have hq : q = [] := h2
    subst hq
    refine ⟨ds, [], p ++ [], [], p, [], hW0, ?_, ?_, ?_, ?_, fun h => by cases h⟩
    · rw [hs, ht]
      exact ⟨[], [], RowKit.shut_bool hu true, rfl, rfl⟩
    · rw [hs2]
      exact args_again hl hb _ _ _ _ hp (fun x hx => hlt x (by simp [hx])) h1
    · rw [hs3, hv]
      exact rfl
    · exact World.keptBut_mono (fun x hx => ⟨by simpa using hx, .inr (.inl hx)⟩) (hb.frame (· ∈ p))
end
end Go.DL
