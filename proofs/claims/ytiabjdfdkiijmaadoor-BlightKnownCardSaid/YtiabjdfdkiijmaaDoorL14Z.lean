/- 'BlightKnown' returns true for every input. No condition but what the row lists. -/
import Derived.Test.YtiabjdfdkiijmaaDoorI7
set_option linter.unusedSimpArgs false
set_option linter.unusedVariables false
set_option linter.unusedSectionVars false
namespace Go.Proofs.YtiabjdfdkiijmaaDoor.blightKnown
open Go Go.DL Go.ChangeShapes Go.WideShapes Go.ChangeAt Go.RowKit

set_option maxRecDepth 100000 in
theorem lifted (os:Os) (started:os.Started) (H:Type) (enc:TypeId×Value→H) :
 ReturnsInHanded {} Tryd.checked os 14 .any (fun w args=>(Rows.blightKnownSpec.pre enc Tryd.prog Tryd.f14 [] false w args∧laidMetH Tryd.prog zY w)∧sizedMet enc Tryd.prog Tryd.f14 (OpenSpec.ofChange Rows.blightKnownSpec) false w args)
  (Rows.blightKnownSpec.post enc Tryd.prog Tryd.f14 false true false false):=by
 refine returnsInHanded_of_change_and (C:=Tryd.checked) (X:=fun w _=>laidMetH Tryd.prog zY w) (fun _ _ _ hh h=>h.of_heap hh) own started (by kernel_rfl) Tryd.func14
  (ChangeSpec.witness_shaped (enc:=enc) (C:=Tryd.checked) (os:=os) (X:=fun w _=>laidMetH Tryd.prog zY w) false (World.doorLaid Tryd.prog 400 os) #[] 8 rfl (World.shaped_of_RefB (by kernel_rfl) (by kernel_rfl)) (by kernel_rfl) (by kernel_rfl) (by kernel_rfl) (aFe os _)) ?_
 intro W base args ds gs before hval0 hW _ _ hL _
 have hval:∀ (j:Nat) t v, Tryd.f14.params[j]?=some t→args[j]?=some v→Value.okWide Tryd.prog W .any base t v:=hval0
 have hW':=hW
 obtain⟨p, q, hA0, hV, rfl, hfz, hnd⟩:=hW
 have hA:DataW.TrodAll enc Tryd.prog W 0 (fun _=>true) true Tryd.f14.params.toList args.toList ds p:=hA0
 rw[Tryd.params14]at hA hval
 obtain⟨hargs, rfl, rfl⟩:=trodAll_nil hA
 obtain rfl:args = #[]:=by cases args;simp_all
 obtain⟨rfl, rfl⟩:=trodVars_none hV
 refine(aEI aEw (w14 ) (by simp only[List.mem_cons, List.not_mem_nil, or_false];intro a h;exact h.elim) (aJr hL) aIn).mono fun e W' ⟨he, hb⟩=>?_
 subst he
 exact⟨_, rfl, aEJ laid hW' rfl rfl rfl rfl rfl Tryd.underlying4 (by kernel_rfl) hb⟩

theorem over:Rows.BlightKnownSaid :=
 OpenClaim.holds_of_wide 14 Tryd.f14 rfl rfl rfl rfl rfl rfl rfl ⟨rfl, rfl, rfl, rfl, rfl⟩ rfl rfl rfl rfl rfl (by kernel_rfl) Tryd.func14 (by kernel_rfl)
  (of_decide_eq_true (by kernel_rfl)) (by unfold Func.isWrapper;first|(rw[if_pos (by decide +kernel)];kernel_rfl)|(rw[if_neg (by decide +kernel)];exact⟨rfl, rfl⟩))
  (fun os started H enc _=>lifted os started H enc)

theorem proved:Rows.BlightKnownCardSaid :=
 Claim7.holds_tied_plain_at .later [] [.data, .data] true (true, "5bbd4fee4701d756bd6df5cadbed2271ada22b917302935b439049c32824f7d8") false
  over (fun _ h=>by cases h) (by kernel_rfl) (fun _ h=>by cases h) blightKnown_row_tie rfl ⟨rfl, rfl⟩ (by kernel_rfl) rfl
  (fun f fn hf hfn=>by
   obtain rfl:f=14:=Option.some.inj ((show Tryd.prog.funcNamed "zafra/zafralaw13.BlightKnown" = some 14 by kernel_rfl).symm.trans hf) |>.symm
   obtain rfl:fn=Tryd.f14:=(Option.some.inj (Tryd.func14.symm.trans hfn)).symm
   exact⟨by kernel_rfl, fun j t ht=>by
    rw[Tryd.params14]at ht
    simp at ht⟩)
  (by kernel_rfl)
#print axioms proved
end Go.Proofs.YtiabjdfdkiijmaaDoor.blightKnown
