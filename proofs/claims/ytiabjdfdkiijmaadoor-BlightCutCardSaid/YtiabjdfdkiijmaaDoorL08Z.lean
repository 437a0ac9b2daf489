/- 'BlightCut' returns true for every input. No condition but what the row lists. -/
import Derived.Test.YtiabjdfdkiijmaaDoorI8
set_option linter.unusedSimpArgs false
set_option linter.unusedVariables false
set_option linter.unusedSectionVars false
namespace Go.Proofs.YtiabjdfdkiijmaaDoor.blightCut
open Go Go.DL Go.ChangeShapes Go.WideShapes Go.ChangeAt Go.RowKit

set_option maxRecDepth 100000 in
theorem lifted (os:Os) (started:os.Started) (H:Type) (enc:TypeId×Value→H) :
 ReturnsInHanded {} Tryd.checked os 8 .any (fun w args=>(Rows.blightCutSpec.pre enc Tryd.prog Tryd.f8 [] false w args∧laidMetH Tryd.prog aBx w)∧sizedMet enc Tryd.prog Tryd.f8 (OpenSpec.ofChange Rows.blightCutSpec) false w args)
  (Rows.blightCutSpec.post enc Tryd.prog Tryd.f8 false true false false):=by
 refine returnsInHanded_of_change_and (C:=Tryd.checked) (X:=fun w _=>laidMetH Tryd.prog aBx w) (fun _ _ _ hh h=>h.of_heap hh) own started (by kernel_rfl) Tryd.func8
  (ChangeSpec.witness_shaped (enc:=enc) (C:=Tryd.checked) (os:=os) (X:=fun w _=>laidMetH Tryd.prog aBx w) false (World.doorLaid Tryd.prog 400 os) #[.agg #[.int .u8 0, .slice none 0 0, .slice none 0 0, .int .u8 0, .int .u8 0, .int .u8 0]] 8 rfl (World.shaped_of_RefB (by kernel_rfl) (by kernel_rfl)) (by kernel_rfl) (by kernel_rfl) (by kernel_rfl) (aHu os _)) ?_
 intro W base args ds gs before hval0 hW _ _ hL _
 have hval:∀ (j:Nat) t v, Tryd.f8.params[j]?=some t→args[j]?=some v→Value.okWide Tryd.prog W .any base t v:=hval0
 have hW':=hW
 obtain⟨p, q, hA0, hV, rfl, hfz, hnd⟩:=hW
 have hA:DataW.TrodAll enc Tryd.prog W 0 (fun _=>true) true Tryd.f8.params.toList args.toList ds p:=hA0
 rw[Tryd.params8]at hA hval
 obtain⟨v0, vs0, d0, ds0, p0, q0, hargs, rfl, rfl, h0, r0⟩:=trodAll_cons hA
 obtain⟨rfl, rfl, rfl⟩:=trodAll_nil r0
 obtain rfl:args = #[v0]:=by cases args;simp_all
 obtain⟨rfl, rfl⟩:=trodVars_none hV
 obtain⟨x0, rfl⟩:=aCx Tryd.underlying57 (hval 0 57 v0 rfl rfl)
 obtain⟨as0, len0, sh0, rv0⟩:=aJK aLe h0
 obtain⟨l0, e0, gd0, hf0⟩:=aJj len0 sh0
 rw[e0]at rv0
 refine(aGU aGK (w8 hf0) (by simp only[List.mem_cons, List.not_mem_nil, or_false];rintro a (rfl)<;>assumption) (aMq hL) (aLw rv0)).mono fun e W' ⟨he, hb⟩=>?_
 subst he
 exact⟨_, rfl, aGV laid hW' rfl rfl rfl rfl rfl Tryd.underlying4 (by kernel_rfl) hb⟩

theorem over:Rows.BlightCutSaid :=
 OpenClaim.holds_of_wide 8 Tryd.f8 rfl rfl rfl rfl rfl rfl rfl ⟨rfl, rfl, rfl, rfl, rfl⟩ rfl rfl rfl rfl rfl (by kernel_rfl) Tryd.func8 (by kernel_rfl)
  (of_decide_eq_true (by kernel_rfl)) (by unfold Func.isWrapper;first|(rw[if_pos (by decide +kernel)];kernel_rfl)|(rw[if_neg (by decide +kernel)];exact⟨rfl, rfl⟩))
  (fun os started H enc _=>lifted os started H enc)

theorem proved:Rows.BlightCutCardSaid :=
 Claim7.holds_tied_plain_at .later [] [.data, .data] true (true, "5bbd4fee4701d756bd6df5cadbed2271ada22b917302935b439049c32824f7d8") false
  over (fun _ h=>by cases h) (by kernel_rfl) (fun _ h=>by cases h) blightCut_row_tie rfl ⟨rfl, rfl⟩ (by kernel_rfl) rfl
  (fun f fn hf hfn=>by
   obtain rfl:f=8:=Option.some.inj ((show Tryd.prog.funcNamed "zafra/zafralaw13.BlightCut" = some 8 by kernel_rfl).symm.trans hf) |>.symm
   obtain rfl:fn=Tryd.f8:=(Option.some.inj (Tryd.func8.symm.trans hfn)).symm
   exact⟨by kernel_rfl, fun j t ht=>by
    rw[Tryd.params8]at ht
    have hm:t∈[57]:=by simpa using Array.mem_of_getElem? ht
    have hall:([57].all fun u => !Tryd.prog.wantsStandIn u)=true:=by kernel_rfl
    exact(show Tryd.prog.wantsStandIn t=false by simpa using List.all_eq_true.1 hall t hm)⟩)
  (by kernel_rfl)
#print axioms proved
end Go.Proofs.YtiabjdfdkiijmaaDoor.blightCut
