/- 'BlightProved' returns true for every input. No condition but what the row lists. -/
import Derived.Test.YtiabjdfdkiijmaaDoorI8
set_option linter.unusedSimpArgs false
set_option linter.unusedVariables false
set_option linter.unusedSectionVars false
namespace Go.Proofs.YtiabjdfdkiijmaaDoor.blightProved
open Go Go.DL Go.ChangeShapes Go.WideShapes Go.ChangeAt Go.RowKit

set_option maxRecDepth 100000 in
theorem lifted (os:Os) (started:os.Started) (H:Type) (enc:TypeId×Value→H) :
 ReturnsInHanded {} Tryd.checked os 10 .any (fun w args=>(Rows.blightProvedSpec.pre enc Tryd.prog Tryd.f10 [] false w args∧laidMetH Tryd.prog aCe w)∧sizedMet enc Tryd.prog Tryd.f10 (OpenSpec.ofChange Rows.blightProvedSpec) false w args)
  (Rows.blightProvedSpec.post enc Tryd.prog Tryd.f10 false true false false):=by
 refine returnsInHanded_of_change_and (C:=Tryd.checked) (X:=fun w _=>laidMetH Tryd.prog aCe w) (fun _ _ _ hh h=>h.of_heap hh) own started (by kernel_rfl) Tryd.func10
  (ChangeSpec.witness_shaped (enc:=enc) (C:=Tryd.checked) (os:=os) (X:=fun w _=>laidMetH Tryd.prog aCe w) false (World.doorLaid Tryd.prog 400 os) #[.agg #[.int .u8 0, .slice none 0 0, .slice none 0 0, .int .u8 0, .int .u8 0, .int .u8 0], .slice none 0 0, .int .u8 0] 8 rfl (World.shaped_of_RefB (by kernel_rfl) (by kernel_rfl)) (by kernel_rfl) (by kernel_rfl) (by kernel_rfl) (aIK os _)) ?_
 intro W base args ds gs before hval0 hW _ _ hL _
 have hval:∀ (j:Nat) t v, Tryd.f10.params[j]?=some t→args[j]?=some v→Value.okWide Tryd.prog W .any base t v:=hval0
 have hW':=hW
 obtain⟨p, q, hA0, hV, rfl, hfz, hnd⟩:=hW
 have hA:DataW.TrodAll enc Tryd.prog W 0 (fun _=>true) true Tryd.f10.params.toList args.toList ds p:=hA0
 rw[Tryd.params10]at hA hval
 obtain⟨v0, vs0, d0, ds0, p0, q0, hargs, rfl, rfl, h0, r0⟩:=trodAll_cons hA
 obtain⟨v1, vs1, d1, ds1, p1, q1, rfl, rfl, rfl, h1, r1⟩:=trodAll_cons r0
 obtain⟨v2, vs2, d2, ds2, p2, q2, rfl, rfl, rfl, h2, r2⟩:=trodAll_cons r1
 obtain⟨rfl, rfl, rfl⟩:=trodAll_nil r2
 obtain rfl:args = #[v0, v1, v2]:=by cases args;simp_all
 obtain⟨rfl, rfl⟩:=trodVars_none hV
 obtain⟨x0, rfl⟩:=aDg Tryd.underlying57 (hval 0 57 v0 rfl rfl)
 obtain⟨a1, l1, c1, rfl⟩:=okWide_slice Tryd.underlying55 (hval 1 55 v1 rfl rfl)
 obtain⟨n2, rfl⟩:=okWide_int Tryd.underlying5 (hval 2 5 v2 rfl rfl)
 obtain⟨as0, len0, sh0, rv0⟩:=aLc aMx h0
 obtain⟨b1, sh1, rv1⟩:=aFf aIx rfl h1
 have gd1:=sh1.gd
 obtain⟨b2, sh2, rv2⟩:=aFf (.int Tryd.underlying5) rfl h2
 have gd2:=sh2.gd
 obtain⟨l0, e0, gd0, hf0⟩:=aKz len0 sh0
 rw[e0]at rv0
 obtain⟨o1, ub1, ul1, rfl⟩:=aLR sh1
 obtain⟨k2, rfl, u2⟩:=aMj sh2
 obtain⟨m2, rfl, b2⟩:=pS u2
 refine(aIh aHR (w10 hf0 ub1 ul1 b2) (by simp only[List.mem_cons, List.not_mem_nil, or_false];rintro a (rfl|rfl|rfl)<;>assumption) (aNK hL) (aMO rv0 rv1 rv2)).mono fun e W' ⟨he, hb⟩=>?_
 subst he
 exact⟨_, rfl, aIi laid hW' rfl rfl rfl rfl rfl Tryd.underlying4 (by kernel_rfl) hb⟩

theorem over:Rows.BlightProvedSaid :=
 OpenClaim.holds_of_wide 10 Tryd.f10 rfl rfl rfl rfl rfl rfl rfl ⟨rfl, rfl, rfl, rfl, rfl⟩ rfl rfl rfl rfl rfl (by kernel_rfl) Tryd.func10 (by kernel_rfl)
  (of_decide_eq_true (by kernel_rfl)) (by unfold Func.isWrapper;first|(rw[if_pos (by decide +kernel)];kernel_rfl)|(rw[if_neg (by decide +kernel)];exact⟨rfl, rfl⟩))
  (fun os started H enc _=>lifted os started H enc)

theorem proved:Rows.BlightProvedCardSaid :=
 Claim7.holds_tied_plain_at .later [] [.data, .data] true (true, "5bbd4fee4701d756bd6df5cadbed2271ada22b917302935b439049c32824f7d8") false
  over (fun _ h=>by cases h) (by kernel_rfl) (fun _ h=>by cases h) blightProved_row_tie rfl ⟨rfl, rfl⟩ (by kernel_rfl) rfl
  (fun f fn hf hfn=>by
   obtain rfl:f=10:=Option.some.inj ((show Tryd.prog.funcNamed "zafra/zafralaw13.BlightProved" = some 10 by kernel_rfl).symm.trans hf) |>.symm
   obtain rfl:fn=Tryd.f10:=(Option.some.inj (Tryd.func10.symm.trans hfn)).symm
   exact⟨by kernel_rfl, fun j t ht=>by
    rw[Tryd.params10]at ht
    have hm:t∈[57, 55, 5]:=by simpa using Array.mem_of_getElem? ht
    have hall:([57, 55, 5].all fun u => !Tryd.prog.wantsStandIn u)=true:=by kernel_rfl
    exact(show Tryd.prog.wantsStandIn t=false by simpa using List.all_eq_true.1 hall t hm)⟩)
  (by kernel_rfl)
#print axioms proved
end Go.Proofs.YtiabjdfdkiijmaaDoor.blightProved
