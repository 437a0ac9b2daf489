/- 'ClerkSays' returns true for every input. No condition but what the row lists. -/
import Derived.Test.YtmapgnepfgnphaaGreatDoorH9
set_option linter.unusedSimpArgs false
set_option linter.unusedVariables false
set_option linter.unusedSectionVars false
namespace Go.Proofs.YtmapgnepfgnphaaGreatDoor.clerkSays
open Go Go.DL Go.ChangeShapes Go.WideShapes Go.ChangeAt Go.RowKit
set_option maxRecDepth 100000 in
theorem lifted (os:Os) (started:os.Started) (H:Type) (enc:TypeId×Value→H) :
 ReturnsInHanded {} Tryz.checked os 4 .any (fun w args=>(Rows.clerkSaysSpec.pre enc Tryz.prog Tryz.f4 [] false w args∧laidMetH Tryz.prog aDP w)∧sizedMet enc Tryz.prog Tryz.f4 (OpenSpec.ofChange Rows.clerkSaysSpec) false w args)
  (Rows.clerkSaysSpec.post enc Tryz.prog Tryz.f4 false true false false):=by
 refine aDu (C:=Tryz.checked) (X:=fun w _=>laidMetH Tryz.prog aDP w) (fun _ _ _ hh h=>h.of_heap hh) own started (by kernel_rfl) Tryz.func4
  (ChangeSpec.witness_shaped (enc:=enc) (C:=Tryz.checked) (os:=os) (X:=fun w _=>laidMetH Tryz.prog aDP w) false (World.laidAll Tryz.prog os aDP) #[.slice none 0 0] 8 (World.laidAll_os _ _ _) (World.shaped_of_ZipB (by kernel_rfl) (by kernel_rfl)) (by kernel_rfl) (by kernel_rfl) (by kernel_rfl) (aLZ os _)) ?_
 intro W base args ds gs before hval0 hW hL hsh
 have hval:∀ (j:Nat) t v, Tryz.f4.params[j]?=some t→args[j]?=some v→Value.okWide Tryz.prog W .any base t v:=hval0
 have hW':=hW
 obtain⟨p, q, hA0, hV, rfl, hfz, hnd⟩:=hW
 have hA:DataW.TrodAll enc Tryz.prog W 0 (fun _=>true) true Tryz.f4.params.toList args.toList ds p:=hA0
 rw[Tryz.params4]at hA hval
 obtain⟨v0, vs0, d0, ds0, p0, q0, hargs, rfl, rfl, h0, r0⟩:=trodAll_cons hA
 obtain⟨rfl, rfl, rfl⟩:=trodAll_nil r0
 obtain rfl:args = #[v0]:=by cases args;simp_all
 obtain⟨rfl, rfl⟩:=trodVars_none hV
 obtain⟨a0, l0, c0, rfl⟩:=okWide_slice Tryz.underlying22 (hval 0 22 v0 rfl rfl)
 obtain⟨b0, sh0, rv0⟩:=aUs aXu rfl h0
 have gd0:=sh0.gd
 obtain⟨o0, rfl, ub0⟩:=aSE sh0
 refine(aPW aPw (w4 ub0) (by simp only[List.mem_cons, List.not_mem_nil, or_false];rintro a rfl;assumption) (bBp hL hsh) (aMX rv0 aRj)).mono fun e W' ⟨he, hb⟩=>?_
 subst he
 exact⟨_, rfl, aPX laid hW' rfl rfl rfl rfl rfl Tryz.underlying4 (by kernel_rfl) hb⟩
theorem over:Rows.ClerkSaysSaid :=
 OpenClaim.holds_of_wide 4 Tryz.f4 rfl rfl rfl rfl rfl rfl rfl ⟨rfl, rfl, rfl, rfl, rfl⟩ rfl rfl rfl rfl rfl (by kernel_rfl) Tryz.func4 (by kernel_rfl)
  (of_decide_eq_true (by kernel_rfl)) (by unfold Func.isWrapper;first|(rw[if_pos (by decide +kernel)];kernel_rfl)|(rw[if_neg (by decide +kernel)];exact⟨rfl, rfl⟩))
  (fun os started H enc _=>lifted os started H enc)
theorem proved:Rows.ClerkSaysCardSaid :=
 Claim7.holds_tied_plain_at .later [] [.data, .data, .data, .data, .sentinel, .sentinel, .pinned] true (true, "af759928eddbb9eac8a1ef199d391bad5769a165cd1ac7ed8ea8e5f37891e53d") true
  over (fun _ h=>by cases h) (by kernel_rfl) (fun _ h=>by cases h) clerkSays_row_tie rfl ⟨rfl, rfl⟩ (by kernel_rfl) (by kernel_rfl)
  (fun f fn hf hfn=>by
   obtain rfl:f=4:=Option.some.inj ((show Tryz.prog.funcNamed "zafra/zafralaw14.ClerkSays" = some 4 by kernel_rfl).symm.trans hf) |>.symm
   obtain rfl:fn=Tryz.f4:=(Option.some.inj (Tryz.func4.symm.trans hfn)).symm
   exact⟨by kernel_rfl, fun j t ht=>by
    rw[Tryz.params4]at ht
    have hm:t∈[22]:=by simpa using Array.mem_of_getElem? ht
    have hall:([22].all fun u => !Tryz.prog.wantsStandIn u)=true:=by kernel_rfl
    exact(show Tryz.prog.wantsStandIn t=false by simpa using List.all_eq_true.1 hall t hm)⟩)
  (by kernel_rfl)
#print axioms proved
end Go.Proofs.YtmapgnepfgnphaaGreatDoor.clerkSays
