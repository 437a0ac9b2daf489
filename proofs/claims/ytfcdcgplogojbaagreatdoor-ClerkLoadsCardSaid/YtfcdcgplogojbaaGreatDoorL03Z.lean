/- 'ClerkLoads' returns true for every input. No condition but what the row lists. -/
import Derived.Test.YtfcdcgplogojbaaGreatDoorH10
set_option linter.unusedSimpArgs false
set_option linter.unusedVariables false
set_option linter.unusedSectionVars false
namespace Go.Proofs.YtfcdcgplogojbaaGreatDoor.clerkLoads
open Go Go.DL Go.ChangeShapes Go.WideShapes Go.ChangeAt Go.RowKit
set_option maxRecDepth 100000 in
theorem lifted (os:Os) (started:os.Started) (H:Type) (enc:TypeId×Value->H) :
 ReturnsInHanded {} Tryz.checked os 3 .any (λw args=>(Rows.clerkLoadsSpec.pre enc Tryz.prog Tryz.f3 [] false w args/\laidMetH Tryz.prog aEi w)/\sizedMet enc Tryz.prog Tryz.f3 (OpenSpec.ofChange Rows.clerkLoadsSpec) false w args)
  (Rows.clerkLoadsSpec.post enc Tryz.prog Tryz.f3 false true false false):=by
 refine aDM (C:=Tryz.checked) (X:=λw _=>laidMetH Tryz.prog aEi w) (λ_ _ _ hh h=>h.of_heap hh) own started (by kernel_rfl) Tryz.func3
  (ChangeSpec.witness_shaped (enc:=enc) (C:=Tryz.checked) (os:=os) (X:=λw _=>laidMetH Tryz.prog aEi w) false (World.laidAll Tryz.prog os aEi) #[.string ⟨#[]⟩, .slice none 0 0] 8 (World.laidAll_os _ _ _) (World.shaped_of_ZipB (by kernel_rfl) (by kernel_rfl)) (by kernel_rfl) (by kernel_rfl) (by kernel_rfl) (aMF os _)) ?_
 intro W base args ds gs before hval0 hW hL hsh
 have hval:∀ (j:Nat) t v, Tryz.f3.params[j]?=some t->args[j]?=some v->Value.okWide Tryz.prog W .any base t v:=hval0
 have hW':=hW
 obtain⟨p, q, hA0, hV, rfl, hfz, hnd⟩:=hW
 have hA:DataW.TrodAll enc Tryz.prog W 0 (λ_=>true) true Tryz.f3.params.toList args.toList ds p:=hA0
 rw[Tryz.params3]at hA hval
 obtain⟨v0, vs0, d0, ds0, p0, q0, hargs, rfl, rfl, h0, r0⟩:=trodAll_cons hA
 obtain⟨v1, vs1, d1, ds1, p1, q1, rfl, rfl, rfl, h1, r1⟩:=trodAll_cons r0
 obtain⟨rfl, rfl, rfl⟩:=trodAll_nil r1
 obtain rfl:args = #[v0, v1]:=by cases args;simp_all
 obtain⟨rfl, rfl⟩:=trodVars_none hV
 obtain⟨n0, rfl⟩:=okWide_string Tryz.underlying9 (hval 0 9 v0 rfl rfl)
 obtain⟨a1, l1, c1, rfl⟩:=okWide_slice Tryz.underlying22 (hval 1 22 v1 rfl rfl)
 obtain⟨b0, sh0, rv0⟩:=aMm aVT rfl h0
 have gd0:=sh0.gd
 obtain⟨b1, sh1, rv1⟩:=aMm aXE rfl h1
 have gd1:=sh1.gd
 obtain⟨o0, rfl, ub0⟩:=aOK sh0
 obtain⟨o1, rfl, ub1⟩:=aSX sh1
 refine(aQw aPV (aWm ub0 ub1) (by simp only[List.mem_cons, List.not_mem_nil, or_false];rintro a (rfl|rfl)<;>assumption) (bBg hL hsh) (aGu rv0 (aGu rv1 aRG))).mono λe W' ⟨he, hb⟩=>?_
 subst he
 exact⟨_, rfl, aQx laid hW' rfl rfl rfl rfl rfl Tryz.underlying4 (by kernel_rfl) hb⟩
theorem over:Rows.ClerkLoadsSaid :=
 OpenClaim.holds_of_wide 3 Tryz.f3 rfl rfl rfl rfl rfl rfl rfl ⟨rfl, rfl, rfl, rfl, rfl⟩ rfl rfl rfl rfl rfl (by kernel_rfl) Tryz.func3 (by kernel_rfl)
  (of_decide_eq_true (by kernel_rfl)) (by unfold Func.isWrapper;first|(rw[if_pos (by decide +kernel)];kernel_rfl)|(rw[if_neg (by decide +kernel)];exact⟨rfl, rfl⟩))
  (λos started H enc _=>lifted os started H enc)
theorem proved:Rows.ClerkLoadsCardSaid :=
 Claim7.holds_tied_plain_at .later [] [.data, .data, .data, .data, .sentinel, .sentinel, .pinned] true (true, "c5732f1c642a63e7d0a9fa03c01b4fe773fa5840167439de8f25f356adf8f974") true
  over (λ_ h=>by cases h) (by kernel_rfl) (λ_ h=>by cases h) clerkLoads_row_tie rfl ⟨rfl, rfl⟩ (by kernel_rfl) (by kernel_rfl)
  (λf fn hf hfn=>by
   obtain rfl:f=3:=Option.some.inj ((show Tryz.prog.funcNamed "zafra/zafralaw14.ClerkLoads" = some 3 by kernel_rfl).symm.trans hf) |>.symm
   obtain rfl:fn=Tryz.f3:=(Option.some.inj (Tryz.func3.symm.trans hfn)).symm
   exact⟨by kernel_rfl, λj t ht=>by
    rw[Tryz.params3]at ht
    have hm:t∈[9, 22]:=by simpa using Array.mem_of_getElem? ht
    have hall:([9, 22].all λu => !Tryz.prog.wantsStandIn u)=true:=by kernel_rfl
    exact(show Tryz.prog.wantsStandIn t=false by simpa using List.all_eq_true.1 hall t hm)⟩)
  (by kernel_rfl)
#print axioms proved
end Go.Proofs.YtfcdcgplogojbaaGreatDoor.clerkLoads
