/- 'ClerkFull' returns true for every input. No condition but what the row lists. -/
import Derived.Test.YtmapgnepfgnphaaGreatDoorH8
set_option linter.unusedSimpArgs false
set_option linter.unusedVariables false
set_option linter.unusedSectionVars false
namespace Go.Proofs.YtmapgnepfgnphaaGreatDoor.clerkFull
open Go Go.DL Go.ChangeShapes Go.WideShapes Go.ChangeAt Go.RowKit

set_option maxRecDepth 100000 in
theorem lifted (os:Os) (started:os.Started) (H:Type) (enc:TypeId×Value→H) :
 ReturnsInHanded {} Tryz.checked os 6 .any (fun w args=>(Rows.clerkFullSpec.pre enc Tryz.prog Tryz.f6 [] false w args∧laidMetH Tryz.prog yY w)∧sizedMet enc Tryz.prog Tryz.f6 (OpenSpec.ofChange Rows.clerkFullSpec) false w args)
  (Rows.clerkFullSpec.post enc Tryz.prog Tryz.f6 false true false false):=by
 refine yH (C:=Tryz.checked) (X:=fun w _=>laidMetH Tryz.prog yY w) (fun _ _ _ hh h=>h.of_heap hh) own started (by kernel_rfl) Tryz.func6
  (ChangeSpec.witness_shaped (enc:=enc) (C:=Tryz.checked) (os:=os) (X:=fun w _=>laidMetH Tryz.prog yY w) false (World.laidAll Tryz.prog os yY) #[.int .u8 0] 8 (World.laidAll_os _ _ _) (World.shaped_of_ZipB (by kernel_rfl) (by kernel_rfl)) (by kernel_rfl) (by kernel_rfl) (by kernel_rfl) (aGP os _)) ?_
 intro W base args ds gs before hval0 hW hL hsh
 have hval:∀ (j:Nat) t v, Tryz.f6.params[j]?=some t→args[j]?=some v→Value.okWide Tryz.prog W .any base t v:=hval0
 have hW':=hW
 obtain⟨p, q, hA0, hV, rfl, hfz, hnd⟩:=hW
 have hA:DataW.TrodAll enc Tryz.prog W 0 (fun _=>true) true Tryz.f6.params.toList args.toList ds p:=hA0
 rw[Tryz.params6]at hA hval
 obtain⟨v0, vs0, d0, ds0, p0, q0, hargs, rfl, rfl, h0, r0⟩:=trodAll_cons hA
 obtain⟨rfl, rfl, rfl⟩:=trodAll_nil r0
 obtain rfl:args = #[v0]:=by cases args;simp_all
 obtain⟨rfl, rfl⟩:=trodVars_none hV
 obtain⟨n0, rfl⟩:=okWide_int Tryz.underlying5 (hval 0 5 v0 rfl rfl)
 obtain⟨b0, sh0, rv0⟩:=aMu (.int Tryz.underlying5) rfl h0
 have gd0:=sh0.gd
 obtain⟨k0, rfl, u0⟩:=aOJ sh0
 obtain⟨m0, rfl, b0⟩:=aQI u0
 refine(aJK aJd (w6 b0) (by simp only[List.mem_cons, List.not_mem_nil, or_false];rintro a rfl;assumption) (aTu hL hsh) (aHF rv0 aKF)).mono fun e W' ⟨he, hb⟩=>?_
 subst he
 exact⟨_, rfl, aJL laid hW' rfl rfl rfl rfl rfl Tryz.underlying4 (by kernel_rfl) hb⟩

theorem over:Rows.ClerkFullSaid :=
 OpenClaim.holds_of_wide 6 Tryz.f6 rfl rfl rfl rfl rfl rfl rfl ⟨rfl, rfl, rfl, rfl, rfl⟩ rfl rfl rfl rfl rfl (by kernel_rfl) Tryz.func6 (by kernel_rfl)
  (of_decide_eq_true (by kernel_rfl)) (by unfold Func.isWrapper;first|(rw[if_pos (by decide +kernel)];kernel_rfl)|(rw[if_neg (by decide +kernel)];exact⟨rfl, rfl⟩))
  (fun os started H enc _=>lifted os started H enc)

theorem proved:Rows.ClerkFullCardSaid :=
 Claim7.holds_tied_plain_at .later [] [.data, .data, .data, .data, .sentinel, .sentinel, .pinned] true (true, "af759928eddbb9eac8a1ef199d391bad5769a165cd1ac7ed8ea8e5f37891e53d") true
  over (fun _ h=>by cases h) (by kernel_rfl) (fun _ h=>by cases h) clerkFull_row_tie rfl ⟨rfl, rfl⟩ (by kernel_rfl) (by kernel_rfl)
  (fun f fn hf hfn=>by
   obtain rfl:f=6:=Option.some.inj ((show Tryz.prog.funcNamed "zafra/zafralaw14.ClerkFull" = some 6 by kernel_rfl).symm.trans hf) |>.symm
   obtain rfl:fn=Tryz.f6:=(Option.some.inj (Tryz.func6.symm.trans hfn)).symm
   exact⟨by kernel_rfl, fun j t ht=>by
    rw[Tryz.params6]at ht
    have hm:t∈[5]:=by simpa using Array.mem_of_getElem? ht
    have hall:([5].all fun u => !Tryz.prog.wantsStandIn u)=true:=by kernel_rfl
    exact(show Tryz.prog.wantsStandIn t=false by simpa using List.all_eq_true.1 hall t hm)⟩)
  (by kernel_rfl)
#print axioms proved
end Go.Proofs.YtmapgnepfgnphaaGreatDoor.clerkFull
