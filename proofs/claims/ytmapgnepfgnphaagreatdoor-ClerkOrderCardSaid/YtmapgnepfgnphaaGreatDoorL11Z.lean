/- 'ClerkOrder' returns true for every input. No condition but what the row lists. -/
import Derived.Test.YtmapgnepfgnphaaGreatDoorH8
set_option linter.unusedSimpArgs false
set_option linter.unusedVariables false
set_option linter.unusedSectionVars false
namespace Go.Proofs.YtmapgnepfgnphaaGreatDoor.clerkOrder
open Go Go.DL Go.ChangeShapes Go.WideShapes Go.ChangeAt Go.RowKit

set_option maxRecDepth 100000 in
theorem lifted (os:Os) (started:os.Started) (H:Type) (enc:TypeId×Value→H) :
 ReturnsInHanded {} Tryz.checked os 11 .any (fun w args=>(Rows.clerkOrderSpec.pre enc Tryz.prog Tryz.f11 [] false w args∧laidMetH Tryz.prog yM w)∧sizedMet enc Tryz.prog Tryz.f11 (OpenSpec.ofChange Rows.clerkOrderSpec) false w args)
  (Rows.clerkOrderSpec.post enc Tryz.prog Tryz.f11 false true false false):=by
 refine xR (C:=Tryz.checked) (X:=fun w _=>laidMetH Tryz.prog yM w) (fun _ _ _ hh h=>h.of_heap hh) own started (by kernel_rfl) Tryz.func11
  (ChangeSpec.witness_shaped (enc:=enc) (C:=Tryz.checked) (os:=os) (X:=fun w _=>laidMetH Tryz.prog yM w) false (World.laidAll Tryz.prog os yM) #[.slice none 0 0, .int .u8 0, .int .u8 0] 8 (World.laidAll_os _ _ _) (World.shaped_of_ZipB (by kernel_rfl) (by kernel_rfl)) (by kernel_rfl) (by kernel_rfl) (by kernel_rfl) (aGG os _)) ?_
 intro W base args ds gs before hval0 hW hL hsh
 have hval:∀ (j:Nat) t v, Tryz.f11.params[j]?=some t→args[j]?=some v→Value.okWide Tryz.prog W .any base t v:=hval0
 have hW':=hW
 obtain⟨p, q, hA0, hV, rfl, hfz, hnd⟩:=hW
 have hA:DataW.TrodAll enc Tryz.prog W 0 (fun _=>true) true Tryz.f11.params.toList args.toList ds p:=hA0
 rw[Tryz.params11]at hA hval
 obtain⟨v0, vs0, d0, ds0, p0, q0, hargs, rfl, rfl, h0, r0⟩:=trodAll_cons hA
 obtain⟨v1, vs1, d1, ds1, p1, q1, rfl, rfl, rfl, h1, r1⟩:=trodAll_cons r0
 obtain⟨v2, vs2, d2, ds2, p2, q2, rfl, rfl, rfl, h2, r2⟩:=trodAll_cons r1
 obtain⟨rfl, rfl, rfl⟩:=trodAll_nil r2
 obtain rfl:args = #[v0, v1, v2]:=by cases args;simp_all
 obtain⟨rfl, rfl⟩:=trodVars_none hV
 obtain⟨a0, l0, c0, rfl⟩:=okWide_slice Tryz.underlying75 (hval 0 75 v0 rfl rfl)
 obtain⟨n1, rfl⟩:=okWide_int Tryz.underlying5 (hval 1 5 v1 rfl rfl)
 obtain⟨n2, rfl⟩:=okWide_int Tryz.underlying5 (hval 2 5 v2 rfl rfl)
 obtain⟨b0, sh0, rv0⟩:=aCx aPh rfl h0
 have gd0:=sh0.gd
 obtain⟨b1, sh1, rv1⟩:=aCx (.int Tryz.underlying5) rfl h1
 have gd1:=sh1.gd
 obtain⟨b2, sh2, rv2⟩:=aCx (.int Tryz.underlying5) rfl h2
 have gd2:=sh2.gd
 obtain⟨o0, ub0, rfl⟩:=aOH sh0
 obtain⟨k1, rfl, u1⟩:=aJP sh1
 obtain⟨m1, rfl, b1⟩:=aFs u1
 obtain⟨k2, rfl, u2⟩:=aJP sh2
 obtain⟨m2, rfl, b2⟩:=aFs u2
 refine(aJK aJf (w11 ub0 b1 b2) (by simp only[List.mem_cons, List.not_mem_nil, or_false];rintro a (rfl|rfl|rfl)<;>assumption) (aTd hL hsh) (uC rv0 (uC rv1 (uC rv2 aKD)))).mono fun e W' ⟨he, hb⟩=>?_
 subst he
 exact⟨_, rfl, aJL laid hW' rfl rfl rfl rfl rfl Tryz.underlying4 (by kernel_rfl) hb⟩

theorem over:Rows.ClerkOrderSaid :=
 OpenClaim.holds_of_wide 11 Tryz.f11 rfl rfl rfl rfl rfl rfl rfl ⟨rfl, rfl, rfl, rfl, rfl⟩ rfl rfl rfl rfl rfl (by kernel_rfl) Tryz.func11 (by kernel_rfl)
  (of_decide_eq_true (by kernel_rfl)) (by unfold Func.isWrapper;first|(rw[if_pos (by decide +kernel)];kernel_rfl)|(rw[if_neg (by decide +kernel)];exact⟨rfl, rfl⟩))
  (fun os started H enc _=>lifted os started H enc)

theorem proved:Rows.ClerkOrderCardSaid :=
 Claim7.holds_tied_plain_at .later [] [.data, .data, .data, .data, .sentinel, .sentinel, .pinned] true (true, "af759928eddbb9eac8a1ef199d391bad5769a165cd1ac7ed8ea8e5f37891e53d") true
  over (fun _ h=>by cases h) (by kernel_rfl) (fun _ h=>by cases h) clerkOrder_row_tie rfl ⟨rfl, rfl⟩ (by kernel_rfl) (by kernel_rfl)
  (fun f fn hf hfn=>by
   obtain rfl:f=11:=Option.some.inj ((show Tryz.prog.funcNamed "zafra/zafralaw14.ClerkOrder" = some 11 by kernel_rfl).symm.trans hf) |>.symm
   obtain rfl:fn=Tryz.f11:=(Option.some.inj (Tryz.func11.symm.trans hfn)).symm
   exact⟨by kernel_rfl, fun j t ht=>by
    rw[Tryz.params11]at ht
    have hm:t∈[75, 5, 5]:=by simpa using Array.mem_of_getElem? ht
    have hall:([75, 5, 5].all fun u => !Tryz.prog.wantsStandIn u)=true:=by kernel_rfl
    exact(show Tryz.prog.wantsStandIn t=false by simpa using List.all_eq_true.1 hall t hm)⟩)
  (by kernel_rfl)
#print axioms proved
end Go.Proofs.YtmapgnepfgnphaaGreatDoor.clerkOrder
