/- 'ClerkMended' returns true for every input. No condition but what the row lists. -/
import Derived.Test.YtmapgnepfgnphaaGreatDoorH8
set_option linter.unusedSimpArgs false
set_option linter.unusedVariables false
set_option linter.unusedSectionVars false
namespace Go.Proofs.YtmapgnepfgnphaaGreatDoor.clerkMended
open Go Go.DL Go.ChangeShapes Go.WideShapes Go.ChangeAt Go.RowKit

set_option maxRecDepth 100000 in
theorem lifted (os:Os) (started:os.Started) (H:Type) (enc:TypeId×Value→H) :
 ReturnsInHanded {} Tryz.checked os 7 .any (fun w args=>(Rows.clerkMendedSpec.pre enc Tryz.prog Tryz.f7 [] false w args∧laidMetH Tryz.prog uX w)∧sizedMet enc Tryz.prog Tryz.f7 (OpenSpec.ofChange Rows.clerkMendedSpec) false w args)
  (Rows.clerkMendedSpec.post enc Tryz.prog Tryz.f7 false true false false):=by
 refine uH (C:=Tryz.checked) (X:=fun w _=>laidMetH Tryz.prog uX w) (fun _ _ _ hh h=>h.of_heap hh) own started (by kernel_rfl) Tryz.func7
  (ChangeSpec.witness_shaped (enc:=enc) (C:=Tryz.checked) (os:=os) (X:=fun w _=>laidMetH Tryz.prog uX w) false (World.laidAll Tryz.prog os uX) #[.slice none 0 0, .int .u16 0, .int .u8 0, .int .u8 0, .int .u8 0, .int .u8 0] 8 (World.laidAll_os _ _ _) (World.shaped_of_ZipB (by kernel_rfl) (by kernel_rfl)) (by kernel_rfl) (by kernel_rfl) (by kernel_rfl) (aDS os _)) ?_
 intro W base args ds gs before hval0 hW hL hsh
 have hval:∀ (j:Nat) t v, Tryz.f7.params[j]?=some t→args[j]?=some v→Value.okWide Tryz.prog W .any base t v:=hval0
 have hW':=hW
 obtain⟨p, q, hA0, hV, rfl, hfz, hnd⟩:=hW
 have hA:DataW.TrodAll enc Tryz.prog W 0 (fun _=>true) true Tryz.f7.params.toList args.toList ds p:=hA0
 rw[Tryz.params7]at hA hval
 obtain⟨v0, vs0, d0, ds0, p0, q0, hargs, rfl, rfl, h0, r0⟩:=trodAll_cons hA
 obtain⟨v1, vs1, d1, ds1, p1, q1, rfl, rfl, rfl, h1, r1⟩:=trodAll_cons r0
 obtain⟨v2, vs2, d2, ds2, p2, q2, rfl, rfl, rfl, h2, r2⟩:=trodAll_cons r1
 obtain⟨v3, vs3, d3, ds3, p3, q3, rfl, rfl, rfl, h3, r3⟩:=trodAll_cons r2
 obtain⟨v4, vs4, d4, ds4, p4, q4, rfl, rfl, rfl, h4, r4⟩:=trodAll_cons r3
 obtain⟨v5, vs5, d5, ds5, p5, q5, rfl, rfl, rfl, h5, r5⟩:=trodAll_cons r4
 obtain⟨rfl, rfl, rfl⟩:=trodAll_nil r5
 obtain rfl:args = #[v0, v1, v2, v3, v4, v5]:=by cases args;simp_all
 obtain⟨rfl, rfl⟩:=trodVars_none hV
 obtain⟨a0, l0, c0, rfl⟩:=okWide_slice Tryz.underlying52 (hval 0 52 v0 rfl rfl)
 obtain⟨n1, rfl⟩:=okWide_int Tryz.underlying53 (hval 1 53 v1 rfl rfl)
 obtain⟨n2, rfl⟩:=okWide_int Tryz.underlying5 (hval 2 5 v2 rfl rfl)
 obtain⟨n3, rfl⟩:=okWide_int Tryz.underlying5 (hval 3 5 v3 rfl rfl)
 obtain⟨n4, rfl⟩:=okWide_int Tryz.underlying5 (hval 4 5 v4 rfl rfl)
 obtain⟨n5, rfl⟩:=okWide_int Tryz.underlying5 (hval 5 5 v5 rfl rfl)
 obtain⟨b0, sh0, rv0⟩:=nT aKa rfl h0
 have gd0:=sh0.gd
 obtain⟨b1, sh1, rv1⟩:=nT (.int Tryz.underlying53) rfl h1
 have gd1:=sh1.gd
 obtain⟨b2, sh2, rv2⟩:=nT (.int Tryz.underlying5) rfl h2
 have gd2:=sh2.gd
 obtain⟨b3, sh3, rv3⟩:=nT (.int Tryz.underlying5) rfl h3
 have gd3:=sh3.gd
 obtain⟨b4, sh4, rv4⟩:=nT (.int Tryz.underlying5) rfl h4
 have gd4:=sh4.gd
 obtain⟨b5, sh5, rv5⟩:=nT (.int Tryz.underlying5) rfl h5
 have gd5:=sh5.gd
 obtain⟨o0, ub0, rfl⟩:=aFh sh0
 obtain⟨k1, rfl, u1⟩:=vB sh1
 obtain⟨m1, rfl, b1⟩:=aJe u1
 obtain⟨k2, rfl, u2⟩:=vB sh2
 obtain⟨m2, rfl, b2⟩:=aAt u2
 obtain⟨k3, rfl, u3⟩:=vB sh3
 obtain⟨m3, rfl, b3⟩:=aAt u3
 obtain⟨k4, rfl, u4⟩:=vB sh4
 obtain⟨m4, rfl, b4⟩:=aAt u4
 obtain⟨k5, rfl, u5⟩:=vB sh5
 obtain⟨m5, rfl, b5⟩:=aAt u5
 refine(aFW aFB (w7 ub0 b1 b2 b3 b4 b5) (by simp only[List.mem_cons, List.not_mem_nil, or_false];rintro a (rfl|rfl|rfl|rfl|rfl|rfl)<;>assumption) (aOu hL hsh) (gO rv0 (gO rv1 (gO rv2 (gO rv3 (gO rv4 (gO rv5 aGF))))))).mono fun e W' ⟨he, hb⟩=>?_
 subst he
 exact⟨_, rfl, aFX laid hW' rfl rfl rfl rfl rfl Tryz.underlying4 (by kernel_rfl) hb⟩

theorem over:Rows.ClerkMendedSaid :=
 OpenClaim.holds_of_wide 7 Tryz.f7 rfl rfl rfl rfl rfl rfl rfl ⟨rfl, rfl, rfl, rfl, rfl⟩ rfl rfl rfl rfl rfl (by kernel_rfl) Tryz.func7 (by kernel_rfl)
  (of_decide_eq_true (by kernel_rfl)) (by unfold Func.isWrapper;first|(rw[if_pos (by decide +kernel)];kernel_rfl)|(rw[if_neg (by decide +kernel)];exact⟨rfl, rfl⟩))
  (fun os started H enc _=>lifted os started H enc)

theorem proved:Rows.ClerkMendedCardSaid :=
 Claim7.holds_tied_plain_at .later [] [.data, .data, .data, .data, .sentinel, .sentinel, .pinned] true (true, "af759928eddbb9eac8a1ef199d391bad5769a165cd1ac7ed8ea8e5f37891e53d") true
  over (fun _ h=>by cases h) (by kernel_rfl) (fun _ h=>by cases h) clerkMended_row_tie rfl ⟨rfl, rfl⟩ (by kernel_rfl) (by kernel_rfl)
  (fun f fn hf hfn=>by
   obtain rfl:f=7:=Option.some.inj ((show Tryz.prog.funcNamed "zafra/zafralaw14.ClerkMended" = some 7 by kernel_rfl).symm.trans hf) |>.symm
   obtain rfl:fn=Tryz.f7:=(Option.some.inj (Tryz.func7.symm.trans hfn)).symm
   exact⟨by kernel_rfl, fun j t ht=>by
    rw[Tryz.params7]at ht
    have hm:t∈[52, 53, 5, 5, 5, 5]:=by simpa using Array.mem_of_getElem? ht
    have hall:([52, 53, 5, 5, 5, 5].all fun u => !Tryz.prog.wantsStandIn u)=true:=by kernel_rfl
    exact(show Tryz.prog.wantsStandIn t=false by simpa using List.all_eq_true.1 hall t hm)⟩)
  (by kernel_rfl)
#print axioms proved
end Go.Proofs.YtmapgnepfgnphaaGreatDoor.clerkMended
