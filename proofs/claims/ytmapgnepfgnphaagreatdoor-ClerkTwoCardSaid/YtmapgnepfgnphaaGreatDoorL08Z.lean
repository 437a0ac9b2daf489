/- 'ClerkTwo' returns true for every input. No condition but what the row lists. -/
import Derived.Test.YtmapgnepfgnphaaGreatDoorH8
set_option linter.unusedSimpArgs false
set_option linter.unusedVariables false
set_option linter.unusedSectionVars false
namespace Go.Proofs.YtmapgnepfgnphaaGreatDoor.clerkTwo
open Go Go.DL Go.ChangeShapes Go.WideShapes Go.ChangeAt Go.RowKit

set_option maxRecDepth 100000 in
theorem lifted (os:Os) (started:os.Started) (H:Type) (enc:TypeId×Value→H) :
 ReturnsInHanded {} Tryz.checked os 8 .any (fun w args=>(Rows.clerkTwoSpec.pre enc Tryz.prog Tryz.f8 [] false w args∧laidMetH Tryz.prog vF w)∧sizedMet enc Tryz.prog Tryz.f8 (OpenSpec.ofChange Rows.clerkTwoSpec) false w args)
  (Rows.clerkTwoSpec.post enc Tryz.prog Tryz.f8 false true false false):=by
 refine uQ (C:=Tryz.checked) (X:=fun w _=>laidMetH Tryz.prog vF w) (fun _ _ _ hh h=>h.of_heap hh) own started (by kernel_rfl) Tryz.func8
  (ChangeSpec.witness_shaped (enc:=enc) (C:=Tryz.checked) (os:=os) (X:=fun w _=>laidMetH Tryz.prog vF w) false (World.laidAll Tryz.prog os vF) #[.slice none 0 0, .int .u16 0, .agg #[.int .u8 0, .int .u8 0], .int .u8 0, .int .u8 0, .int .u8 0] 8 (World.laidAll_os _ _ _) (World.shaped_of_ZipB (by kernel_rfl) (by kernel_rfl)) (by kernel_rfl) (by kernel_rfl) (by kernel_rfl) (aDR os _)) ?_
 intro W base args ds gs before hval0 hW hL hsh
 have hval:∀ (j:Nat) t v, Tryz.f8.params[j]?=some t→args[j]?=some v→Value.okWide Tryz.prog W .any base t v:=hval0
 have hW':=hW
 obtain⟨p, q, hA0, hV, rfl, hfz, hnd⟩:=hW
 have hA:DataW.TrodAll enc Tryz.prog W 0 (fun _=>true) true Tryz.f8.params.toList args.toList ds p:=hA0
 rw[Tryz.params8]at hA hval
 obtain⟨v0, vs0, d0, ds0, p0, q0, hargs, rfl, rfl, h0, r0⟩:=trodAll_cons hA
 obtain⟨v1, vs1, d1, ds1, p1, q1, rfl, rfl, rfl, h1, r1⟩:=trodAll_cons r0
 obtain⟨v2, vs2, d2, ds2, p2, q2, rfl, rfl, rfl, h2, r2⟩:=trodAll_cons r1
 obtain⟨v3, vs3, d3, ds3, p3, q3, rfl, rfl, rfl, h3, r3⟩:=trodAll_cons r2
 obtain⟨v4, vs4, d4, ds4, p4, q4, rfl, rfl, rfl, h4, r4⟩:=trodAll_cons r3
 obtain⟨v5, vs5, d5, ds5, p5, q5, rfl, rfl, rfl, h5, r5⟩:=trodAll_cons r4
 obtain⟨rfl, rfl, rfl⟩:=trodAll_nil r5
 obtain rfl:args = #[v0, v1, v2, v3, v4, v5]:=by cases args;simp_all
 obtain⟨rfl, rfl⟩:=trodVars_none hV
 obtain⟨a0, l0, c0, rfl⟩:=okWide_slice Tryz.underlying52 (hval 0 52 v0 rfl rfl)
 obtain⟨n1, rfl⟩:=okWide_int Tryz.underlying53 (hval 1 53 v1 rfl rfl)
 obtain⟨x2, rfl⟩:=aBZ Tryz.underlying58 (hval 2 58 v2 rfl rfl)
 obtain⟨n3, rfl⟩:=okWide_int Tryz.underlying5 (hval 3 5 v3 rfl rfl)
 obtain⟨n4, rfl⟩:=okWide_int Tryz.underlying5 (hval 4 5 v4 rfl rfl)
 obtain⟨n5, rfl⟩:=okWide_int Tryz.underlying5 (hval 5 5 v5 rfl rfl)
 obtain⟨b0, sh0, rv0⟩:=qV aJT rfl h0
 have gd0:=sh0.gd
 obtain⟨b1, sh1, rv1⟩:=qV (.int Tryz.underlying53) rfl h1
 have gd1:=sh1.gd
 obtain⟨as2, len2, sh2, rv2⟩:=aHT aJS h2
 obtain⟨b3, sh3, rv3⟩:=qV (.int Tryz.underlying5) rfl h3
 have gd3:=sh3.gd
 obtain⟨b4, sh4, rv4⟩:=qV (.int Tryz.underlying5) rfl h4
 have gd4:=sh4.gd
 obtain⟨b5, sh5, rv5⟩:=qV (.int Tryz.underlying5) rfl h5
 have gd5:=sh5.gd
 obtain⟨o0, ub0, rfl⟩:=aFe sh0
 obtain⟨k1, rfl, u1⟩:=aAh sh1
 obtain⟨m1, rfl, b1⟩:=aIZ u1
 obtain⟨m2_0, m2_1, e2, gd2, ba2, bb2⟩:=aOz len2 sh2
 rw[e2]at rv2
 obtain⟨k3, rfl, u3⟩:=aAh sh3
 obtain⟨m3, rfl, b3⟩:=xF u3
 obtain⟨k4, rfl, u4⟩:=aAh sh4
 obtain⟨m4, rfl, b4⟩:=xF u4
 obtain⟨k5, rfl, u5⟩:=aAh sh5
 obtain⟨m5, rfl, b5⟩:=xF u5
 refine(aFR aFx (w8 ub0 b1 ba2 bb2 b3 b4 b5) (by simp only[List.mem_cons, List.not_mem_nil, or_false];rintro a (rfl|rfl|rfl|rfl|rfl|rfl)<;>assumption) (aOr hL hsh) (gU rv0 (gU rv1 (gU rv2 (gU rv3 (gU rv4 (gU rv5 aGz))))))).mono fun e W' ⟨he, hb⟩=>?_
 subst he
 exact⟨_, rfl, aFS laid hW' rfl rfl rfl rfl rfl Tryz.underlying4 (by kernel_rfl) hb⟩

theorem over:Rows.ClerkTwoSaid :=
 OpenClaim.holds_of_wide 8 Tryz.f8 rfl rfl rfl rfl rfl rfl rfl ⟨rfl, rfl, rfl, rfl, rfl⟩ rfl rfl rfl rfl rfl (by kernel_rfl) Tryz.func8 (by kernel_rfl)
  (of_decide_eq_true (by kernel_rfl)) (by unfold Func.isWrapper;first|(rw[if_pos (by decide +kernel)];kernel_rfl)|(rw[if_neg (by decide +kernel)];exact⟨rfl, rfl⟩))
  (fun os started H enc _=>lifted os started H enc)

theorem proved:Rows.ClerkTwoCardSaid :=
 Claim7.holds_tied_plain_at .later [] [.data, .data, .data, .data, .sentinel, .sentinel, .pinned] true (true, "af759928eddbb9eac8a1ef199d391bad5769a165cd1ac7ed8ea8e5f37891e53d") true
  over (fun _ h=>by cases h) (by kernel_rfl) (fun _ h=>by cases h) clerkTwo_row_tie rfl ⟨rfl, rfl⟩ (by kernel_rfl) (by kernel_rfl)
  (fun f fn hf hfn=>by
   obtain rfl:f=8:=Option.some.inj ((show Tryz.prog.funcNamed "zafra/zafralaw14.ClerkTwo" = some 8 by kernel_rfl).symm.trans hf) |>.symm
   obtain rfl:fn=Tryz.f8:=(Option.some.inj (Tryz.func8.symm.trans hfn)).symm
   exact⟨by kernel_rfl, fun j t ht=>by
    rw[Tryz.params8]at ht
    have hm:t∈[52, 53, 58, 5, 5, 5]:=by simpa using Array.mem_of_getElem? ht
    have hall:([52, 53, 58, 5, 5, 5].all fun u => !Tryz.prog.wantsStandIn u)=true:=by kernel_rfl
    exact(show Tryz.prog.wantsStandIn t=false by simpa using List.all_eq_true.1 hall t hm)⟩)
  (by kernel_rfl)
#print axioms proved
end Go.Proofs.YtmapgnepfgnphaaGreatDoor.clerkTwo
