/- 'TopCleared' returns true for every input. No condition but what the row lists. -/
import Derived.Test.YtmcbhljgkgfanaaDoorH8
set_option linter.unusedSimpArgs false
set_option linter.unusedVariables false
set_option linter.unusedSectionVars false
namespace Go.Proofs.YtmcbhljgkgfanaaDoor.topCleared
open Go Go.DL Go.ChangeShapes Go.WideShapes Go.ChangeAt Go.RowKit

set_option maxRecDepth 100000 in
theorem lifted (os:Os) (started:os.Started) (H:Type) (enc:TypeId×Value→H) :
 ReturnsInHanded {} Tryd.checked os 3 .any (fun w args=>(Rows.topClearedSpec.pre enc Tryd.prog Tryd.f3 [] false w args∧laidMetH Tryd.prog aBq w)∧sizedMet enc Tryd.prog Tryd.f3 (OpenSpec.ofChange Rows.topClearedSpec) false w args)
  (Rows.topClearedSpec.post enc Tryd.prog Tryd.f3 false true false false):=by
 refine returnsInHanded_of_change_and (C:=Tryd.checked) (X:=fun w _=>laidMetH Tryd.prog aBq w) (fun _ _ _ hh h=>h.of_heap hh) own started (by kernel_rfl) Tryd.func3
  (ChangeSpec.witness_shaped (enc:=enc) (C:=Tryd.checked) (os:=os) (X:=fun w _=>laidMetH Tryd.prog aBq w) false (World.doorLaid Tryd.prog 400 os) #[.slice none 0 0, .slice none 0 0, .agg #[.int .u8 0, .int .u8 0, .int .u8 0], .slice none 0 0, .int .u8 0, .int .u8 0] 8 rfl (World.shaped_of_RefB (by kernel_rfl) (by kernel_rfl)) (by kernel_rfl) (by kernel_rfl) (by kernel_rfl) (aHm os _)) ?_
 intro W base args ds gs before hval0 hW _ _ hL _
 have hval:∀ (j:Nat) t v, Tryd.f3.params[j]?=some t→args[j]?=some v→Value.okWide Tryd.prog W .any base t v:=hval0
 have hW':=hW
 obtain⟨p, q, hA0, hV, rfl, hfz, hnd⟩:=hW
 have hA:DataW.TrodAll enc Tryd.prog W 0 (fun _=>true) true Tryd.f3.params.toList args.toList ds p:=hA0
 rw[Tryd.params3]at hA hval
 obtain⟨v0, vs0, d0, ds0, p0, q0, hargs, rfl, rfl, h0, r0⟩:=trodAll_cons hA
 obtain⟨v1, vs1, d1, ds1, p1, q1, rfl, rfl, rfl, h1, r1⟩:=trodAll_cons r0
 obtain⟨v2, vs2, d2, ds2, p2, q2, rfl, rfl, rfl, h2, r2⟩:=trodAll_cons r1
 obtain⟨v3, vs3, d3, ds3, p3, q3, rfl, rfl, rfl, h3, r3⟩:=trodAll_cons r2
 obtain⟨v4, vs4, d4, ds4, p4, q4, rfl, rfl, rfl, h4, r4⟩:=trodAll_cons r3
 obtain⟨v5, vs5, d5, ds5, p5, q5, rfl, rfl, rfl, h5, r5⟩:=trodAll_cons r4
 obtain⟨rfl, rfl, rfl⟩:=trodAll_nil r5
 obtain rfl:args = #[v0, v1, v2, v3, v4, v5]:=by cases args;simp_all
 obtain⟨rfl, rfl⟩:=trodVars_none hV
 obtain⟨a0, l0, c0, rfl⟩:=okWide_slice Tryd.underlying22 (hval 0 22 v0 rfl rfl)
 obtain⟨a1, l1, c1, rfl⟩:=okWide_slice Tryd.underlying22 (hval 1 22 v1 rfl rfl)
 obtain⟨x2, rfl⟩:=aCs Tryd.underlying23 (hval 2 23 v2 rfl rfl)
 obtain⟨a3, l3, c3, rfl⟩:=okWide_slice Tryd.underlying24 (hval 3 24 v3 rfl rfl)
 obtain⟨n4, rfl⟩:=okWide_int Tryd.underlying5 (hval 4 5 v4 rfl rfl)
 obtain⟨n5, rfl⟩:=okWide_int Tryd.underlying5 (hval 5 5 v5 rfl rfl)
 obtain⟨b0, sh0, rv0⟩:=rQ aHa rfl h0
 have gd0:=sh0.gd
 obtain⟨b1, sh1, rv1⟩:=rQ aHa rfl h1
 have gd1:=sh1.gd
 obtain⟨as2, len2, sh2, rv2⟩:=aJp aGZ h2
 obtain⟨b3, sh3, rv3⟩:=rQ aKO rfl h3
 have gd3:=sh3.gd
 obtain⟨b4, sh4, rv4⟩:=rQ (.int Tryd.underlying5) rfl h4
 have gd4:=sh4.gd
 obtain⟨b5, sh5, rv5⟩:=rQ (.int Tryd.underlying5) rfl h5
 have gd5:=sh5.gd
 obtain⟨o0, ub0, ul0, rfl⟩:=aGw sh0
 obtain⟨o1, ub1, ul1, rfl⟩:=aGw sh1
 obtain⟨m2_0, m2_1, m2_2, e2, gd2, ba2, bb2, bc2⟩:=aMC len2 sh2
 rw[e2]at rv2
 obtain⟨o3, ub3, ul3, rfl⟩:=aKl sh3
 obtain⟨k4, rfl, u4⟩:=aGP sh4
 obtain⟨m4, rfl, b4⟩:=vM u4
 obtain⟨k5, rfl, u5⟩:=aGP sh5
 obtain⟨m5, rfl, b5⟩:=vM u5
 refine(aGJ aGs (w3 ub0 ub1 ba2 bb2 bc2 ub3 b4 b5) (by simp only[List.mem_cons, List.not_mem_nil, or_false];rintro a (rfl|rfl|rfl|rfl|rfl|rfl)<;>assumption) (aMt hL) (aLg rv0 rv1 rv2 rv3 rv4 rv5)).mono fun e W' ⟨he, hb⟩=>?_
 subst he
 exact⟨_, rfl, aGK laid hW' rfl rfl rfl rfl rfl Tryd.underlying4 (by kernel_rfl) hb⟩

theorem over:Rows.TopClearedSaid :=
 OpenClaim.holds_of_wide 3 Tryd.f3 rfl rfl rfl rfl rfl rfl rfl ⟨rfl, rfl, rfl, rfl, rfl⟩ rfl rfl rfl rfl rfl (by kernel_rfl) Tryd.func3 (by kernel_rfl)
  (of_decide_eq_true (by kernel_rfl)) (by unfold Func.isWrapper;first|(rw[if_pos (by decide +kernel)];kernel_rfl)|(rw[if_neg (by decide +kernel)];exact⟨rfl, rfl⟩))
  (fun os started H enc _=>lifted os started H enc)

theorem proved:Rows.TopClearedCardSaid :=
 Claim7.holds_tied_plain_at .later [] [.data, .data] true (true, "3e95f9143ef604d603ae7ea235b15392994cfe7811d5f1c4bd023415da9a70a2") false
  over (fun _ h=>by cases h) (by kernel_rfl) (fun _ h=>by cases h) topCleared_row_tie rfl ⟨rfl, rfl⟩ (by kernel_rfl) rfl
  (fun f fn hf hfn=>by
   obtain rfl:f=3:=Option.some.inj ((show Tryd.prog.funcNamed "zafra/zafratop.TopCleared" = some 3 by kernel_rfl).symm.trans hf) |>.symm
   obtain rfl:fn=Tryd.f3:=(Option.some.inj (Tryd.func3.symm.trans hfn)).symm
   exact⟨by kernel_rfl, fun j t ht=>by
    rw[Tryd.params3]at ht
    have hm:t∈[22, 22, 23, 24, 5, 5]:=by simpa using Array.mem_of_getElem? ht
    have hall:([22, 22, 23, 24, 5, 5].all fun u => !Tryd.prog.wantsStandIn u)=true:=by kernel_rfl
    exact(show Tryd.prog.wantsStandIn t=false by simpa using List.all_eq_true.1 hall t hm)⟩)
  (by kernel_rfl)
#print axioms proved
end Go.Proofs.YtmcbhljgkgfanaaDoor.topCleared
