/- 'TopMetered' returns true for every input. No condition but what the row lists. -/
import Derived.Test.YtjckchgdlbgolaaGreatDoorH10
set_option linter.unusedSimpArgs false
set_option linter.unusedVariables false
set_option linter.unusedSectionVars false
namespace Go.Proofs.YtjckchgdlbgolaaGreatDoor.topMetered
open Go Go.DL Go.ChangeShapes Go.WideShapes Go.ChangeAt Go.RowKit

set_option maxRecDepth 100000 in
theorem lifted (os:Os) (started:os.Started) (H:Type) (enc:TypeId×Value→H) :
 ReturnsInHanded {} Tryz.checked os 4 .any (fun w args=>(Rows.topMeteredSpec.pre enc Tryz.prog Tryz.f4 [] false w args∧laidMetH Tryz.prog aDo w)∧sizedMet enc Tryz.prog Tryz.f4 (OpenSpec.ofChange Rows.topMeteredSpec) false w args)
  (Rows.topMeteredSpec.post enc Tryz.prog Tryz.f4 false true false false):=by
 refine aCJ (C:=Tryz.checked) (X:=fun w _=>laidMetH Tryz.prog aDo w) (fun _ _ _ hh h=>h.of_heap hh) own started (by kernel_rfl) Tryz.func4
  (ChangeSpec.witness_shaped (enc:=enc) (C:=Tryz.checked) (os:=os) (X:=fun w _=>laidMetH Tryz.prog aDo w) false (World.laidAll Tryz.prog os aDo) #[.agg #[.int .u8 0, .int .u8 0], .agg #[.int .u8 0, .int .u8 0, .int .u8 0, .int .u8 0, .int .u8 0, .int .u8 0], .int .u8 0, .int .u8 0, .int .u16 0, .slice none 0 0, .int .u8 0] 8 (World.laidAll_os _ _ _) (World.shaped_of_ZipB (by kernel_rfl) (by kernel_rfl)) (by kernel_rfl) (by kernel_rfl) (by kernel_rfl) (aLK os _)) ?_
 intro W base args ds gs before hval0 hW hL hsh
 have hval:∀ (j:Nat) t v, Tryz.f4.params[j]?=some t→args[j]?=some v→Value.okWide Tryz.prog W .any base t v:=hval0
 have hW':=hW
 obtain⟨p, q, hA0, hV, rfl, hfz, hnd⟩:=hW
 have hA:DataW.TrodAll enc Tryz.prog W 0 (fun _=>true) true Tryz.f4.params.toList args.toList ds p:=hA0
 rw[Tryz.params4]at hA hval
 obtain⟨v0, vs0, d0, ds0, p0, q0, hargs, rfl, rfl, h0, r0⟩:=trodAll_cons hA
 obtain⟨v1, vs1, d1, ds1, p1, q1, rfl, rfl, rfl, h1, r1⟩:=trodAll_cons r0
 obtain⟨v2, vs2, d2, ds2, p2, q2, rfl, rfl, rfl, h2, r2⟩:=trodAll_cons r1
 obtain⟨v3, vs3, d3, ds3, p3, q3, rfl, rfl, rfl, h3, r3⟩:=trodAll_cons r2
 obtain⟨v4, vs4, d4, ds4, p4, q4, rfl, rfl, rfl, h4, r4⟩:=trodAll_cons r3
 obtain⟨v5, vs5, d5, ds5, p5, q5, rfl, rfl, rfl, h5, r5⟩:=trodAll_cons r4
 obtain⟨v6, vs6, d6, ds6, p6, q6, rfl, rfl, rfl, h6, r6⟩:=trodAll_cons r5
 obtain⟨rfl, rfl, rfl⟩:=trodAll_nil r6
 obtain rfl:args = #[v0, v1, v2, v3, v4, v5, v6]:=by cases args;simp_all
 obtain⟨rfl, rfl⟩:=trodVars_none hV
 obtain⟨x0, rfl⟩:=aDb Tryz.underlying29 (hval 0 29 v0 rfl rfl)
 obtain⟨x1, rfl⟩:=aDb Tryz.underlying44 (hval 1 44 v1 rfl rfl)
 obtain⟨n2, rfl⟩:=okWide_int Tryz.underlying5 (hval 2 5 v2 rfl rfl)
 obtain⟨n3, rfl⟩:=okWide_int Tryz.underlying5 (hval 3 5 v3 rfl rfl)
 obtain⟨n4, rfl⟩:=okWide_int Tryz.underlying45 (hval 4 45 v4 rfl rfl)
 obtain⟨a5, l5, c5, rfl⟩:=okWide_slice Tryz.underlying23 (hval 5 23 v5 rfl rfl)
 obtain⟨n6, rfl⟩:=okWide_int Tryz.underlying5 (hval 6 5 v6 rfl rfl)
 obtain⟨as0, aGH, sh0, rv0⟩:=aLs aWN h0
 obtain⟨as1, len1, sh1, rv1⟩:=aLs aWM h1
 obtain⟨b2, sh2, rv2⟩:=aAx (.int Tryz.underlying5) rfl h2
 have gd2:=sh2.gd
 obtain⟨b3, sh3, rv3⟩:=aAx (.int Tryz.underlying5) rfl h3
 have gd3:=sh3.gd
 obtain⟨b4, sh4, rv4⟩:=aAx (.int Tryz.underlying45) rfl h4
 have gd4:=sh4.gd
 obtain⟨b5, sh5, rv5⟩:=aAx aWO rfl h5
 have gd5:=sh5.gd
 obtain⟨b6, sh6, rv6⟩:=aAx (.int Tryz.underlying5) rfl h6
 have gd6:=sh6.gd
 obtain⟨m0_0, m0_1, e0, gd0, ba0, bb0⟩:=bDr aGH sh0
 rw[e0]at rv0
 obtain⟨m1_0, m1_1, m1_2, m1_3, m1_4, m1_5, e1, gd1, q1a, q1b, q1c, q1d, q1e⟩:=bDp len1 sh1
 rw[e1]at rv1
 obtain⟨k2, rfl, u2⟩:=aGL sh2
 obtain⟨m2, rfl, b2⟩:=rY u2
 obtain⟨k3, rfl, u3⟩:=aGL sh3
 obtain⟨m3, rfl, b3⟩:=rY u3
 obtain⟨k4, rfl, u4⟩:=aGL sh4
 obtain⟨m4, rfl, b4⟩:=aUX u4
 obtain⟨o5, ub5, rfl⟩:=aUW sh5
 obtain⟨k6, rfl, u6⟩:=aGL sh6
 obtain⟨m6, rfl, b6⟩:=rY u6
 refine(aPv aOU (w4 ba0 bb0 q1a q1b q1c q1d q1e b2 b3 b4 ub5 b6) (by simp only[List.mem_cons, List.not_mem_nil, or_false];rintro a (rfl|rfl|rfl|rfl|rfl|rfl|rfl)<;>assumption) (bCM hL hsh) (lP rv0 (lP rv1 (lP rv2 (lP rv3 (lP rv4 (lP rv5 (lP rv6 aQH)))))))).mono fun e W' ⟨he, hb⟩=>?_
 subst he
 exact⟨_, rfl, aPw laid hW' rfl rfl rfl rfl rfl Tryz.underlying4 (by kernel_rfl) hb⟩

theorem over:Rows.TopMeteredSaid :=
 OpenClaim.holds_of_wide 4 Tryz.f4 rfl rfl rfl rfl rfl rfl rfl ⟨rfl, rfl, rfl, rfl, rfl⟩ rfl rfl rfl rfl rfl (by kernel_rfl) Tryz.func4 (by kernel_rfl)
  (of_decide_eq_true (by kernel_rfl)) (by unfold Func.isWrapper;first|(rw[if_pos (by decide +kernel)];kernel_rfl)|(rw[if_neg (by decide +kernel)];exact⟨rfl, rfl⟩))
  (fun os started H enc _=>lifted os started H enc)

theorem proved:Rows.TopMeteredCardSaid :=
 Claim7.holds_tied_plain_at .later [] [.data, .data, .data, .data, .sentinel, .sentinel, .pinned] true (true, "7aa249fe888964ec5ad1cf7d835f878c7ef020ca09192d79d826357217228116") true
  over (fun _ h=>by cases h) (by kernel_rfl) (fun _ h=>by cases h) topMetered_row_tie rfl ⟨rfl, rfl⟩ (by kernel_rfl) (by kernel_rfl)
  (fun f fn hf hfn=>by
   obtain rfl:f=4:=Option.some.inj ((show Tryz.prog.funcNamed "zafra/zafratop.TopMetered" = some 4 by kernel_rfl).symm.trans hf) |>.symm
   obtain rfl:fn=Tryz.f4:=(Option.some.inj (Tryz.func4.symm.trans hfn)).symm
   exact⟨by kernel_rfl, fun j t ht=>by
    rw[Tryz.params4]at ht
    have hm:t∈[29, 44, 5, 5, 45, 23, 5]:=by simpa using Array.mem_of_getElem? ht
    have hall:([29, 44, 5, 5, 45, 23, 5].all fun u => !Tryz.prog.wantsStandIn u)=true:=by kernel_rfl
    exact(show Tryz.prog.wantsStandIn t=false by simpa using List.all_eq_true.1 hall t hm)⟩)
  (by kernel_rfl)
#print axioms proved
end Go.Proofs.YtjckchgdlbgolaaGreatDoor.topMetered
