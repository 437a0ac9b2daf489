/- 'TopKept' returns true for every input. No condition but what the row lists. -/
import Derived.Test.YtjckchgdlbgolaaGreatDoorH10
set_option linter.unusedSimpArgs false
set_option linter.unusedVariables false
set_option linter.unusedSectionVars false
namespace Go.Proofs.YtjckchgdlbgolaaGreatDoor.topKept
open Go Go.DL Go.ChangeShapes Go.WideShapes Go.ChangeAt Go.RowKit

set_option maxRecDepth 100000 in
theorem lifted (os:Os) (started:os.Started) (H:Type) (enc:TypeId×Value→H) :
 ReturnsInHanded {} Tryz.checked os 3 .any (fun w args=>(Rows.topKeptSpec.pre enc Tryz.prog Tryz.f3 [] false w args∧laidMetH Tryz.prog aCJ w)∧sizedMet enc Tryz.prog Tryz.f3 (OpenSpec.ofChange Rows.topKeptSpec) false w args)
  (Rows.topKeptSpec.post enc Tryz.prog Tryz.f3 false true false false):=by
 refine aCk (C:=Tryz.checked) (X:=fun w _=>laidMetH Tryz.prog aCJ w) (fun _ _ _ hh h=>h.of_heap hh) own started (by kernel_rfl) Tryz.func3
  (ChangeSpec.witness_shaped (enc:=enc) (C:=Tryz.checked) (os:=os) (X:=fun w _=>laidMetH Tryz.prog aCJ w) false (World.laidAll Tryz.prog os aCJ) #[.int .u8 0, .slice none 0 0, .slice none 0 0, .int .u8 0] 8 (World.laidAll_os _ _ _) (World.shaped_of_ZipB (by kernel_rfl) (by kernel_rfl)) (by kernel_rfl) (by kernel_rfl) (by kernel_rfl) (aLh os _)) ?_
 intro W base args ds gs before hval0 hW hL hsh
 have hval:∀ (j:Nat) t v, Tryz.f3.params[j]?=some t→args[j]?=some v→Value.okWide Tryz.prog W .any base t v:=hval0
 have hW':=hW
 obtain⟨p, q, hA0, hV, rfl, hfz, hnd⟩:=hW
 have hA:DataW.TrodAll enc Tryz.prog W 0 (fun _=>true) true Tryz.f3.params.toList args.toList ds p:=hA0
 rw[Tryz.params3]at hA hval
 obtain⟨v0, vs0, d0, ds0, p0, q0, hargs, rfl, rfl, h0, r0⟩:=trodAll_cons hA
 obtain⟨v1, vs1, d1, ds1, p1, q1, rfl, rfl, rfl, h1, r1⟩:=trodAll_cons r0
 obtain⟨v2, vs2, d2, ds2, p2, q2, rfl, rfl, rfl, h2, r2⟩:=trodAll_cons r1
 obtain⟨v3, vs3, d3, ds3, p3, q3, rfl, rfl, rfl, h3, r3⟩:=trodAll_cons r2
 obtain⟨rfl, rfl, rfl⟩:=trodAll_nil r3
 obtain rfl:args = #[v0, v1, v2, v3]:=by cases args;simp_all
 obtain⟨rfl, rfl⟩:=trodVars_none hV
 obtain⟨n0, rfl⟩:=okWide_int Tryz.underlying5 (hval 0 5 v0 rfl rfl)
 obtain⟨a1, l1, c1, rfl⟩:=okWide_slice Tryz.underlying22 (hval 1 22 v1 rfl rfl)
 obtain⟨a2, l2, c2, rfl⟩:=okWide_slice Tryz.underlying23 (hval 2 23 v2 rfl rfl)
 obtain⟨n3, rfl⟩:=okWide_int Tryz.underlying5 (hval 3 5 v3 rfl rfl)
 obtain⟨b0, sh0, rv0⟩:=aBy (.int Tryz.underlying5) rfl h0
 have gd0:=sh0.gd
 obtain⟨b1, sh1, rv1⟩:=aBy aWb rfl h1
 have gd1:=sh1.gd
 obtain⟨b2, sh2, rv2⟩:=aBy aWa rfl h2
 have gd2:=sh2.gd
 obtain⟨b3, sh3, rv3⟩:=aBy (.int Tryz.underlying5) rfl h3
 have gd3:=sh3.gd
 obtain⟨k0, rfl, u0⟩:=aPb sh0
 obtain⟨m0, rfl, b0⟩:=aGF u0
 obtain⟨o1, ub1, rfl⟩:=aVj sh1
 obtain⟨o2, ub2, rfl⟩:=aUo sh2
 obtain⟨k3, rfl, u3⟩:=aPb sh3
 obtain⟨m3, rfl, b3⟩:=aGF u3
 refine(aOV aOw (w3 b0 ub1 ub2 b3) (by simp only[List.mem_cons, List.not_mem_nil, or_false];rintro a (rfl|rfl|rfl|rfl)<;>assumption) (bCB hL hsh) (vH rv0 (vH rv1 (vH rv2 (vH rv3 aQf))))).mono fun e W' ⟨he, hb⟩=>?_
 subst he
 exact⟨_, rfl, aOW laid hW' rfl rfl rfl rfl rfl Tryz.underlying4 (by kernel_rfl) hb⟩

theorem over:Rows.TopKeptSaid :=
 OpenClaim.holds_of_wide 3 Tryz.f3 rfl rfl rfl rfl rfl rfl rfl ⟨rfl, rfl, rfl, rfl, rfl⟩ rfl rfl rfl rfl rfl (by kernel_rfl) Tryz.func3 (by kernel_rfl)
  (of_decide_eq_true (by kernel_rfl)) (by unfold Func.isWrapper;first|(rw[if_pos (by decide +kernel)];kernel_rfl)|(rw[if_neg (by decide +kernel)];exact⟨rfl, rfl⟩))
  (fun os started H enc _=>lifted os started H enc)

theorem proved:Rows.TopKeptCardSaid :=
 Claim7.holds_tied_plain_at .later [] [.data, .data, .data, .data, .sentinel, .sentinel, .pinned] true (true, "7aa249fe888964ec5ad1cf7d835f878c7ef020ca09192d79d826357217228116") true
  over (fun _ h=>by cases h) (by kernel_rfl) (fun _ h=>by cases h) topKept_row_tie rfl ⟨rfl, rfl⟩ (by kernel_rfl) (by kernel_rfl)
  (fun f fn hf hfn=>by
   obtain rfl:f=3:=Option.some.inj ((show Tryz.prog.funcNamed "zafra/zafratop.TopKept" = some 3 by kernel_rfl).symm.trans hf) |>.symm
   obtain rfl:fn=Tryz.f3:=(Option.some.inj (Tryz.func3.symm.trans hfn)).symm
   exact⟨by kernel_rfl, fun j t ht=>by
    rw[Tryz.params3]at ht
    have hm:t∈[5, 22, 23, 5]:=by simpa using Array.mem_of_getElem? ht
    have hall:([5, 22, 23, 5].all fun u => !Tryz.prog.wantsStandIn u)=true:=by kernel_rfl
    exact(show Tryz.prog.wantsStandIn t=false by simpa using List.all_eq_true.1 hall t hm)⟩)
  (by kernel_rfl)
#print axioms proved
end Go.Proofs.YtjckchgdlbgolaaGreatDoor.topKept
