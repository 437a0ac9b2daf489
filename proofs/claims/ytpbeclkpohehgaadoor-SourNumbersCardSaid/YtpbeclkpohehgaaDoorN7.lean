/- Parts of a proof, joined: K65 K66 K67 K68 K69 K70 K71 K72 K73 K74 K75 K76 K77 K78 K79 K80 K81 K82 K83 K84 K85 K86. No statement of the seed is proved here. -/
import Derived.Test.YtpbeclkpohehgaaDoorN6
set_option linter.unusedSimpArgs false
set_option linter.unusedVariables false
set_option linter.unusedSectionVars false
namespace Go.Proofs.YtpbeclkpohehgaaDoor
open Go Go.DL
set_option maxRecDepth 100000
set_option maxHeartbeats 4000000
section
variable {l : Li}
theorem w40 (g : Good l) (hf : l.Fit) {us : List Nat} (hu : ∀ v ∈ us,v < 256) (hul : us.length ≤ maxLen) : runW progX 40 [.agg l.c,.fs (us.map fun v => [B8 v])] [] = some (rI (ofN (byO us l.ls.length (behF l.ts))),[]) := by
  have hn := g.few
  have p := g.prec
  have rd : ∀ i,i < l.ls.length → headX 0 [1,2,5,6] (execW progX 40 0 none (match x40l4 with | .loop _ a => a | c => c) (envL [1,2,5,6] [.fs (us.map fun v => [B8 v]),.pt 0 0,oS 1 (ofN (byS us l.ls.length (behF l.ts) i).2),I (i : Nat)]) ([some (.blk true (.cells true l.c))] ++ oG (ofN (byS us l.ls.length (behF l.ts) i).2))) =
      some ([.fs (us.map fun v => [B8 v]),.pt 0 0,oS 1 (ofN (byS us l.ls.length (behF l.ts) (i + 1)).2),I (i + 1 : Nat)],[some (.blk true (.cells true l.c))] ++ oG (ofN (byS us l.ls.length (behF l.ts) (i + 1)).2)) := by
    intro i hi
    obtain ⟨h1,h2,h3,h4,h5,h6⟩ := by_st us p hn i (by omega)
    obtain ⟨q0,q1,q2⟩ := pk_can (us := us) (i := i) p hn h1 (by omega)
    have e4 := ofN_len (byS us l.ls.length (behF l.ts) i).2
    have e := round40e g hf hu hul hi (os := ofN (byS us l.ls.length (behF l.ts) i).2) (by omega) h1 (fun j => by
      rw [met_bit (fun v hv => by
        unfold ofN at hv
        obtain ⟨x,_,rfl⟩ := List.mem_map.1 hv
        exact Int.natCast_nonneg x) j,e4,h3,← h5]) q0
    have e2 : ofN (byS us l.ls.length (behF l.ts) i).2 ++ [(pkO us l.ls.length (behF l.ts) (byS us l.ls.length (behF l.ts) i).1 i : Int)] = ofN (byS us l.ls.length (behF l.ts) (i + 1)).2 := by unfold ofN; rw [byS,List.map_append]; rfl
    rw [e2] at e
    exact e
  have h0 : ofN (byS us l.ls.length (behF l.ts) 0).2 = [] := rfl
  have hl : (ofN (byS us l.ls.length (behF l.ts) l.ls.length).2).length = l.ls.length := by rw [ofN_len]; exact (by_st us p hn _ (Nat.le_refl _)).2.2.1
  unfold byO
  generalize ht : ofN (byS us l.ls.length (behF l.ts) l.ls.length).2 = o at *
  have z := Te (n := (l.ls.length : Int))
  generalize behF l.ts = b at *
  rw [r40 (by simp)]; unfold x40; dsimp only
  sym =>
    simp [Za,Zb,Zf,Zh,Zl,Zm,Zn,Zu,Zy,Z2,Z6,ZE,ZG,ZZ,Yb,Yc,Ye,Ys,Y1,YQ,YV,YY,Xa,Xe,Xf,Xg,Xo,Xs,Xu,Xw,XM,XO,XY,Wc,We,Wg,Wi,Wn,Wy,Wz,W0,W3,W8,W9,WA,WE,WF,WH,WI,WJ,WL,WN,WO,WP,WQ,WV,WW,Vb,Vo,Vp,Vq,Vr,Vs,V1,V3,V5,V6,V8,V9,VA,VB,VC,VF,VG,VH,VI,VK,VL,VM,VN,VO,VQ,VR,VT,VU,VV,VW,VX,VY,Ua,Uc,Ud,Uf,Ui,Us,Uw,Uy,U2,U3,U4,U5,U6,U7,UC,UD,UO,UP,Te,Tf,Tg,Tk,Tq,Tv,Tw,Tx,Tz,T3,T4,T5,T9,TA,TB,TC,TF,TG,TH,TI,TJ,TR,TT,Sw,Sx,Sy]
    tactic =>
      unfold x40l4
      rw [loop_rule l.ls.length (fun i => [.fs (us.map fun v => [B8 v]),.pt 0 0,oS 1 (ofN (byS us l.ls.length b i).2),I (i : Nat)]) (fun i => [some (.blk true (.cells true l.c))] ++ oG (ofN (byS us l.ls.length b i).2))]
      · rw [ht]
        by_cases ho : o = []
        · subst ho
          have z0 : ((0 : Int) < (l.ls.length : Int)) = False := eq_false (by rw [List.length_nil] at hl; omega)
          rw [TR,TT]
          (sym => (simp [Za,Zb,Zf,Zh,Zl,Zm,Zn,Zu,Zy,Z2,Z6,ZE,ZG,ZZ,Yb,Yc,Ye,Ys,Y1,YQ,YV,YY,Xa,Xe,Xf,Xg,Xo,Xs,Xu,Xw,XM,XO,XY,Wc,We,Wg,Wi,Wn,Wy,Wz,W0,W3,W8,W9,WA,WE,WF,WH,WI,WJ,WL,WN,WO,WP,WQ,WV,WW,Vb,Vo,Vp,Vq,Vr,Vs,V1,V3,V5,V6,V8,V9,VA,VB,VC,VF,VG,VH,VI,VK,VL,VM,VN,VO,VQ,VR,VT,VU,VV,VW,VX,VY,Ua,Uc,Ud,Uf,Ui,Us,Uw,Uy,U2,U3,U4,U5,U6,U7,UC,UD,UO,UP,Te,Tf,Tg,Tk,Tq,Tv,Tw,Tx,Tz,T3,T4,T5,T9,TA,TB,TC,TF,TG,TH,TI,TJ,TR,TT,Sw,Sx,Sy,z0]; all_goals tactic => exact rfl))
        · have z2 : ((o.length : Int) < (l.ls.length : Int)) = False := eq_false (by omega)
          rw [oS_ne ho,oG_ne ho]
          (sym => (simp [Za,Zb,Zf,Zh,Zl,Zm,Zn,Zu,Zy,Z2,Z6,ZE,ZG,ZZ,Yb,Yc,Ye,Ys,Y1,YQ,YV,YY,Xa,Xe,Xf,Xg,Xo,Xs,Xu,Xw,XM,XO,XY,Wc,We,Wg,Wi,Wn,Wy,Wz,W0,W3,W8,W9,WA,WE,WF,WH,WI,WJ,WL,WN,WO,WP,WQ,WV,WW,Vb,Vo,Vp,Vq,Vr,Vs,V1,V3,V5,V6,V8,V9,VA,VB,VC,VF,VG,VH,VI,VK,VL,VM,VN,VO,VQ,VR,VT,VU,VV,VW,VX,VY,Ua,Uc,Ud,Uf,Ui,Us,Uw,Uy,U2,U3,U4,U5,U6,U7,UC,UD,UO,UP,Te,Tf,Tg,Tk,Tq,Tv,Tw,Tx,Tz,T3,T4,T5,T9,TA,TB,TC,TF,TG,TH,TI,TJ,TR,TT,Sw,Sx,Sy,z2]; all_goals tactic => exact rfl))
      · rw [h0]
        (sym => (simp [Za,Zb,Zf,Zh,Zl,Zm,Zn,Zu,Zy,Z2,Z6,ZE,ZG,ZZ,Yb,Yc,Ye,Ys,Y1,YQ,YV,YY,Xa,Xe,Xf,Xg,Xo,Xs,Xu,Xw,XM,XO,XY,Wc,We,Wg,Wi,Wn,Wy,Wz,W0,W3,W8,W9,WA,WE,WF,WH,WI,WJ,WL,WN,WO,WP,WQ,WV,WW,Vb,Vo,Vp,Vq,Vr,Vs,V1,V3,V5,V6,V8,V9,VA,VB,VC,VF,VG,VH,VI,VK,VL,VM,VN,VO,VQ,VR,VT,VU,VV,VW,VX,VY,Ua,Uc,Ud,Uf,Ui,Us,Uw,Uy,U2,U3,U4,U5,U6,U7,UC,UD,UO,UP,Te,Tf,Tg,Tk,Tq,Tv,Tw,Tx,Tz,T3,T4,T5,T9,TA,TB,TC,TF,TG,TH,TI,TJ,TR,TT,Sw,Sx,Sy]; all_goals tactic => exact rfl))
      · exact rd
      · rw [ht]
        by_cases ho : o = []
        · subst ho
          have z0 : ((0 : Int) < (l.ls.length : Int)) = False := eq_false (by rw [List.length_nil] at hl; omega)
          rw [TR,TT]
          (sym => (simp [Za,Zb,Zf,Zh,Zl,Zm,Zn,Zu,Zy,Z2,Z6,ZE,ZG,ZZ,Yb,Yc,Ye,Ys,Y1,YQ,YV,YY,Xa,Xe,Xf,Xg,Xo,Xs,Xu,Xw,XM,XO,XY,Wc,We,Wg,Wi,Wn,Wy,Wz,W0,W3,W8,W9,WA,WE,WF,WH,WI,WJ,WL,WN,WO,WP,WQ,WV,WW,Vb,Vo,Vp,Vq,Vr,Vs,V1,V3,V5,V6,V8,V9,VA,VB,VC,VF,VG,VH,VI,VK,VL,VM,VN,VO,VQ,VR,VT,VU,VV,VW,VX,VY,Ua,Uc,Ud,Uf,Ui,Us,Uw,Uy,U2,U3,U4,U5,U6,U7,UC,UD,UO,UP,Te,Tf,Tg,Tk,Tq,Tv,Tw,Tx,Tz,T3,T4,T5,T9,TA,TB,TC,TF,TG,TH,TI,TJ,TR,TT,Sw,Sx,Sy,z0]; all_goals tactic => exact rfl))
        · have z2 : ((o.length : Int) < (l.ls.length : Int)) = False := eq_false (by omega)
          rw [oS_ne ho,oG_ne ho]
          (sym => (simp [Za,Zb,Zf,Zh,Zl,Zm,Zn,Zu,Zy,Z2,Z6,ZE,ZG,ZZ,Yb,Yc,Ye,Ys,Y1,YQ,YV,YY,Xa,Xe,Xf,Xg,Xo,Xs,Xu,Xw,XM,XO,XY,Wc,We,Wg,Wi,Wn,Wy,Wz,W0,W3,W8,W9,WA,WE,WF,WH,WI,WJ,WL,WN,WO,WP,WQ,WV,WW,Vb,Vo,Vp,Vq,Vr,Vs,V1,V3,V5,V6,V8,V9,VA,VB,VC,VF,VG,VH,VI,VK,VL,VM,VN,VO,VQ,VR,VT,VU,VV,VW,VX,VY,Ua,Uc,Ud,Uf,Ui,Us,Uw,Uy,U2,U3,U4,U5,U6,U7,UC,UD,UO,UP,Te,Tf,Tg,Tk,Tq,Tv,Tw,Tx,Tz,T3,T4,T5,T9,TA,TB,TC,TF,TG,TH,TI,TJ,TR,TT,Sw,Sx,Sy,z2]; all_goals tactic => exact rfl))
end
end Go.Proofs.YtpbeclkpohehgaaDoor
namespace Go.Proofs.YtpbeclkpohehgaaDoor
open Go Go.DL
set_option maxRecDepth 100000
set_option maxHeartbeats 4000000
end Go.Proofs.YtpbeclkpohehgaaDoor
namespace Go.Proofs.YtpbeclkpohehgaaDoor
open Go Go.DL
set_option maxRecDepth 100000
set_option maxHeartbeats 4000000
end Go.Proofs.YtpbeclkpohehgaaDoor
namespace Go.Proofs.YtpbeclkpohehgaaDoor
open Go Go.DL
set_option maxRecDepth 100000
set_option maxHeartbeats 4000000
theorem eA_at {l : Li} {o : List Int} {n : Nat} (ho : ∀ i,i < n → 0 ≤ o.getD i 0 ∧ o.getD i 0 < l.ls.length) (hf : ∀ j,j < n → (allT o 0 j).testBit (o.getD j 0).toNat = false) : ∀ m,m ≤ n → ∀ i,i < m → (eA l o m)[(o.getD i 0).toNat]? = some ⟨nwL l o (i + 1),nwH l o (i + 1)⟩
  | 0,_,i,hi => by omega
  | m + 1,hm,i,hi => by
    have ih := eA_at ho hf m (by omega)
    have hl := eA_len l o m
    have b1 := ho m (by omega)
    rw [eA]
    by_cases him : i = m
    · subst him
      exact List.getElem?_set_self (by omega)
    · have hne : (o.getD m 0).toNat ≠ (o.getD i 0).toNat := by
        intro hc
        have h1 : (allT o 0 m).testBit (o.getD m 0).toNat = true := allT_bit.2 (.inr ⟨i,by omega,hc.symm⟩)
        rw [hf m (by omega)] at h1
        simp at h1
      rw [List.getElem?_set_ne hne]
      exact ih i (by omega)
end Go.Proofs.YtpbeclkpohehgaaDoor
namespace Go.Proofs.YtpbeclkpohehgaaDoor
open Go Go.DL
set_option maxRecDepth 100000
set_option maxHeartbeats 4000000
theorem fresh_of {l : Li} {o : List Int} (hord : orderE l.ls.length (behF l.ts) o = 0) : ∀ j,j < l.ls.length → (allT o 0 j).testBit (o.getD j 0).toNat = false := by
  intro i hi
  obtain ⟨hl,hoe,ho⟩ := ord_of hord
  have he := hoe i hi
  rcases ordE_of (n := l.ls.length) (b := behF l.ts) (a := allT o 0 i) (o.getD i 0) with ⟨_,_,h,_,_⟩ | ⟨_,_,h,_,_⟩ | ⟨_,_,_,h⟩ | ⟨_,h⟩
  · exact h
  · exact h
  · rw [he] at h; simp at h
  · rw [he] at h; simp at h
theorem pop_of {l : Li} {o : List Int} (hord : orderE l.ls.length (behF l.ts) o = 0) : ∀ j,j ≤ l.ls.length → pop (allT o 0 j) l.ls.length = j
  | 0,_ => pop_0 _
  | j + 1,hj => by
    have ih := pop_of hord j (by omega)
    have h := (ord_of hord).2.2 j (by omega)
    rw [allT,(pop_or (fresh_of hord j (by omega)) l.ls.length).1 (by omega),ih]
theorem place_of {l : Li} {o : List Int} (hord : orderE l.ls.length (behF l.ts) o = 0) {k : Nat} (hk : k < l.ls.length) : ∃ i,i < l.ls.length ∧ (o.getD i 0).toNat = k := by
  have := pop_full.1 (pop_of hord l.ls.length (Nat.le_refl _)) k hk
  rcases allT_bit.1 this with h | h
  · rw [Nat.zero_testBit] at h; simp at h
  · exact h
end Go.Proofs.YtpbeclkpohehgaaDoor
namespace Go.Proofs.YtpbeclkpohehgaaDoor
open Go Go.DL
set_option maxRecDepth 100000
set_option maxHeartbeats 4000000
end Go.Proofs.YtpbeclkpohehgaaDoor
namespace Go.Proofs.YtpbeclkpohehgaaDoor
open Go Go.DL
set_option maxRecDepth 100000
set_option maxHeartbeats 4000000
end Go.Proofs.YtpbeclkpohehgaaDoor
namespace Go.Proofs.YtpbeclkpohehgaaDoor
open Go Go.DL
set_option maxRecDepth 100000
set_option maxHeartbeats 4000000
abbrev cB8 (us : List Nat) : Option XB := some (.blk true (.cells true [.fs (us.map fun v => [B8 v])]))
theorem sA_at {l : Li} {o : List Int} {n : Nat} (ho : ∀ i,i < n → 0 ≤ o.getD i 0 ∧ o.getD i 0 < l.ls.length) (hf : ∀ j,j < n → (allT o 0 j).testBit (o.getD j 0).toNat = false) : ∀ m,m ≤ n → ∀ i,i < m → (sA l o m)[(o.getD i 0).toNat]? = some ⟨soLo l o i,soHi l o i⟩
  | 0,_,i,hi => by omega
  | m + 1,hm,i,hi => by
    rw [sA,List.getElem?_set]
    by_cases e : (o.getD m 0).toNat = (o.getD i 0).toNat
    · by_cases him : i = m
      · subst him
        have := ho i (by omega)
        rw [if_pos rfl,if_pos (by rw [sA_len]; omega)]
      · exfalso
        have h1 := hf m (by omega)
        rw [e] at h1
        have : (allT o 0 m).testBit (o.getD i 0).toNat = true := allT_bit.2 (.inr ⟨i,by omega,rfl⟩)
        rw [h1] at this
        simp at this
    · rw [if_neg e]
      have him : i ≠ m := fun h => e (by rw [h])
      exact sA_at ho hf m (by omega) i (by omega)
end Go.Proofs.YtpbeclkpohehgaaDoor
namespace Go.Proofs.YtpbeclkpohehgaaDoor
open Go Go.DL
set_option maxRecDepth 100000
set_option maxHeartbeats 4000000
abbrev h8 (l : Li) (us : List Nat) : XH := [some (.blk true (.cells true l.c)),cB8 us]
end Go.Proofs.YtpbeclkpohehgaaDoor
namespace Go.Proofs.YtpbeclkpohehgaaDoor
open Go Go.DL
set_option maxRecDepth 100000
set_option maxHeartbeats 4000000
end Go.Proofs.YtpbeclkpohehgaaDoor
namespace Go.Proofs.YtpbeclkpohehgaaDoor
open Go Go.DL
set_option maxRecDepth 100000
set_option maxHeartbeats 4000000
structure Emb (x l : Li) (f : Nat → Option Nat) : Prop where
  lt : ∀ k m,k < l.ls.length → f k = some m → m < x.ls.length
  inj : ∀ j k m,j < l.ls.length → k < l.ls.length → f j = some m → f k = some m → j = k
  onto : ∀ m,m < x.ls.length → ∃ k,k < l.ls.length ∧ f k = some m
  ld : ∀ k m,k < l.ls.length → f k = some m → (ldN x m).k = (ldN l k).k ∧ (ldN x m).ah ≤ (ldN l k).ah ∧ (ldN x m).ch ≤ (ldN l k).ch
  ks : x.ks = l.ks
  hi : x.hi ≤ l.hi
  beh : ∀ k m j i,k < l.ls.length → j < l.ls.length → f k = some m → f j = some i → (behF x.ts m).testBit i = true → (behF l.ts k).testBit j = true
theorem emb_vld {x l : Li} {f : Nat → Option Nat} (e : Emb x l f) (gx : Good x) (gl : Good l) : ∀ {ks : List Nat} {d d' : Nat},d < 2 ^ l.ls.length → d' < 2 ^ x.ls.length → (∀ k m,k < l.ls.length → f k = some m → d'.testBit m = d.testBit k) → endF x d' ≤ endF l d → vld l.ls.length (behF l.ts) d ks → vld x.ls.length (behF x.ts) d' (ks.filterMap f) ∧ ordW x d' (ks.filterMap f) ≤ ordW l d ks
  | [],d,d',hd,hd',hr,he,hv => by
    rw [List.filterMap_nil]
    refine ⟨pop_full.2 fun m hm => ?_,Int.le_refl _⟩
    obtain ⟨k,hk,hf⟩ := e.onto m hm
    rw [hr k m hk hf]
    exact pop_full.1 hv k hk
  | k :: ks,d,d',hd,hd',hr,he,⟨hk,hc,hv⟩ => by
    have hb := can_bit hc
    have nl := gl.few
    have nx := gx.few
    have eo := end_or gl hd hk hb
    obtain ⟨y,kd,h1,h2,h3,h4,h5,h6,h7,h8⟩ := gl.ldn hk
    cases hf : f k with
    | none =>
      rw [List.filterMap_cons_none hf]
      have ih := emb_vld e gx gl (ks := ks) (or_lt hd hk) hd' (fun j m hj hm => by
        rw [hr j m hj hm,or_bit]
        have : ¬ k = j := by rintro rfl; rw [hf] at hm; simp at hm
        rw [decide_eq_false this,Bool.or_false]) (by rw [eo,h2]; omega) hv
      refine ⟨ih.1,?_⟩
      rw [ordW]
      have := mx_l (lastF l (d ||| 2 ^ k) k) (ordW l (d ||| 2 ^ k) ks)
      omega
    | some m =>
      rw [List.filterMap_cons_some hf]
      have hm := e.lt k m hk hf
      have hb' : d'.testBit m = false := by rw [hr k m hk hf]; exact hb
      have eo' := end_or gx hd' hm hb'
      obtain ⟨l1,l2,l3⟩ := e.ld k m hk hf
      have hc' : canB (behF x.ts) d' m = true := (canB_iff gx.prec nx hd').2 ⟨hb',fun i hi => by
        have hix : i < x.ls.length := by
          by_cases hl : i < x.ls.length
          · exact hl
          · rw [bit_lt (gx.prec.lt m) (by omega)] at hi; simp at hi
        obtain ⟨j,hj,hfj⟩ := e.onto i hix
        rw [hr j i hj hfj]
        exact ((canB_iff gl.prec nl hd).1 hc).2 j (e.beh k m j i hk hj hf hfj hi)⟩
      have ee : endF x (d' ||| 2 ^ m) ≤ endF l (d ||| 2 ^ k) := by rw [eo,eo']; omega
      have ih := emb_vld e gx gl (ks := ks) (or_lt hd hk) (or_lt hd' hm) (fun j i hj hfj => by
        rw [or_bit,or_bit,hr j i hj hfj]
        congr 1
        by_cases hjk : k = j
        · subst hjk
          rw [hf] at hfj
          obtain rfl := Option.some.inj hfj
          simp
        · have : ¬ m = i := by
            rintro rfl
            exact hjk (e.inj k j m hk hj hf hfj)
          rw [decide_eq_false hjk,decide_eq_false this]) ee hv
      refine ⟨⟨hm,hc',ih.1⟩,?_⟩
      rw [ordW,ordW]
      refine mx_le ?_ ih.2
      have hkd : knAt x (ldN x m) = knAt l (ldN l k) := by unfold knAt; rw [e.ks,l1]
      show sourF (knAt x (ldN x m)) ((ldN x m).ah + endF x (d' ||| 2 ^ m)) ≤ sourF (knAt l (ldN l k)) ((ldN l k).ah + endF l (d ||| 2 ^ k))
      rw [hkd,h2,h5]
      refine so_mono gl h4 ?_
      rw [h2] at l2
      omega
theorem emb_min {x l : Li} {f : Nat → Option Nat} (e : Emb x l f) (gx : Good x) (gl : Good l) : minW x ≤ minW l := by
  obtain ⟨h1,h2⟩ := best_vld gl
  obtain ⟨h3,h4⟩ := emb_vld e gx gl (d := 0) (d' := 0) (Nat.two_pow_pos _) (Nat.two_pow_pos _) (fun k m _ _ => by rw [Nat.zero_testBit,Nat.zero_testBit]) (by rw [end_0,end_0]; exact e.hi) h1
  have := ord_min h3
  unfold minW at *
  omega
theorem check_of {l : Li} (hk : kindsE l.ks = 0) (hn : l.ls.length ≤ 10) (hl : ∀ (i : Nat) (x : Ld),l.ls[i]? = some x → (0 ≤ x.k ∧ x.k < l.ks.length) ∧ (0 ≤ x.al ∧ x.al ≤ x.ah ∧ x.ah ≤ 100000) ∧ (1 ≤ x.cl ∧ x.cl ≤ x.ch ∧ x.ch ≤ 10000)) (ht : tracksE l.ls.length l.ts = 0) (hs : 0 ≤ l.lo ∧ l.lo ≤ l.hi ∧ l.hi ≤ 100000) : checkL l = 0 := by
  unfold checkL
  rw [if_pos hk,if_neg (by omega)]
  have hld : firstN (ldEr l) l.ls.length = 0 := by
    refine firstN_z _ fun i hi => ?_
    obtain ⟨x,hx⟩ := at_ix hi
    obtain ⟨h1,h2,h3⟩ := hl i x hx
    unfold ldEr
    rw [getD_of hx]
    rcases ldE_of l.ks.length x with ⟨_,_,_,h⟩ | ⟨_,_,h,_⟩ | ⟨_,h,_⟩ | ⟨h,_⟩
    · exact h
    · have : inS x.cl x.ch 1 10000 = true := inSF.2 h3
      rw [this] at h; simp at h
    · have : inS x.al x.ah 0 100000 = true := inSF.2 h2
      rw [this] at h; simp at h
    · have : btw 0 x.k ((l.ks.length : Int) - 1) = true := btwF.2 (by omega)
      rw [this] at h; simp at h
  rw [if_pos hld,if_pos ht,inSF.2 hs]
  rfl
theorem Good.tne {l : Li} (g : Good l) : ∀ t ∈ l.ts,t ≠ [] := by
  intro t ht hz
  obtain ⟨j,hj⟩ := List.getElem?_of_mem ht
  have := (errT_0 (g.tracks j (lt_of hj))).1
  rw [getD_of hj,hz] at this
  simp at this
theorem Good.tbd {l : Li} (g : Good l) : ∀ t ∈ l.ts,∀ v ∈ t,0 ≤ v ∧ v < l.ls.length := by
  intro t ht v hv
  obtain ⟨j,hj⟩ := List.getElem?_of_mem ht
  obtain ⟨i,hi⟩ := List.getElem?_of_mem hv
  have := (g.fresh (j := j) (i := i) (lt_of hj) (by rw [getD_of hj]; exact lt_of hi)).1
  rw [getD_of hj,getD_of hi] at this
  exact this
theorem Good.tnd {l : Li} (g : Good l) : ∀ t ∈ l.ts,t.Nodup := by
  intro t ht
  obtain ⟨j,hj⟩ := List.getElem?_of_mem ht
  rw [List.Nodup,List.pairwise_iff_getElem]
  intro a b ha hb hab h
  have := g.apart (j := j) (i := b) (i' := a) (lt_of hj) (by rw [getD_of hj]; exact hb) hab
  unfold plc at this
  rw [getD_of hj,getD_of (List.getElem?_eq_getElem ha),getD_of (List.getElem?_eq_getElem hb)] at this
  exact this (by rw [h])
theorem Good.tpw {l : Li} (g : Good l) : l.ts.Pairwise fun s t => ∀ v ∈ s,v ∉ t := by
  rw [List.pairwise_iff_getElem]
  intro a b ha hb hab v hv hv'
  obtain ⟨i',hi'⟩ := List.getElem?_of_mem hv
  obtain ⟨i,hi⟩ := List.getElem?_of_mem hv'
  have ga := getD_of (d := []) (List.getElem?_eq_getElem ha)
  have gb := getD_of (d := []) (List.getElem?_eq_getElem hb)
  have := g.apart2 (j := b) (i := i) (j' := a) (i' := i') hb (by rw [gb]; exact lt_of hi) hab (by rw [ga]; exact lt_of hi')
  unfold plc at this
  rw [ga,gb,getD_of hi,getD_of hi'] at this
  exact this rfl
theorem Good.tal {l : Li} (g : Good l) : ∀ k : Nat,k < l.ls.length → ∃ t,t ∈ l.ts ∧ (k : Int) ∈ t := by
  intro k hk
  obtain ⟨j,hj,i,hi,h⟩ := accT_bit.1 (pop_full.1 g.full k hk)
  have hm := ix_mem (d := 0) hi
  have hT : l.ts.getD j [] ∈ l.ts := ix_mem hj
  have := g.tbd _ hT _ hm
  refine ⟨_,hT,?_⟩
  unfold plc at h
  rw [show (k : Int) = (l.ts.getD j []).getD i 0 by omega]
  exact hm
theorem std_iff {T : List (List Int)} {a b : Int} : stdF T a b = true ↔ ∃ t ∈ T,∃ i j : Nat,j < i ∧ t[i]? = some a ∧ t[j]? = some b := by
  unfold stdF
  rw [List.any_eq_true]
  constructor
  · rintro ⟨p,hp,h⟩
    have hp' := List.mem_range.1 hp
    refine ⟨T.getD p [],ix_mem hp',?_⟩
    unfold hitT at h
    obtain ⟨i,hi,h⟩ := List.any_eq_true.1 h
    have hi' := List.mem_range.1 hi
    unfold hitN at h
    rw [Bool.and_eq_true,decide_eq_true_iff,met_iff] at h
    obtain ⟨h1,j,h2,h3⟩ := h
    obtain ⟨u,hu⟩ := at_ix hi'
    obtain ⟨w,hw⟩ := at_ix (l := T.getD p []) (i := j) (by omega)
    rw [getD_of hu] at h1
    rw [getD_of hw] at h3
    exact ⟨i,j,h2,by rw [hu,h1],by rw [hw,h3]⟩
  · rintro ⟨t,ht,i,j,h1,h2,h3⟩
    obtain ⟨p,hp⟩ := List.getElem?_of_mem ht
    refine ⟨p,List.mem_range.2 (lt_of hp),?_⟩
    rw [getD_of hp]
    unfold hitT
    rw [List.any_eq_true]
    refine ⟨i,List.mem_range.2 (lt_of h2),?_⟩
    unfold hitN
    rw [Bool.and_eq_true,decide_eq_true_iff,met_iff]
    exact ⟨getD_of h2,j,h1,getD_of h3⟩
theorem beh_iff {l : Li} (g : Good l) (k j : Nat) : (behF l.ts k).testBit j = true ↔ ∃ t ∈ l.ts,∃ i p : Nat,p < i ∧ t[i]? = some (k : Int) ∧ t[p]? = some (j : Int) := by
  rw [← std_beh g k j,std_iff]
theorem md_small {q : Qu} (hq : q.Ok) : (∀ x ∈ (mdL q).ls,x.ah ≤ 400 ∧ x.ch ≤ 400) ∧ (mdL q).hi ≤ 1000 ∧ (mdL q).ls.length ≤ 5 := by
  refine ⟨fun x hx => ?_,?_,?_⟩
  · have hx : x ∈ (q.ls.take (fewL q)).map P5.ld := hx
    obtain ⟨y,hy,rfl⟩ := List.mem_map.1 hx
    have := hq.ls y (List.mem_of_mem_take hy)
    unfold P5.ld
    dsimp only
    omega
  · have := hq.s
    show ((q.s0 + q.s1 : Nat) : Int) ≤ 1000
    omega
  · have : (mdL q).ls.length = fewL q := md_ls
    rw [this]
    unfold fewL
    omega
end Go.Proofs.YtpbeclkpohehgaaDoor
namespace Go.Proofs.YtpbeclkpohehgaaDoor
open Go Go.DL
set_option maxRecDepth 100000
set_option maxHeartbeats 4000000
section
variable {l : Li} (g : Good l) {i v : Nat} (hi : l.ts[i]? = some [(v : Int)])
include g hi
end
end Go.Proofs.YtpbeclkpohehgaaDoor
namespace Go.Proofs.YtpbeclkpohehgaaDoor
open Go Go.DL
set_option maxRecDepth 100000
set_option maxHeartbeats 4000000
theorem md_short (q : Qu) : (mdL q).ts.length ≤ 3 ∧ ∀ t ∈ (mdL q).ts,t.length ≤ 5 := by
  have hm : fewL q ≤ 5 := by unfold fewL; omega
  refine ⟨?_,fun t ht => ?_⟩
  · show (nzT (trN q (fewL q) 0) (trN q (fewL q) 1) (trN q (fewL q) 2)).length ≤ 3
    unfold nzT
    exact Nat.le_trans (List.length_filter_le _ _) (by simp)
  · have h := tr_len q (fewL q)
    rcases (nz_mem.1 ht).1 with rfl | rfl | rfl
    · have := h 0; omega
    · have := h 1; omega
    · have := h 2; omega
section
variable {l : Li}
end
end Go.Proofs.YtpbeclkpohehgaaDoor
namespace Go.Proofs.YtpbeclkpohehgaaDoor
open Go Go.DL
set_option maxRecDepth 100000
set_option maxHeartbeats 4000000
section
variable {l : Li}
end
end Go.Proofs.YtpbeclkpohehgaaDoor
namespace Go.Proofs.YtpbeclkpohehgaaDoor
open Go Go.DL
set_option maxRecDepth 100000
set_option maxHeartbeats 4000000
section
variable {l : Li}
end
end Go.Proofs.YtpbeclkpohehgaaDoor
namespace Go.Proofs.YtpbeclkpohehgaaDoor
open Go Go.DL
set_option maxRecDepth 100000
set_option maxHeartbeats 4000000
theorem cL_cons (y : Ld) (r : List Ld) : cL (y :: r) = I y.k :: I y.al :: I y.ah :: I y.cl :: I y.ch :: cL r := rfl
theorem cL_fl (l : List Ld) : (l.map fun x => [I x.k,I x.al,I x.ah,I x.cl,I x.ch]).flatten = cL l := rfl
theorem cL_all (l : List Ld) : ((l.map fun x => [I x.k,I x.al,I x.ah,I x.cl,I x.ch]).all fun r => r.length == 5) = true := by
  rw [List.all_eq_true]
  intro r hr
  obtain ⟨x,_,rfl⟩ := List.mem_map.1 hr
  rfl
section
variable {l : Li}
end
end Go.Proofs.YtpbeclkpohehgaaDoor
namespace Go.Proofs.YtpbeclkpohehgaaDoor
open Go Go.DL
set_option maxRecDepth 100000
set_option maxHeartbeats 8000000
end Go.Proofs.YtpbeclkpohehgaaDoor
namespace Go.Proofs.YtpbeclkpohehgaaDoor
open Go Go.DL
set_option maxRecDepth 100000
set_option maxHeartbeats 4000000
def toN (n t k : Nat) : Nat := (k + t) % n
theorem to_lt {n t k : Nat} (h : 0 < n) : toN n t k < n := Nat.mod_lt _ h
theorem to_inj {n t j k : Nat} (hj : j < n) (hk : k < n) (h : toN n t j = toN n t k) : j = k := by
  unfold toN at h
  have h1 := Nat.div_add_mod (j + t) n
  have h2 := Nat.div_add_mod (k + t) n
  rw [h] at h1
  generalize (j + t) / n = a at *
  generalize (k + t) / n = b at *
  rcases Nat.lt_trichotomy a b with c | c | c
  · have := Nat.mul_le_mul_left n (show a + 1 ≤ b by omega)
    rw [Nat.mul_add] at this
    omega
  · subst c; omega
  · have := Nat.mul_le_mul_left n (show b + 1 ≤ a by omega)
    rw [Nat.mul_add] at this
    omega
theorem to_on {n t m : Nat} (hm : m < n) : ∃ k,k < n ∧ toN n t k = m := by
  refine ⟨(m + (n - t % n)) % n,Nat.mod_lt _ (by omega),?_⟩
  unfold toN
  rw [Nat.mod_add_mod]
  have h1 := Nat.div_add_mod t n
  have h2 : t % n < n := Nat.mod_lt _ (by omega)
  rw [show m + (n - t % n) + t = m + n * (1 + t / n) by rw [Nat.mul_add]; omega,Nat.add_mul_mod_self_left]
  exact Nat.mod_eq_of_lt hm
def toI (n t : Nat) (v : Int) : Int := tmZ (v + (t : Int)) (n : Int)
theorem toI_n (n t k : Nat) : toI n t (k : Int) = (toN n t k : Nat) := by
  unfold toI toN
  rw [show (k : Int) + (t : Int) = ((k + t : Nat) : Int) by omega]
  exact tmod_n _ _
def lsT (l : Li) (t : Nat) : Nat → List Ld
  | 0 => List.replicate l.ls.length ⟨0,0,0,0,0⟩
  | j + 1 => (lsT l t j).set (toN l.ls.length t j) (ldN l j)
def tsT (l : Li) (t : Nat) : Nat → List (List Int)
  | 0 => []
  | j + 1 => (l.ts.getD j []).map (toI l.ls.length t) :: tsT l t j
def rotL (l : Li) (t : Nat) : Li := { l with ls := lsT l t l.ls.length,ts := tsT l t l.ts.length }
theorem ls_len (l : Li) (t : Nat) : ∀ j,(lsT l t j).length = l.ls.length
  | 0 => List.length_replicate
  | j + 1 => by rw [lsT,List.length_set,ls_len l t j]
theorem ls_at (l : Li) (t : Nat) : ∀ J,J ≤ l.ls.length → ∀ j,j < J → (lsT l t J)[toN l.ls.length t j]? = some (ldN l j)
  | 0,_,j,hj => by omega
  | J + 1,hJ,j,hj => by
    rw [lsT,List.getElem?_set]
    by_cases e : toN l.ls.length t J = toN l.ls.length t j
    · rw [if_pos e,if_pos (by rw [ls_len]; exact to_lt (by omega)),to_inj (by omega) (by omega) e]
    · rw [if_neg e]
      refine ls_at l t J (by omega) j ?_
      by_cases ej : j = J
      · subst ej; exact absurd rfl e
      · omega
theorem ts_mem {l : Li} {t : Nat} {u : List Int} : ∀ {J : Nat},u ∈ tsT l t J ↔ ∃ j,j < J ∧ u = (l.ts.getD j []).map (toI l.ls.length t)
  | 0 => ⟨fun h => by simp [tsT] at h,fun ⟨j,hj,_⟩ => by omega⟩
  | J + 1 => by
    rw [tsT,List.mem_cons,ts_mem]
    constructor
    · rintro (h | ⟨j,h1,h2⟩)
      · exact ⟨J,by omega,h⟩
      · exact ⟨j,by omega,h2⟩
    · rintro ⟨j,h1,h2⟩
      by_cases e : j = J
      · subst e; exact .inl h2
      · exact .inr ⟨j,by omega,h2⟩
theorem ts_len (l : Li) (t : Nat) : ∀ J,(tsT l t J).length = J
  | 0 => rfl
  | J + 1 => by rw [tsT,List.length_cons,ts_len l t J]
section
variable {l : Li} (g : Good l) {t : Nat}
include g
theorem toI_inj {a b : Int} (ha : 0 ≤ a ∧ a < l.ls.length) (hb : 0 ≤ b ∧ b < l.ls.length) (h : toI l.ls.length t a = toI l.ls.length t b) : a = b := by
  obtain ⟨a,rfl⟩ := Int.eq_ofNat_of_zero_le ha.1
  obtain ⟨b,rfl⟩ := Int.eq_ofNat_of_zero_le hb.1
  rw [toI_n,toI_n] at h
  have := to_inj (n := l.ls.length) (t := t) (by omega) (by omega) (Int.ofNat.inj h)
  omega
theorem ts_pw : ∀ J,J ≤ l.ts.length → (tsT l t J).Pairwise fun s u => ∀ v ∈ s,v ∉ u
  | 0,_ => by simp [tsT]
  | J + 1,hJ => by
    rw [tsT,List.pairwise_cons]
    refine ⟨fun u hu v hv hv' => ?_,ts_pw J (by omega)⟩
    obtain ⟨j,h1,rfl⟩ := ts_mem.1 hu
    obtain ⟨a,ha,ha'⟩ := List.mem_map.1 hv
    obtain ⟨b,hb,hb'⟩ := List.mem_map.1 hv'
    obtain ⟨s,hs'⟩ := at_ix (l := l.ts) (i := j) (by omega)
    obtain ⟨u,hu'⟩ := at_ix (l := l.ts) (i := J) (by omega)
    rw [getD_of hu'] at ha
    rw [getD_of hs'] at hb
    have hab := toI_inj g (g.tbd _ (List.mem_of_getElem? hu') a ha) (g.tbd _ (List.mem_of_getElem? hs') b hb) (by rw [ha',hb'])
    subst hab
    have := List.pairwise_iff_getElem.1 g.tpw j J (by omega) (by omega) h1
    rw [(List.getElem?_eq_some_iff.1 hs').2,(List.getElem?_eq_some_iff.1 hu').2] at this
    exact this a hb ha
theorem rot_len : (rotL l t).ls.length = l.ls.length := ls_len l t _
theorem rot_ld {k : Nat} (hk : k < l.ls.length) : (rotL l t).ls[toN l.ls.length t k]? = some (ldN l k) := ls_at l t _ (Nat.le_refl _) k hk
theorem rot_ok : checkL (rotL l t) = 0 := by
  have hln := rot_len g (t := t)
  refine check_of g.kinds (by rw [hln]; exact g.few) (fun m x hx => ?_) ?_ (inSF.1 g.start)
  · have hm := lt_of hx
    rw [hln] at hm
    obtain ⟨k,h1,h2⟩ := to_on (t := t) hm
    have := rot_ld g (t := t) h1
    rw [h2,hx] at this
    obtain rfl := Option.some.inj this
    obtain ⟨y,kd,h1,h2,h3,h4,h5,h6,h7,h8⟩ := g.ldn h1
    rw [h2]
    exact ⟨h3,h7,h8⟩
  · rw [hln]
    refine tracks_ok ?_ ?_ ?_ (ts_pw g _ (Nat.le_refl _)) ?_
    · intro u hu hz
      obtain ⟨j,h1,rfl⟩ := ts_mem.1 hu
      rw [List.map_eq_nil_iff] at hz
      exact g.tne _ (ix_mem (d := []) h1) hz
    · intro u hu v hv
      obtain ⟨j,h1,rfl⟩ := ts_mem.1 hu
      obtain ⟨a,ha,rfl⟩ := List.mem_map.1 hv
      have h5 := g.tbd _ (ix_mem (d := []) h1) a ha
      obtain ⟨a,rfl⟩ := Int.eq_ofNat_of_zero_le h5.1
      rw [toI_n]
      have := to_lt (n := l.ls.length) (t := t) (k := a) (by omega)
      omega
    · intro u hu
      obtain ⟨j,h1,rfl⟩ := ts_mem.1 hu
      have hm := ix_mem (d := []) h1
      rw [List.Nodup,List.pairwise_map]
      exact List.Pairwise.imp_of_mem (fun ha hb hab he => hab (toI_inj g (g.tbd _ hm _ ha) (g.tbd _ hm _ hb) he)) (g.tnd _ hm)
    · intro m hm
      obtain ⟨k,h1,h2⟩ := to_on (t := t) hm
      obtain ⟨u,hu,hk⟩ := g.tal k h1
      obtain ⟨p,hp⟩ := List.getElem?_of_mem hu
      refine ⟨_,ts_mem.2 ⟨p,lt_of hp,rfl⟩,?_⟩
      rw [getD_of hp]
      exact List.mem_map.2 ⟨(k : Int),hk,by rw [toI_n,h2]⟩
theorem rot_beh {k j : Nat} (hk : k < l.ls.length) (hj : j < l.ls.length) : (behF (rotL l t).ts (toN l.ls.length t k)).testBit (toN l.ls.length t j) = true ↔ (behF l.ts k).testBit j = true := by
  rw [beh_iff (good_of (rot_ok g)),beh_iff g]
  constructor
  · rintro ⟨u,hu,a,b,hab,ha,hb⟩
    obtain ⟨w,h4,rfl⟩ := ts_mem.1 hu
    have hm := ix_mem (d := []) h4
    rw [List.getElem?_map] at ha hb
    obtain ⟨y,hy,hy'⟩ := Option.map_eq_some_iff.1 ha
    obtain ⟨z,hz,hz'⟩ := Option.map_eq_some_iff.1 hb
    rw [← toI_n] at hy' hz'
    obtain rfl := toI_inj g (g.tbd _ hm _ (List.mem_of_getElem? hy)) (by omega) hy'
    obtain rfl := toI_inj g (g.tbd _ hm _ (List.mem_of_getElem? hz)) (by omega) hz'
    exact ⟨_,hm,a,b,hab,hy,hz⟩
  · rintro ⟨u,hu,a,b,hab,ha,hb⟩
    obtain ⟨w,hw⟩ := List.getElem?_of_mem hu
    refine ⟨_,ts_mem.2 ⟨w,lt_of hw,rfl⟩,a,b,hab,?_,?_⟩
    · rw [getD_of hw,List.getElem?_map,ha,Option.map_some,toI_n]
    · rw [getD_of hw,List.getElem?_map,hb,Option.map_some,toI_n]
theorem rot_emb : Emb (rotL l t) l fun k => some (toN l.ls.length t k) where
  lt := fun k m hk hf => by
    obtain rfl := Option.some.inj hf
    rw [rot_len g]
    exact to_lt (by omega)
  inj := fun j k m hj hk h1 h2 => by
    obtain rfl := Option.some.inj h1
    exact (to_inj hk hj (Option.some.inj h2)).symm
  onto := fun m hm => by
    rw [rot_len g] at hm
    obtain ⟨k,h1,h2⟩ := to_on (t := t) hm
    exact ⟨k,h1,by rw [h2]⟩
  ld := fun k m hk hf => by
    obtain rfl := Option.some.inj hf
    rw [show ldN (rotL l t) (toN l.ls.length t k) = _ from getD_of (rot_ld g hk)]
    exact ⟨rfl,Int.le_refl _,Int.le_refl _⟩
  ks := rfl
  hi := Int.le_refl _
  beh := fun k m j i hk hj h1 h2 h3 => by
    obtain rfl := Option.some.inj h1
    obtain rfl := Option.some.inj h2
    exact (rot_beh g hk hj).1 h3
def froN (n t m : Nat) : Option Nat := (List.range n).find? fun k => toN n t k == m
omit g in
theorem fro_iff {n t m k : Nat} (hk : k < n) : froN n t m = some k ↔ toN n t k = m := by
  unfold froN
  constructor
  · intro h
    have h1 : (toN n t k == m) = true := List.find?_some (p := fun k => toN n t k == m) h
    exact eq_of_beq h1
  · intro h
    cases hf : (List.range n).find? fun k => toN n t k == m with
    | none =>
      have := List.find?_eq_none.1 hf k (List.mem_range.2 hk)
      rw [h] at this
      simp at this
    | some j =>
      have h1 : (toN n t j == m) = true := List.find?_some (p := fun k => toN n t k == m) hf
      have h1 := eq_of_beq h1
      have h2 := List.mem_range.1 (List.mem_of_find?_eq_some hf)
      rw [to_inj h2 hk (h1.trans h.symm)]
omit g in
theorem fro_lt {n t m k : Nat} (h : froN n t m = some k) : k < n := List.mem_range.1 (List.mem_of_find?_eq_some h)
theorem rot_emb2 : Emb l (rotL l t) (froN l.ls.length t) where
  lt := fun k m hk hf => fro_lt hf
  inj := fun j k m hj hk h1 h2 => by
    have hm := fro_lt h1
    rw [fro_iff hm] at h1 h2
    rw [← h1,← h2]
  onto := fun m hm => ⟨toN l.ls.length t m,by rw [rot_len g]; exact to_lt (by omega),(fro_iff hm).2 rfl⟩
  ld := fun k m hk hf => by
    have hm := fro_lt hf
    rw [fro_iff hm] at hf
    subst hf
    rw [show ldN (rotL l t) (toN l.ls.length t m) = _ from getD_of (rot_ld g hm)]
    exact ⟨rfl,Int.le_refl _,Int.le_refl _⟩
  ks := rfl
  hi := Int.le_refl _
  beh := fun k m j i hk hj h1 h2 h3 => by
    have hm := fro_lt h1
    have hi := fro_lt h2
    rw [fro_iff hm] at h1
    rw [fro_iff hi] at h2
    subst h1 h2
    exact (rot_beh g hm hi).2 h3
theorem rot_min : minW (rotL l t) = minW l := by
  have h1 := emb_min (rot_emb g (t := t)) (good_of (rot_ok g)) g
  have h2 := emb_min (rot_emb2 g (t := t)) g (good_of (rot_ok g))
  omega
theorem rot_vld {ks : List Nat} (h : vld l.ls.length (behF l.ts) 0 ks) : vld (rotL l t).ls.length (behF (rotL l t).ts) 0 (ks.map (toN l.ls.length t)) := by
  have e : ks.filterMap (fun k => some (toN l.ls.length t k)) = ks.map (toN l.ls.length t) := by
    rw [List.filterMap_eq_map']
  rw [← e]
  exact (emb_vld (rot_emb g (t := t)) (good_of (rot_ok g)) g (d := 0) (d' := 0) (Nat.two_pow_pos _) (Nat.two_pow_pos _) (fun k m _ _ => by rw [Nat.zero_testBit,Nat.zero_testBit]) (Int.le_refl _) h).1
end
end Go.Proofs.YtpbeclkpohehgaaDoor
namespace Go.Proofs.YtpbeclkpohehgaaDoor
open Go Go.DL
set_option maxRecDepth 100000
set_option maxHeartbeats 4000000
theorem ofN_at {ks : List Nat} {i : Nat} (h : i < ks.length) : (ofN ks).getD i 0 = ((ks.getD i 0 : Nat) : Int) := by
  obtain ⟨k,hk⟩ := at_ix h
  rw [getD_of hk]
  exact getD_of (by unfold ofN; rw [List.getElem?_map,hk]; rfl)
theorem map_at {ks : List Nat} {f : Nat → Nat} {i : Nat} (h : i < ks.length) : (ks.map f).getD i 0 = f (ks.getD i 0) := by
  obtain ⟨k,hk⟩ := at_ix h
  rw [getD_of hk]
  exact getD_of (by rw [List.getElem?_map,hk]; rfl)
section
variable {l : Li} (g : Good l) {t : Nat} {ks : List Nat} (hl : ks.length = l.ls.length) (hk : ∀ k ∈ ks,k < l.ls.length)
include g hl hk
theorem rot_at {i : Nat} (hi : i < l.ls.length) : (ofN (ks.map (toN l.ls.length t))).getD i 0 = ((toN l.ls.length t (ks.getD i 0) : Nat) : Int) ∧ (ofN ks).getD i 0 = ((ks.getD i 0 : Nat) : Int) ∧ ks.getD i 0 < l.ls.length := by
  refine ⟨?_,ofN_at (by omega),hk _ (ix_mem (by omega))⟩
  rw [ofN_at (by rw [List.length_map]; omega),map_at (by omega)]
theorem rot_ldAt {i : Nat} (hi : i < l.ls.length) : ldAt (rotL l t) ((ofN (ks.map (toN l.ls.length t))).getD i 0) = ldAt l ((ofN ks).getD i 0) := by
  obtain ⟨h1,h2,h3⟩ := rot_at g (t := t) hl hk hi
  rw [h1,h2]
  unfold ldAt
  rw [Int.toNat_natCast,Int.toNat_natCast,getD_of (rot_ld g h3)]
theorem rot_nw : ∀ i,i ≤ l.ls.length → nwL (rotL l t) (ofN (ks.map (toN l.ls.length t))) i = nwL l (ofN ks) i ∧ nwH (rotL l t) (ofN (ks.map (toN l.ls.length t))) i = nwH l (ofN ks) i
  | 0,_ => ⟨rfl,rfl⟩
  | i + 1,hi => by
    obtain ⟨h1,h2⟩ := rot_nw i (by omega)
    rw [nwL,nwL,nwH,nwH,h1,h2,rot_ldAt g hl hk (by omega)]
    exact ⟨rfl,rfl⟩
theorem rot_so {i : Nat} (hi : i < l.ls.length) : soLo (rotL l t) (ofN (ks.map (toN l.ls.length t))) i = soLo l (ofN ks) i ∧ soHi (rotL l t) (ofN (ks.map (toN l.ls.length t))) i = soHi l (ofN ks) i := by
  obtain ⟨h1,h2⟩ := rot_nw g (t := t) hl hk (i + 1) (by omega)
  unfold soLo soHi
  rw [h1,h2,rot_ldAt g hl hk hi]
  exact ⟨rfl,rfl⟩
end
theorem rot_run {l : Li} {t : Nat} {ks : List Nat} (hr : runE l (ofN ks) = 0) (hr2 : runE (rotL l t) (ofN (ks.map (toN l.ls.length t))) = 0) (hk : ∀ k ∈ ks,k < l.ls.length) {k : Nat} (hkl : k < l.ls.length) :
    ∃ e s,(eA l (ofN ks) (ofN ks).length)[k]? = some e ∧ (sA l (ofN ks) (ofN ks).length)[k]? = some s ∧ (eA (rotL l t) (ofN (ks.map (toN l.ls.length t))) (ofN (ks.map (toN l.ls.length t))).length)[toN l.ls.length t k]? = some e ∧ (sA (rotL l t) (ofN (ks.map (toN l.ls.length t))) (ofN (ks.map (toN l.ls.length t))).length)[toN l.ls.length t k]? = some s := by
  obtain ⟨g,hl,hord⟩ := runE_len hr
  obtain ⟨g2,hl2,hord2⟩ := runE_len hr2
  obtain ⟨_,_,ho⟩ := ord_of hord
  obtain ⟨_,_,ho2⟩ := ord_of hord2
  rw [ofN_len] at hl
  obtain ⟨i,hi,hik⟩ := place_of hord hkl
  obtain ⟨h1,h2,h3⟩ := rot_at g (t := t) hl hk hi
  have hik' : ks.getD i 0 = k := by rw [h2,Int.toNat_natCast] at hik; exact hik
  have hrl : (rotL l t).ls.length = l.ls.length := ls_len l t _
  have e1 := eA_at ho (fresh_of hord) (ofN ks).length (by rw [ofN_len]; omega) i (by rw [ofN_len]; omega)
  have e2 := sA_at ho (fresh_of hord) (ofN ks).length (by rw [ofN_len]; omega) i (by rw [ofN_len]; omega)
  have e3 := eA_at ho2 (fresh_of hord2) (ofN (ks.map (toN l.ls.length t))).length (by omega) i (by omega)
  have e4 := sA_at ho2 (fresh_of hord2) (ofN (ks.map (toN l.ls.length t))).length (by omega) i (by omega)
  obtain ⟨n1,n2⟩ := rot_nw g (t := t) hl hk (i + 1) (by omega)
  obtain ⟨s1,s2⟩ := rot_so g (t := t) hl hk hi
  rw [hik] at e1 e2
  rw [h1,hik',Int.toNat_natCast,n1,n2] at e3
  rw [h1,hik',Int.toNat_natCast,s1,s2] at e4
  exact ⟨_,_,e1,e2,e3,e4⟩
def oneL (l : Li) (rs : List Nat) : Li := { l with ts := [ofN rs] }
theorem vld_nd {n : Nat} {b : Nat → Nat} : ∀ {ks : List Nat} {d : Nat},vld n b d ks → ks.Nodup ∧ ∀ k ∈ ks,d.testBit k = false
  | [],_,_ => ⟨List.nodup_nil,fun k hk => by simp at hk⟩
  | k :: ks,d,⟨_,hc,hv⟩ => by
    obtain ⟨h1,h2⟩ := vld_nd hv
    refine ⟨List.nodup_cons.2 ⟨fun hm => ?_,h1⟩,fun j hj => ?_⟩
    · have := h2 k hm
      rw [or_bit] at this
      simp at this
    · rcases List.mem_cons.1 hj with rfl | hj
      · exact can_bit hc
      · have := h2 j hj
        rw [or_bit] at this
        cases hb : d.testBit j with
        | false => rfl
        | true => rw [hb] at this; simp at this
theorem vld_all {n : Nat} {b : Nat → Nat} : ∀ {ks : List Nat} {d : Nat},vld n b d ks → ∀ j,j < n → d.testBit j = true ∨ j ∈ ks
  | [],d,hv,j,hj => .inl (pop_full.1 hv j hj)
  | k :: ks,d,⟨_,hc,hv⟩,j,hj => by
    rcases vld_all hv j hj with h | h
    · rw [or_bit] at h
      cases hb : d.testBit j with
      | true => exact .inl rfl
      | false =>
        rw [hb,Bool.false_or,decide_eq_true_iff] at h
        subst h
        exact .inr (by simp)
    · exact .inr (by simp [h])
section
variable {l : Li} (g : Good l) {rs : List Nat} (hnd : rs.Nodup) (hal : ∀ j,j < l.ls.length → j ∈ rs) (hlt : ∀ k ∈ rs,k < l.ls.length) (hne : 0 < l.ls.length)
include g hnd hal hlt hne
theorem one_ok : checkL (oneL l rs) = 0 := by
  refine check_of g.kinds g.few (fun i x hx => ?_) ?_ (inSF.1 g.start)
  · have hx : l.ls[i]? = some x := hx
    obtain ⟨y,kd,h1,h2,h3,h4,h5,h6,h7,h8⟩ := g.ldn (lt_of hx)
    rw [hx] at h1
    obtain rfl := Option.some.inj h1
    exact ⟨h3,h7,h8⟩
  · show tracksE l.ls.length [ofN rs] = 0
    refine tracks_ok ?_ ?_ ?_ (by simp) ?_
    · intro t ht hz
      rw [List.mem_singleton] at ht
      subst ht
      have := hal 0 hne
      unfold ofN at hz
      rw [List.map_eq_nil_iff] at hz
      rw [hz] at this
      simp at this
    · intro t ht v hv
      rw [List.mem_singleton] at ht
      subst ht
      unfold ofN at hv
      obtain ⟨k,hk,rfl⟩ := List.mem_map.1 hv
      have := hlt k hk
      show 0 ≤ (k : Int) ∧ (k : Int) < (l.ls.length : Int)
      omega
    · intro t ht
      rw [List.mem_singleton] at ht
      subst ht
      unfold ofN
      rw [List.Nodup,List.pairwise_map]
      exact List.Pairwise.imp (fun hab he => hab (Int.ofNat.inj he)) hnd
    · intro k hk
      exact ⟨_,List.mem_singleton.2 rfl,List.mem_map.2 ⟨k,hal k hk,rfl⟩⟩
theorem one_beh {i j : Nat} (hij : j < i) (hi : i < rs.length) : (behF (oneL l rs).ts (rs.getD i 0)).testBit (rs.getD j 0) = true := by
  refine (beh_iff (good_of (one_ok g hnd hal hlt hne)) _ _).2 ⟨_,List.mem_singleton.2 rfl,i,j,hij,?_,?_⟩
  · obtain ⟨k,hk⟩ := at_ix hi
    unfold ofN
    rw [List.getElem?_map,hk,getD_of hk]; rfl
  · obtain ⟨k,hk⟩ := at_ix (l := rs) (i := j) (by omega)
    unfold ofN
    rw [List.getElem?_map,hk,getD_of hk]; rfl
theorem one_vld : ∀ {ks : List Nat} {i : Nat},i ≤ rs.length → allT (ofN rs) 0 i < 2 ^ l.ls.length → vld l.ls.length (behF (oneL l rs).ts) (allT (ofN rs) 0 i) ks → ks = rs.drop i
  | [], i,hi,hd,hv => by
    by_cases e : i < rs.length
    · exfalso
      obtain ⟨k,hk⟩ := at_ix e
      have hkl := hlt k (List.mem_of_getElem? hk)
      have h1 := pop_full.1 hv k hkl
      rcases allT_bit.1 h1 with h | ⟨j,hj,h⟩
      · rw [Nat.zero_testBit] at h; simp at h
      · rw [ofN_at (by omega),Int.toNat_natCast] at h
        obtain ⟨k',hk'⟩ := at_ix (l := rs) (i := j) (by omega)
        rw [getD_of hk'] at h
        subst h
        have := (List.getElem?_inj (by omega) hnd).1 (hk'.trans hk.symm)
        omega
    · rw [List.drop_eq_nil_of_le (by omega)]
  | k :: ks,i,hi,hd,⟨hk,hc,hv⟩ => by
    have g1 := good_of (one_ok g hnd hal hlt hne)
    have hb := can_bit hc
    have hcan := ((canB_iff g1.prec g1.few hd).1 hc).2
    obtain ⟨j,hj⟩ := List.getElem?_of_mem (hal k hk)
    have hjl := lt_of hj
    have hji : i ≤ j := by
      by_cases e : j < i
      · exfalso
        have : (allT (ofN rs) 0 i).testBit k = true := allT_bit.2 (.inr ⟨j,e,by rw [ofN_at hjl,getD_of hj,Int.toNat_natCast]⟩)
        rw [hb] at this; simp at this
      · omega
    have hij : j = i := by
      by_cases e : i < j
      · exfalso
        have h1 := one_beh g hnd hal hlt hne e hjl
        rw [getD_of hj] at h1
        have h2 := hcan _ h1
        rcases allT_bit.1 h2 with h | ⟨p,hp,h⟩
        · rw [Nat.zero_testBit] at h; simp at h
        · rw [ofN_at (by omega),Int.toNat_natCast] at h
          obtain ⟨k1,hk1⟩ := at_ix (l := rs) (i := p) (by omega)
          obtain ⟨k2,hk2⟩ := at_ix (l := rs) (i := i) (by omega)
          rw [getD_of hk1,getD_of hk2] at h
          subst h
          have := (List.getElem?_inj (by omega) hnd).1 (hk1.trans hk2.symm)
          omega
      · omega
    subst hij
    have ea : allT (ofN rs) 0 (j + 1) = allT (ofN rs) 0 j ||| 2 ^ k := by rw [allT,ofN_at hjl,getD_of hj,Int.toNat_natCast]
    rw [drop_ix hj]
    congr 1
    refine one_vld (by omega) ?_ ?_
    · rw [ea]; exact or_lt hd hk
    · rw [ea]; exact hv
theorem one_best : bestO (oneL l rs) = rs := by
  have g1 := good_of (one_ok g hnd hal hlt hne)
  have h := (best_vld g1).1
  exact one_vld g hnd hal hlt hne (i := 0) (Nat.zero_le _) (Nat.two_pow_pos _) h
end
end Go.Proofs.YtpbeclkpohehgaaDoor
namespace Go.Proofs.YtpbeclkpohehgaaDoor
open Go Go.DL
set_option maxRecDepth 100000
set_option maxHeartbeats 4000000
theorem w47 {n t : Nat} (hn : 0 < n) (hn2 : n ≤ 1000) (ht : t < 256) {v : Int} (hv : 0 ≤ v ∧ v ≤ 1000) : runW progX 47 [I v,.pt 0 0,.pt 1 0] [some (.blk true (.cells true [B8 t])),some (.blk true (.cells true [I (n : Nat)]))] = some (I (toI n t v),[some (.blk true (.cells true [B8 t])),some (.blk true (.cells true [I (n : Nat)]))]) := by
  have c1 : ((n : Int) = 0) = False := eq_false (by omega)
  have c2 := wr8 ht
  have c3 : IntKind.i64.wrap (v + (t : Int)) = v + (t : Int) := wrap_ok (by omega) (by omega)
  have e : tmZ (v + (t : Int)) (n : Int) = toI n t v := rfl
  rw [r47 (by simp)]; unfold x47; dsimp only
  (sym => (simp [irem2,iquo2,remF,cO_gr,cO_nm,cO_sl,cO_len,cL_fl,cL_all,Za,Zb,Zf,Zh,Zl,Zm,Zu,Z2,Z5,ZG,ZY,Yj,YQ,Xo,X0,Wc,Wh,Wy,Wz,W0,W8,W9,WH,WL,WM,WN,WO,WP,WV,WW,Va,Vb,Vr,V5,V6,V8,V9,VA,VB,VC,VF,VG,VH,VI,VK,VT,VU,VV,VY,VZ,Ua,Ub,Uc,Uy,U1,U2,U3,UC,UD,Tf,Tg,Tk,Tv,Tw,Tx,T4,TB,TC,Sw,c1,c2,c3,e]; all_goals tactic => exact rfl))
theorem cL_put {l : List Ld} {i : Nat} (h : i < l.length) (x : Ld) : splice (cL l) (i * 5) x.row = cL (l.set i x) := by
  induction l generalizing i with
  | nil => simp at h
  | cons z q ih =>
    rw [cL_cons]
    cases i with
    | zero => rfl
    | succ i =>
      have := ih (i := i) (by simpa using h)
      rw [List.set_cons_succ,cL_cons,← this]
      unfold splice
      rw [show (i + 1) * 5 = i * 5 + 1 + 1 + 1 + 1 + 1 by omega,show i * 5 + 1 + 1 + 1 + 1 + 1 + x.row.length = i * 5 + x.row.length + 1 + 1 + 1 + 1 + 1 by omega]
      rfl
theorem cL_rep (n : Nat) : (List.replicate n [I 0,I 0,I 0,I 0,I 0]).flatten = cL (List.replicate n ⟨0,0,0,0,0⟩) := by
  unfold cL
  rw [List.map_replicate]
section
variable {l : Li}
abbrev hP (l : Li) (t : Nat) (cc : List AV) (ts : AV) (r : XH) : XH := some (.blk true (.cells true l.c)) :: some (.blk true (.cells true [I l.ls.length])) :: some (.blk true (.cells true [B8 t])) :: some (.blk false (.cells true [kR l.ks,.sl 4 0 5 l.ls.length,ts,I l.lo,I l.hi])) :: some (.blk true (.cells true cc)) :: r
theorem round13a (hn : l.ls.length ≤ 10) {t : Nat} (ht : t < 256) {by' : AV} (hb : ∃ bs : List Nat,by' = .fs (bs.map fun v => [B8 v])) {j : Nat} (hj : j < l.ls.length) :
    headX 0 [1,7,8,9,10,55,56,57] (execW progX 13 0 none (match x13l0 with | .loop _ a => a | c => c) (envL [1,7,8,9,10,55,56,57] [by',.pt 0 0,.pt 1 0,.fn (.func 47) [] [.pt 2 0,.pt 1 0],.pt 3 0,lR l.ls,I l.ls.length,I (j : Nat)]) (hP l t (cL (lsT l t j)) .nilsl [])) =
      some ([by',.pt 0 0,.pt 1 0,.fn (.func 47) [] [.pt 2 0,.pt 1 0],.pt 3 0,lR l.ls,I l.ls.length,I (j + 1 : Nat)],hP l t (cL (lsT l t (j + 1))) .nilsl []) := by
  obtain ⟨bs,rfl⟩ := hb
  obtain ⟨x,hx⟩ := at_ix hj
  have a1 := lt_ix hj
  have a2 := up_ix hj (by omega)
  have w := w47 (n := l.ls.length) (by omega) (by omega) ht (v := (j : Int)) (by omega)
  rw [toI_n] at w
  have hm := to_lt (n := l.ls.length) (t := t) (k := j) (by omega)
  have e : lsT l t (j + 1) = (lsT l t j).set (toN l.ls.length t j) x := by rw [lsT,ldN,getD_of hx]
  have ll := ls_len l t j
  have sp := cL_put (l := lsT l t j) (i := toN l.ls.length t j) (by omega) x
  have cl := cL_len (lsT l t j)
  rw [ll] at cl
  rw [e,← sp]
  generalize cL (lsT l t j) = cc at *
  generalize toN l.ls.length t j = m at *
  have k1 : (0 ≤ (m : Int)) = True := eq_true (by omega)
  have k2 : ((m : Int) < (l.ls.length : Int)) = True := eq_true (by omega)
  have k3 : (m * 5 + 5 ≤ l.ls.length * 5) = True := eq_true (by omega)
  generalize hsp : splice cc (m * 5) x.row = cc2 at *
  dsimp only [Ld.row] at hsp
  unfold x13l0
  dsimp only
  (sym => (simp [irem2,iquo2,remF,cO_gr,cO_nm,cO_sl,cO_len,cL_fl,cL_all,Za,Zb,Zc,Zd,Ze,Zf,Zh,Zi,Zl,Zm,Zu,Zv,Z2,Z6,Z8,ZG,ZH,ZJ,ZK,ZL,ZM,ZN,ZQ,ZR,ZT,ZU,ZZ,Yf,Yg,Yh,Yj,Ys,Yv,Yw,YQ,YV,YX,YY,Xa,Xc,Xe,Xo,Xs,Xt,Xu,Xw,Xy,Wn,Ww,Wy,Wz,W0,W3,W4,W5,W6,W7,W9,WA,WB,WC,WE,WF,WH,WI,WJ,WK,WL,WM,WN,WO,WP,WQ,WR,WS,WT,WV,WW,WX,Vb,Vc,Ve,Vf,Vg,Vh,Vi,Vj,Vk,Vm,Vn,VL,VM,VN,VO,VP,VU,VV,VW,VX,VY,Ua,Ub,Uc,Ud,Ue,Uf,Uh,Ui,Ul,Um,Un,Uo,Us,Uv,Uw,Ux,Uz,U0,U1,U2,U3,U4,U5,U6,U7,UE,Tf,Tg,Th,Ti,Tj,Tk,Tl,Tm,Tv,Tw,Ty,T3,T4,T7,TA,TB,TC,TG,TH,Sv,Sz,S2,S3,S4,S6,S7,S8,a1,a2,hx,w,k1,k2,k3,cl,hsp]; all_goals tactic => exact rfl))
end
end Go.Proofs.YtpbeclkpohehgaaDoor
namespace Go.Proofs.YtpbeclkpohehgaaDoor
open Go Go.DL
set_option maxRecDepth 100000
set_option maxHeartbeats 4000000
section
variable {l : Li}
theorem round13b (hn0 : 0 < l.ls.length) (hn : l.ls.length ≤ 10) {t : Nat} (ht : t < 256) {by' : AV} (hb : ∃ bs : List Nat,by' = .fs (bs.map fun v => [B8 v])) {H : XH} {b : Nat} {cc : List AV} (hH : (H = hP l t cc .nilsl [] ∧ b = 5) ∨ (∃ p tc,H = hP l t cc (.sl 5 0 1 p) [some (.blk true (.cells true tc))] ∧ b = 6)) {y : Int} {j m : Nat} {u os : List Int} (hy : u[m]? = some y) (hu : u.length ≤ 10) (ho : os.length ≤ 10) (hyb : 0 ≤ y ∧ y ≤ 1000) :
    headX 0 [1,7,8,9,10,15,71,72,73,77,78,79] (execW progX 13 0 none (match x13l1 with | .loop _ a => a | c => c) (envL [1,7,8,9,10,15,71,72,73,77,78,79] [by',.pt 0 0,.pt 1 0,.fn (.func 47) [] [.pt 2 0,.pt 1 0],.pt 3 0,oS b os,tR l.ts,I l.ts.length,I (j : Nat),rI u,I u.length,I (m : Nat)]) (H ++ oG os)) =
      some ([by',.pt 0 0,.pt 1 0,.fn (.func 47) [] [.pt 2 0,.pt 1 0],.pt 3 0,oS b (os ++ [toI l.ls.length t y]),tR l.ts,I l.ts.length,I (j : Nat),rI u,I u.length,I (m + 1 : Nat)],H ++ oG (os ++ [toI l.ls.length t y])) := by
  obtain ⟨bs,rfl⟩ := hb
  have a1 := lt_ix (lt_of hy)
  have a2 := up_ix (lt_of hy) (by omega)
  have q1 : ((os.length + 1) * 8 ≤ 1099511627776) = True := eq_true (by omega)
  have q2 : (os.length + 1 ≤ 1099511627776) = True := eq_true (by omega)
  have w := w47 (n := l.ls.length) hn0 (by omega) ht hyb
  generalize toI l.ls.length t y = z at *
  unfold x13l1
  dsimp only
  by_cases hos : os = []
  · subst hos
    simp only [TR,TT,TS,TU,List.nil_append,List.length_nil,List.append_nil]
    rcases hH with ⟨rfl,rfl⟩ | ⟨p,tc,rfl,rfl⟩
    · (sym => (simp [irem2,iquo2,remF,cO_gr,cO_nm,cO_sl,cO_len,Za,Zb,Zd,Ze,Zf,Zg,Zh,Zj,Zl,Zm,Zn,Zu,Z0,Z2,Z8,ZG,ZO,ZP,ZS,ZT,ZU,Yg,Yh,Yj,Ys,Yv,Yw,YQ,YV,YX,YY,Xa,Xc,Xe,Xo,Xs,Xt,Xu,Xw,Xy,X0,Wc,Wm,Wy,Wz,W0,W3,W4,W5,W6,W7,W9,WA,WB,WC,WE,WF,WH,WI,WJ,WK,WL,WM,WN,WO,WP,WQ,WR,WS,WT,WV,WW,WX,Vb,Vc,Ve,Vf,Vg,Vh,Vr,Vt,Vu,Vv,VL,VM,VN,VO,VP,VU,VV,VW,VX,VY,Ua,Ub,Uc,Ud,Ue,Uf,Ui,Us,Uv,Uw,Ux,Uz,U0,U1,U2,U3,U4,U5,U6,U7,UE,UF,UG,UH,UQ,UR,US,UT,UY,UZ,Ta,Tb,Tc,Td,Th,Ti,Tk,Tq,Tr,Ts,Tt,Tu,Tv,Tw,Ty,T3,T4,T7,TA,TB,TC,TD,TE,TF,TH,TK,Sw,SD,SE,SG,a1,a2,hy,w]; all_goals tactic => exact rfl))
    · (sym => (simp [irem2,iquo2,remF,cO_gr,cO_nm,cO_sl,cO_len,Za,Zb,Zd,Ze,Zf,Zg,Zh,Zj,Zl,Zm,Zn,Zu,Z0,Z2,Z8,ZG,ZO,ZP,ZS,ZT,ZU,Yg,Yh,Yj,Ys,Yv,Yw,YQ,YV,YX,YY,Xa,Xc,Xe,Xo,Xs,Xt,Xu,Xw,Xy,X0,Wc,Wm,Wy,Wz,W0,W3,W4,W5,W6,W7,W9,WA,WB,WC,WE,WF,WH,WI,WJ,WK,WL,WM,WN,WO,WP,WQ,WR,WS,WT,WV,WW,WX,Vb,Vc,Ve,Vf,Vg,Vh,Vr,Vt,Vu,Vv,VL,VM,VN,VO,VP,VU,VV,VW,VX,VY,Ua,Ub,Uc,Ud,Ue,Uf,Ui,Us,Uv,Uw,Ux,Uz,U0,U1,U2,U3,U4,U5,U6,U7,UE,UF,UG,UH,UQ,UR,US,UT,UY,UZ,Ta,Tb,Tc,Td,Th,Ti,Tk,Tq,Tr,Ts,Tt,Tu,Tv,Tw,Ty,T3,T4,T7,TA,TB,TC,TD,TE,TF,TH,TK,Sw,SD,SE,SG,a1,a2,hy,w]; all_goals tactic => exact rfl))
  · rw [oS_ne hos,oG_ne hos,oS_ne (show os ++ [z] ≠ [] by simp),oG_ne (show os ++ [z] ≠ [] by simp)]
    rcases hH with ⟨rfl,rfl⟩ | ⟨p,tc,rfl,rfl⟩
    · (sym => (simp [irem2,iquo2,remF,cO_gr,cO_nm,cO_sl,cO_len,Za,Zb,Zd,Ze,Zf,Zg,Zh,Zj,Zl,Zm,Zn,Zu,Z0,Z2,Z8,ZG,ZO,ZP,ZS,ZT,ZU,Yg,Yh,Yj,Ys,Yv,Yw,YQ,YV,YX,YY,Xa,Xc,Xe,Xo,Xs,Xt,Xu,Xw,Xy,X0,Wc,Wm,Wy,Wz,W0,W3,W4,W5,W6,W7,W9,WA,WB,WC,WE,WF,WH,WI,WJ,WK,WL,WM,WN,WO,WP,WQ,WR,WS,WT,WV,WW,WX,Vb,Vc,Ve,Vf,Vg,Vh,Vr,Vt,Vu,Vv,VL,VM,VN,VO,VP,VU,VV,VW,VX,VY,Ua,Ub,Uc,Ud,Ue,Uf,Ui,Us,Uv,Uw,Ux,Uz,U0,U1,U2,U3,U4,U5,U6,U7,UE,UF,UG,UH,UQ,UR,US,UT,UY,UZ,Ta,Tb,Tc,Td,Th,Ti,Tk,Tq,Tr,Ts,Tt,Tu,Tv,Tw,Ty,T3,T4,T7,TA,TB,TC,TD,TE,TF,TH,TK,Sw,SD,SE,SG,a1,a2,hy,w,q1,q2]; all_goals tactic => exact rfl))
    · (sym => (simp [irem2,iquo2,remF,cO_gr,cO_nm,cO_sl,cO_len,Za,Zb,Zd,Ze,Zf,Zg,Zh,Zj,Zl,Zm,Zn,Zu,Z0,Z2,Z8,ZG,ZO,ZP,ZS,ZT,ZU,Yg,Yh,Yj,Ys,Yv,Yw,YQ,YV,YX,YY,Xa,Xc,Xe,Xo,Xs,Xt,Xu,Xw,Xy,X0,Wc,Wm,Wy,Wz,W0,W3,W4,W5,W6,W7,W9,WA,WB,WC,WE,WF,WH,WI,WJ,WK,WL,WM,WN,WO,WP,WQ,WR,WS,WT,WV,WW,WX,Vb,Vc,Ve,Vf,Vg,Vh,Vr,Vt,Vu,Vv,VL,VM,VN,VO,VP,VU,VV,VW,VX,VY,Ua,Ub,Uc,Ud,Ue,Uf,Ui,Us,Uv,Uw,Ux,Uz,U0,U1,U2,U3,U4,U5,U6,U7,UE,UF,UG,UH,UQ,UR,US,UT,UY,UZ,Ta,Tb,Tc,Td,Th,Ti,Tk,Tq,Tr,Ts,Tt,Tu,Tv,Tw,Ty,T3,T4,T7,TA,TB,TC,TD,TE,TF,TH,TK,Sw,SD,SE,SG,a1,a2,hy,w,q1,q2]; all_goals tactic => exact rfl))
theorem round13d (hn0 : 0 < l.ls.length) (hn : l.ls.length ≤ 10) {t : Nat} (ht : t < 256) {cc : List AV} {y : Int} {m p : Nat} {tc : List AV} {u os : List Int} (hy : u[m]? = some y) (hu : u.length ≤ 10) (ho : os.length ≤ 10) (hyb : 0 ≤ y ∧ y ≤ 1000) :
    headX 0 [7,8,9,10,18,19,100,101,102] (execW progX 13 0 none (match x13l3 with | .loop _ a => a | c => c) (envL [7,8,9,10,18,19,100,101,102] [.pt 0 0,.pt 1 0,.fn (.func 47) [] [.pt 2 0,.pt 1 0],.pt 3 0,rI u,oS 6 os,rI u,I u.length,I (m : Nat)]) (hP l t cc (.sl 5 0 1 p) [some (.blk true (.cells true tc))] ++ oG os)) =
      some ([.pt 0 0,.pt 1 0,.fn (.func 47) [] [.pt 2 0,.pt 1 0],.pt 3 0,rI u,oS 6 (os ++ [toI l.ls.length t y]),rI u,I u.length,I (m + 1 : Nat)],hP l t cc (.sl 5 0 1 p) [some (.blk true (.cells true tc))] ++ oG (os ++ [toI l.ls.length t y])) := by
  have a1 := lt_ix (lt_of hy)
  have a2 := up_ix (lt_of hy) (by omega)
  have q1 : ((os.length + 1) * 8 ≤ 1099511627776) = True := eq_true (by omega)
  have q2 : (os.length + 1 ≤ 1099511627776) = True := eq_true (by omega)
  have w := w47 (n := l.ls.length) hn0 (by omega) ht hyb
  generalize toI l.ls.length t y = z at *
  unfold x13l3
  dsimp only
  by_cases hos : os = []
  · subst hos
    simp only [TR,TT,TS,TU,List.nil_append,List.length_nil,List.append_nil]
    (sym => (simp [irem2,iquo2,remF,cO_gr,cO_nm,cO_sl,cO_len,Za,Zb,Zd,Ze,Zf,Zg,Zh,Zj,Zl,Zm,Zn,Zu,Z0,Z2,Z8,ZG,ZO,ZP,ZS,ZT,ZU,Yg,Yh,Yj,Ys,Yv,Yw,YQ,YV,YX,YY,Xc,Xe,Xo,Xs,Xt,Xu,Xy,X0,Wc,Wm,Wy,Wz,W0,W3,W4,W5,W6,W7,W9,WA,WB,WC,WE,WF,WH,WI,WJ,WK,WL,WM,WN,WO,WP,WQ,WR,WS,WT,WV,WW,WX,Vb,Vc,Ve,Vf,Vg,Vh,Vr,Vt,Vu,Vv,VL,VM,VN,VO,VP,VU,VV,VW,VX,VY,Ua,Ub,Uc,Ud,Ue,Uf,Ui,Us,Uv,Uw,Ux,Uz,U0,U1,U2,U3,U4,U5,U6,U7,UE,UF,UG,UH,UQ,UR,US,UT,UY,UZ,Ta,Tb,Tc,Td,Th,Ti,Tk,Tq,Tr,Ts,Tt,Tu,Tv,Tw,Ty,T3,T4,T7,TA,TB,TC,TD,TE,TF,TH,TK,Sw,SD,SE,SG,a1,a2,hy,w]; all_goals tactic => exact rfl))
  · rw [oS_ne hos,oG_ne hos,oS_ne (show os ++ [z] ≠ [] by simp),oG_ne (show os ++ [z] ≠ [] by simp)]
    (sym => (simp [irem2,iquo2,remF,cO_gr,cO_nm,cO_sl,cO_len,Za,Zb,Zd,Ze,Zf,Zg,Zh,Zj,Zl,Zm,Zn,Zu,Z0,Z2,Z8,ZG,ZO,ZP,ZS,ZT,ZU,Yg,Yh,Yj,Ys,Yv,Yw,YQ,YV,YX,YY,Xc,Xe,Xo,Xs,Xt,Xu,Xy,X0,Wc,Wm,Wy,Wz,W0,W3,W4,W5,W6,W7,W9,WA,WB,WC,WE,WF,WH,WI,WJ,WK,WL,WM,WN,WO,WP,WQ,WR,WS,WT,WV,WW,WX,Vb,Vc,Ve,Vf,Vg,Vh,Vr,Vt,Vu,Vv,VL,VM,VN,VO,VP,VU,VV,VW,VX,VY,Ua,Ub,Uc,Ud,Ue,Uf,Ui,Us,Uv,Uw,Ux,Uz,U0,U1,U2,U3,U4,U5,U6,U7,UE,UF,UG,UH,UQ,UR,US,UT,UY,UZ,Ta,Tb,Tc,Td,Th,Ti,Tk,Tq,Tr,Ts,Tt,Tu,Tv,Tw,Ty,T3,T4,T7,TA,TB,TC,TD,TE,TF,TH,TK,Sw,SD,SE,SG,a1,a2,hy,w,q1,q2]; all_goals tactic => exact rfl))
def gP (l : Li) (t : Nat) (cc : List AV) (j : Nat) : XH := if j = 0 then hP l t cc .nilsl [] else hP l t cc (.sl 5 0 1 j) [some (.blk true (.cells true (cO (tsT l t j))))]
theorem cO_take {L : List (List Int)} {k : Nat} (h : k = L.length) : (cO L).take k = cO L := by
  rw [h,← cO_len]
  exact List.take_length
theorem round13c (g : Good l) (hn0 : 0 < l.ls.length) (h3 : l.ts.length ≤ 3) (h5 : ∀ t ∈ l.ts,t.length ≤ 5) {t : Nat} (ht : t < 256) {by' : AV} (hb : ∃ bs : List Nat,by' = .fs (bs.map fun v => [B8 v])) {cc : List AV} {j : Nat} (hj : j < l.ts.length) :
    headX 0 [1,7,8,9,10,71,72,73] (execW progX 13 0 none (match x13l2 with | .loop _ a => a | c => c) (envL [1,7,8,9,10,71,72,73] [by',.pt 0 0,.pt 1 0,.fn (.func 47) [] [.pt 2 0,.pt 1 0],.pt 3 0,tR l.ts,I l.ts.length,I (j : Nat)]) (gP l t cc j)) =
      some ([by',.pt 0 0,.pt 1 0,.fn (.func 47) [] [.pt 2 0,.pt 1 0],.pt 3 0,tR l.ts,I l.ts.length,I (j + 1 : Nat)],gP l t cc (j + 1)) := by
  have hn := g.few
  obtain ⟨u,hu⟩ := at_ix hj
  have hut := List.mem_of_getElem? hu
  have hu5 := h5 u hut
  have hub := g.tbd u hut
  have hune := g.tne u hut
  have a1 := lt_ix hj
  have a2 := up_ix hj (by omega)
  have z := Te (n := (u.length : Int))
  obtain ⟨F,hF⟩ : ∃ F : Nat → List Int,∀ m,F m = (u.take m).map (toI l.ls.length t) := ⟨_,fun _ => rfl⟩
  have F0 : F 0 = [] := by rw [hF]; rfl
  have Fl : ∀ m,(F m).length ≤ 5 := fun m => by rw [hF,List.length_map,List.length_take]; omega
  have rd := fun (H : XH) (b : Nat) (hH : (H = hP l t cc .nilsl [] ∧ b = 5) ∨ (∃ p tc,H = hP l t cc (.sl 5 0 1 p) [some (.blk true (.cells true tc))] ∧ b = 6)) (m : Nat) (hm : m < u.length) =>
    show headX 0 [1,7,8,9,10,15,71,72,73,77,78,79] (execW progX 13 0 none (match x13l1 with | .loop _ a => a | c => c) (envL [1,7,8,9,10,15,71,72,73,77,78,79] [by',.pt 0 0,.pt 1 0,.fn (.func 47) [] [.pt 2 0,.pt 1 0],.pt 3 0,oS b (F m),tR l.ts,I l.ts.length,I (j : Nat),rI u,I u.length,I (m : Nat)]) (H ++ oG (F m))) =
      some ([by',.pt 0 0,.pt 1 0,.fn (.func 47) [] [.pt 2 0,.pt 1 0],.pt 3 0,oS b (F (m + 1)),tR l.ts,I l.ts.length,I (j : Nat),rI u,I u.length,I (m + 1 : Nat)],H ++ oG (F (m + 1))) by
    have hy := List.getElem?_eq_getElem hm
    have hyb := hub _ (List.mem_of_getElem? hy)
    have e : F (m + 1) = F m ++ [toI l.ls.length t u[m]] := by rw [hF,hF,take_up hy,List.map_append]; rfl
    rw [e]
    exact round13b hn0 hn ht hb hH hy (by omega) (by have := Fl m; omega) (by omega)
  have Fn : F u.length = u.map (toI l.ls.length t) := by rw [hF,List.take_length]
  have hw : u.map (toI l.ls.length t) ≠ [] := by rw [Ne,List.map_eq_nil_iff]; exact hune
  have hw5 : (u.map (toI l.ls.length t)).length ≤ 5 := by rw [List.length_map]; exact hu5
  have ej : tsT l t (j + 1) = u.map (toI l.ls.length t) :: tsT l t j := by rw [tsT,getD_of hu]
  have hT := ts_len l t j
  have co : ∀ (a : List Int) (T : List (List Int)),cO (a :: T) = rI a :: cO T := fun _ _ => rfl
  clear hF hub hut
  obtain ⟨bs,rfl⟩ := hb
  unfold gP
  rw [if_neg (by omega : ¬ j + 1 = 0),ej,co]
  clear ej
  generalize u.map (toI l.ls.length t) = w at *
  generalize tsT l t j = T at *

  by_cases hj0 : j = 0
  · subst hj0
    obtain rfl : T = [] := List.eq_nil_of_length_eq_zero hT
    have cz : cO [] = [] := rfl
    rw [if_pos rfl,cz]
    have a1 : ((0 : Int) < (l.ts.length : Int)) = True := a1
    unfold x13l2
    dsimp only
    sym =>
      simp [irem2,iquo2,remF,cO_gr,cO_nm,cO_sl,cO_len,Za,Zb,Zc,Zd,Ze,Zf,Zg,Zh,Zj,Zl,Zm,Zn,Zu,Z0,Z2,Z6,Z8,ZE,ZG,ZK,ZL,ZS,ZZ,Yb,Yg,Yh,Yj,Ys,Yv,Yw,Yx,Y0,Y1,Y3,YQ,YV,YX,YY,Xa,Xc,Xe,Xg,Xh,Xk,Xo,Xs,Xt,Xu,Xw,Xy,XM,XU,XX,XY,XZ,Wa,Wb,Wg,Wo,Wp,Wy,Wz,W0,W3,W4,W6,W7,W9,WA,WB,WE,WF,WH,WI,WJ,WL,WN,WO,WP,WQ,WV,WW,WX,Vb,Vc,Vo,Vp,Vq,Vr,Vs,Vt,Vu,Vv,V1,V2,V3,VL,VM,VN,VO,VP,VQ,VR,VU,VV,VW,VX,VY,Ua,Ub,Uc,Ud,Ue,Uf,Ui,Uk,Us,Ut,Uv,Uw,Ux,Uy,Uz,U0,U2,U3,U4,U5,U6,U7,UA,UB,UE,UF,UG,UH,UQ,UR,US,UT,UX,UY,UZ,Ta,Tc,Td,Te,Tf,Tg,Th,Ti,Tk,Tl,Tm,Tq,Tr,Ts,Tt,Tu,Tv,Tw,Ty,Tz,T3,T4,T5,T7,T9,TA,TB,TC,TF,TG,TH,TI,TJ,TK,TR,TT,Sw,Sx,Sy,SD,SE,SG,a1,hu]
      tactic =>
        unfold x13l1
        rw [loop_rule u.length (fun m => [.fs (bs.map fun v => [B8 v]),.pt 0 0,.pt 1 0,.fn (.func 47) [] [.pt 2 0,.pt 1 0],.pt 3 0,oS 5 (F m),tR l.ts,I l.ts.length,I 0,rI u,I u.length,I (m : Nat)]) (fun m => hP l t cc .nilsl [] ++ oG (F m))]
        · rw [Fn,oS_ne hw,oG_ne hw]
          (sym => (simp [irem2,iquo2,remF,cO_gr,cO_nm,cO_sl,cO_len,Za,Zb,Zc,Zd,Ze,Zf,Zg,Zh,Zj,Zl,Zm,Zn,Zu,Z0,Z2,Z6,Z8,ZE,ZG,ZK,ZL,ZS,ZZ,Yb,Yg,Yh,Yj,Ys,Yv,Yw,Yx,Y0,Y1,Y3,YQ,YV,YX,YY,Xa,Xc,Xe,Xg,Xh,Xk,Xo,Xs,Xt,Xu,Xw,Xy,XM,XU,XX,XY,XZ,Wa,Wb,Wg,Wo,Wp,Wy,Wz,W0,W3,W4,W6,W7,W9,WA,WB,WE,WF,WH,WI,WJ,WL,WN,WO,WP,WQ,WV,WW,WX,Vb,Vc,Vo,Vp,Vq,Vr,Vs,Vt,Vu,Vv,V1,V2,V3,VL,VM,VN,VO,VP,VQ,VR,VU,VV,VW,VX,VY,Ua,Ub,Uc,Ud,Ue,Uf,Ui,Uk,Us,Ut,Uv,Uw,Ux,Uy,Uz,U0,U2,U3,U4,U5,U6,U7,UA,UB,UE,UF,UG,UH,UQ,UR,US,UT,UX,UY,UZ,Ta,Tc,Td,Te,Tf,Tg,Th,Ti,Tk,Tl,Tm,Tq,Tr,Ts,Tt,Tu,Tv,Tw,Ty,Tz,T3,T4,T5,T7,T9,TA,TB,TC,TF,TG,TH,TI,TJ,TK,TR,TT,Sw,Sx,Sy,SD,SE,SG,z,a2]; all_goals tactic => exact rfl))
        · rw [F0]
          (sym => (simp [irem2,iquo2,remF,cO_gr,cO_nm,cO_sl,cO_len,Za,Zb,Zc,Zd,Ze,Zf,Zg,Zh,Zj,Zl,Zm,Zn,Zu,Z0,Z2,Z6,Z8,ZE,ZG,ZK,ZL,ZS,ZZ,Yb,Yg,Yh,Yj,Ys,Yv,Yw,Yx,Y0,Y1,Y3,YQ,YV,YX,YY,Xa,Xc,Xe,Xg,Xh,Xk,Xo,Xs,Xt,Xu,Xw,Xy,XM,XU,XX,XY,XZ,Wa,Wb,Wg,Wo,Wp,Wy,Wz,W0,W3,W4,W6,W7,W9,WA,WB,WE,WF,WH,WI,WJ,WL,WN,WO,WP,WQ,WV,WW,WX,Vb,Vc,Vo,Vp,Vq,Vr,Vs,Vt,Vu,Vv,V1,V2,V3,VL,VM,VN,VO,VP,VQ,VR,VU,VV,VW,VX,VY,Ua,Ub,Uc,Ud,Ue,Uf,Ui,Uk,Us,Ut,Uv,Uw,Ux,Uy,Uz,U0,U2,U3,U4,U5,U6,U7,UA,UB,UE,UF,UG,UH,UQ,UR,US,UT,UX,UY,UZ,Ta,Tc,Td,Te,Tf,Tg,Th,Ti,Tk,Tl,Tm,Tq,Tr,Ts,Tt,Tu,Tv,Tw,Ty,Tz,T3,T4,T5,T7,T9,TA,TB,TC,TF,TG,TH,TI,TJ,TK,TR,TT,Sw,Sx,Sy,SD,SE,SG]; all_goals tactic => exact rfl))
        · exact rd _ _ (.inl ⟨rfl,rfl⟩)
        · rw [Fn,oS_ne hw,oG_ne hw]
          (sym => (simp [irem2,iquo2,remF,cO_gr,cO_nm,cO_sl,cO_len,Za,Zb,Zc,Zd,Ze,Zf,Zg,Zh,Zj,Zl,Zm,Zn,Zu,Z0,Z2,Z6,Z8,ZE,ZG,ZK,ZL,ZS,ZZ,Yb,Yg,Yh,Yj,Ys,Yv,Yw,Yx,Y0,Y1,Y3,YQ,YV,YX,YY,Xa,Xc,Xe,Xg,Xh,Xk,Xo,Xs,Xt,Xu,Xw,Xy,XM,XU,XX,XY,XZ,Wa,Wb,Wg,Wo,Wp,Wy,Wz,W0,W3,W4,W6,W7,W9,WA,WB,WE,WF,WH,WI,WJ,WL,WN,WO,WP,WQ,WV,WW,WX,Vb,Vc,Vo,Vp,Vq,Vr,Vs,Vt,Vu,Vv,V1,V2,V3,VL,VM,VN,VO,VP,VQ,VR,VU,VV,VW,VX,VY,Ua,Ub,Uc,Ud,Ue,Uf,Ui,Uk,Us,Ut,Uv,Uw,Ux,Uy,Uz,U0,U2,U3,U4,U5,U6,U7,UA,UB,UE,UF,UG,UH,UQ,UR,US,UT,UX,UY,UZ,Ta,Tc,Td,Te,Tf,Tg,Th,Ti,Tk,Tl,Tm,Tq,Tr,Ts,Tt,Tu,Tv,Tw,Ty,Tz,T3,T4,T5,T7,T9,TA,TB,TC,TF,TG,TH,TI,TJ,TK,TR,TT,Sw,Sx,Sy,SD,SE,SG,z]; all_goals tactic => exact rfl))
  · rw [if_neg hj0]
    have lT := cO_len T
    rw [hT] at lT
    have tk := cO_take hT.symm
    have q1 : ((j + 1) * 24 ≤ 1099511627776) = True := eq_true (by omega)
    have q2 : (j + 1 ≤ 1099511627776) = True := eq_true (by omega)
    have q3 : 1 + j = j + 1 := by omega
    have q4 : (j ≤ j) = True := eq_true (Nat.le_refl _)
    generalize cO T = tc at *
    have dr : List.drop 0 tc = tc := rfl
    unfold x13l2
    dsimp only
    sym =>
      simp [irem2,iquo2,remF,cO_gr,cO_nm,cO_sl,cO_len,Za,Zb,Zc,Zd,Ze,Zf,Zg,Zh,Zj,Zl,Zm,Zn,Zu,Z0,Z2,Z6,Z8,ZE,ZG,ZK,ZL,ZS,ZZ,Yb,Yg,Yh,Yj,Ys,Yv,Yw,Yx,Y0,Y1,Y3,YQ,YV,YX,YY,Xa,Xc,Xe,Xg,Xh,Xk,Xo,Xs,Xt,Xu,Xw,Xy,XM,XU,XX,XY,XZ,Wa,Wb,Wg,Wo,Wp,Wy,Wz,W0,W3,W4,W6,W7,W9,WA,WB,WE,WF,WH,WI,WJ,WL,WN,WO,WP,WQ,WV,WW,WX,Vb,Vc,Vo,Vp,Vq,Vr,Vs,Vt,Vu,Vv,V1,V2,V3,VL,VM,VN,VO,VP,VQ,VR,VU,VV,VW,VX,VY,Ua,Ub,Uc,Ud,Ue,Uf,Ui,Uk,Us,Ut,Uv,Uw,Ux,Uy,Uz,U0,U2,U3,U4,U5,U6,U7,UA,UB,UE,UF,UG,UH,UQ,UR,US,UT,UX,UY,UZ,Ta,Tc,Td,Te,Tf,Tg,Th,Ti,Tk,Tl,Tm,Tq,Tr,Ts,Tt,Tu,Tv,Tw,Ty,Tz,T3,T4,T5,T7,T9,TA,TB,TC,TF,TG,TH,TI,TJ,TK,TR,TT,Sw,Sx,Sy,SD,SE,SG,a1,hu]
      tactic =>
        unfold x13l1
        rw [loop_rule u.length (fun m => [.fs (bs.map fun v => [B8 v]),.pt 0 0,.pt 1 0,.fn (.func 47) [] [.pt 2 0,.pt 1 0],.pt 3 0,oS 6 (F m),tR l.ts,I l.ts.length,I (j : Nat),rI u,I u.length,I (m : Nat)]) (fun m => hP l t cc (.sl 5 0 1 j) [some (.blk true (.cells true tc))] ++ oG (F m))]
        · rw [Fn,oS_ne hw,oG_ne hw]
          (sym => (simp [irem2,iquo2,remF,cO_gr,cO_nm,cO_sl,cO_len,Za,Zb,Zc,Zd,Ze,Zf,Zg,Zh,Zj,Zl,Zm,Zn,Zu,Z0,Z2,Z6,Z8,ZE,ZG,ZK,ZL,ZS,ZZ,Yb,Yg,Yh,Yj,Ys,Yv,Yw,Yx,Y0,Y1,Y3,YQ,YV,YX,YY,Xa,Xc,Xe,Xg,Xh,Xk,Xo,Xs,Xt,Xu,Xw,Xy,XM,XU,XX,XY,XZ,Wa,Wb,Wg,Wo,Wp,Wy,Wz,W0,W3,W4,W6,W7,W9,WA,WB,WE,WF,WH,WI,WJ,WL,WN,WO,WP,WQ,WV,WW,WX,Vb,Vc,Vo,Vp,Vq,Vr,Vs,Vt,Vu,Vv,V1,V2,V3,VL,VM,VN,VO,VP,VQ,VR,VU,VV,VW,VX,VY,Ua,Ub,Uc,Ud,Ue,Uf,Ui,Uk,Us,Ut,Uv,Uw,Ux,Uy,Uz,U0,U2,U3,U4,U5,U6,U7,UA,UB,UE,UF,UG,UH,UQ,UR,US,UT,UX,UY,UZ,Ta,Tc,Td,Te,Tf,Tg,Th,Ti,Tk,Tl,Tm,Tq,Tr,Ts,Tt,Tu,Tv,Tw,Ty,Tz,T3,T4,T5,T7,T9,TA,TB,TC,TF,TG,TH,TI,TJ,TK,TR,TT,Sw,Sx,Sy,SD,SE,SG,z,a2,q1,q2,q3,q4,lT,tk,dr]; all_goals tactic => exact rfl))
        · rw [F0]
          (sym => (simp [irem2,iquo2,remF,cO_gr,cO_nm,cO_sl,cO_len,Za,Zb,Zc,Zd,Ze,Zf,Zg,Zh,Zj,Zl,Zm,Zn,Zu,Z0,Z2,Z6,Z8,ZE,ZG,ZK,ZL,ZS,ZZ,Yb,Yg,Yh,Yj,Ys,Yv,Yw,Yx,Y0,Y1,Y3,YQ,YV,YX,YY,Xa,Xc,Xe,Xg,Xh,Xk,Xo,Xs,Xt,Xu,Xw,Xy,XM,XU,XX,XY,XZ,Wa,Wb,Wg,Wo,Wp,Wy,Wz,W0,W3,W4,W6,W7,W9,WA,WB,WE,WF,WH,WI,WJ,WL,WN,WO,WP,WQ,WV,WW,WX,Vb,Vc,Vo,Vp,Vq,Vr,Vs,Vt,Vu,Vv,V1,V2,V3,VL,VM,VN,VO,VP,VQ,VR,VU,VV,VW,VX,VY,Ua,Ub,Uc,Ud,Ue,Uf,Ui,Uk,Us,Ut,Uv,Uw,Ux,Uy,Uz,U0,U2,U3,U4,U5,U6,U7,UA,UB,UE,UF,UG,UH,UQ,UR,US,UT,UX,UY,UZ,Ta,Tc,Td,Te,Tf,Tg,Th,Ti,Tk,Tl,Tm,Tq,Tr,Ts,Tt,Tu,Tv,Tw,Ty,Tz,T3,T4,T5,T7,T9,TA,TB,TC,TF,TG,TH,TI,TJ,TK,TR,TT,Sw,Sx,Sy,SD,SE,SG]; all_goals tactic => exact rfl))
        · exact rd _ _ (.inr ⟨_,_,rfl,rfl⟩)
        · rw [Fn,oS_ne hw,oG_ne hw]
          (sym => (simp [irem2,iquo2,remF,cO_gr,cO_nm,cO_sl,cO_len,Za,Zb,Zc,Zd,Ze,Zf,Zg,Zh,Zj,Zl,Zm,Zn,Zu,Z0,Z2,Z6,Z8,ZE,ZG,ZK,ZL,ZS,ZZ,Yb,Yg,Yh,Yj,Ys,Yv,Yw,Yx,Y0,Y1,Y3,YQ,YV,YX,YY,Xa,Xc,Xe,Xg,Xh,Xk,Xo,Xs,Xt,Xu,Xw,Xy,XM,XU,XX,XY,XZ,Wa,Wb,Wg,Wo,Wp,Wy,Wz,W0,W3,W4,W6,W7,W9,WA,WB,WE,WF,WH,WI,WJ,WL,WN,WO,WP,WQ,WV,WW,WX,Vb,Vc,Vo,Vp,Vq,Vr,Vs,Vt,Vu,Vv,V1,V2,V3,VL,VM,VN,VO,VP,VQ,VR,VU,VV,VW,VX,VY,Ua,Ub,Uc,Ud,Ue,Uf,Ui,Uk,Us,Ut,Uv,Uw,Ux,Uy,Uz,U0,U2,U3,U4,U5,U6,U7,UA,UB,UE,UF,UG,UH,UQ,UR,US,UT,UX,UY,UZ,Ta,Tc,Td,Te,Tf,Tg,Th,Ti,Tk,Tl,Tm,Tq,Tr,Ts,Tt,Tu,Tv,Tw,Ty,Tz,T3,T4,T5,T7,T9,TA,TB,TC,TF,TG,TH,TI,TJ,TK,TR,TT,Sw,Sx,Sy,SD,SE,SG,z]; all_goals tactic => exact rfl))
end
end Go.Proofs.YtpbeclkpohehgaaDoor
namespace Go.Proofs.YtpbeclkpohehgaaDoor
open Go Go.DL
set_option maxRecDepth 100000
set_option maxHeartbeats 8000000
theorem ofN_map (ks : List Nat) (n t : Nat) : (ofN ks).map (toI n t) = ofN (ks.map (toN n t)) := by
  unfold ofN
  rw [List.map_map,List.map_map]
  exact List.map_congr_left fun k _ => toI_n n t k
section
variable {l : Li}
abbrev hQ13 (l : Li) (t : Nat) : XH := [some (.blk true (.cells true l.c)),some (.blk true (.cells true [B8 t])),some (.blk true (.cells true [I l.ls.length]))]
theorem round13e (hn0 : 0 < l.ls.length) (hn : l.ls.length ≤ 10) {t : Nat} (ht : t < 256) {r : List Int} {a b c d : List Sp} (hc : c.length = l.ls.length) (hd : d.length = l.ls.length) (ha : a.length = l.ls.length) (hb : b.length = l.ls.length) {k : Nat} (hk : k < l.ls.length) {e s : Sp} (ea : a[k]? = some e) (eb : b[k]? = some s) (ec : c[toN l.ls.length t k]? = some e) (ed : d[toN l.ls.length t k]? = some s) :
    headX 0 [7,9,19,22,23,25,26,183,184] (execW progX 13 0 none (match x13l4 with | .loop _ a => a | c => c) (envL [7,9,19,22,23,25,26,183,184] [.pt 0 0,.fn (.func 47) [] [.pt 1 0,.pt 2 0],rI r,sR a,sR b,sR c,sR d,I l.ls.length,I (k : Nat)]) (hQ13 l t)) =
      some ([.pt 0 0,.fn (.func 47) [] [.pt 1 0,.pt 2 0],rI r,sR a,sR b,sR c,sR d,I l.ls.length,I (k + 1 : Nat)],hQ13 l t) := by
  have a1 := lt_ix hk
  have a2 := up_ix hk (by omega)
  have w := w47 (n := l.ls.length) (by omega) (by omega) ht (v := (k : Int)) (by omega)
  rw [toI_n] at w
  have hm := to_lt (n := l.ls.length) (t := t) (k := k) (by omega)
  generalize toN l.ls.length t k = m at *
  have k1 : (0 ≤ (m : Int)) = True := eq_true (by omega)
  have k2 : ((m : Int) < (l.ls.length : Int)) = True := eq_true (by omega)
  unfold x13l4
  dsimp only
  (sym => (simp [irem2,iquo2,remF,cO_gr,cO_nm,cO_sl,cO_len,cL_fl,cL_all,Za,Zb,Zf,Zh,Zi,Zl,Zm,Zo,Zq,Zu,Zx,Z2,Z3,Z8,ZI,ZJ,ZM,ZQ,ZR,ZT,ZU,ZW,Yg,Yh,Yj,Ys,Yv,Yw,YF,YG,YQ,YV,YY,Xc,Xo,Xs,Xu,Xy,Wy,W3,W4,W5,W6,W7,WA,WB,WC,WE,WF,WH,WI,WJ,WK,WL,WM,WN,WO,WP,WQ,WR,WS,WT,WV,WW,Vb,Ve,Vf,Vg,Vh,Vj,Vk,VL,VM,VN,VO,VP,VQ,VU,VV,VW,VX,VY,Ua,Ub,Uc,Ud,Ue,Uf,Ui,Ul,Us,Uw,Ux,Uz,U1,U2,U3,U4,U5,UI,UJ,UK,UL,Th,Ti,Tj,Tv,Tw,Ty,T3,T4,T7,TA,TB,TC,TH,a1,a2,w,k1,k2,ha,hb,hc,hd,ea,eb,ec,ed]; all_goals tactic => exact rfl))
end
theorem w13 {q : Qu} (hq : q.Ok) {bs : List Nat} (hb : ∀ v ∈ bs,v < 256) (hbl : bs.length ≤ maxLen) {t : Nat} (ht : t < 256) : runW progX 13 [.agg q.c,.fs (bs.map fun v => [B8 v]),B8 t] [] = some (.bool true,[]) := by
  have e39 := w39 hq
  have hc := md_good hq
  have hf := md_fit q
  have sm := md_small hq
  have sh := md_short q
  generalize mdL q = l at *
  obtain ⟨sm1,sm2,n5⟩ := sm
  obtain ⟨sh1,sh2⟩ := sh
  have g := good_of hc
  by_cases hn : l.ls.length = 0
  · have c0 : ((l.ls.length : Int) = 0) = True := eq_true (by omega)
    rw [r13 (by simp)]; unfold x13; dsimp only
    (sym => (simp [irem2,iquo2,remF,cO_gr,cO_nm,cO_sl,cO_len,cL_fl,cL_all,Za,Zb,Zc,Zd,Ze,Zf,Zg,Zh,Zi,Zj,Zl,Zm,Zn,Zo,Zp,Zq,Zu,Zv,Zw,Zx,Zy,Zz,Z0,Z2,Z6,ZA,ZD,ZE,ZG,ZH,ZJ,ZK,ZL,ZM,ZN,ZO,ZP,ZT,ZU,ZV,ZW,ZZ,Yb,Yi,Yq,Yr,Ys,Yv,Yw,Y1,YN,YQ,YR,YT,YV,YX,YY,Xa,Xc,Xe,Xf,Xg,Xh,Xk,Xo,Xp,Xq,Xr,Xs,Xt,Xu,Xw,Xy,X0,XI,XL,XM,XU,XX,XY,XZ,Wb,Wc,Wd,We,Wg,Wm,Wn,Wo,Wp,Ww,Wy,Wz,W0,W3,W4,W5,W6,W7,W8,W9,WA,WB,WE,WF,WH,WI,WJ,WK,WL,WM,WN,WO,WP,WQ,WR,WS,WV,WW,WX,Vb,Vc,Ve,Vf,Vg,Vi,Vo,Vp,Vq,Vr,Vs,Vt,Vu,Vv,Vw,Vx,Vy,Vz,V0,V1,V2,V3,V5,V6,V8,V9,VA,VB,VC,VF,VG,VH,VI,VK,VL,VM,VN,VO,VP,VQ,VR,VT,VU,VV,VW,VX,VY,Ua,Ub,Uc,Ud,Uf,Ui,Uk,Ul,Um,Un,Us,Ut,Uv,Uw,Ux,Uy,Uz,U0,U1,U2,U3,U4,U5,U6,U7,U8,U9,UA,UB,UC,UD,UE,UF,UG,UH,UO,UP,UQ,UR,US,UT,UV,UW,Te,Tf,Tg,Tj,Tk,Tl,Tm,Tq,Tv,Tw,Tx,Ty,Tz,T3,T4,T5,T6,T9,TA,TB,TC,TF,TG,TH,TI,TJ,TK,TN,TO,TR,TT,Sv,Sw,Sx,Sy,SB,SD,SE,SF,SG,e39,c0,works_w]; all_goals tactic => exact rfl))
  · have c0 : ((l.ls.length : Int) = 0) = False := eq_false (by omega)
    have hn0 : 0 < l.ls.length := by omega
    have e40 := w40 g hf hb hbl
    have hv := by_vld bs g.prec g.few
    generalize byO bs l.ls.length (behF l.ts) = ks at *
    have hr := ord_ok g hc hv
    have hkl := vld_len hv
    rw [pop_0,Nat.zero_add] at hkl
    have hkb := vld_lt hv
    have g2 := good_of (rot_ok g (t := t))
    have hv2 := rot_vld g (t := t) hv
    have hr2 := ord_ok g2 (rot_ok g) hv2
    have fo : (rotL l t).Fit := ⟨by show (tsT l t l.ts.length).length ≤ _; rw [ts_len]; omega,fun u hu => by
      obtain ⟨j,h1,rfl⟩ := ts_mem.1 hu
      rw [List.length_map]
      have := sh2 _ (ix_mem (d := []) h1)
      omega⟩
    have e17 := w17 l hf (ofN ks)
    have e17o := w17 (rotL l t) fo (ofN (ks.map (toN l.ls.length t)))
    unfold runR at e17 e17o
    rw [if_pos hr] at e17
    rw [if_pos hr2] at e17o
    have e29 := w29 l hf
    have e29o := w29 (rotL l t) fo
    unfold bestR at e29 e29o
    rw [if_pos hc] at e29
    rw [if_pos (rot_ok g),rot_min g] at e29o
    have run := fun (k : Nat) (hk : k < l.ls.length) => rot_run hr hr2 hkb hk
    have oc : (rotL l t).c = [kR l.ks,lR (lsT l t l.ls.length),tR (tsT l t l.ts.length),I l.lo,I l.hi] := rfl
    obtain ⟨nd,_⟩ := vld_nd hv2
    have rl : (rotL l t).ls.length = l.ls.length := ls_len l t _
    have al : ∀ j,j < l.ls.length → j ∈ ks.map (toN l.ls.length t) := fun j hj => by
      rcases vld_all hv2 j (by omega) with h | h
      · rw [Nat.zero_testBit] at h; simp at h
      · exact h
    have lt2 : ∀ k ∈ ks.map (toN l.ls.length t),k < l.ls.length := fun k hk => by
      have := vld_lt hv2 k hk
      omega
    have f1 : (oneL l (ks.map (toN l.ls.length t))).Fit := ⟨by show (1 : Nat) ≤ _; omega,fun u hu => by
      obtain rfl := List.mem_singleton.1 hu
      rw [ofN_len,List.length_map]
      omega⟩
    have e29n := w29 _ f1
    unfold bestR at e29n
    rw [if_pos (one_ok g nd al lt2 hn0),one_best g nd al lt2 hn0] at e29n
    have oc1 : (oneL l (ks.map (toN l.ls.length t))).c = [kR l.ks,lR l.ls,.fs [[rI (ofN (ks.map (toN l.ls.length t)))]],I l.lo,I l.hi] := rfl
    have wn := w34s (ofN (ks.map (toN l.ls.length t))) (by rw [ofN_len,List.length_map]; omega)
    have pl : (ofN ks).length = l.ls.length := by rw [ofN_len]; omega
    have pb : ∀ v ∈ ofN ks,0 ≤ v ∧ v < l.ls.length := fun v hv => by
      unfold ofN at hv
      obtain ⟨k,hk,rfl⟩ := List.mem_map.1 hv
      have := hkb k hk
      show 0 ≤ (k : Int) ∧ (k : Int) < (l.ls.length : Int)
      omega
    have rn : ofN (ks.map (toN l.ls.length t)) ≠ [] := fun h => by
      have := congrArg List.length h
      rw [ofN_len,List.length_map] at this
      have : ks.length = 0 := this
      omega
    have rll : (ofN (ks.map (toN l.ls.length t))).length = l.ls.length := by rw [ofN_len,List.length_map]; omega
    obtain ⟨F,hF⟩ : ∃ F : Nat → List Int,∀ m,F m = ((ofN ks).take m).map (toI l.ls.length t) := ⟨_,fun _ => rfl⟩
    have F0 : F 0 = [] := by rw [hF]; rfl
    have Fn : F l.ls.length = ofN (ks.map (toN l.ls.length t)) := by rw [hF,← pl,List.take_length,pl]; exact ofN_map ks _ t
    rw [oc] at e17o e29o
    rw [oc1] at e29n
    generalize minW (oneL l (ks.map (toN l.ls.length t))) = m1 at *
    generalize ofN (bestO (rotL l t)) = bo at *
    generalize ofN (bestO l) = bl at *
    have la : (eA l (ofN ks) (ofN ks).length).length = l.ls.length := eA_len ..
    have lb : (sA l (ofN ks) (ofN ks).length).length = l.ls.length := sA_len ..
    have lc : (eA (rotL l t) (ofN (ks.map (toN l.ls.length t))) (ofN (ks.map (toN l.ls.length t))).length).length = l.ls.length := by rw [eA_len]; exact rl
    have ld : (sA (rotL l t) (ofN (ks.map (toN l.ls.length t))) (ofN (ks.map (toN l.ls.length t))).length).length = l.ls.length := by rw [sA_len]; exact rl
    generalize ofN (ks.map (toN l.ls.length t)) = r at *
    generalize eA l (ofN ks) (ofN ks).length = a at *
    generalize sA l (ofN ks) (ofN ks).length = b at *
    generalize eA (rotL l t) r r.length = c at *
    generalize sA (rotL l t) r r.length = d at *
    generalize ofN ks = p at *
    have hb' : ∃ bs' : List Nat,AV.fs (bs.map fun v => [B8 v]) = .fs (bs'.map fun v => [B8 v]) := ⟨bs,rfl⟩
    have cl := cL_len (lsT l t l.ls.length)
    have ch := cL_ch (lsT l t l.ls.length)
    rw [ls_len] at cl ch
    have c00 : cL (lsT l t 0) = (List.replicate l.ls.length [I 0,I 0,I 0,I 0,I 0]).flatten := (cL_rep _).symm
    have rd0 := fun j (hj : j < l.ls.length) => round13a (l := l) g.few ht hb' hj
    have rd2 := fun j (hj : j < l.ts.length) => round13c g hn0 sh1 sh2 ht hb' (cc := cL (lsT l t l.ls.length)) hj
    have tn : 0 < l.ts.length := by
      obtain ⟨u,hu,_⟩ := g.tal 0 hn0
      exact List.length_pos_of_mem hu
    have g0 : gP l t (cL (lsT l t l.ls.length)) 0 = hP l t (cL (lsT l t l.ls.length)) .nilsl [] := rfl
    have gn : gP l t (cL (lsT l t l.ls.length)) l.ts.length = hP l t (cL (lsT l t l.ls.length)) (.sl 5 0 1 l.ts.length) [some (.blk true (.cells true (cO (tsT l t l.ts.length))))] := by
      unfold gP
      rw [if_neg (by omega)]
    have lT := cO_len (tsT l t l.ts.length)
    have tch := cO_ch (tsT l t l.ts.length)
    rw [ts_len] at lT tch
    have tl := ts_len l t l.ts.length
    generalize tsT l t l.ts.length = T at *
    have rd3 : ∀ m,m < l.ls.length → headX 0 [7,8,9,10,18,19,100,101,102] (execW progX 13 0 none (match x13l3 with | .loop _ a => a | c => c) (envL [7,8,9,10,18,19,100,101,102] [.pt 0 0,.pt 1 0,.fn (.func 47) [] [.pt 2 0,.pt 1 0],.pt 3 0,rI p,oS 6 (F m),rI p,I l.ls.length,I (m : Nat)]) (hP l t (cL (lsT l t l.ls.length)) (.sl 5 0 1 l.ts.length) [some (.blk true (.cells true (cO T)))] ++ oG (F m))) =
      some ([.pt 0 0,.pt 1 0,.fn (.func 47) [] [.pt 2 0,.pt 1 0],.pt 3 0,rI p,oS 6 (F (m + 1)),rI p,I l.ls.length,I (m + 1 : Nat)],hP l t (cL (lsT l t l.ls.length)) (.sl 5 0 1 l.ts.length) [some (.blk true (.cells true (cO T)))] ++ oG (F (m + 1))) := by
      intro m hm
      obtain ⟨y,hy⟩ := at_ix (l := p) (i := m) (by omega)
      have hyb := pb y (List.mem_of_getElem? hy)
      have e : F (m + 1) = F m ++ [toI l.ls.length t y] := by rw [hF,hF,take_up hy,List.map_append]; rfl
      have := round13d hn0 g.few ht (cc := cL (lsT l t l.ls.length)) (p := l.ts.length) (tc := cO T) (os := F m) hy (by omega) (by rw [hF,List.length_map,List.length_take]; omega) (by omega)
      rw [e,← pl]
      rw [← pl] at this
      exact this
    have rd4 : ∀ k,k < l.ls.length → headX 0 [7,9,19,22,23,25,26,183,184] (execW progX 13 0 none (match x13l4 with | .loop _ a => a | c => c) (envL [7,9,19,22,23,25,26,183,184] [.pt 0 0,.fn (.func 47) [] [.pt 1 0,.pt 2 0],rI r,sR a,sR b,sR c,sR d,I l.ls.length,I (k : Nat)]) (hQ13 l t)) =
      some ([.pt 0 0,.fn (.func 47) [] [.pt 1 0,.pt 2 0],rI r,sR a,sR b,sR c,sR d,I l.ls.length,I (k + 1 : Nat)],hQ13 l t) := by
      intro k hk
      obtain ⟨e,s,h1,h2,h3,h4⟩ := run k hk
      exact round13e hn0 g.few ht lc ld la lb hk h1 h2 h3 h4
    have z := Te (n := (l.ls.length : Int))
    have z2 := Te (n := (l.ts.length : Int))
    have k1 : (0 ≤ (l.ls.length : Int)) = True := eq_true (by omega)
    have k2 : (40 * (l.ls.length : Int) ≤ 281474976710656) = True := eq_true (by omega)
    have k3 : ((l.ls.length : Int) ≤ 9223372036854775807) = True := eq_true (by omega)
    have k4 : ((l.ls.length : Int) ≤ (l.ls.length : Int)) = True := eq_true (by omega)
    have p6 : (l.ls.length * 5 ≤ l.ls.length * 5) = True := eq_true (Nat.le_refl _)
    have p7 : (l.ts.length ≤ l.ts.length) = True := eq_true (Nat.le_refl _)
    generalize hcc : cL (lsT l t l.ls.length) = cc at *
    clear run hF hr hr2 hv hv2 nd al lt2 f1 fo
    rw [r13 (by simp)]; unfold x13; dsimp only
    sym =>
      simp [irem2,iquo2,remF,cO_gr,cO_nm,cO_sl,cO_len,cL_fl,cL_all,Za,Zb,Zc,Zd,Ze,Zf,Zg,Zh,Zi,Zj,Zl,Zm,Zn,Zo,Zp,Zq,Zu,Zv,Zw,Zx,Zy,Zz,Z0,Z2,Z6,ZA,ZD,ZE,ZG,ZH,ZJ,ZK,ZL,ZM,ZN,ZO,ZP,ZT,ZU,ZV,ZW,ZZ,Yb,Yi,Yq,Yr,Ys,Yv,Yw,Y1,YN,YQ,YR,YT,YV,YX,YY,Xa,Xc,Xe,Xf,Xg,Xh,Xk,Xo,Xp,Xq,Xr,Xs,Xt,Xu,Xw,Xy,X0,XI,XL,XM,XU,XX,XY,XZ,Wb,Wc,Wd,We,Wg,Wm,Wn,Wo,Wp,Ww,Wy,Wz,W0,W3,W4,W5,W6,W7,W8,W9,WA,WB,WE,WF,WH,WI,WJ,WK,WL,WM,WN,WO,WP,WQ,WR,WS,WV,WW,WX,Vb,Vc,Ve,Vf,Vg,Vi,Vo,Vp,Vq,Vr,Vs,Vt,Vu,Vv,Vw,Vx,Vy,Vz,V0,V1,V2,V3,V5,V6,V8,V9,VA,VB,VC,VF,VG,VH,VI,VK,VL,VM,VN,VO,VP,VQ,VR,VT,VU,VV,VW,VX,VY,Ua,Ub,Uc,Ud,Uf,Ui,Uk,Ul,Um,Un,Us,Ut,Uv,Uw,Ux,Uy,Uz,U0,U1,U2,U3,U4,U5,U6,U7,U8,U9,UA,UB,UC,UD,UE,UF,UG,UH,UO,UP,UQ,UR,US,UT,UV,UW,Te,Tf,Tg,Tj,Tk,Tl,Tm,Tq,Tv,Tw,Tx,Ty,Tz,T3,T4,T5,T6,T9,TA,TB,TC,TF,TG,TH,TI,TJ,TK,TN,TO,TR,TT,Sv,Sw,Sx,Sy,SB,SD,SE,SF,SG,e39,c0,k1,k2,k3,k4]
      tactic =>
        unfold x13l0
        rw [loop_rule l.ls.length (fun j => [.fs (bs.map fun v => [B8 v]),.pt 0 0,.pt 1 0,.fn (.func 47) [] [.pt 2 0,.pt 1 0],.pt 3 0,lR l.ls,I l.ls.length,I (j : Nat)]) (fun j => hP l t (cL (lsT l t j)) .nilsl [])]
        · sym =>
            simp [irem2,iquo2,remF,cO_gr,cO_nm,cO_sl,cO_len,cL_fl,cL_all,Za,Zb,Zc,Zd,Ze,Zf,Zg,Zh,Zi,Zj,Zl,Zm,Zn,Zo,Zp,Zq,Zu,Zv,Zw,Zx,Zy,Zz,Z0,Z2,Z6,ZA,ZD,ZE,ZG,ZH,ZJ,ZK,ZL,ZM,ZN,ZO,ZP,ZT,ZU,ZV,ZW,ZZ,Yb,Yi,Yq,Yr,Ys,Yv,Yw,Y1,YN,YQ,YR,YT,YV,YX,YY,Xa,Xc,Xe,Xf,Xg,Xh,Xk,Xo,Xp,Xq,Xr,Xs,Xt,Xu,Xw,Xy,X0,XI,XL,XM,XU,XX,XY,XZ,Wb,Wc,Wd,We,Wg,Wm,Wn,Wo,Wp,Ww,Wy,Wz,W0,W3,W4,W5,W6,W7,W8,W9,WA,WB,WE,WF,WH,WI,WJ,WK,WL,WM,WN,WO,WP,WQ,WR,WS,WV,WW,WX,Vb,Vc,Ve,Vf,Vg,Vi,Vo,Vp,Vq,Vr,Vs,Vt,Vu,Vv,Vw,Vx,Vy,Vz,V0,V1,V2,V3,V5,V6,V8,V9,VA,VB,VC,VF,VG,VH,VI,VK,VL,VM,VN,VO,VP,VQ,VR,VT,VU,VV,VW,VX,VY,Ua,Ub,Uc,Ud,Uf,Ui,Uk,Ul,Um,Un,Us,Ut,Uv,Uw,Ux,Uy,Uz,U0,U1,U2,U3,U4,U5,U6,U7,U8,U9,UA,UB,UC,UD,UE,UF,UG,UH,UO,UP,UQ,UR,US,UT,UV,UW,Te,Tf,Tg,Tj,Tk,Tl,Tm,Tq,Tv,Tw,Tx,Ty,Tz,T3,T4,T5,T6,T9,TA,TB,TC,TF,TG,TH,TI,TJ,TK,TN,TO,TR,TT,Sv,Sw,Sx,Sy,SB,SD,SE,SF,SG,z]
            tactic =>
              unfold x13l2
              rw [loop_rule l.ts.length (fun j => [.fs (bs.map fun v => [B8 v]),.pt 0 0,.pt 1 0,.fn (.func 47) [] [.pt 2 0,.pt 1 0],.pt 3 0,tR l.ts,I l.ts.length,I (j : Nat)]) (fun j => gP l t cc j)]
              · rw [gn]
                sym =>
                  simp [irem2,iquo2,remF,cO_gr,cO_nm,cO_sl,cO_len,cL_fl,cL_all,Za,Zb,Zc,Zd,Ze,Zf,Zg,Zh,Zi,Zj,Zl,Zm,Zn,Zo,Zp,Zq,Zu,Zv,Zw,Zx,Zy,Zz,Z0,Z2,Z6,ZA,ZD,ZE,ZG,ZH,ZJ,ZK,ZL,ZM,ZN,ZO,ZP,ZT,ZU,ZV,ZW,ZZ,Yb,Yi,Yq,Yr,Ys,Yv,Yw,Y1,YN,YQ,YR,YT,YV,YX,YY,Xa,Xc,Xe,Xf,Xg,Xh,Xk,Xo,Xp,Xq,Xr,Xs,Xt,Xu,Xw,Xy,X0,XI,XL,XM,XU,XX,XY,XZ,Wb,Wc,Wd,We,Wg,Wm,Wn,Wo,Wp,Ww,Wy,Wz,W0,W3,W4,W5,W6,W7,W8,W9,WA,WB,WE,WF,WH,WI,WJ,WK,WL,WM,WN,WO,WP,WQ,WR,WS,WV,WW,WX,Vb,Vc,Ve,Vf,Vg,Vi,Vo,Vp,Vq,Vr,Vs,Vt,Vu,Vv,Vw,Vx,Vy,Vz,V0,V1,V2,V3,V5,V6,V8,V9,VA,VB,VC,VF,VG,VH,VI,VK,VL,VM,VN,VO,VP,VQ,VR,VT,VU,VV,VW,VX,VY,Ua,Ub,Uc,Ud,Uf,Ui,Uk,Ul,Um,Un,Us,Ut,Uv,Uw,Ux,Uy,Uz,U0,U1,U2,U3,U4,U5,U6,U7,U8,U9,UA,UB,UC,UD,UE,UF,UG,UH,UO,UP,UQ,UR,US,UT,UV,UW,Te,Tf,Tg,Tj,Tk,Tl,Tm,Tq,Tv,Tw,Tx,Ty,Tz,T3,T4,T5,T6,T9,TA,TB,TC,TF,TG,TH,TI,TJ,TK,TN,TO,TR,TT,Sv,Sw,Sx,Sy,SB,SD,SE,SF,SG,z2,e40,pl]
                  tactic =>
                    unfold x13l3
                    rw [loop_rule l.ls.length (fun m => [.pt 0 0,.pt 1 0,.fn (.func 47) [] [.pt 2 0,.pt 1 0],.pt 3 0,rI p,oS 6 (F m),rI p,I l.ls.length,I (m : Nat)]) (fun m => hP l t cc (.sl 5 0 1 l.ts.length) [some (.blk true (.cells true (cO T)))] ++ oG (F m))]
                    · rw [Fn,oS_ne rn,oG_ne rn]
                      sym =>
                        simp [irem2,iquo2,remF,cO_gr,cO_nm,cO_sl,cO_len,cL_fl,cL_all,Za,Zb,Zc,Zd,Ze,Zf,Zg,Zh,Zi,Zj,Zl,Zm,Zn,Zo,Zp,Zq,Zu,Zv,Zw,Zx,Zy,Zz,Z0,Z2,Z6,ZA,ZD,ZE,ZG,ZH,ZJ,ZK,ZL,ZM,ZN,ZO,ZP,ZT,ZU,ZV,ZW,ZZ,Yb,Yi,Yq,Yr,Ys,Yv,Yw,Y1,YN,YQ,YR,YT,YV,YX,YY,Xa,Xc,Xe,Xf,Xg,Xh,Xk,Xo,Xp,Xq,Xr,Xs,Xt,Xu,Xw,Xy,X0,XI,XL,XM,XU,XX,XY,XZ,Wb,Wc,Wd,We,Wg,Wm,Wn,Wo,Wp,Ww,Wy,Wz,W0,W3,W4,W5,W6,W7,W8,W9,WA,WB,WE,WF,WH,WI,WJ,WK,WL,WM,WN,WO,WP,WQ,WR,WS,WV,WW,WX,Vb,Vc,Ve,Vf,Vg,Vi,Vo,Vp,Vq,Vr,Vs,Vt,Vu,Vv,Vw,Vx,Vy,Vz,V0,V1,V2,V3,V5,V6,V8,V9,VA,VB,VC,VF,VG,VH,VI,VK,VL,VM,VN,VO,VP,VQ,VR,VT,VU,VV,VW,VX,VY,Ua,Ub,Uc,Ud,Uf,Ui,Uk,Ul,Um,Un,Us,Ut,Uv,Uw,Ux,Uy,Uz,U0,U1,U2,U3,U4,U5,U6,U7,U8,U9,UA,UB,UC,UD,UE,UF,UG,UH,UO,UP,UQ,UR,US,UT,UV,UW,Te,Tf,Tg,Tj,Tk,Tl,Tm,Tq,Tv,Tw,Tx,Ty,Tz,T3,T4,T5,T6,T9,TA,TB,TC,TF,TG,TH,TI,TJ,TK,TN,TO,TR,TT,Sv,Sw,Sx,Sy,SB,SD,SE,SF,SG,z,e17,e17o,e29,e29o,ch,tch,cl,lT,tl,p6,p7,la,lb,lc,ld]
                        tactic =>
                          unfold x13l4
                          rw [loop_rule l.ls.length (fun k => [.pt 0 0,.fn (.func 47) [] [.pt 1 0,.pt 2 0],rI r,sR a,sR b,sR c,sR d,I l.ls.length,I (k : Nat)]) (fun _ => hQ13 l t)]
                          · (sym => (simp [irem2,iquo2,remF,cO_gr,cO_nm,cO_sl,cO_len,cL_fl,cL_all,Za,Zb,Zc,Zd,Ze,Zf,Zg,Zh,Zi,Zj,Zl,Zm,Zn,Zo,Zp,Zq,Zu,Zv,Zw,Zx,Zy,Zz,Z0,Z2,Z6,ZA,ZD,ZE,ZG,ZH,ZJ,ZK,ZL,ZM,ZN,ZO,ZP,ZT,ZU,ZV,ZW,ZZ,Yb,Yi,Yq,Yr,Ys,Yv,Yw,Y1,YN,YQ,YR,YT,YV,YX,YY,Xa,Xc,Xe,Xf,Xg,Xh,Xk,Xo,Xp,Xq,Xr,Xs,Xt,Xu,Xw,Xy,X0,XI,XL,XM,XU,XX,XY,XZ,Wb,Wc,Wd,We,Wg,Wm,Wn,Wo,Wp,Ww,Wy,Wz,W0,W3,W4,W5,W6,W7,W8,W9,WA,WB,WE,WF,WH,WI,WJ,WK,WL,WM,WN,WO,WP,WQ,WR,WS,WV,WW,WX,Vb,Vc,Ve,Vf,Vg,Vi,Vo,Vp,Vq,Vr,Vs,Vt,Vu,Vv,Vw,Vx,Vy,Vz,V0,V1,V2,V3,V5,V6,V8,V9,VA,VB,VC,VF,VG,VH,VI,VK,VL,VM,VN,VO,VP,VQ,VR,VT,VU,VV,VW,VX,VY,Ua,Ub,Uc,Ud,Uf,Ui,Uk,Ul,Um,Un,Us,Ut,Uv,Uw,Ux,Uy,Uz,U0,U1,U2,U3,U4,U5,U6,U7,U8,U9,UA,UB,UC,UD,UE,UF,UG,UH,UO,UP,UQ,UR,US,UT,UV,UW,Te,Tf,Tg,Tj,Tk,Tl,Tm,Tq,Tv,Tw,Tx,Ty,Tz,T3,T4,T5,T6,T9,TA,TB,TC,TF,TG,TH,TI,TJ,TK,TN,TO,TR,TT,Sv,Sw,Sx,Sy,SB,SD,SE,SF,SG,z,e29n,wn,works_w]; all_goals tactic => exact rfl))
                          · (sym => (simp [irem2,iquo2,remF,cO_gr,cO_nm,cO_sl,cO_len,cL_fl,cL_all,Za,Zb,Zc,Zd,Ze,Zf,Zg,Zh,Zi,Zj,Zl,Zm,Zn,Zo,Zp,Zq,Zu,Zv,Zw,Zx,Zy,Zz,Z0,Z2,Z6,ZA,ZD,ZE,ZG,ZH,ZJ,ZK,ZL,ZM,ZN,ZO,ZP,ZT,ZU,ZV,ZW,ZZ,Yb,Yi,Yq,Yr,Ys,Yv,Yw,Y1,YN,YQ,YR,YT,YV,YX,YY,Xa,Xc,Xe,Xf,Xg,Xh,Xk,Xo,Xp,Xq,Xr,Xs,Xt,Xu,Xw,Xy,X0,XI,XL,XM,XU,XX,XY,XZ,Wb,Wc,Wd,We,Wg,Wm,Wn,Wo,Wp,Ww,Wy,Wz,W0,W3,W4,W5,W6,W7,W8,W9,WA,WB,WE,WF,WH,WI,WJ,WK,WL,WM,WN,WO,WP,WQ,WR,WS,WV,WW,WX,Vb,Vc,Ve,Vf,Vg,Vi,Vo,Vp,Vq,Vr,Vs,Vt,Vu,Vv,Vw,Vx,Vy,Vz,V0,V1,V2,V3,V5,V6,V8,V9,VA,VB,VC,VF,VG,VH,VI,VK,VL,VM,VN,VO,VP,VQ,VR,VT,VU,VV,VW,VX,VY,Ua,Ub,Uc,Ud,Uf,Ui,Uk,Ul,Um,Un,Us,Ut,Uv,Uw,Ux,Uy,Uz,U0,U1,U2,U3,U4,U5,U6,U7,U8,U9,UA,UB,UC,UD,UE,UF,UG,UH,UO,UP,UQ,UR,US,UT,UV,UW,Te,Tf,Tg,Tj,Tk,Tl,Tm,Tq,Tv,Tw,Tx,Ty,Tz,T3,T4,T5,T6,T9,TA,TB,TC,TF,TG,TH,TI,TJ,TK,TN,TO,TR,TT,Sv,Sw,Sx,Sy,SB,SD,SE,SF,SG]; all_goals tactic => exact rfl))
                          · exact rd4
                          · (sym => (simp [irem2,iquo2,remF,cO_gr,cO_nm,cO_sl,cO_len,cL_fl,cL_all,Za,Zb,Zc,Zd,Ze,Zf,Zg,Zh,Zi,Zj,Zl,Zm,Zn,Zo,Zp,Zq,Zu,Zv,Zw,Zx,Zy,Zz,Z0,Z2,Z6,ZA,ZD,ZE,ZG,ZH,ZJ,ZK,ZL,ZM,ZN,ZO,ZP,ZT,ZU,ZV,ZW,ZZ,Yb,Yi,Yq,Yr,Ys,Yv,Yw,Y1,YN,YQ,YR,YT,YV,YX,YY,Xa,Xc,Xe,Xf,Xg,Xh,Xk,Xo,Xp,Xq,Xr,Xs,Xt,Xu,Xw,Xy,X0,XI,XL,XM,XU,XX,XY,XZ,Wb,Wc,Wd,We,Wg,Wm,Wn,Wo,Wp,Ww,Wy,Wz,W0,W3,W4,W5,W6,W7,W8,W9,WA,WB,WE,WF,WH,WI,WJ,WK,WL,WM,WN,WO,WP,WQ,WR,WS,WV,WW,WX,Vb,Vc,Ve,Vf,Vg,Vi,Vo,Vp,Vq,Vr,Vs,Vt,Vu,Vv,Vw,Vx,Vy,Vz,V0,V1,V2,V3,V5,V6,V8,V9,VA,VB,VC,VF,VG,VH,VI,VK,VL,VM,VN,VO,VP,VQ,VR,VT,VU,VV,VW,VX,VY,Ua,Ub,Uc,Ud,Uf,Ui,Uk,Ul,Um,Un,Us,Ut,Uv,Uw,Ux,Uy,Uz,U0,U1,U2,U3,U4,U5,U6,U7,U8,U9,UA,UB,UC,UD,UE,UF,UG,UH,UO,UP,UQ,UR,US,UT,UV,UW,Te,Tf,Tg,Tj,Tk,Tl,Tm,Tq,Tv,Tw,Tx,Ty,Tz,T3,T4,T5,T6,T9,TA,TB,TC,TF,TG,TH,TI,TJ,TK,TN,TO,TR,TT,Sv,Sw,Sx,Sy,SB,SD,SE,SF,SG,z]; all_goals tactic => exact rfl))
                    · rw [F0]
                      (sym => (simp [irem2,iquo2,remF,cO_gr,cO_nm,cO_sl,cO_len,cL_fl,cL_all,Za,Zb,Zc,Zd,Ze,Zf,Zg,Zh,Zi,Zj,Zl,Zm,Zn,Zo,Zp,Zq,Zu,Zv,Zw,Zx,Zy,Zz,Z0,Z2,Z6,ZA,ZD,ZE,ZG,ZH,ZJ,ZK,ZL,ZM,ZN,ZO,ZP,ZT,ZU,ZV,ZW,ZZ,Yb,Yi,Yq,Yr,Ys,Yv,Yw,Y1,YN,YQ,YR,YT,YV,YX,YY,Xa,Xc,Xe,Xf,Xg,Xh,Xk,Xo,Xp,Xq,Xr,Xs,Xt,Xu,Xw,Xy,X0,XI,XL,XM,XU,XX,XY,XZ,Wb,Wc,Wd,We,Wg,Wm,Wn,Wo,Wp,Ww,Wy,Wz,W0,W3,W4,W5,W6,W7,W8,W9,WA,WB,WE,WF,WH,WI,WJ,WK,WL,WM,WN,WO,WP,WQ,WR,WS,WV,WW,WX,Vb,Vc,Ve,Vf,Vg,Vi,Vo,Vp,Vq,Vr,Vs,Vt,Vu,Vv,Vw,Vx,Vy,Vz,V0,V1,V2,V3,V5,V6,V8,V9,VA,VB,VC,VF,VG,VH,VI,VK,VL,VM,VN,VO,VP,VQ,VR,VT,VU,VV,VW,VX,VY,Ua,Ub,Uc,Ud,Uf,Ui,Uk,Ul,Um,Un,Us,Ut,Uv,Uw,Ux,Uy,Uz,U0,U1,U2,U3,U4,U5,U6,U7,U8,U9,UA,UB,UC,UD,UE,UF,UG,UH,UO,UP,UQ,UR,US,UT,UV,UW,Te,Tf,Tg,Tj,Tk,Tl,Tm,Tq,Tv,Tw,Tx,Ty,Tz,T3,T4,T5,T6,T9,TA,TB,TC,TF,TG,TH,TI,TJ,TK,TN,TO,TR,TT,Sv,Sw,Sx,Sy,SB,SD,SE,SF,SG]; all_goals tactic => exact rfl))
                    · exact rd3
                    · rw [Fn,oS_ne rn,oG_ne rn]
                      (sym => (simp [irem2,iquo2,remF,cO_gr,cO_nm,cO_sl,cO_len,cL_fl,cL_all,Za,Zb,Zc,Zd,Ze,Zf,Zg,Zh,Zi,Zj,Zl,Zm,Zn,Zo,Zp,Zq,Zu,Zv,Zw,Zx,Zy,Zz,Z0,Z2,Z6,ZA,ZD,ZE,ZG,ZH,ZJ,ZK,ZL,ZM,ZN,ZO,ZP,ZT,ZU,ZV,ZW,ZZ,Yb,Yi,Yq,Yr,Ys,Yv,Yw,Y1,YN,YQ,YR,YT,YV,YX,YY,Xa,Xc,Xe,Xf,Xg,Xh,Xk,Xo,Xp,Xq,Xr,Xs,Xt,Xu,Xw,Xy,X0,XI,XL,XM,XU,XX,XY,XZ,Wb,Wc,Wd,We,Wg,Wm,Wn,Wo,Wp,Ww,Wy,Wz,W0,W3,W4,W5,W6,W7,W8,W9,WA,WB,WE,WF,WH,WI,WJ,WK,WL,WM,WN,WO,WP,WQ,WR,WS,WV,WW,WX,Vb,Vc,Ve,Vf,Vg,Vi,Vo,Vp,Vq,Vr,Vs,Vt,Vu,Vv,Vw,Vx,Vy,Vz,V0,V1,V2,V3,V5,V6,V8,V9,VA,VB,VC,VF,VG,VH,VI,VK,VL,VM,VN,VO,VP,VQ,VR,VT,VU,VV,VW,VX,VY,Ua,Ub,Uc,Ud,Uf,Ui,Uk,Ul,Um,Un,Us,Ut,Uv,Uw,Ux,Uy,Uz,U0,U1,U2,U3,U4,U5,U6,U7,U8,U9,UA,UB,UC,UD,UE,UF,UG,UH,UO,UP,UQ,UR,US,UT,UV,UW,Te,Tf,Tg,Tj,Tk,Tl,Tm,Tq,Tv,Tw,Tx,Ty,Tz,T3,T4,T5,T6,T9,TA,TB,TC,TF,TG,TH,TI,TJ,TK,TN,TO,TR,TT,Sv,Sw,Sx,Sy,SB,SD,SE,SF,SG,z]; all_goals tactic => exact rfl))
              · rw [g0]
                (sym => (simp [irem2,iquo2,remF,cO_gr,cO_nm,cO_sl,cO_len,cL_fl,cL_all,Za,Zb,Zc,Zd,Ze,Zf,Zg,Zh,Zi,Zj,Zl,Zm,Zn,Zo,Zp,Zq,Zu,Zv,Zw,Zx,Zy,Zz,Z0,Z2,Z6,ZA,ZD,ZE,ZG,ZH,ZJ,ZK,ZL,ZM,ZN,ZO,ZP,ZT,ZU,ZV,ZW,ZZ,Yb,Yi,Yq,Yr,Ys,Yv,Yw,Y1,YN,YQ,YR,YT,YV,YX,YY,Xa,Xc,Xe,Xf,Xg,Xh,Xk,Xo,Xp,Xq,Xr,Xs,Xt,Xu,Xw,Xy,X0,XI,XL,XM,XU,XX,XY,XZ,Wb,Wc,Wd,We,Wg,Wm,Wn,Wo,Wp,Ww,Wy,Wz,W0,W3,W4,W5,W6,W7,W8,W9,WA,WB,WE,WF,WH,WI,WJ,WK,WL,WM,WN,WO,WP,WQ,WR,WS,WV,WW,WX,Vb,Vc,Ve,Vf,Vg,Vi,Vo,Vp,Vq,Vr,Vs,Vt,Vu,Vv,Vw,Vx,Vy,Vz,V0,V1,V2,V3,V5,V6,V8,V9,VA,VB,VC,VF,VG,VH,VI,VK,VL,VM,VN,VO,VP,VQ,VR,VT,VU,VV,VW,VX,VY,Ua,Ub,Uc,Ud,Uf,Ui,Uk,Ul,Um,Un,Us,Ut,Uv,Uw,Ux,Uy,Uz,U0,U1,U2,U3,U4,U5,U6,U7,U8,U9,UA,UB,UC,UD,UE,UF,UG,UH,UO,UP,UQ,UR,US,UT,UV,UW,Te,Tf,Tg,Tj,Tk,Tl,Tm,Tq,Tv,Tw,Tx,Ty,Tz,T3,T4,T5,T6,T9,TA,TB,TC,TF,TG,TH,TI,TJ,TK,TN,TO,TR,TT,Sv,Sw,Sx,Sy,SB,SD,SE,SF,SG,hcc]; all_goals tactic => exact rfl))
              · exact rd2
              · rw [gn]
                (sym => (simp [irem2,iquo2,remF,cO_gr,cO_nm,cO_sl,cO_len,cL_fl,cL_all,Za,Zb,Zc,Zd,Ze,Zf,Zg,Zh,Zi,Zj,Zl,Zm,Zn,Zo,Zp,Zq,Zu,Zv,Zw,Zx,Zy,Zz,Z0,Z2,Z6,ZA,ZD,ZE,ZG,ZH,ZJ,ZK,ZL,ZM,ZN,ZO,ZP,ZT,ZU,ZV,ZW,ZZ,Yb,Yi,Yq,Yr,Ys,Yv,Yw,Y1,YN,YQ,YR,YT,YV,YX,YY,Xa,Xc,Xe,Xf,Xg,Xh,Xk,Xo,Xp,Xq,Xr,Xs,Xt,Xu,Xw,Xy,X0,XI,XL,XM,XU,XX,XY,XZ,Wb,Wc,Wd,We,Wg,Wm,Wn,Wo,Wp,Ww,Wy,Wz,W0,W3,W4,W5,W6,W7,W8,W9,WA,WB,WE,WF,WH,WI,WJ,WK,WL,WM,WN,WO,WP,WQ,WR,WS,WV,WW,WX,Vb,Vc,Ve,Vf,Vg,Vi,Vo,Vp,Vq,Vr,Vs,Vt,Vu,Vv,Vw,Vx,Vy,Vz,V0,V1,V2,V3,V5,V6,V8,V9,VA,VB,VC,VF,VG,VH,VI,VK,VL,VM,VN,VO,VP,VQ,VR,VT,VU,VV,VW,VX,VY,Ua,Ub,Uc,Ud,Uf,Ui,Uk,Ul,Um,Un,Us,Ut,Uv,Uw,Ux,Uy,Uz,U0,U1,U2,U3,U4,U5,U6,U7,U8,U9,UA,UB,UC,UD,UE,UF,UG,UH,UO,UP,UQ,UR,US,UT,UV,UW,Te,Tf,Tg,Tj,Tk,Tl,Tm,Tq,Tv,Tw,Tx,Ty,Tz,T3,T4,T5,T6,T9,TA,TB,TC,TF,TG,TH,TI,TJ,TK,TN,TO,TR,TT,Sv,Sw,Sx,Sy,SB,SD,SE,SF,SG,z2]; all_goals tactic => exact rfl))
        · rw [c00]
          (sym => (simp [irem2,iquo2,remF,cO_gr,cO_nm,cO_sl,cO_len,cL_fl,cL_all,Za,Zb,Zc,Zd,Ze,Zf,Zg,Zh,Zi,Zj,Zl,Zm,Zn,Zo,Zp,Zq,Zu,Zv,Zw,Zx,Zy,Zz,Z0,Z2,Z6,ZA,ZD,ZE,ZG,ZH,ZJ,ZK,ZL,ZM,ZN,ZO,ZP,ZT,ZU,ZV,ZW,ZZ,Yb,Yi,Yq,Yr,Ys,Yv,Yw,Y1,YN,YQ,YR,YT,YV,YX,YY,Xa,Xc,Xe,Xf,Xg,Xh,Xk,Xo,Xp,Xq,Xr,Xs,Xt,Xu,Xw,Xy,X0,XI,XL,XM,XU,XX,XY,XZ,Wb,Wc,Wd,We,Wg,Wm,Wn,Wo,Wp,Ww,Wy,Wz,W0,W3,W4,W5,W6,W7,W8,W9,WA,WB,WE,WF,WH,WI,WJ,WK,WL,WM,WN,WO,WP,WQ,WR,WS,WV,WW,WX,Vb,Vc,Ve,Vf,Vg,Vi,Vo,Vp,Vq,Vr,Vs,Vt,Vu,Vv,Vw,Vx,Vy,Vz,V0,V1,V2,V3,V5,V6,V8,V9,VA,VB,VC,VF,VG,VH,VI,VK,VL,VM,VN,VO,VP,VQ,VR,VT,VU,VV,VW,VX,VY,Ua,Ub,Uc,Ud,Uf,Ui,Uk,Ul,Um,Un,Us,Ut,Uv,Uw,Ux,Uy,Uz,U0,U1,U2,U3,U4,U5,U6,U7,U8,U9,UA,UB,UC,UD,UE,UF,UG,UH,UO,UP,UQ,UR,US,UT,UV,UW,Te,Tf,Tg,Tj,Tk,Tl,Tm,Tq,Tv,Tw,Tx,Ty,Tz,T3,T4,T5,T6,T9,TA,TB,TC,TF,TG,TH,TI,TJ,TK,TN,TO,TR,TT,Sv,Sw,Sx,Sy,SB,SD,SE,SF,SG]; all_goals tactic => exact rfl))
        · exact rd0
        · (sym => (simp [irem2,iquo2,remF,cO_gr,cO_nm,cO_sl,cO_len,cL_fl,cL_all,Za,Zb,Zc,Zd,Ze,Zf,Zg,Zh,Zi,Zj,Zl,Zm,Zn,Zo,Zp,Zq,Zu,Zv,Zw,Zx,Zy,Zz,Z0,Z2,Z6,ZA,ZD,ZE,ZG,ZH,ZJ,ZK,ZL,ZM,ZN,ZO,ZP,ZT,ZU,ZV,ZW,ZZ,Yb,Yi,Yq,Yr,Ys,Yv,Yw,Y1,YN,YQ,YR,YT,YV,YX,YY,Xa,Xc,Xe,Xf,Xg,Xh,Xk,Xo,Xp,Xq,Xr,Xs,Xt,Xu,Xw,Xy,X0,XI,XL,XM,XU,XX,XY,XZ,Wb,Wc,Wd,We,Wg,Wm,Wn,Wo,Wp,Ww,Wy,Wz,W0,W3,W4,W5,W6,W7,W8,W9,WA,WB,WE,WF,WH,WI,WJ,WK,WL,WM,WN,WO,WP,WQ,WR,WS,WV,WW,WX,Vb,Vc,Ve,Vf,Vg,Vi,Vo,Vp,Vq,Vr,Vs,Vt,Vu,Vv,Vw,Vx,Vy,Vz,V0,V1,V2,V3,V5,V6,V8,V9,VA,VB,VC,VF,VG,VH,VI,VK,VL,VM,VN,VO,VP,VQ,VR,VT,VU,VV,VW,VX,VY,Ua,Ub,Uc,Ud,Uf,Ui,Uk,Ul,Um,Un,Us,Ut,Uv,Uw,Ux,Uy,Uz,U0,U1,U2,U3,U4,U5,U6,U7,U8,U9,UA,UB,UC,UD,UE,UF,UG,UH,UO,UP,UQ,UR,US,UT,UV,UW,Te,Tf,Tg,Tj,Tk,Tl,Tm,Tq,Tv,Tw,Tx,Ty,Tz,T3,T4,T5,T6,T9,TA,TB,TC,TF,TG,TH,TI,TJ,TK,TN,TO,TR,TT,Sv,Sw,Sx,Sy,SB,SD,SE,SF,SG,z]; all_goals tactic => exact rfl))
end Go.Proofs.YtpbeclkpohehgaaDoor
