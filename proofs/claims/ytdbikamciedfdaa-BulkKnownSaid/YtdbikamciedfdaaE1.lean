/- 'works' returns true. No statement of the seed is proved here. -/
import Derived.Test.YtdbikamciedfdaaE0
namespace Go.Proofs.Ytdbikamciedfdaa
open Go Go.DL
set_option maxHeartbeats 4000000
set_option maxRecDepth 100000
theorem works_w : runW progX 12 [] [] = some (.bool true, []) := by
  rw [runW_eq (d := x12) rfl (by simp)]
  simp (config := {maxSteps := 2000000}) [nzL, nzA, execW_seq, execW_regS, execW_regD, execW_ret, execW_skip, execW_exit, execW_block, execW_cond, thenX_n, thenX_x, thenX_r, blockX_n, blockX_r, blockX_x, xops, xopsD, gd, xcore, evalQ, evA, updo, upd_eq, binA, intA, fzX, fzNs, fzOf, fz1, retX_n, retX_r, resA, resL, resA1, finX, slN, slL, keepAcc, reachX, reachFuel, nmL, nmA, nmO, nmB, keepH, padTake, rnA, rnL, rnO, rnB, argEnv, List.flatMap, callX, passedOf, passed, localH, posOf, mergeR, mergeH, setL, backS, hat, hpOf, xNew, flagNew, flagH, grA, grL, loadA, readA, xStore, cellsOf, splice, fzA, fzL, fzB, fzO, chunks, keepS, cellsEq, cellEq, logOk, logPost, logX, blkA, callQ, fillA, canonE, canonH, envL, eqnA, boundA, slslA, srcA, appA, lookA, findA, keyEqA, putA, xMapup, xCopy, sameO, sameL, sameA, keptB, roX, gdA, gdL, gdR, anyE, wrap_ok, x12, execW_loop, wk_0, wk_1, wk_2, wk_3, wk_4, wk_5, wk_6, wk_7, wk_8, wk_9, wk_10, wk_11, wk_12]
end Go.Proofs.Ytdbikamciedfdaa
