/- The rules of the walk, one theorem a case: none of them is taken for a definitional one. -/
import Derived.Test.YtjeabpbpoomlmaaAlk
set_option linter.unusedSimpArgs false
set_option linter.unusedVariables false
namespace Go.Pc
open Go

theorem n_GOp_1 : type_of% @GOp.eq_1 := by
  intros
  apply nrf
  first | exact GOp.eq_1 .. | (apply GOp.eq_1 <;> assumption)
theorem n_GGo_1 : type_of% @GGo.eq_1 := by
  intros
  apply nrf
  first | exact GGo.eq_1 .. | (apply GGo.eq_1 <;> assumption)
theorem n_GSkip_1 : type_of% @GSkip.eq_1 := by
  intros
  apply nrf
  first | exact GSkip.eq_1 .. | (apply GSkip.eq_1 <;> assumption)
theorem n_AS_tell_1 : type_of% @AS.tell.eq_1 := by
  intros
  apply nrf
  first | exact AS.tell.eq_1 .. | (apply AS.tell.eq_1 <;> assumption)
theorem n_aOp_1 : type_of% @aOp.eq_1 := by
  intros
  apply nrf
  first | exact aOp.eq_1 .. | (apply aOp.eq_1 <;> assumption)
theorem n_qOp_1 : type_of% @qOp.eq_1 := by
  intros
  apply nrf
  first | exact qOp.eq_1 .. | (apply qOp.eq_1 <;> assumption)
theorem n_qOp_2 : type_of% @qOp.eq_2 := by
  intros
  apply nrf
  first | exact qOp.eq_2 .. | (apply qOp.eq_2 <;> assumption)
theorem n_qOp_3 : type_of% @qOp.eq_3 := by
  intros
  apply nrf
  first | exact qOp.eq_3 .. | (apply qOp.eq_3 <;> assumption)
theorem n_qOp_4 : type_of% @qOp.eq_4 := by
  intros
  apply nrf
  first | exact qOp.eq_4 .. | (apply qOp.eq_4 <;> assumption)
theorem n_qOp_5 : type_of% @qOp.eq_5 := by
  intros
  apply nrf
  first | exact qOp.eq_5 .. | (apply qOp.eq_5 <;> assumption)
theorem n_qOp_6 : type_of% @qOp.eq_6 := by
  intros
  apply nrf
  first | exact qOp.eq_6 .. | (apply qOp.eq_6 <;> assumption)
theorem n_qOp_7 : type_of% @qOp.eq_7 := by
  intros
  apply nrf
  first | exact qOp.eq_7 .. | (apply qOp.eq_7 <;> assumption)
theorem n_qOp_8 : type_of% @qOp.eq_8 := by
  intros
  apply nrf
  first | exact qOp.eq_8 .. | (apply qOp.eq_8 <;> assumption)
theorem n_qOp_9 : type_of% @qOp.eq_9 := by
  intros
  apply nrf
  first | exact qOp.eq_9 .. | (apply qOp.eq_9 <;> assumption)
theorem n_qOp_10 : type_of% @qOp.eq_10 := by
  intros
  apply nrf
  first | exact qOp.eq_10 .. | (apply qOp.eq_10 <;> assumption)
theorem n_qOp_11 : type_of% @qOp.eq_11 := by
  intros
  apply nrf
  first | exact qOp.eq_11 .. | (apply qOp.eq_11 <;> assumption)
theorem n_qOp_12 : type_of% @qOp.eq_12 := by
  intros
  apply nrf
  first | exact qOp.eq_12 .. | (apply qOp.eq_12 <;> assumption)
theorem n_qOp_13 : type_of% @qOp.eq_13 := by
  intros
  apply nrf
  first | exact qOp.eq_13 .. | (apply qOp.eq_13 <;> assumption)
theorem n_qOp_14 : type_of% @qOp.eq_14 := by
  intros
  apply nrf
  first | exact qOp.eq_14 .. | (apply qOp.eq_14 <;> assumption)
theorem n_qOp_15 : type_of% @qOp.eq_15 := by
  intros
  apply nrf
  first | exact qOp.eq_15 .. | (apply qOp.eq_15 <;> assumption)
theorem n_qOp_16 : type_of% @qOp.eq_16 := by
  intros
  apply nrf
  first | exact qOp.eq_16 .. | (apply qOp.eq_16 <;> assumption)
theorem n_qOp_17 : type_of% @qOp.eq_17 := by
  intros
  apply nrf
  first | exact qOp.eq_17 .. | (apply qOp.eq_17 <;> assumption)
theorem n_qOp_18 : type_of% @qOp.eq_18 := by
  intros
  apply nrf
  first | exact qOp.eq_18 .. | (apply qOp.eq_18 <;> assumption)
theorem n_qOp_19 : type_of% @qOp.eq_19 := by
  intros
  apply nrf
  first | exact qOp.eq_19 .. | (apply qOp.eq_19 <;> assumption)
theorem n_qOp_20 : type_of% @qOp.eq_20 := by
  intros
  apply nrf
  first | exact qOp.eq_20 .. | (apply qOp.eq_20 <;> assumption)
theorem n_qOp_21 : type_of% @qOp.eq_21 := by
  intros
  apply nrf
  first | exact qOp.eq_21 .. | (apply qOp.eq_21 <;> assumption)
theorem n_Nxt_1 : type_of% @Nxt.eq_1 := by
  intros
  apply nrf
  first | exact Nxt.eq_1 .. | (apply Nxt.eq_1 <;> assumption)
theorem n_PutK_1 : type_of% @PutK.eq_1 := by
  intros
  apply nrf
  first | exact PutK.eq_1 .. | (apply PutK.eq_1 <;> assumption)
theorem n_PutQ_1 : type_of% @PutQ.eq_1 := by
  intros
  apply nrf
  first | exact PutQ.eq_1 .. | (apply PutQ.eq_1 <;> assumption)
theorem n_Then_1 : type_of% @Then.eq_1 := by
  intros
  apply nrf
  first | exact Then.eq_1 .. | (apply Then.eq_1 <;> assumption)
theorem n_Then_2 : type_of% @Then.eq_2 := by
  intros
  apply nrf
  first | exact Then.eq_2 .. | (apply Then.eq_2 <;> assumption)
theorem n_Then_3 : type_of% @Then.eq_3 := by
  intros
  apply nrf
  first | exact Then.eq_3 .. | (apply Then.eq_3 <;> assumption)
theorem n_Then_4 : type_of% @Then.eq_4 := by
  intros
  apply nrf
  first | exact Then.eq_4 .. | (apply Then.eq_4 <;> assumption)
theorem n_Then_5 : type_of% @Then.eq_5 := by
  intros
  apply nrf
  first | exact Then.eq_5 .. | (apply Then.eq_5 <;> assumption)
theorem n_Then_6 : type_of% @Then.eq_6 := by
  intros
  apply nrf
  first | exact Then.eq_6 .. | (apply Then.eq_6 <;> assumption)
theorem n_InB_1 : type_of% @InB.eq_1 := by
  intros
  apply nrf
  first | exact InB.eq_1 .. | (apply InB.eq_1 <;> assumption)
theorem n_InB_2 : type_of% @InB.eq_2 := by
  intros
  apply nrf
  first | exact InB.eq_2 .. | (apply InB.eq_2 <;> assumption)
theorem n_InB_3 : type_of% @InB.eq_3 := by
  intros
  apply nrf
  first | exact InB.eq_3 .. | (apply InB.eq_3 <;> assumption)
theorem n_InB_4 : type_of% @InB.eq_4 := by
  intros
  apply nrf
  first | exact InB.eq_4 .. | (apply InB.eq_4 <;> assumption)
theorem n_InB_5 : type_of% @InB.eq_5 := by
  intros
  apply nrf
  first | exact InB.eq_5 .. | (apply InB.eq_5 <;> assumption)
theorem n_InB_6 : type_of% @InB.eq_6 := by
  intros
  apply nrf
  first | exact InB.eq_6 .. | (apply InB.eq_6 <;> assumption)
theorem n_AS_ev_1 : type_of% @AS.ev.eq_1 := by
  intros
  apply nrf
  first | exact AS.ev.eq_1 .. | (apply AS.ev.eq_1 <;> assumption)
theorem n_AS_ev_2 : type_of% @AS.ev.eq_2 := by
  intros
  apply nrf
  first | exact AS.ev.eq_2 .. | (apply AS.ev.eq_2 <;> assumption)
theorem n_AS_ev_3 : type_of% @AS.ev.eq_3 := by
  intros
  apply nrf
  first | exact AS.ev.eq_3 .. | (apply AS.ev.eq_3 <;> assumption)
theorem n_AS_ev_4 : type_of% @AS.ev.eq_4 := by
  intros
  apply nrf
  first | exact AS.ev.eq_4 .. | (apply AS.ev.eq_4 <;> assumption)
theorem n_AV_ofV_1 : type_of% @AV.ofV.eq_1 := by
  intros
  apply nrf
  first | exact AV.ofV.eq_1 .. | (apply AV.ofV.eq_1 <;> assumption)
theorem n_AV_ofV_2 : type_of% @AV.ofV.eq_2 := by
  intros
  apply nrf
  first | exact AV.ofV.eq_2 .. | (apply AV.ofV.eq_2 <;> assumption)
theorem n_AS_put_1 : type_of% @AS.put.eq_1 := by
  intros
  apply nrf
  first | exact AS.put.eq_1 .. | (apply AS.put.eq_1 <;> assumption)
theorem n_AS_put_2 : type_of% @AS.put.eq_2 := by
  intros
  apply nrf
  first | exact AS.put.eq_2 .. | (apply AS.put.eq_2 <;> assumption)
theorem n_AS_push_1 : type_of% @AS.push.eq_1 := by
  intros
  apply nrf
  first | exact AS.push.eq_1 .. | (apply AS.push.eq_1 <;> assumption)
theorem n_rdC_1 : type_of% @rdC.eq_1 := by
  intros
  apply nrf
  first | exact rdC.eq_1 .. | (apply rdC.eq_1 <;> assumption)
theorem n_qLen_1 : type_of% @qLen.eq_1 := by
  intros
  apply nrf
  first | exact qLen.eq_1 .. | (apply qLen.eq_1 <;> assumption)
theorem n_qLen_2 : type_of% @qLen.eq_2 := by
  intros
  apply nrf
  first | exact qLen.eq_2 .. | (apply qLen.eq_2 <;> assumption)
theorem n_qLen_3 : type_of% @qLen.eq_3 := by
  intros
  apply nrf
  first | exact qLen.eq_3 .. | (apply qLen.eq_3 <;> assumption)
theorem n_qLen_4 : type_of% @qLen.eq_4 := by
  intros
  apply nrf
  first | exact qLen.eq_4 .. | (apply qLen.eq_4 <;> assumption)
theorem n_qLen_5 : type_of% @qLen.eq_5 := by
  intros
  apply nrf
  first | exact qLen.eq_5 .. | (apply qLen.eq_5 <;> assumption)
theorem n_bnd_1 : type_of% @bnd.eq_1 := by
  intros
  apply nrf
  first | exact bnd.eq_1 .. | (apply bnd.eq_1 <;> assumption)
theorem n_bnd_2 : type_of% @bnd.eq_2 := by
  intros
  apply nrf
  first | exact bnd.eq_2 .. | (apply bnd.eq_2 <;> assumption)
theorem n_bnd_3 : type_of% @bnd.eq_3 := by
  intros
  apply nrf
  first | exact bnd.eq_3 .. | (apply bnd.eq_3 <;> assumption)
theorem n_eqA_1 : type_of% @eqA.eq_1 := by
  intros
  apply nrf
  first | exact eqA.eq_1 .. | (apply eqA.eq_1 <;> assumption)
theorem n_eqA_2 : type_of% @eqA.eq_2 := by
  intros
  apply nrf
  first | exact eqA.eq_2 .. | (apply eqA.eq_2 <;> assumption)
theorem n_eqA_3 : type_of% @eqA.eq_3 := by
  intros
  apply nrf
  first | exact eqA.eq_3 .. | (apply eqA.eq_3 <;> assumption)
theorem n_eqA_4 : type_of% @eqA.eq_4 := by
  intros
  apply nrf
  first | exact eqA.eq_4 .. | (apply eqA.eq_4 <;> assumption)
theorem n_qUn_1 : type_of% @qUn.eq_1 := by
  intros
  apply nrf
  first | exact qUn.eq_1 .. | (apply qUn.eq_1 <;> assumption)
theorem n_qUn_2 : type_of% @qUn.eq_2 := by
  intros
  apply nrf
  first | exact qUn.eq_2 .. | (apply qUn.eq_2 <;> assumption)
theorem n_qUn_3 : type_of% @qUn.eq_3 := by
  intros
  apply nrf
  first | exact qUn.eq_3 .. | (apply qUn.eq_3 <;> assumption)
theorem n_qMax_1 : type_of% @qMax.eq_1 := by
  intros
  apply nrf
  first | exact qMax.eq_1 .. | (apply qMax.eq_1 <;> assumption)
theorem n_qMax_2 : type_of% @qMax.eq_2 := by
  intros
  apply nrf
  first | exact qMax.eq_2 .. | (apply qMax.eq_2 <;> assumption)
theorem n_qMin_1 : type_of% @qMin.eq_1 := by
  intros
  apply nrf
  first | exact qMin.eq_1 .. | (apply qMin.eq_1 <;> assumption)
theorem n_qMin_2 : type_of% @qMin.eq_2 := by
  intros
  apply nrf
  first | exact qMin.eq_2 .. | (apply qMin.eq_2 <;> assumption)
theorem n_fillA_1 : type_of% @fillA.eq_1 := by
  intros
  apply nrf
  first | exact fillA.eq_1 .. | (apply fillA.eq_1 <;> assumption)
theorem n_fillA_2 : type_of% @fillA.eq_2 := by
  intros
  apply nrf
  first | exact fillA.eq_2 .. | (apply fillA.eq_2 <;> assumption)
theorem n_cellsOf_1 : type_of% @cellsOf.eq_1 := by
  intros
  apply nrf
  first | exact cellsOf.eq_1 .. | (apply cellsOf.eq_1 <;> assumption)
theorem n_cellsOf_2 : type_of% @cellsOf.eq_2 := by
  intros
  apply nrf
  first | exact cellsOf.eq_2 .. | (apply cellsOf.eq_2 <;> assumption)
theorem n_cellsOf_3 : type_of% @cellsOf.eq_3 := by
  intros
  apply nrf
  first | exact cellsOf.eq_3 .. | (apply cellsOf.eq_3 <;> assumption)
theorem n_cellsOf_4 : type_of% @cellsOf.eq_4 := by
  intros
  apply nrf
  first | exact cellsOf.eq_4 .. | (apply cellsOf.eq_4 <;> assumption)
theorem n_cellsOf_5 : type_of% @cellsOf.eq_5 := by
  intros
  apply nrf
  first | exact cellsOf.eq_5 .. | (apply cellsOf.eq_5 <;> assumption)
theorem n_putAt_1 : type_of% @putAt.eq_1 := by
  intros
  apply nrf
  first | exact putAt.eq_1 .. | (apply putAt.eq_1 <;> assumption)
theorem n_litRow_1 : type_of% @litRow.eq_1 := by
  intros
  apply nrf
  first | exact litRow.eq_1 .. | (apply litRow.eq_1 <;> assumption)
theorem n_litRow_2 : type_of% @litRow.eq_2 := by
  intros
  apply nrf
  first | exact litRow.eq_2 .. | (apply litRow.eq_2 <;> assumption)
theorem n_inOrd_1 : type_of% @inOrd.eq_1 := by
  intros
  apply nrf
  first | exact inOrd.eq_1 .. | (apply inOrd.eq_1 <;> assumption)
theorem n_inOrd_2 : type_of% @inOrd.eq_2 := by
  intros
  apply nrf
  first | exact inOrd.eq_2 .. | (apply inOrd.eq_2 <;> assumption)
theorem n_elemsOf_1 : type_of% @elemsOf.eq_1 := by
  intros
  apply nrf
  first | exact elemsOf.eq_1 .. | (apply elemsOf.eq_1 <;> assumption)
theorem n_elemsOf_2 : type_of% @elemsOf.eq_2 := by
  intros
  apply nrf
  first | exact elemsOf.eq_2 .. | (apply elemsOf.eq_2 <;> assumption)
theorem n_elemsOf_3 : type_of% @elemsOf.eq_3 := by
  intros
  apply nrf
  first | exact elemsOf.eq_3 .. | (apply elemsOf.eq_3 <;> assumption)
theorem n_elemsOf_4 : type_of% @elemsOf.eq_4 := by
  intros
  apply nrf
  first | exact elemsOf.eq_4 .. | (apply elemsOf.eq_4 <;> assumption)
theorem n_AV_pure_1 : type_of% @AV.pure.eq_1 := by
  intros
  apply nrf
  first | exact AV.pure.eq_1 .. | (apply AV.pure.eq_1 <;> assumption)
theorem n_AV_pure_2 : type_of% @AV.pure.eq_2 := by
  intros
  apply nrf
  first | exact AV.pure.eq_2 .. | (apply AV.pure.eq_2 <;> assumption)
theorem n_AV_pure_3 : type_of% @AV.pure.eq_3 := by
  intros
  apply nrf
  first | exact AV.pure.eq_3 .. | (apply AV.pure.eq_3 <;> assumption)
theorem n_AV_pure_4 : type_of% @AV.pure.eq_4 := by
  intros
  apply nrf
  first | exact AV.pure.eq_4 .. | (apply AV.pure.eq_4 <;> assumption)
theorem n_AV_one_1 : type_of% @AV.one.eq_1 := by
  intros
  apply nrf
  first | exact AV.one.eq_1 .. | (apply AV.one.eq_1 <;> assumption)
theorem n_AV_one_2 : type_of% @AV.one.eq_2 := by
  intros
  apply nrf
  first | exact AV.one.eq_2 .. | (apply AV.one.eq_2 <;> assumption)
theorem n_AV_one_3 : type_of% @AV.one.eq_3 := by
  intros
  apply nrf
  first | exact AV.one.eq_3 .. | (apply AV.one.eq_3 <;> assumption)
theorem n_AV_one_4 : type_of% @AV.one.eq_4 := by
  intros
  apply nrf
  first | exact AV.one.eq_4 .. | (apply AV.one.eq_4 <;> assumption)
theorem n_AV_one_5 : type_of% @AV.one.eq_5 := by
  intros
  apply nrf
  first | exact AV.one.eq_5 .. | (apply AV.one.eq_5 <;> assumption)
theorem n_Kd_ok_1 : type_of% @Kd.ok.eq_1 := by
  intros
  apply nrf
  first | exact Kd.ok.eq_1 .. | (apply Kd.ok.eq_1 <;> assumption)
theorem n_Kd_ok_2 : type_of% @Kd.ok.eq_2 := by
  intros
  apply nrf
  first | exact Kd.ok.eq_2 .. | (apply Kd.ok.eq_2 <;> assumption)
theorem n_Kd_isAgg_1 : type_of% @Kd.isAgg.eq_1 := by
  intros
  apply nrf
  first | exact Kd.isAgg.eq_1 .. | (apply Kd.isAgg.eq_1 <;> assumption)
theorem n_Kd_isAgg_2 : type_of% @Kd.isAgg.eq_2 := by
  intros
  apply nrf
  first | exact Kd.isAgg.eq_2 .. | (apply Kd.isAgg.eq_2 <;> assumption)
theorem n_Kd_isAgg_3 : type_of% @Kd.isAgg.eq_3 := by
  intros
  apply nrf
  first | exact Kd.isAgg.eq_3 .. | (apply Kd.isAgg.eq_3 <;> assumption)
theorem n_Ret_1 : type_of% @Ret.eq_1 := by
  intros
  apply nrf
  first | exact Ret.eq_1 .. | (apply Ret.eq_1 <;> assumption)
theorem n_Ret_2 : type_of% @Ret.eq_2 := by
  intros
  apply nrf
  first | exact Ret.eq_2 .. | (apply Ret.eq_2 <;> assumption)
theorem n_Ret_3 : type_of% @Ret.eq_3 := by
  intros
  apply nrf
  first | exact Ret.eq_3 .. | (apply Ret.eq_3 <;> assumption)
theorem n_Ret_4 : type_of% @Ret.eq_4 := by
  intros
  apply nrf
  first | exact Ret.eq_4 .. | (apply Ret.eq_4 <;> assumption)
theorem n_Ret_5 : type_of% @Ret.eq_5 := by
  intros
  apply nrf
  first | exact Ret.eq_5 .. | (apply Ret.eq_5 <;> assumption)
theorem n_Ret_6 : type_of% @Ret.eq_6 := by
  intros
  apply nrf
  first | exact Ret.eq_6 .. | (apply Ret.eq_6 <;> assumption)
theorem n_rvs_1 : type_of% @rvs.eq_1 := by
  intros
  apply nrf
  first | exact rvs.eq_1 .. | (apply rvs.eq_1 <;> assumption)
theorem n_rvs_2 : type_of% @rvs.eq_2 := by
  intros
  apply nrf
  first | exact rvs.eq_2 .. | (apply rvs.eq_2 <;> assumption)
theorem n_rvs_3 : type_of% @rvs.eq_3 := by
  intros
  apply nrf
  first | exact rvs.eq_3 .. | (apply rvs.eq_3 <;> assumption)
theorem n_resOf_1 : type_of% @resOf.eq_1 := by
  intros
  apply nrf
  first | exact resOf.eq_1 .. | (apply resOf.eq_1 <;> assumption)
theorem n_resOf_2 : type_of% @resOf.eq_2 := by
  intros
  apply nrf
  first | exact resOf.eq_2 .. | (apply resOf.eq_2 <;> assumption)
theorem n_Lp_1 : type_of% @Lp.eq_1 := by
  intros
  apply nrf
  first | exact Lp.eq_1 .. | (apply Lp.eq_1 <;> assumption)
theorem n_Lp_2 : type_of% @Lp.eq_2 := by
  intros
  apply nrf
  first | exact Lp.eq_2 .. | (apply Lp.eq_2 <;> assumption)
theorem n_Lp_3 : type_of% @Lp.eq_3 := by
  intros
  apply nrf
  first | exact Lp.eq_3 .. | (apply Lp.eq_3 <;> assumption)
theorem n_Lp_4 : type_of% @Lp.eq_4 := by
  intros
  apply nrf
  first | exact Lp.eq_4 .. | (apply Lp.eq_4 <;> assumption)
theorem n_Lp_5 : type_of% @Lp.eq_5 := by
  intros
  apply nrf
  first | exact Lp.eq_5 .. | (apply Lp.eq_5 <;> assumption)
theorem n_Lp_6 : type_of% @Lp.eq_6 := by
  intros
  apply nrf
  first | exact Lp.eq_6 .. | (apply Lp.eq_6 <;> assumption)
theorem n_AS_hav_1 : type_of% @AS.hav.eq_1 := by
  intros
  apply nrf
  first | exact AS.hav.eq_1 .. | (apply AS.hav.eq_1 <;> assumption)
theorem n_setVs_1 : type_of% @setVs.eq_1 := by
  intros
  apply nrf
  first | exact setVs.eq_1 .. | (apply setVs.eq_1 <;> assumption)
theorem n_setVs_2 : type_of% @setVs.eq_2 := by
  intros
  apply nrf
  first | exact setVs.eq_2 .. | (apply setVs.eq_2 <;> assumption)
theorem n_anyAt_1 : type_of% @anyAt.eq_1 := by
  intros
  apply nrf
  first | exact anyAt.eq_1 .. | (apply anyAt.eq_1 <;> assumption)
theorem n_anyAt_2 : type_of% @anyAt.eq_2 := by
  intros
  apply nrf
  first | exact anyAt.eq_2 .. | (apply anyAt.eq_2 <;> assumption)
theorem n_QN_1 : type_of% @QN.eq_1 := by
  intros
  apply nrf
  first | exact QN.eq_1 .. | (apply QN.eq_1 <;> assumption)
theorem n_QGo_1 : type_of% @QGo.eq_1 := by
  intros
  apply nrf
  first | exact QGo.eq_1 .. | (apply QGo.eq_1 <;> assumption)
theorem n_QSkip_1 : type_of% @QSkip.eq_1 := by
  intros
  apply nrf
  first | exact QSkip.eq_1 .. | (apply QSkip.eq_1 <;> assumption)
theorem n_QG_1 : type_of% @QG.eq_1 := by
  intros
  apply nrf
  first | exact QG.eq_1 .. | (apply QG.eq_1 <;> assumption)
theorem n_Value_oneCellq_1 : type_of% @Value.oneCell'.eq_1 := by
  intros
  apply nrf
  first | exact Value.oneCell'.eq_1 .. | (apply Value.oneCell'.eq_1 <;> assumption)
theorem n_Value_oneCellq_2 : type_of% @Value.oneCell'.eq_2 := by
  intros
  apply nrf
  first | exact Value.oneCell'.eq_2 .. | (apply Value.oneCell'.eq_2 <;> assumption)
theorem n_Value_oneCellq_3 : type_of% @Value.oneCell'.eq_3 := by
  intros
  apply nrf
  first | exact Value.oneCell'.eq_3 .. | (apply Value.oneCell'.eq_3 <;> assumption)
theorem n_CAt_1 : type_of% @CAt.eq_1 := by
  intros
  apply nrf
  first | exact CAt.eq_1 .. | (apply CAt.eq_1 <;> assumption)
theorem n_VAt_1 : type_of% @VAt.eq_1 := by
  intros
  apply nrf
  first | exact VAt.eq_1 .. | (apply VAt.eq_1 <;> assumption)
theorem n_LoadGo_1 : type_of% @LoadGo.eq_1 := by
  intros
  apply nrf
  first | exact LoadGo.eq_1 .. | (apply LoadGo.eq_1 <;> assumption)
theorem n_IxC_1 : type_of% @IxC.eq_1 := by
  intros
  apply nrf
  first | exact IxC.eq_1 .. | (apply IxC.eq_1 <;> assumption)
theorem n_IxGo_1 : type_of% @IxGo.eq_1 := by
  intros
  apply nrf
  first | exact IxGo.eq_1 .. | (apply IxGo.eq_1 <;> assumption)
theorem n_PartR_1 : type_of% @PartR.eq_1 := by
  intros
  apply nrf
  first | exact PartR.eq_1 .. | (apply PartR.eq_1 <;> assumption)
theorem n_PartGo_1 : type_of% @PartGo.eq_1 := by
  intros
  apply nrf
  first | exact PartGo.eq_1 .. | (apply PartGo.eq_1 <;> assumption)
theorem n_IndR_1 : type_of% @IndR.eq_1 := by
  intros
  apply nrf
  first | exact IndR.eq_1 .. | (apply IndR.eq_1 <;> assumption)
theorem n_IndA_1 : type_of% @IndA.eq_1 := by
  intros
  apply nrf
  first | exact IndA.eq_1 .. | (apply IndA.eq_1 <;> assumption)
theorem n_IndS_1 : type_of% @IndS.eq_1 := by
  intros
  apply nrf
  first | exact IndS.eq_1 .. | (apply IndS.eq_1 <;> assumption)
theorem n_IndT_1 : type_of% @IndT.eq_1 := by
  intros
  apply nrf
  first | exact IndT.eq_1 .. | (apply IndT.eq_1 <;> assumption)
theorem n_BuK_1 : type_of% @BuK.eq_1 := by
  intros
  apply nrf
  first | exact BuK.eq_1 .. | (apply BuK.eq_1 <;> assumption)
theorem n_BuS_1 : type_of% @BuS.eq_1 := by
  intros
  apply nrf
  first | exact BuS.eq_1 .. | (apply BuS.eq_1 <;> assumption)
theorem n_BuA_1 : type_of% @BuA.eq_1 := by
  intros
  apply nrf
  first | exact BuA.eq_1 .. | (apply BuA.eq_1 <;> assumption)
theorem n_ConvI_1 : type_of% @ConvI.eq_1 := by
  intros
  apply nrf
  first | exact ConvI.eq_1 .. | (apply ConvI.eq_1 <;> assumption)
theorem n_SlH_1 : type_of% @SlH.eq_1 := by
  intros
  apply nrf
  first | exact SlH.eq_1 .. | (apply SlH.eq_1 <;> assumption)
theorem n_SlL_1 : type_of% @SlL.eq_1 := by
  intros
  apply nrf
  first | exact SlL.eq_1 .. | (apply SlL.eq_1 <;> assumption)
theorem n_SlGo_1 : type_of% @SlGo.eq_1 := by
  intros
  apply nrf
  first | exact SlGo.eq_1 .. | (apply SlGo.eq_1 <;> assumption)
theorem n_SoH_1 : type_of% @SoH.eq_1 := by
  intros
  apply nrf
  first | exact SoH.eq_1 .. | (apply SoH.eq_1 <;> assumption)
theorem n_SoL_1 : type_of% @SoL.eq_1 := by
  intros
  apply nrf
  first | exact SoL.eq_1 .. | (apply SoL.eq_1 <;> assumption)
theorem n_SoGo_1 : type_of% @SoGo.eq_1 := by
  intros
  apply nrf
  first | exact SoGo.eq_1 .. | (apply SoGo.eq_1 <;> assumption)
theorem n_EqK_1 : type_of% @EqK.eq_1 := by
  intros
  apply nrf
  first | exact EqK.eq_1 .. | (apply EqK.eq_1 <;> assumption)
theorem n_NeK_1 : type_of% @NeK.eq_1 := by
  intros
  apply nrf
  first | exact NeK.eq_1 .. | (apply NeK.eq_1 <;> assumption)
theorem n_AggE_1 : type_of% @AggE.eq_1 := by
  intros
  apply nrf
  first | exact AggE.eq_1 .. | (apply AggE.eq_1 <;> assumption)
theorem n_AggN_1 : type_of% @AggN.eq_1 := by
  intros
  apply nrf
  first | exact AggN.eq_1 .. | (apply AggN.eq_1 <;> assumption)
theorem n_BoxGo_1 : type_of% @BoxGo.eq_1 := by
  intros
  apply nrf
  first | exact BoxGo.eq_1 .. | (apply BoxGo.eq_1 <;> assumption)
theorem n_StQ_1 : type_of% @StQ.eq_1 := by
  intros
  apply nrf
  first | exact StQ.eq_1 .. | (apply StQ.eq_1 <;> assumption)
theorem n_StP_1 : type_of% @StP.eq_1 := by
  intros
  apply nrf
  first | exact StP.eq_1 .. | (apply StP.eq_1 <;> assumption)
theorem n_StX_1 : type_of% @StX.eq_1 := by
  intros
  apply nrf
  first | exact StX.eq_1 .. | (apply StX.eq_1 <;> assumption)
theorem n_StW_1 : type_of% @StW.eq_1 := by
  intros
  apply nrf
  first | exact StW.eq_1 .. | (apply StW.eq_1 <;> assumption)
theorem n_StV_1 : type_of% @StV.eq_1 := by
  intros
  apply nrf
  first | exact StV.eq_1 .. | (apply StV.eq_1 <;> assumption)
theorem n_StGo_1 : type_of% @StGo.eq_1 := by
  intros
  apply nrf
  first | exact StGo.eq_1 .. | (apply StGo.eq_1 <;> assumption)
theorem n_LitY_1 : type_of% @LitY.eq_1 := by
  intros
  apply nrf
  first | exact LitY.eq_1 .. | (apply LitY.eq_1 <;> assumption)
theorem n_LitX_1 : type_of% @LitX.eq_1 := by
  intros
  apply nrf
  first | exact LitX.eq_1 .. | (apply LitX.eq_1 <;> assumption)
theorem n_LitGo_1 : type_of% @LitGo.eq_1 := by
  intros
  apply nrf
  first | exact LitGo.eq_1 .. | (apply LitGo.eq_1 <;> assumption)
theorem n_ApW_1 : type_of% @ApW.eq_1 := by
  intros
  apply nrf
  first | exact ApW.eq_1 .. | (apply ApW.eq_1 <;> assumption)
theorem n_ApV_1 : type_of% @ApV.eq_1 := by
  intros
  apply nrf
  first | exact ApV.eq_1 .. | (apply ApV.eq_1 <;> assumption)
theorem n_ApN_1 : type_of% @ApN.eq_1 := by
  intros
  apply nrf
  first | exact ApN.eq_1 .. | (apply ApN.eq_1 <;> assumption)
theorem n_ApGo_1 : type_of% @ApGo.eq_1 := by
  intros
  apply nrf
  first | exact ApGo.eq_1 .. | (apply ApGo.eq_1 <;> assumption)
theorem n_AnN_1 : type_of% @AnN.eq_1 := by
  intros
  apply nrf
  first | exact AnN.eq_1 .. | (apply AnN.eq_1 <;> assumption)
theorem n_AnGo_1 : type_of% @AnGo.eq_1 := by
  intros
  apply nrf
  first | exact AnGo.eq_1 .. | (apply AnGo.eq_1 <;> assumption)

/-! ### by constructor -/
theorem ofV_int (k : IntKind) (n : Int) : AV.ofV (.int k n) = .val (.int k n) := nrf rfl
theorem oneCell_int (k : IntKind) (n : Int) : Value.oneCell' (.int k n) = true := nrf rfl
theorem ofV_bool (b : Bool) : AV.ofV (.bool b) = .val (.bool b) := nrf rfl
theorem oneCell_bool (b : Bool) : Value.oneCell' (.bool b) = true := nrf rfl
theorem ofV_str (b : ByteArray) : AV.ofV (.string b) = .val (.string b) := nrf rfl
theorem oneCell_str (b : ByteArray) : Value.oneCell' (.string b) = true := nrf rfl
theorem ofV_slice (a : Option Addr) (n c : Nat) : AV.ofV (.slice a n c) = .val (.slice a n c) := nrf rfl
theorem oneCell_slice (a : Option Addr) (n c : Nat) : Value.oneCell' (.slice a n c) = true := nrf rfl
theorem ofV_ptr (a : Option Addr) : AV.ofV (.pointer a) = .val (.pointer a) := nrf rfl
theorem oneCell_ptr (a : Option Addr) : Value.oneCell' (.pointer a) = true := nrf rfl
theorem kok_flat  : Kd.ok .flat = true := nrf rfl
theorem kag_flat  : Kd.isAgg .flat = false := nrf rfl
theorem kok_intk (k : IntKind) : Kd.ok (.intk k) = true := nrf rfl
theorem kag_intk (k : IntKind) : Kd.isAgg (.intk k) = false := nrf rfl
theorem kok_bool  : Kd.ok .bool = true := nrf rfl
theorem kag_bool  : Kd.isAgg .bool = false := nrf rfl
theorem kok_str  : Kd.ok .str = true := nrf rfl
theorem kag_str  : Kd.isAgg .str = false := nrf rfl
theorem kok_struct (fs : List (Nat × TypeId)) : Kd.ok (.struct fs) = true := nrf rfl
theorem kag_struct (fs : List (Nat × TypeId)) : Kd.isAgg (.struct fs) = true := nrf rfl
theorem kok_array (n : Nat) (e : TypeId) : Kd.ok (.array n e) = true := nrf rfl
theorem kag_array (n : Nat) (e : TypeId) : Kd.isAgg (.array n e) = true := nrf rfl
theorem kok_slice (e : TypeId) : Kd.ok (.slice e) = true := nrf rfl
theorem kag_slice (e : TypeId) : Kd.isAgg (.slice e) = false := nrf rfl
theorem avp_any  : AV.pure .any = true := nrf rfl
theorem avo_any  : AV.one .any = false := nrf rfl
theorem cel_any  : cellsOf .any = none := nrf rfl
theorem avp_agg (l : List AV) : AV.pure (.agg l) = false := nrf rfl
theorem avo_agg (l : List AV) : AV.one (.agg l) = false := nrf rfl
theorem cel_agg (l : List AV) : cellsOf (.agg l) = some l := nrf rfl
theorem avp_tup (l : List AV) : AV.pure (.tup l) = false := nrf rfl
theorem avo_tup (l : List AV) : AV.one (.tup l) = false := nrf rfl
theorem cel_tup (l : List AV) : cellsOf (.tup l) = none := nrf rfl
theorem avp_sl (e : List (List AV)) : AV.pure (.sl e) = true := nrf rfl
theorem avo_sl (e : List (List AV)) : AV.one (.sl e) = true := nrf rfl
theorem cel_sl (e : List (List AV)) : cellsOf (.sl e) = some [.sl e] := nrf rfl
theorem avp_ip (l : List AV) : AV.pure (.ip l) = false := nrf rfl
theorem avo_ip (l : List AV) : AV.one (.ip l) = true := nrf rfl
theorem cel_ip (l : List AV) : cellsOf (.ip l) = some [.ip l] := nrf rfl
theorem avp_ptr (r o : Nat) : AV.pure (.ptr r o) = false := nrf rfl
theorem avo_ptr (r o : Nat) : AV.one (.ptr r o) = true := nrf rfl
theorem cel_ptr (r o : Nat) : cellsOf (.ptr r o) = some [.ptr r o] := nrf rfl
theorem avp_vp (r k i o : Nat) : AV.pure (.vp r k i o) = false := nrf rfl
theorem avo_vp (r k i o : Nat) : AV.one (.vp r k i o) = true := nrf rfl
theorem cel_vp (r k i o : Nat) : cellsOf (.vp r k i o) = some [.vp r k i o] := nrf rfl
theorem avp_os (r k i o : Nat) : AV.pure (.os r k i o) = false := nrf rfl
theorem avo_os (r k i o : Nat) : AV.one (.os r k i o) = true := nrf rfl
theorem cel_os (r k i o : Nat) : cellsOf (.os r k i o) = some [.os r k i o] := nrf rfl
theorem avp_fn (f : FuncId) (l : List AV) : AV.pure (.fn f l) = false := nrf rfl
theorem avo_fn (f : FuncId) (l : List AV) : AV.one (.fn f l) = true := nrf rfl
theorem cel_fn (f : FuncId) (l : List AV) : cellsOf (.fn f l) = some [.fn f l] := nrf rfl
theorem avp_val (v : Value) : AV.pure (.val v) = true := nrf rfl
theorem avo_val (v : Value) : AV.one (.val v) = v.oneCell' := nrf rfl
theorem cel_val (v : Value) : cellsOf (.val v) = if v.oneCell' then some [.val v] else none := nrf rfl
theorem res_one (x : AV) : resOf [x] = x := nrf rfl
theorem res_two (x y : AV) (l : List AV) : resOf (x :: y :: l) = .tup (x :: y :: l) := nrf rfl
theorem els_nil (s : AS) : elemsOf s (.val (.slice none 0 0)) = some [] := nrf rfl

end Go.Pc
