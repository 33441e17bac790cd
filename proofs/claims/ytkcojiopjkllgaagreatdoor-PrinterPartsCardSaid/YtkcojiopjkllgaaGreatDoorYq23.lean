import Derived.Test.YtkcojiopjkllgaaGreatDoorYq17
set_option linter.unusedSimpArgs false
set_option linter.unusedVariables false
set_option linter.unusedSectionVars false
namespace Go.Proofs.YtkcojiopjkllgaaGreatDoor
namespace Am
open Tk
set_option maxRecDepth 100000
set_option maxHeartbeats 4000000
theorem lawParts (p : Pa) : Pure Tryz.prog 9 [.agg (paC p)] (.c (sB true)) := by
  have sl := slight_p p
  cases hs : slB p with
  | false =>
    rw [hs] at sl
    clear hs
    refine fn1 (fn := Tryz.f9) Tryz.call9 Tryz.func9 rfl Tryz.ntmps9 Tryz.results9 rfl (by first | rfl | simp [V.ok, okL, C.ok, okA, okV]) ?_
    repeat' (first | (with_reducible first | apply AW.seq | apply AW.block | apply AW.scope | apply AW.skip | apply AW.ret | apply AW.exit | apply AW.label | apply q_then | apply q_thenR | apply q_thenE | apply q_bloN | apply q_bloR | apply q_bloE | apply q_strN | apply q_strR | apply q_strE | apply s_e | refine m_b rfl ?_ ?_ | refine m_g rfl ?_ | refine m_o rfl ?_ ?_ | refine v_reg ?_ | refine v_drw ?_ | refine v_rgl ?_ | refine v_drb ?_) | ((with_reducible apply i_dv); first | refine t_v AS.v ?_ | refine t_v (by first | exact u_call (hP := sl) | exact u_call (hP := awake_p)) ?_ | refine t_w AS.w ?_) | ((with_reducible apply i_dg); first | refine t_n ?_ | refine t_m (hs := fun hg => AS.v) (k := ?_) | refine t_m (hs := fun hg => (by first | exact u_call (hP := sl) | exact u_call (hP := awake_p))) (k := ?_) | refine t_f ?_) | ((with_reducible apply i_ds); first | refine t_s AS.s ?_) | ((with_reducible refine i_aw ?_); first | refine v_yes ?_ | refine v_no ?_ | (refine v_cond (fun hc => ?_) (fun hc => ?_); all_goals (try (exfalso; simp [*] at hc; done)); all_goals (try (exfalso; revert hc; simp; omega)))) | ((with_reducible refine i_rt ?_); first | refine k_b ?_ | refine k_s ?_ | refine k_i ?_ | refine k_v ?_ | refine k_c ?_ | exact r_0 | exact r_0n | ((first | refine k_2 ?_ ?_ | refine k_2c ?_ ?_); all_goals (with_reducible (first | apply un_b | apply un_i | apply un_s | apply un_a)))) | ((with_reducible apply al_id); dsimp only [List.append]) | (refine q_bloX rfl ?_) | (refine ⟨by decide +kernel, ?_⟩) | fail)
    all_goals (first | rfl)
  | true =>
    rw [hs] at sl
    unfold slB at hs
    simp only [Bool.and_eq_true] at hs
    obtain ⟨⟨⟨h1, h2⟩, h3⟩, h4⟩ := hs
    have b1 := nsT_short h1
    have b3 := rgT_short h3
    have b4 := cxT_short h4
    have c3 := rg_cats p.range
    have c4 := cx_cats p.context
    have n1 := Names_p (n := p.names) (by omega)
    have n2 := qNames_p (n := p.names) (by omega)
    have e1 := Constraint_p (e := p.cond) (v := p.validate) fun h => by have := exT_small h h2; omega
    have e2 := qConstraint_p (e := p.cond) (v := p.validate) fun h => by have := exT_small h h2; omega
    have r1 := Range_p (r := p.range) (by omega)
    have r2 := qRange_p (r := p.range) (by omega) (by omega) (by omega)
    have x1 := Context_p (c := p.context) (by omega)
    have x2 := qContext_p (c := p.context) (by omega) (by omega) (by omega)
    clear b1 b3 b4 c3 c4 h1 h2 h3 h4
    refine fn1 (fn := Tryz.f9) Tryz.call9 Tryz.func9 rfl Tryz.ntmps9 Tryz.results9 rfl (by first | rfl | simp [V.ok, okL, C.ok, okA, okV]) ?_
    repeat' (first | (with_reducible first | apply AW.seq | apply AW.block | apply AW.scope | apply AW.skip | apply AW.ret | apply AW.exit | apply AW.label | apply q_then | apply q_thenR | apply q_thenE | apply q_bloN | apply q_bloR | apply q_bloE | apply q_strN | apply q_strR | apply q_strE | apply s_e | refine m_b rfl ?_ ?_ | refine m_g rfl ?_ | refine m_o rfl ?_ ?_ | refine v_reg ?_ | refine v_drw ?_ | refine v_rgl ?_ | refine v_drb ?_) | ((with_reducible apply i_dv); first | refine t_v AS.v ?_ | refine t_v (by first | exact u_call (hP := sl) | exact u_call (hP := n1) | exact u_call (hP := n2) | exact u_call (hP := e1) | exact u_call (hP := e2) | exact u_call (hP := r1) | exact u_call (hP := r2) | exact u_call (hP := x1) | exact u_call (hP := x2) | exact u_call (hP := awake_p)) ?_ | refine t_w AS.w ?_) | ((with_reducible apply i_dg); first | refine t_n ?_ | refine t_m (hs := fun hg => AS.v) (k := ?_) | refine t_m (hs := fun hg => (by first | exact u_call (hP := sl) | exact u_call (hP := n1) | exact u_call (hP := n2) | exact u_call (hP := e1) | exact u_call (hP := e2) | exact u_call (hP := r1) | exact u_call (hP := r2) | exact u_call (hP := x1) | exact u_call (hP := x2) | exact u_call (hP := awake_p))) (k := ?_) | refine t_f ?_) | ((with_reducible apply i_ds); first | refine t_s AS.s ?_) | ((with_reducible refine i_aw ?_); first | refine v_yes ?_ | refine v_no ?_ | (refine v_cond (fun hc => ?_) (fun hc => ?_); all_goals (try (exfalso; simp [*] at hc; done)); all_goals (try (exfalso; revert hc; simp; omega)))) | ((with_reducible refine i_rt ?_); first | refine k_b ?_ | refine k_s ?_ | refine k_i ?_ | refine k_v ?_ | refine k_c ?_ | exact r_0 | exact r_0n | ((first | refine k_2 ?_ ?_ | refine k_2c ?_ ?_); all_goals (with_reducible (first | apply un_b | apply un_i | apply un_s | apply un_a)))) | ((with_reducible apply al_id); dsimp only [List.append]) | (refine q_bloX rfl ?_) | (refine ⟨by decide +kernel, ?_⟩) | fail)
    all_goals (first | rfl | (simp; done))
end Am
end Go.Proofs.YtkcojiopjkllgaaGreatDoor
