import Derived.Test.YtkcojiopjkllgaaGreatDoorYq17
set_option linter.unusedSimpArgs false
set_option linter.unusedVariables false
set_option linter.unusedSectionVars false
namespace Go.Proofs.YtkcojiopjkllgaaGreatDoor
namespace Am
open Tk
set_option maxRecDepth 100000
set_option maxHeartbeats 4000000
theorem lawSame (a b : Mo) : Pure Tryz.prog 8 [.agg (moC a), .agg (moC b)] (.c (sB true)) := by
  have sa := small_p a.stmts
  have sb := small_p b.stmts
  have p1 := same_p a b
  have q1 := qsame_p a b
  have p2 := sameSs_p a.stmts b.stmts
  have q2 := qsameSs_p a.stmts b.stmts
  have p3 : Pure Tryz.prog 18 [.agg (moC a), .agg (moC a)] (.c (sB true)) := by
    have := same_p a a
    rw [all2_refl] at this
    simpa using this
  generalize okM a.stmts = sa1 at *
  generalize okM b.stmts = sb1 at *
  refine fn2 (fn := Tryz.f8) Tryz.call8 Tryz.func8 rfl Tryz.ntmps8 Tryz.results8 rfl (by first | rfl | simp [V.ok, okL, C.ok, okA, okV]) ?_
  repeat' (first | (with_reducible first | apply AW.seq | apply AW.block | apply AW.scope | apply AW.skip | apply AW.ret | apply AW.exit | apply AW.label | apply q_then | apply q_thenR | apply q_thenE | apply q_bloN | apply q_bloR | apply q_bloE | apply q_strN | apply q_strR | apply q_strE | apply s_e | refine m_b rfl ?_ ?_ | refine m_g rfl ?_ | refine m_o rfl ?_ ?_ | refine v_reg ?_ | refine v_drw ?_ | refine v_rgl ?_ | refine v_drb ?_) | ((with_reducible apply i_dv); first | refine t_v AS.v ?_ | refine t_v (by first | exact u_call (hP := sa) | exact u_call (hP := sb) | exact u_call (hP := p1) | exact u_call (hP := q1) | exact u_call (hP := p2) | exact u_call (hP := q2) | exact u_call (hP := p3) | exact u_call (hP := awake_p)) ?_ | refine t_w AS.w ?_) | ((with_reducible apply i_dg); first | refine t_n ?_ | refine t_m (hs := fun hg => AS.v) (k := ?_) | refine t_m (hs := fun hg => (by first | exact u_call (hP := sa) | exact u_call (hP := sb) | exact u_call (hP := p1) | exact u_call (hP := q1) | exact u_call (hP := p2) | exact u_call (hP := q2) | exact u_call (hP := p3) | exact u_call (hP := awake_p))) (k := ?_) | refine t_f ?_) | ((with_reducible apply i_ds); first | refine t_s AS.s ?_) | ((with_reducible refine i_aw ?_); first | refine v_yes ?_ | refine v_no ?_ | (refine v_cond (fun hc => ?_) (fun hc => ?_); all_goals (try (exfalso; simp [*] at hc; done)); all_goals (try (exfalso; revert hc; simp; omega)))) | ((with_reducible refine i_rt ?_); first | refine k_b ?_ | refine k_s ?_ | refine k_i ?_ | refine k_v ?_ | refine k_c ?_ | exact r_0 | exact r_0n | ((first | refine k_2 ?_ ?_ | refine k_2c ?_ ?_); all_goals (with_reducible (first | apply un_b | apply un_i | apply un_s | apply un_a)))) | ((with_reducible apply al_id); dsimp only [List.append]) | (refine q_bloX rfl ?_) | (refine ⟨by decide +kernel, ?_⟩) | fail)
  all_goals (first | rfl | (simp; done))
end Am
end Go.Proofs.YtkcojiopjkllgaaGreatDoor
