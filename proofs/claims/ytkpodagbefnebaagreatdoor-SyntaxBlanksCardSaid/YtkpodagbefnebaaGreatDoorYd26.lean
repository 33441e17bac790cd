import Derived.Test.YtkpodagbefnebaaGreatDoorYd23
import Derived.Test.YtkpodagbefnebaaGreatDoorYd24
import Derived.Test.YtkpodagbefnebaaGreatDoorYd22
import Derived.Test.YtkpodagbefnebaaGreatDoorYd25
set_option linter.unusedSimpArgs false
set_option linter.unusedVariables false
set_option linter.unusedSectionVars false
namespace Go.Proofs.YtkpodagbefnebaaGreatDoor
namespace Am
open Tk Go.RowKit
set_option maxRecDepth 100000
set_option maxHeartbeats 4000000
theorem q2text_nil : Pure Tryz.prog 19 [.c .nil] (.tup [.c (sS ⟨#[]⟩), .c (sI 0)]) := by
  refine fn1 (fn := Tryz.f19) Tryz.call19 Tryz.func19 rfl Tryz.ntmps19 Tryz.results19 rfl (by rfl) ?_
  repeat' (first | (with_reducible first | apply AW.seq | apply AW.block | apply AW.skip | apply AW.ret | apply AW.exit | apply q_then | apply q_thenE | apply q_bloE | apply y_e | refine v_rgl ?_) | ((with_reducible apply i_dv); refine t_v AS.v ?_) | ((with_reducible apply i_dg); refine t_f ?_) | ((with_reducible refine i_aw ?_); refine v_no ?_) | ((with_reducible refine i_rt ?_); (((refine k_2 ?_ ?_); all_goals (with_reducible (first | apply un_i | apply un_s))))) | fail)
  refine AW.loop (fun n σ => n = 0 ∧ σ = mk [(0, .c .nil), (4, .c (sS ⟨#[]⟩)), (5, .c (sI 0))] []) 0 ?_ ?_
  · exact ⟨_, wk_mk (by (repeat (first | exact all_nil | ((refine all_cons ⟨_, rfl, .inl rfl, ?_⟩ ?_); (· (rfl))))); done) (by (repeat (exact all_nil)); done) (by rfl), rfl, rfl⟩
  rintro n σ ⟨rfl, rfl⟩
  repeat' (first | (with_reducible first | apply AW.seq | apply AW.block | apply AW.skip | apply AW.ret | apply AW.exit | apply q_then | apply q_thenE | apply q_bloE | apply y_e | refine v_rgl ?_) | ((with_reducible apply i_dv); refine t_v AS.v ?_) | ((with_reducible apply i_dg); refine t_f ?_) | ((with_reducible refine i_aw ?_); refine v_no ?_) | ((with_reducible refine i_rt ?_); (((refine k_2 ?_ ?_); all_goals (with_reducible (first | apply un_i | apply un_s))))) | fail)
  all_goals rfl
theorem rt_same {x y : Except Fa Mo} (h : npE npM x = npE npM y) : ∃ a f b g, rtV (.agg (moC Mo.zero)) (fun x => .agg (moC x)) x = .tup [.agg (moC a), .agg (faC f)] ∧ rtV (.agg (moC Mo.zero)) (fun x => .agg (moC x)) y = .tup [.agg (moC b), .agg (faC g)] ∧ npM a = npM b ∧ f.code = g.code ∧ f.name = g.name := by
  cases x with
  | ok a =>
    cases y with
    | ok b =>
      injection h with h
      exact ⟨a, Fa.zero, b, Fa.zero, rfl, rfl, h, rfl, rfl⟩
    | error g => cases h
  | error f =>
    cases y with
    | ok b => cases h
    | error g =>
      injection h with h
      unfold npF at h
      injection h with h1 _ h3
      exact ⟨Mo.zero, f, Mo.zero, g, rfl, rfl, rfl, h1, h3⟩
theorem law_blanks (src : ByteArray) : Pure Tryz.prog 4 [.c (sS src)] (.c (sB true)) := by
  have al := alive_p
  by_cases hs : src.size ≤ 9000
  · have p1 := qscan_p src
    cases hsc : scanP src with
    | error g =>
      rw [hsc] at p1
      have p1 : Pure _ _ _ (.tup [.c .nil, .agg (faC g)]) := p1
      have p2 := q2text_nil
      have hg := (scanP_nz src g hsc).1
      clear hsc
      refine fn1 (fn := Tryz.f4) Tryz.call4 Tryz.func4 rfl Tryz.ntmps4 Tryz.results4 rfl (by rfl) ?_
      repeat' (first | (with_reducible first | apply AW.seq | apply AW.skip | apply AW.ret | apply q_then | apply q_thenR | apply y_e | refine v_rgl ?_) | ((with_reducible apply i_dv); first | refine t_v AS.v ?_ | refine t_v (by first | exact u_call (hP := al) | exact u_call (hP := p1) | exact u_call (hP := p2)) ?_ | refine t_w AS.w ?_) | ((with_reducible apply i_dg); first | refine t_f ?_ | refine t_m (hs := fun hg => AS.v) (k := ?_)) | ((with_reducible apply i_ds); refine t_s AS.s ?_) | ((with_reducible refine i_aw ?_); first | refine v_yes ?_ | (refine v_cond (fun hc => ?_) (fun hc => ?_); all_goals (try (exfalso; revert hc; simp; omega)))) | ((with_reducible refine i_rt ?_); refine k_b ?_) | fail)
      all_goals first | rfl | (exfalso; simp at hc; done) | (exfalso; simp [hg] at hc; done) | simp | trace_state
    | ok l =>
      rw [hsc] at p1
      have p1 : Pure _ _ _ (.tup [.c (.lst none 4 (l.map tkC)), .agg (faC Fa.zero)]) := p1
      have hf := scan_fine hsc
      have hl : l.length ≤ 70000 := by
        obtain ⟨_, us, e, _, rfl, _, h⟩ := scanP_lr hsc
        rw [List.length_map, List.length_append]; simp; omega
      have p2 := q2text_p l hl fun t ht => by have := scan_tx hsc t ht; omega
      rw [txR_eq] at p2
      by_cases hk : (bodyT l).all tokB = true
      · rw [if_pos hk] at p2
        unfold txF at p2
        have e0 : (⟨#[]⟩ : ByteArray) ++ ⟨(joinT false (bodyT l)).toArray⟩ = ⟨(joinT false (bodyT l)).toArray⟩ := by apply ba_l0; simp [ByteArray.data_append]
        rw [e0] at p2
        generalize hS : (⟨(joinT false (bodyT l)).toArray⟩ : ByteArray) = s at *
        by_cases h6 : 65536 < s.size
        · rw [if_pos h6] at p2
          clear hsc
          refine fn1 (fn := Tryz.f4) Tryz.call4 Tryz.func4 rfl Tryz.ntmps4 Tryz.results4 rfl (by rfl) ?_
          repeat' (first | (with_reducible first | apply AW.seq | apply AW.skip | apply AW.ret | apply q_then | apply q_thenR | apply y_e | refine v_rgl ?_) | ((with_reducible apply i_dv); first | refine t_v AS.v ?_ | refine t_v (by first | exact u_call (hP := al) | exact u_call (hP := p1) | exact u_call (hP := p2)) ?_ | refine t_w AS.w ?_) | ((with_reducible apply i_dg); first | refine t_f ?_ | refine t_m (hs := fun hg => AS.v) (k := ?_)) | ((with_reducible apply i_ds); refine t_s AS.s ?_) | ((with_reducible refine i_aw ?_); first | refine v_yes ?_ | (refine v_cond (fun hc => ?_) (fun hc => ?_); all_goals (try (exfalso; revert hc; simp; omega)))) | ((with_reducible refine i_rt ?_); refine k_b ?_) | fail)
          all_goals rfl
        · rw [if_neg h6] at p2
          obtain ⟨m, hm, e⟩ := scan_again (s := s) hsc (fun t ht => by rw [List.all_eq_true] at hk; exact hk t ht) (by rw [← hS]) (by omega)
          have p3 := parse_p src
          have p4 := parse_p s
          rw [parse_k hsc] at p3
          rw [parse_k hm] at p4
          obtain ⟨a, f, b, g, e1, e2, e3, e4, e5⟩ := rt_same (parse_same e)
          rw [e1] at p3
          rw [e2] at p4
          have p5 := qsame_p a b
          rw [sameM_np e3] at p5
          clear hsc hm e e1 e2 e3 hS hk
          refine fn1 (fn := Tryz.f4) Tryz.call4 Tryz.func4 rfl Tryz.ntmps4 Tryz.results4 rfl (by rfl) ?_
          repeat' (first | (with_reducible first | apply AW.seq | apply AW.skip | apply AW.ret | apply q_then | apply y_e | refine v_rgl ?_) | ((with_reducible apply i_dv); first | refine t_v AS.v ?_ | refine t_v (by first | exact u_call (hP := p1) | exact u_call (hP := p2) | exact u_call (hP := p3) | exact u_call (hP := p4)) ?_ | refine t_w AS.w ?_) | ((with_reducible apply i_dg); first | refine t_m (hs := fun hg => AS.v) (k := ?_) | refine t_m (hs := fun hg => (by first | exact u_call (hP := al) | exact u_call (hP := p5))) (k := ?_)) | ((with_reducible apply i_ds); refine t_s AS.s ?_) | ((with_reducible refine i_aw ?_); first | refine v_no ?_ | (refine v_cond (fun hc => ?_) (fun hc => ?_); all_goals (try (exfalso; revert hc; simp; omega)))) | ((with_reducible refine i_rt ?_); refine k_b ?_) | fail)
          all_goals simp [e4, e5]
      · rw [if_neg hk] at p2
        clear hsc
        refine fn1 (fn := Tryz.f4) Tryz.call4 Tryz.func4 rfl Tryz.ntmps4 Tryz.results4 rfl (by rfl) ?_
        repeat' (first | (with_reducible first | apply AW.seq | apply AW.skip | apply AW.ret | apply q_then | apply q_thenR | apply y_e | refine v_rgl ?_) | ((with_reducible apply i_dv); first | refine t_v AS.v ?_ | refine t_v (by first | exact u_call (hP := al) | exact u_call (hP := p1) | exact u_call (hP := p2)) ?_ | refine t_w AS.w ?_) | ((with_reducible apply i_dg); first | refine t_f ?_ | refine t_m (hs := fun hg => AS.v) (k := ?_)) | ((with_reducible apply i_ds); refine t_s AS.s ?_) | ((with_reducible refine i_aw ?_); first | refine v_yes ?_ | (refine v_cond (fun hc => ?_) (fun hc => ?_); all_goals (try (exfalso; revert hc; simp; omega)))) | ((with_reducible refine i_rt ?_); refine k_b ?_) | fail)
        all_goals rfl
  · refine fn1 (fn := Tryz.f4) Tryz.call4 Tryz.func4 rfl Tryz.ntmps4 Tryz.results4 rfl (by rfl) ?_
    repeat' (first | (with_reducible first | apply AW.seq | apply AW.ret | apply q_then | apply q_thenR | apply y_e | refine v_rgl ?_) | ((with_reducible apply i_dv); first | refine t_v AS.v ?_ | refine t_v (by exact u_call (hP := al)) ?_) | ((with_reducible refine i_aw ?_); ((refine v_cond (fun hc => ?_) (fun hc => ?_); all_goals (try (exfalso; revert hc; simp; omega))))) | ((with_reducible refine i_rt ?_); refine k_b ?_) | fail)
    rfl
end Am
end Go.Proofs.YtkpodagbefnebaaGreatDoor
