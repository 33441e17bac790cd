import Derived.Test.YtkpodagbefnebaaGreatDoorYv8
import Derived.Test.YtkpodagbefnebaaGreatDoorYv21
import Derived.Test.YtkpodagbefnebaaGreatDoorYv20
import Derived.Test.YtkpodagbefnebaaGreatDoorYv22
set_option linter.unusedSimpArgs false
set_option linter.unusedVariables false
set_option linter.unusedSectionVars false
namespace Go.Proofs.YtkpodagbefnebaaGreatDoor
namespace Am
set_option maxRecDepth 100000
set_option maxHeartbeats 4000000
theorem kid_lt6 {x e : Ex} (h : x ∈ e.kids) : SizeOf.sizeOf x < SizeOf.sizeOf e := by
  have h1 := List.sizeOf_lt_of_mem h
  cases e; simp only [Ex.mk.sizeOf_spec] at *; omega
theorem rep_n6 {κ : K} {w : World} {t : Option Nat} {k : Nat} {xs : List (List C)} {v : Value} (h : Rep κ w (.lst t k xs) v) : xs.length ≤ 9223372036854775807 := by
  cases h with
  | lst cv hn _ hc hm _ _ _ => unfold maxLen at hm; omega
theorem agg_l6 {κ : K} {w : World} {x : Value} {cs : List C} {t : Option Nat} {k : Nat} {α : Type} {f : α → List C} {l : List α} (hr : RepV κ w (.agg cs) x) (hm : (.lst t k (l.map f) : C) ∈ cs) : l.length ≤ 9223372036854775807 := by
  obtain ⟨i, hi, e⟩ := List.mem_iff_getElem.1 hm
  cases hr with
  | agg h =>
    rename_i vs
    have hv : i < vs.toList.length := by rw [← h.1]; exact hi
    have := rep_n6 (h.2 i _ _ (List.getElem?_eq_some_iff.2 ⟨hi, e⟩) (List.getElem?_eq_getElem hv))
    rwa [List.length_map] at this
theorem eqB_refl6 (a : Se) : a.eqB a = true := by unfold Se.eqB; simp
theorem agg_kids6 {κ : K} {w : World} {x : Value} {e : Ex} (hr : RepV κ w (.agg (exC e)) x) : e.kids.length ≤ 9223372036854775807 ∧ e.names.length ≤ 9223372036854775807 :=
  ⟨agg_l6 hr (t := none) (k := 10) (f := exC) (by rw [exC, exC_kids_map]; simp), agg_l6 hr (t := none) (k := 1) (f := oneS) (by rw [exC]; simp [strL])⟩
theorem q6same_n : ∀ (n : Nat) (a : Ex), SizeOf.sizeOf a < n → Pure Tryz.prog 25 [.agg (exC a), .agg (exC a)] (.c (sB true))
  | 0, _, h => absurd h (Nat.not_lt_zero _)
  | n + 1, a, h => by
    have ih : ∀ x ∈ a.kids, Pure Tryz.prog 25 [.agg (exC x), .agg (exC x)] (.c (sB true)) := fun x hx =>
      q6same_n n x (by have := kid_lt6 hx; omega)
    refine fn2 (fn := Tryz.f25) Tryz.call25 Tryz.func25 rfl Tryz.ntmps25 Tryz.results25 rfl (by first | rfl | simp [V.ok, okL, C.ok, okA, okV]) ?_
    refine AW.fact (t := 0) rfl (fun κ w x hr => agg_kids6 hr) fun hn => ?_
    repeat' (first | (with_reducible first | apply AW.seq | apply AW.block | apply AW.scope | apply AW.skip | apply AW.ret | apply AW.exit | apply AW.label | apply q_then | apply q_thenR | apply q_thenE | apply q_thenP | apply q_bloN | apply q_bloR | apply q_bloE | apply q_bloP | apply q_strN | apply q_strR | apply q_strE | apply q_strP | apply y_e | refine m_b rfl ?_ ?_ | refine m_g rfl ?_ | refine m_o rfl ?_ ?_ | refine v_reg ?_ | refine v_drw ?_ | refine v_rgl ?_ | refine v_drb ?_) | ((with_reducible apply i_dv); first | refine t_v AS.v ?_ | refine t_w AS.w ?_) | ((with_reducible apply i_dg); first | refine t_n ?_ | refine t_f ?_ | refine t_m (hs := fun hg => AS.v) (k := ?_)) | ((with_reducible apply i_ds); first | refine t_s AS.s ?_ | refine t_p (k := fun σx => ?_)) | ((with_reducible refine i_aw ?_); first | refine v_yes ?_ | refine v_no ?_ | (refine v_cond (fun hc => ?_) (fun hc => ?_); all_goals (try (exfalso; simp [*] at hc; done)); all_goals (try (exfalso; revert hc; simp; omega)))) | ((with_reducible refine i_rt ?_); first | refine k_b ?_ | refine k_s ?_ | refine k_i ?_ | refine k_v ?_ | refine k_c ?_ | exact r_0 | exact r_0n | ((first | refine k_2 ?_ ?_ | refine k_2c ?_ ?_); all_goals (with_reducible (first | apply un_b | apply un_i | apply un_s | apply un_a)))) | ((with_reducible refine i_rx ?_); first | (with_reducible refine x_pan ?_) | refine l_1 (k := ?_) | refine l_0 (k := ?_) | refine l_1c (k := ?_) | refine l_d (k := ?_) | refine l_d0 (k := ?_) | refine l_el (k := ?_)) | ((with_reducible apply y_id); dsimp only [List.append]) | (refine q_bloX rfl ?_) | (refine ⟨by decide +kernel, fun (σx : St) => ?_⟩) | (refine ⟨by decide +kernel, ?_⟩) | fail)
    · exfalso; simp [eqB_refl6] at hc
    refine AW.loop (fun n σ => ∃ j, n = a.names.length - j ∧ j ≤ a.names.length ∧ σ = mk [(2, .c (.ptr 2 0)), (3, .c (.ptr 3 0)), (5, .c (sI j))] [(3, .obj 49 (exC a)), (2, .obj 49 (exC a))]) a.names.length ?_ ?_
    · exact ⟨_, wk_mk (by (repeat (first | exact all_nil | ((refine all_cons ⟨_, rfl, .inl rfl, ?_⟩ ?_); (· (first | rfl | exact okRow rfl | exact ok_nsR _ _ _ _ rfl rfl | exact ok_lvR _ _ _ rfl | exact ok_stM _ _ rfl | (simp [V.ok, okL, C.ok, okA, HO.ok]; done) | (change okL _ _ = true; assumption)))))); done) (by (repeat (first | exact all_nil | ((refine all_cons ⟨_, rfl, .inl rfl, ?_⟩ ?_); (· (first | rfl | exact okRow rfl | exact ok_nsR _ _ _ _ rfl rfl | exact ok_lvR _ _ _ rfl | exact ok_stM _ _ rfl | (simp [V.ok, okL, C.ok, okA, HO.ok]; done) | (change okL _ _ = true; assumption)))))); done) (by first | rfl | exact fun h => h), 0, rfl, Nat.zero_le _, rfl⟩
    rintro n σ ⟨j, rfl, hj, rfl⟩
    by_cases hlt : j < a.names.length
    · obtain ⟨x, hx⟩ : ∃ x, a.names[j]? = some x := ⟨_, List.getElem?_eq_getElem hlt⟩
      repeat' (first | (with_reducible first | apply AW.seq | apply AW.block | apply AW.scope | apply AW.skip | apply AW.ret | apply AW.exit | apply AW.label | apply q_then | apply q_thenR | apply q_thenE | apply q_thenP | apply q_bloN | apply q_bloR | apply q_bloE | apply q_bloP | apply q_strN | apply q_strR | apply q_strE | apply q_strP | apply y_e | refine m_b rfl ?_ ?_ | refine m_g rfl ?_ | refine m_o rfl ?_ ?_ | refine v_reg ?_ | refine v_drw ?_ | refine v_rgl ?_ | refine v_drb ?_) | ((with_reducible apply i_dv); first | refine t_v AS.v ?_ | refine t_w AS.w ?_) | ((with_reducible apply i_dg); first | refine t_n ?_ | refine t_f ?_ | refine t_m (hs := fun hg => AS.v) (k := ?_)) | ((with_reducible apply i_ds); first | refine t_s AS.s ?_ | refine t_p (k := fun σx => ?_)) | ((with_reducible refine i_aw ?_); first | refine v_yes ?_ | refine v_no ?_ | (refine v_cond (fun hc => ?_) (fun hc => ?_); all_goals (try (exfalso; simp [*] at hc; done)); all_goals (try (exfalso; revert hc; simp; omega)))) | ((with_reducible refine i_rt ?_); first | refine k_b ?_ | refine k_s ?_ | refine k_i ?_ | refine k_v ?_ | refine k_c ?_ | exact r_0 | exact r_0n | ((first | refine k_2 ?_ ?_ | refine k_2c ?_ ?_); all_goals (with_reducible (first | apply un_b | apply un_i | apply un_s | apply un_a)))) | ((with_reducible refine i_rx ?_); first | (with_reducible refine x_pan ?_) | refine l_1 (k := ?_) | refine l_0 (k := ?_) | refine l_1c (k := ?_) | refine l_d (k := ?_) | refine l_d0 (k := ?_) | refine l_el (k := ?_)) | ((with_reducible apply y_id); dsimp only [List.append]) | (refine q_bloX rfl ?_) | (refine ⟨by decide +kernel, fun (σx : St) => ?_⟩) | (refine ⟨by decide +kernel, ?_⟩) | fail)
      · exact ⟨_, _, (show a.names.length - (j + 1) < a.names.length - j by omega), wk_mk (by (repeat (first | exact all_nil | ((refine all_cons ⟨_, rfl, .inl rfl, ?_⟩ ?_); (· (first | rfl | exact okRow rfl | exact ok_nsR _ _ _ _ rfl rfl | exact ok_lvR _ _ _ rfl | exact ok_stM _ _ rfl | (simp [V.ok, okL, C.ok, okA, HO.ok]; done) | (change okL _ _ = true; assumption)))))); done) (by (repeat (first | exact all_nil | ((refine all_cons ⟨_, rfl, .inl rfl, ?_⟩ ?_); (· (first | rfl | exact okRow rfl | exact ok_nsR _ _ _ _ rfl rfl | exact ok_lvR _ _ _ rfl | exact ok_stM _ _ rfl | (simp [V.ok, okL, C.ok, okA, HO.ok]; done) | (change okL _ _ = true; assumption)))))); done) (by first | rfl | exact fun h => h), j + 1, rfl, hlt, rfl⟩
    · repeat' (first | (with_reducible first | apply AW.seq | apply AW.block | apply AW.scope | apply AW.skip | apply AW.ret | apply AW.exit | apply AW.label | apply q_then | apply q_thenR | apply q_thenE | apply q_thenP | apply q_bloN | apply q_bloR | apply q_bloE | apply q_bloP | apply q_strN | apply q_strR | apply q_strE | apply q_strP | apply y_e | refine m_b rfl ?_ ?_ | refine m_g rfl ?_ | refine m_o rfl ?_ ?_ | refine v_reg ?_ | refine v_drw ?_ | refine v_rgl ?_ | refine v_drb ?_) | ((with_reducible apply i_dv); first | refine t_v AS.v ?_ | refine t_w AS.w ?_) | ((with_reducible apply i_dg); first | refine t_n ?_ | refine t_f ?_ | refine t_m (hs := fun hg => AS.v) (k := ?_)) | ((with_reducible apply i_ds); first | refine t_s AS.s ?_ | refine t_p (k := fun σx => ?_)) | ((with_reducible refine i_aw ?_); first | refine v_yes ?_ | refine v_no ?_ | (refine v_cond (fun hc => ?_) (fun hc => ?_); all_goals (try (exfalso; simp [*] at hc; done)); all_goals (try (exfalso; revert hc; simp; omega)))) | ((with_reducible refine i_rt ?_); first | refine k_b ?_ | refine k_s ?_ | refine k_i ?_ | refine k_v ?_ | refine k_c ?_ | exact r_0 | exact r_0n | ((first | refine k_2 ?_ ?_ | refine k_2c ?_ ?_); all_goals (with_reducible (first | apply un_b | apply un_i | apply un_s | apply un_a)))) | ((with_reducible refine i_rx ?_); first | (with_reducible refine x_pan ?_) | refine l_1 (k := ?_) | refine l_0 (k := ?_) | refine l_1c (k := ?_) | refine l_d (k := ?_) | refine l_d0 (k := ?_) | refine l_el (k := ?_)) | ((with_reducible apply y_id); dsimp only [List.append]) | (refine q_bloX rfl ?_) | (refine ⟨by decide +kernel, fun (σx : St) => ?_⟩) | (refine ⟨by decide +kernel, ?_⟩) | fail)
      refine AW.loop (fun n σ => ∃ j, n = a.kids.length - j ∧ j ≤ a.kids.length ∧ σ = mk [(2, .c (.ptr 2 0)), (3, .c (.ptr 3 0)), (6, .c (sI j))] [(3, .obj 49 (exC a)), (2, .obj 49 (exC a))]) a.kids.length ?_ ?_
      · exact ⟨_, wk_mk (by (repeat (first | exact all_nil | ((refine all_cons ⟨_, rfl, .inl rfl, ?_⟩ ?_); (· (first | rfl | exact okRow rfl | exact ok_nsR _ _ _ _ rfl rfl | exact ok_lvR _ _ _ rfl | exact ok_stM _ _ rfl | (simp [V.ok, okL, C.ok, okA, HO.ok]; done) | (change okL _ _ = true; assumption)))))); done) (by (repeat (first | exact all_nil | ((refine all_cons ⟨_, rfl, .inl rfl, ?_⟩ ?_); (· (first | rfl | exact okRow rfl | exact ok_nsR _ _ _ _ rfl rfl | exact ok_lvR _ _ _ rfl | exact ok_stM _ _ rfl | (simp [V.ok, okL, C.ok, okA, HO.ok]; done) | (change okL _ _ = true; assumption)))))); done) (by first | rfl | exact fun h => h), 0, rfl, Nat.zero_le _, rfl⟩
      clear hc hlt hj
      rintro n σ ⟨j, rfl, hj, rfl⟩
      by_cases hlt : j < a.kids.length
      · obtain ⟨x, hx⟩ : ∃ x, a.kids[j]? = some x := ⟨_, List.getElem?_eq_getElem hlt⟩
        have hp := ih x (List.mem_of_getElem? hx)
        repeat' (first | (with_reducible first | apply AW.seq | apply AW.block | apply AW.scope | apply AW.skip | apply AW.ret | apply AW.exit | apply AW.label | apply q_then | apply q_thenR | apply q_thenE | apply q_thenP | apply q_bloN | apply q_bloR | apply q_bloE | apply q_bloP | apply q_strN | apply q_strR | apply q_strE | apply q_strP | apply y_e | refine m_b rfl ?_ ?_ | refine m_g rfl ?_ | refine m_o rfl ?_ ?_ | refine v_reg ?_ | refine v_drw ?_ | refine v_rgl ?_ | refine v_drb ?_) | ((with_reducible apply i_dv); first | refine t_v AS.v ?_ | refine t_v (by first | exact u_call (hP := hp)) ?_ | refine t_w AS.w ?_) | ((with_reducible apply i_dg); first | refine t_n ?_ | refine t_f ?_ | refine t_m (hs := fun hg => AS.v) (k := ?_) | refine t_m (hs := fun hg => (by first | exact u_call (hP := hp))) (k := ?_)) | ((with_reducible apply i_ds); first | refine t_s AS.s ?_ | refine t_s0 (by first | exact u_call (hP := hp)) ?_ | refine t_p (k := fun σx => ?_)) | ((with_reducible refine i_aw ?_); first | refine v_yes ?_ | refine v_no ?_ | (refine v_cond (fun hc => ?_) (fun hc => ?_); all_goals (try (exfalso; simp [*] at hc; done)); all_goals (try (exfalso; revert hc; simp; omega)))) | ((with_reducible refine i_rt ?_); first | refine k_b ?_ | refine k_s ?_ | refine k_i ?_ | refine k_v ?_ | refine k_c ?_ | exact r_0 | exact r_0n | ((first | refine k_2 ?_ ?_ | refine k_2c ?_ ?_); all_goals (with_reducible (first | apply un_b | apply un_i | apply un_s | apply un_a)))) | ((with_reducible refine i_rx ?_); first | (with_reducible refine x_pan ?_) | refine l_1 (k := ?_) | refine l_0 (k := ?_) | refine l_1c (k := ?_) | refine l_d (k := ?_) | refine l_d0 (k := ?_) | refine l_el (k := ?_)) | ((with_reducible apply y_id); dsimp only [List.append]) | (refine q_bloX rfl ?_) | (refine ⟨by decide +kernel, fun (σx : St) => ?_⟩) | (refine ⟨by decide +kernel, ?_⟩) | fail)
        exact ⟨_, _, (show a.kids.length - (j + 1) < a.kids.length - j by omega), wk_mk (by (repeat (first | exact all_nil | ((refine all_cons ⟨_, rfl, .inl rfl, ?_⟩ ?_); (· (first | rfl | exact okRow rfl | exact ok_nsR _ _ _ _ rfl rfl | exact ok_lvR _ _ _ rfl | exact ok_stM _ _ rfl | (simp [V.ok, okL, C.ok, okA, HO.ok]; done) | (change okL _ _ = true; assumption)))))); done) (by (repeat (first | exact all_nil | ((refine all_cons ⟨_, rfl, .inl rfl, ?_⟩ ?_); (· (first | rfl | exact okRow rfl | exact ok_nsR _ _ _ _ rfl rfl | exact ok_lvR _ _ _ rfl | exact ok_stM _ _ rfl | (simp [V.ok, okL, C.ok, okA, HO.ok]; done) | (change okL _ _ = true; assumption)))))); done) (by first | rfl | exact fun h => h), j + 1, rfl, hlt, rfl⟩
      · repeat' (first | (with_reducible first | apply AW.seq | apply AW.block | apply AW.scope | apply AW.skip | apply AW.ret | apply AW.exit | apply AW.label | apply q_then | apply q_thenR | apply q_thenE | apply q_thenP | apply q_bloN | apply q_bloR | apply q_bloE | apply q_bloP | apply q_strN | apply q_strR | apply q_strE | apply q_strP | apply y_e | refine m_b rfl ?_ ?_ | refine m_g rfl ?_ | refine m_o rfl ?_ ?_ | refine v_reg ?_ | refine v_drw ?_ | refine v_rgl ?_ | refine v_drb ?_) | ((with_reducible apply i_dv); first | refine t_v AS.v ?_ | refine t_w AS.w ?_) | ((with_reducible apply i_dg); first | refine t_n ?_ | refine t_f ?_ | refine t_m (hs := fun hg => AS.v) (k := ?_)) | ((with_reducible apply i_ds); first | refine t_s AS.s ?_ | refine t_p (k := fun σx => ?_)) | ((with_reducible refine i_aw ?_); first | refine v_yes ?_ | refine v_no ?_ | (refine v_cond (fun hc => ?_) (fun hc => ?_); all_goals (try (exfalso; simp [*] at hc; done)); all_goals (try (exfalso; revert hc; simp; omega)))) | ((with_reducible refine i_rt ?_); first | refine k_b ?_ | refine k_s ?_ | refine k_i ?_ | refine k_v ?_ | refine k_c ?_ | exact r_0 | exact r_0n | ((first | refine k_2 ?_ ?_ | refine k_2c ?_ ?_); all_goals (with_reducible (first | apply un_b | apply un_i | apply un_s | apply un_a)))) | ((with_reducible refine i_rx ?_); first | (with_reducible refine x_pan ?_) | refine l_1 (k := ?_) | refine l_0 (k := ?_) | refine l_1c (k := ?_) | refine l_d (k := ?_) | refine l_d0 (k := ?_) | refine l_el (k := ?_)) | ((with_reducible apply y_id); dsimp only [List.append]) | (refine q_bloX rfl ?_) | (refine ⟨by decide +kernel, fun (σx : St) => ?_⟩) | (refine ⟨by decide +kernel, ?_⟩) | fail)
        rfl
theorem q6same_p (a : Ex) : Pure Tryz.prog 25 [.agg (exC a), .agg (exC a)] (.c (sB true)) := q6same_n _ a (Nat.lt_succ_self _)
end Am
namespace Am
open Tk Go.RowKit
set_option maxRecDepth 100000
set_option maxHeartbeats 4000000
theorem parse6_p (s : ByteArray) : ∃ x f, Pure Tryz.prog 33 [.c (sS s)] (.tup [.agg (exC x), .agg (faC f)]) ∧ (f.code ≠ 0 ∨ f.code = 0 ∧ ∃ l n t, scanP s = .ok l ∧ tksK l = .ok (x, n) ∧ l[n]? = some t ∧ t.kind = 0) := by
  have sp := scan_p s
  cases e : scanP s with
  | error f =>
    have hf := (scanP_nz s f e).1
    rw [e] at sp
    refine ⟨Ex.zero, f, ?_, .inl hf⟩
    clear e
    refine fn1 (fn := Tryz.f33) Tryz.call33 Tryz.func33 rfl Tryz.ntmps33 Tryz.results33 rfl (by first | rfl | simp [V.ok, okL, C.ok, okA, okV]) ?_
    repeat' (first | (with_reducible first | apply AW.seq | apply AW.block | apply AW.scope | apply AW.skip | apply AW.ret | apply AW.exit | apply AW.label | apply q_then | apply q_thenR | apply q_thenE | apply q_thenP | apply q_bloN | apply q_bloR | apply q_bloE | apply q_bloP | apply q_strN | apply q_strR | apply q_strE | apply q_strP | apply y_e | refine m_b rfl ?_ ?_ | refine m_g rfl ?_ | refine m_o rfl ?_ ?_ | refine v_reg ?_ | refine v_drw ?_ | refine v_rgl ?_ | refine v_drb ?_) | ((with_reducible apply i_dv); first | refine t_v AS.v ?_ | refine t_v (by first | exact u_call (hP := sp)) ?_ | refine t_w AS.w ?_) | ((with_reducible apply i_dg); first | refine t_n ?_ | refine t_f ?_ | refine t_m (hs := fun hg => AS.v) (k := ?_) | refine t_m (hs := fun hg => (by first | exact u_call (hP := sp))) (k := ?_)) | ((with_reducible apply i_ds); first | refine t_s AS.s ?_ | refine t_s0 (by first | exact u_call (hP := sp)) ?_ | refine t_p (k := fun σx => ?_)) | ((with_reducible refine i_aw ?_); first | refine v_yes ?_ | refine v_no ?_ | (refine v_cond (fun hc => ?_) (fun hc => ?_); all_goals (try (exfalso; simp [*] at hc; done)); all_goals (try (exfalso; revert hc; simp; omega)))) | ((with_reducible refine i_rt ?_); first | refine k_b ?_ | refine k_s ?_ | refine k_i ?_ | refine k_v ?_ | refine k_c ?_ | exact r_0 | ((first | refine k_cc ?_ ?_ | refine k_ccc ?_ ?_ ?_ | refine k_ct ?_ ?_ | refine k_ctc ?_ ?_ ?_); all_goals (with_reducible (first | apply un_b | apply un_i | apply un_s | apply un_a))) | exact r_0n | ((first | refine k_2 ?_ ?_ | refine k_2c ?_ ?_); all_goals (with_reducible (first | apply un_b | apply un_i | apply un_s | apply un_a)))) | ((with_reducible refine i_rx ?_); first | (with_reducible refine x_pan ?_) | refine l_1 (k := ?_) | refine l_0 (k := ?_) | refine l_1c (k := ?_) | refine l_d (k := ?_) | refine l_d0 (k := ?_) | refine l_el (k := ?_) | refine l_tc (k := ?_) | refine l_cc (k := ?_)) | ((with_reducible apply y_id); dsimp only [List.append]) | (refine q_bloX rfl ?_) | (refine ⟨by decide +kernel, fun (σx : St) => ?_⟩) | (refine ⟨by decide +kernel, ?_⟩) | fail)
    all_goals simp [unA]
  | ok l =>
    have hl := (scan_fine e).le
    rw [e] at sp
    have tp := tokens_p l hl
    cases h : tksK l with
    | error f =>
      rw [h] at tp
      have hf : f.code ≠ 0 := tksK_err h
      refine ⟨Ex.zero, f, ?_, .inl hf⟩
      clear e h
      refine fn1 (fn := Tryz.f33) Tryz.call33 Tryz.func33 rfl Tryz.ntmps33 Tryz.results33 rfl (by first | rfl | simp [V.ok, okL, C.ok, okA, okV]) ?_
      repeat' (first | (with_reducible first | apply AW.seq | apply AW.block | apply AW.scope | apply AW.skip | apply AW.ret | apply AW.exit | apply AW.label | apply q_then | apply q_thenR | apply q_thenE | apply q_thenP | apply q_bloN | apply q_bloR | apply q_bloE | apply q_bloP | apply q_strN | apply q_strR | apply q_strE | apply q_strP | apply y_e | refine m_b rfl ?_ ?_ | refine m_g rfl ?_ | refine m_o rfl ?_ ?_ | refine v_reg ?_ | refine v_drw ?_ | refine v_rgl ?_ | refine v_drb ?_) | ((with_reducible apply i_dv); first | refine t_v AS.v ?_ | refine t_v (by first | exact u_call (hP := sp) | exact u_call (hP := tp)) ?_ | refine t_w AS.w ?_) | ((with_reducible apply i_dg); first | refine t_n ?_ | refine t_f ?_ | refine t_m (hs := fun hg => AS.v) (k := ?_) | refine t_m (hs := fun hg => (by first | exact u_call (hP := sp) | exact u_call (hP := tp))) (k := ?_)) | ((with_reducible apply i_ds); first | refine t_s AS.s ?_ | refine t_s0 (by first | exact u_call (hP := sp) | exact u_call (hP := tp)) ?_ | refine t_p (k := fun σx => ?_)) | ((with_reducible refine i_aw ?_); first | refine v_yes ?_ | refine v_no ?_ | (refine v_cond (fun hc => ?_) (fun hc => ?_); all_goals (try (exfalso; simp [*] at hc; done)); all_goals (try (exfalso; revert hc; simp; omega)))) | ((with_reducible refine i_rt ?_); first | refine k_b ?_ | refine k_s ?_ | refine k_i ?_ | refine k_v ?_ | refine k_c ?_ | exact r_0 | ((first | refine k_cc ?_ ?_ | refine k_ccc ?_ ?_ ?_ | refine k_ct ?_ ?_ | refine k_ctc ?_ ?_ ?_); all_goals (with_reducible (first | apply un_b | apply un_i | apply un_s | apply un_a))) | exact r_0n | ((first | refine k_2 ?_ ?_ | refine k_2c ?_ ?_); all_goals (with_reducible (first | apply un_b | apply un_i | apply un_s | apply un_a)))) | ((with_reducible refine i_rx ?_); first | (with_reducible refine x_pan ?_) | refine l_1 (k := ?_) | refine l_0 (k := ?_) | refine l_1c (k := ?_) | refine l_d (k := ?_) | refine l_d0 (k := ?_) | refine l_el (k := ?_) | refine l_tc (k := ?_) | refine l_cc (k := ?_)) | ((with_reducible apply y_id); dsimp only [List.append]) | (refine q_bloX rfl ?_) | (refine ⟨by decide +kernel, fun (σx : St) => ?_⟩) | (refine ⟨by decide +kernel, ?_⟩) | fail)
      all_goals simp [unA]
    | ok xn =>
      obtain ⟨x, n⟩ := xn
      rw [h] at tp
      have hn := tksK_fine (scan_fine e) ⟨0, (scan_fine e).pos⟩ (x := x) (n := n) h
      obtain ⟨t, ht⟩ : ∃ t, l[n]? = some t := ⟨_, List.getElem?_eq_getElem (by simpa using hn)⟩
      by_cases hk : t.kind = 0
      · refine ⟨x, Fa.zero, ?_, .inr ⟨rfl, l, n, t, rfl, h, ht, hk⟩⟩
        clear e h hn
        refine fn1 (fn := Tryz.f33) Tryz.call33 Tryz.func33 rfl Tryz.ntmps33 Tryz.results33 rfl (by first | rfl | simp [V.ok, okL, C.ok, okA, okV]) ?_
        repeat' (first | (with_reducible first | apply AW.seq | apply AW.block | apply AW.scope | apply AW.skip | apply AW.ret | apply AW.exit | apply AW.label | apply q_then | apply q_thenR | apply q_thenE | apply q_thenP | apply q_bloN | apply q_bloR | apply q_bloE | apply q_bloP | apply q_strN | apply q_strR | apply q_strE | apply q_strP | apply y_e | refine m_b rfl ?_ ?_ | refine m_g rfl ?_ | refine m_o rfl ?_ ?_ | refine v_reg ?_ | refine v_drw ?_ | refine v_rgl ?_ | refine v_drb ?_) | ((with_reducible apply i_dv); first | refine t_v AS.v ?_ | refine t_v (by first | exact u_call (hP := sp) | exact u_call (hP := tp)) ?_ | refine t_w AS.w ?_) | ((with_reducible apply i_dg); first | refine t_n ?_ | refine t_f ?_ | refine t_m (hs := fun hg => AS.v) (k := ?_) | refine t_m (hs := fun hg => (by first | exact u_call (hP := sp) | exact u_call (hP := tp))) (k := ?_)) | ((with_reducible apply i_ds); first | refine t_s AS.s ?_ | refine t_s0 (by first | exact u_call (hP := sp) | exact u_call (hP := tp)) ?_ | refine t_p (k := fun σx => ?_)) | ((with_reducible refine i_aw ?_); first | refine v_yes ?_ | refine v_no ?_ | (refine v_cond (fun hc => ?_) (fun hc => ?_); all_goals (try (exfalso; simp [*] at hc; done)); all_goals (try (exfalso; revert hc; simp; omega)))) | ((with_reducible refine i_rt ?_); first | refine k_b ?_ | refine k_s ?_ | refine k_i ?_ | refine k_v ?_ | refine k_c ?_ | exact r_0 | ((first | refine k_cc ?_ ?_ | refine k_ccc ?_ ?_ ?_ | refine k_ct ?_ ?_ | refine k_ctc ?_ ?_ ?_); all_goals (with_reducible (first | apply un_b | apply un_i | apply un_s | apply un_a))) | exact r_0n | ((first | refine k_2 ?_ ?_ | refine k_2c ?_ ?_); all_goals (with_reducible (first | apply un_b | apply un_i | apply un_s | apply un_a)))) | ((with_reducible refine i_rx ?_); first | (with_reducible refine x_pan ?_) | refine l_1 (k := ?_) | refine l_0 (k := ?_) | refine l_1c (k := ?_) | refine l_d (k := ?_) | refine l_d0 (k := ?_) | refine l_el (k := ?_) | refine l_tc (k := ?_) | refine l_cc (k := ?_)) | ((with_reducible apply y_id); dsimp only [List.append]) | (refine q_bloX rfl ?_) | (refine ⟨by decide +kernel, fun (σx : St) => ?_⟩) | (refine ⟨by decide +kernel, ?_⟩) | fail)
        all_goals simp [unA]
      · refine ⟨Ex.zero, ⟨9, t.pos, ⟨#[]⟩⟩, ?_, .inl (show (9 : Int) ≠ 0 by decide)⟩
        clear e h hn
        refine fn1 (fn := Tryz.f33) Tryz.call33 Tryz.func33 rfl Tryz.ntmps33 Tryz.results33 rfl (by first | rfl | simp [V.ok, okL, C.ok, okA, okV]) ?_
        repeat' (first | (with_reducible first | apply AW.seq | apply AW.block | apply AW.scope | apply AW.skip | apply AW.ret | apply AW.exit | apply AW.label | apply q_then | apply q_thenR | apply q_thenE | apply q_thenP | apply q_bloN | apply q_bloR | apply q_bloE | apply q_bloP | apply q_strN | apply q_strR | apply q_strE | apply q_strP | apply y_e | refine m_b rfl ?_ ?_ | refine m_g rfl ?_ | refine m_o rfl ?_ ?_ | refine v_reg ?_ | refine v_drw ?_ | refine v_rgl ?_ | refine v_drb ?_) | ((with_reducible apply i_dv); first | refine t_v AS.v ?_ | refine t_v (by first | exact u_call (hP := sp) | exact u_call (hP := tp)) ?_ | refine t_w AS.w ?_) | ((with_reducible apply i_dg); first | refine t_n ?_ | refine t_f ?_ | refine t_m (hs := fun hg => AS.v) (k := ?_) | refine t_m (hs := fun hg => (by first | exact u_call (hP := sp) | exact u_call (hP := tp))) (k := ?_)) | ((with_reducible apply i_ds); first | refine t_s AS.s ?_ | refine t_s0 (by first | exact u_call (hP := sp) | exact u_call (hP := tp)) ?_ | refine t_p (k := fun σx => ?_)) | ((with_reducible refine i_aw ?_); first | refine v_yes ?_ | refine v_no ?_ | (refine v_cond (fun hc => ?_) (fun hc => ?_); all_goals (try (exfalso; simp [*] at hc; done)); all_goals (try (exfalso; revert hc; simp; omega)))) | ((with_reducible refine i_rt ?_); first | refine k_b ?_ | refine k_s ?_ | refine k_i ?_ | refine k_v ?_ | refine k_c ?_ | exact r_0 | ((first | refine k_cc ?_ ?_ | refine k_ccc ?_ ?_ ?_ | refine k_ct ?_ ?_ | refine k_ctc ?_ ?_ ?_); all_goals (with_reducible (first | apply un_b | apply un_i | apply un_s | apply un_a))) | exact r_0n | ((first | refine k_2 ?_ ?_ | refine k_2c ?_ ?_); all_goals (with_reducible (first | apply un_b | apply un_i | apply un_s | apply un_a)))) | ((with_reducible refine i_rx ?_); first | (with_reducible refine x_pan ?_) | refine l_1 (k := ?_) | refine l_0 (k := ?_) | refine l_1c (k := ?_) | refine l_d (k := ?_) | refine l_d0 (k := ?_) | refine l_el (k := ?_) | refine l_tc (k := ?_) | refine l_cc (k := ?_)) | ((with_reducible apply y_id); dsimp only [List.append]) | (refine q_bloX rfl ?_) | (refine ⟨by decide +kernel, fun (σx : St) => ?_⟩) | (refine ⟨by decide +kernel, ?_⟩) | fail)
        all_goals simp [unA]
        rfl
end Am
namespace Am
open Tk
set_option maxRecDepth 100000
def mks : List ByteArray := [⟨#[33]⟩, ⟨#[40]⟩, ⟨#[41]⟩, ⟨#[61, 61]⟩, ⟨#[33, 61]⟩, ⟨#[38, 38]⟩, ⟨#[94]⟩, ⟨#[124, 124]⟩]
theorem mk_in {m : ByteArray} (h : (mks.any fun x => decide (x = m)) = true) : m ∈ mks := by
  obtain ⟨x, hx, e⟩ := List.any_eq_true.1 h
  exact of_decide_eq_true e ▸ hx
structure Al (ts ts' : List Tok) (N : Nat) : Prop where
  k : ∀ i, i ≤ N → ∀ m ∈ mks, isK ts' i m = isK ts i m
  n : ∀ i, i ≤ N → nmK ts' i = nmK ts i
  e : ∀ m, isK ts N m = false
  en : nmK ts N = none
section
variable {ts ts' : List Tok} {N : Nat}
theorem Al.lt (h : Al ts ts' N) {i : Nat} {m : ByteArray} (hi : i ≤ N) (hm : isK ts i m = true) : i < N := by
  rcases Nat.lt_or_ge i N with h1 | h1
  · exact h1
  · obtain rfl : i = N := Nat.le_antisymm hi h1
    rw [h.e] at hm; cases hm
theorem Al.op (h : Al ts ts' N) {i : Nat} (hi : i ≤ N) (n : Nat) : opK ts' i n = opK ts i n := by
  unfold opK
  rw [h.k i hi ⟨#[61, 61]⟩ (mk_in (by decide)), h.k i hi ⟨#[33, 61]⟩ (mk_in (by decide)), h.k i hi ⟨#[38, 38]⟩ (mk_in (by decide)), h.k i hi ⟨#[94]⟩ (mk_in (by decide)), h.k i hi ⟨#[124, 124]⟩ (mk_in (by decide))]
theorem Al.olt (h : Al ts ts' N) {i n : Nat} (hi : i ≤ N) (ho : ¬ opK ts i n = 0) : i < N := by
  rcases Nat.lt_or_ge i N with h1 | h1
  · exact h1
  · obtain rfl : i = N := Nat.le_antisymm hi h1
    exfalso
    apply ho
    unfold opK
    simp only [h.e]
    simp
theorem sim (h : Al ts ts' N) : ∀ f : Nat, (∀ {i d j : Nat} {x : Ex} {f' : Nat}, i ≤ N → f ≤ f' → notK ts f i d = .ok (x, j) → j ≤ N ∧ notK ts' f' i d = .ok (x, j)) ∧ (∀ {n i d j : Nat} {x : Ex} {f' : Nat}, i ≤ N → f ≤ f' → binK ts f n i d = .ok (x, j) → j ≤ N ∧ binK ts' f' n i d = .ok (x, j)) ∧ (∀ {n i d j : Nat} {e x : Ex} {f' : Nat}, i ≤ N → f ≤ f' → bilK ts f n e i d = .ok (x, j) → j ≤ N ∧ bilK ts' f' n e i d = .ok (x, j))
  | 0 => ⟨fun _ _ h => (by rw [notK] at h; cases h), fun _ _ h => (by rw [binK] at h; cases h), fun _ _ h => (by rw [bilK] at h; cases h)⟩
  | f + 1 => by
    obtain ⟨i1, i2, i3⟩ := sim h f
    refine ⟨fun {i d j x f'} hi hf a => ?_, fun {n i d j x f'} hi hf a => ?_, fun {n i d j e x f'} hi hf a => ?_⟩
    · obtain ⟨g, rfl⟩ : ∃ g, f' = g + 1 := ⟨f' - 1, by omega⟩
      rw [notK] at a ⊢
      rw [h.k i hi ⟨#[33]⟩ (mk_in (by decide)), h.k i hi ⟨#[40]⟩ (mk_in (by decide)), h.n i hi]
      by_cases h1 : isK ts i ⟨#[33]⟩ = true
      · have lt := h.lt hi h1
        rw [if_pos h1] at a ⊢
        by_cases hd : 12 ≤ d
        · rw [if_pos hd] at a; cases a
        · rw [if_neg hd] at a ⊢
          obtain ⟨⟨y, k⟩, b, c⟩ := bind_ok.1 a
          obtain ⟨c1, c2⟩ := i1 (f' := g) (by omega) (by omega) b
          rw [c2, ok_bind]
          injection c with c
          injection c with c3 c4
          subst c3 c4
          exact ⟨c1, rfl⟩
      · rw [if_neg h1] at a ⊢
        by_cases h2 : isK ts i ⟨#[40]⟩ = true
        · have lt := h.lt hi h2
          rw [if_pos h2] at a ⊢
          by_cases hd : 12 ≤ d
          · rw [if_pos hd] at a; cases a
          · rw [if_neg hd] at a ⊢
            obtain ⟨⟨y, k⟩, b, c⟩ := bind_ok.1 a
            obtain ⟨c1, c2⟩ := i2 (f' := g) (by omega) (by omega) b
            rw [c2, ok_bind]
            dsimp only at c ⊢
            rw [h.k k c1 ⟨#[41]⟩ (mk_in (by decide))]
            by_cases h3 : isK ts k ⟨#[41]⟩ = true
            · have lt := h.lt c1 h3
              rw [if_pos h3] at c ⊢
              injection c with c
              injection c with c3 c4
              subst c3 c4
              exact ⟨lt, rfl⟩
            · rw [if_neg h3] at c; cases c
        · rw [if_neg h2] at a ⊢
          cases e : nmK ts i with
          | none => rw [e] at a; cases a
          | some s =>
            rw [e] at a
            have lt : i < N := by
              rcases Nat.lt_or_ge i N with h1 | h1
              · exact h1
              · obtain rfl : i = N := Nat.le_antisymm hi h1
                rw [h.en] at e; cases e
            dsimp only at a ⊢
            injection a with a
            injection a with c3 c4
            subst c3 c4
            exact ⟨lt, rfl⟩
    · obtain ⟨g, rfl⟩ : ∃ g, f' = g + 1 := ⟨f' - 1, by omega⟩
      rw [binK] at a ⊢
      by_cases h1 : 4 < n
      · rw [if_pos h1] at a ⊢
        exact i1 hi (by omega) a
      · rw [if_neg h1] at a ⊢
        obtain ⟨⟨y, k⟩, b, c⟩ := bind_ok.1 a
        obtain ⟨c1, c2⟩ := i2 (f' := g) hi (by omega) b
        rw [c2, ok_bind]
        exact i3 c1 (by omega) c
    · obtain ⟨g, rfl⟩ : ∃ g, f' = g + 1 := ⟨f' - 1, by omega⟩
      rw [bilK] at a ⊢
      rw [h.op hi]
      by_cases h1 : opK ts i n = 0
      · rw [if_pos h1] at a ⊢
        injection a with a
        injection a with c3 c4
        subst c3 c4
        exact ⟨hi, rfl⟩
      · have lt := h.olt hi h1
        rw [if_neg h1] at a ⊢
        obtain ⟨⟨y, k⟩, b, c⟩ := bind_ok.1 a
        obtain ⟨c1, c2⟩ := i2 (f' := g) (by omega) (by omega) b
        rw [c2, ok_bind]
        exact i3 c1 (by omega) c
theorem tks_sim (h : Al ts ts' N) (hl : ts.length ≤ ts'.length) {x : Ex} {j : Nat} (a : tksK ts = .ok (x, j)) : tksK ts' = .ok (x, j) := by
  unfold tksK at a ⊢
  obtain ⟨⟨y, k⟩, b, c⟩ := bind_ok.1 a
  obtain ⟨c1, c2⟩ := (sim h _).2.1 (f' := 8 * ts'.length + 16) (Nat.zero_le _) (by omega) b
  rw [c2, ok_bind]
  dsimp only at c ⊢
  by_cases hv : 12 < levE y
  · rw [if_pos hv] at c; cases c
  · rw [if_neg hv] at c ⊢; exact c
end
section
variable {l : List Tok} {k : Ix l} {t u : Tok} {r : List Tok} {p : Po} {s : ByteArray}
theorem at_tk (h : l.drop k.1 = t :: r) : tk k = t := by
  have this : (l.drop k.1)[0]? = l[k.1 + 0]? := List.getElem?_drop
  rw [h] at this
  have e := (List.getElem?_eq_some_iff.1 this.symm).2
  exact e
theorem at_lt (h : l.drop k.1 = t :: u :: r) : k.1 + 1 < l.length := by
  have := congrArg List.length h
  rw [List.length_drop] at this
  simp only [List.length_cons] at this
  omega
theorem at_nx (h : l.drop k.1 = t :: u :: r) : l.drop (nx k).1 = u :: r := by
  have e : (nx k).1 = k.1 + 1 := by unfold nx; rw [dif_pos (at_lt h)]
  rw [e, ← List.drop_drop, h]; rfl
theorem isM_at (h : l.drop k.1 = t :: r) (s : ByteArray) : isM s k = (decide (t.kind = 4) && decide (t.text = s)) := by unfold isM; rw [at_tk h]
theorem isW_at (h : l.drop k.1 = t :: r) (s : ByteArray) : isW s k = (decide (t.kind = 1) && decide (t.text = s)) := by unfold isW; rw [at_tk h]
theorem need_at (h : l.drop k.1 = ⟨4, s, p⟩ :: r) : needP s k = .ok ((), nx k) := by
  unfold needP; rw [isM_at h, if_pos (by simp)]
theorem needW_at (h : l.drop k.1 = ⟨1, s, p⟩ :: r) : needWP s k = .ok ((), nx k) := by
  unfold needWP; rw [isW_at h, if_pos (by simp)]
theorem name_at (h : l.drop k.1 = ⟨1, s, p⟩ :: r) (hi : idB s = true) : nameP k = .ok (s, nx k) := by
  unfold nameP isNm; rw [at_tk h, if_pos (by simp [hi])]
theorem set_at (h : l.drop k.1 = ⟨1, s, p⟩ :: r) (hi : idB s = true) (hs : s ≠ ⟨#[115, 101, 108, 102]⟩) (b : Bool) : setP b k = .ok (⟨false, false, false, [s], []⟩, nx k) := by
  have h1 : ∀ m, isM m k = false := fun m => by rw [isM_at h]; rfl
  have h2 : isW ⟨#[115, 101, 108, 102]⟩ k = false := by rw [isW_at h]; simp [hs]
  unfold setP
  simp only [h1, adv, Bool.false_eq_true, if_false]
  unfold elemP
  simp only [h1, h2, Bool.and_false, Bool.false_and, Bool.false_eq_true, if_false, name_at h hi, ok_bind]
  rfl
theorem rule_at {w : ByteArray} {n : Int} {z : Stm} {p1 p2 p3 p4 p5 p6 : Po} (hd : ∀ (z : Stm) (k : Ix l), declP w z k = .ok (false, (z, k))) (hn : numW w ruleW = n) (h0 : 0 < n) (h : l.drop k.1 = ⟨1, ⟨#[97]⟩, p1⟩ :: ⟨1, ⟨#[98]⟩, p2⟩ :: ⟨4, ⟨#[58]⟩, p3⟩ :: ⟨1, ⟨#[99]⟩, p4⟩ :: ⟨1, ⟨#[100]⟩, p5⟩ :: ⟨4, ⟨#[59]⟩, p6⟩ :: u :: r) : ∃ S k', plainP w z k = .ok (S, k') ∧ l.drop k'.1 = u :: r := by
  have d1 := at_nx h
  have d2 := at_nx d1
  have d3 := at_nx d2
  have d4 := at_nx d3
  have d5 := at_nx d4
  have d6 := at_nx d5
  unfold plainP
  rw [hd, ok_bind]
  simp only [Bool.false_eq_true, if_false]
  unfold ruleP pairP
  rw [hn, if_pos h0]
  simp only [set_at h (by decide) (by decide), set_at d1 (by decide) (by decide), need_at d2, set_at d3 (by decide) (by decide), set_at d4 (by decide) (by decide), need_at d5, ok_bind, if_true]
  exact ⟨_, _, rfl, d6⟩
theorem rst_at {cnd : List Tok → Except Fa (Ex × Nat)} {w : ByteArray} {n : Int} {p0 p1 p2 p3 p4 p5 p6 : Po} (f d c : Nat) (hc : c < 1024) (hd : ∀ (z : Stm) (k : Ix l), declP w z k = .ok (false, (z, k))) (hn : numW w ruleW = n) (h0 : 0 < n) (hb : begB w = true) (hi : ¬ (w = ⟨#[105, 102]⟩ ∨ w = ⟨#[111, 112, 116, 105, 111, 110, 97, 108]⟩)) (h : l.drop k.1 = ⟨1, w, p0⟩ :: ⟨1, ⟨#[97]⟩, p1⟩ :: ⟨1, ⟨#[98]⟩, p2⟩ :: ⟨4, ⟨#[58]⟩, p3⟩ :: ⟨1, ⟨#[99]⟩, p4⟩ :: ⟨1, ⟨#[100]⟩, p5⟩ :: ⟨4, ⟨#[59]⟩, p6⟩ :: u :: r) : ∃ S k', stmtP cnd (f + 1) d k c = .ok (S, (k', c + 1)) ∧ l.drop k'.1 = u :: r := by
  obtain ⟨S, k', e, hk⟩ := rule_at (z := { Stm.zero with pos := p0 }) hd hn h0 (at_nx h)
  rw [stmtP, at_tk h, if_pos ⟨rfl, hb⟩, if_neg (by omega), if_neg hi, e, ok_bind]
  exact ⟨_, _, rfl, hk⟩
theorem blk_at {cnd : List Tok → Except Fa (Ex × Nat)} {w : ByteArray} {n : Int} {p p0 p1 p2 p3 p4 p5 p6 p7 : Po} (f d c : Nat) (hc : c < 1024) (hd : ∀ (z : Stm) (k : Ix l), declP w z k = .ok (false, (z, k))) (hn : numW w ruleW = n) (h0 : 0 < n) (hb : begB w = true) (hi : ¬ (w = ⟨#[105, 102]⟩ ∨ w = ⟨#[111, 112, 116, 105, 111, 110, 97, 108]⟩)) (h : l.drop k.1 = ⟨4, ⟨#[123]⟩, p⟩ :: ⟨1, w, p0⟩ :: ⟨1, ⟨#[97]⟩, p1⟩ :: ⟨1, ⟨#[98]⟩, p2⟩ :: ⟨4, ⟨#[58]⟩, p3⟩ :: ⟨1, ⟨#[99]⟩, p4⟩ :: ⟨1, ⟨#[100]⟩, p5⟩ :: ⟨4, ⟨#[59]⟩, p6⟩ :: ⟨4, ⟨#[125]⟩, p7⟩ :: u :: r) : ∃ S k', blockP cnd (f + 3) d k c = .ok ([S], (k', c + 1)) ∧ l.drop k'.1 = u :: r := by
  have d1 := at_nx h
  obtain ⟨S, k', e, hk⟩ := rst_at (cnd := cnd) f (d + 1) c hc hd hn h0 hb hi d1
  have m1 : isM ⟨#[125]⟩ (nx k) = false := by rw [isM_at d1]; rfl
  have m2 : isM ⟨#[125]⟩ k' = true := by rw [isM_at hk]; rfl
  have t1 : ¬ (tk (nx k)).kind = 0 := by rw [at_tk d1]; exact (by decide : ¬ (1 : Int) = 0)
  rw [blockP, need_at h, ok_bind]
  dsimp only
  rw [m1, if_neg (by decide), stmtsP, if_neg (fun x => x.elim t1 fun x => by rw [m1] at x; cases x.2), e, ok_bind]
  dsimp only
  rw [stmtsP, if_pos (.inr ⟨Nat.succ_pos d, m2⟩), ok_bind]
  dsimp only
  rw [need_at hk, ok_bind]
  exact ⟨S, _, rfl, at_nx hk⟩
end
end Am
namespace Am
open Tk
set_option maxRecDepth 100000
def tailB : List UInt8 := [123, 32, 97, 108, 108, 111, 119, 32, 97, 32, 98, 32, 58, 32, 99, 32, 100, 59, 32, 125, 32, 101, 108, 115, 101, 32, 123, 32, 100, 111, 110, 116, 97, 117, 100, 105, 116, 32, 97, 32, 98, 32, 58, 32, 99, 32, 100, 59, 32, 125]
def tailT : List LTok := [⟨4, [123], 0⟩, ⟨1, [97, 108, 108, 111, 119], 2⟩, ⟨1, [97], 8⟩, ⟨1, [98], 10⟩, ⟨4, [58], 12⟩, ⟨1, [99], 14⟩, ⟨1, [100], 16⟩, ⟨4, [59], 17⟩, ⟨4, [125], 19⟩, ⟨1, [101, 108, 115, 101], 21⟩, ⟨4, [123], 26⟩, ⟨1, [100, 111, 110, 116, 97, 117, 100, 105, 116], 28⟩, ⟨1, [97], 38⟩, ⟨1, [98], 40⟩, ⟨4, [58], 42⟩, ⟨1, [99], 44⟩, ⟨1, [100], 46⟩, ⟨4, [59], 47⟩, ⟨4, [125], 49⟩, ⟨0, [], 50⟩]
theorem tail_scan : scanA 0 tailB = .ok tailT := by kernel_rfl
def condB (s : List UInt8) : List UInt8 := [109, 111, 100, 117, 108, 101] ++ 32 :: ([109] ++ 32 :: ([49] ++ 59 :: 32 :: ([105, 102] ++ 32 :: (s ++ 10 :: tailB))))
def condH : List LTok := [⟨1, [109, 111, 100, 117, 108, 101], 0⟩, ⟨1, [109], 7⟩, ⟨2, [49], 9⟩, ⟨4, [59], 10⟩, ⟨1, [105, 102], 12⟩]
def shT (d : Nat) (t : LTok) : LTok := ⟨t.kind, t.text, d + t.off⟩
theorem cond_scan {s : List UInt8} {us : List LTok} {e : Nat} (h : scanA 0 s = .ok (us ++ [(⟨0, [], e⟩ : LTok)])) : scanA 0 (condB s) = .ok (condH ++ (us.map (shT 15) ++ tailT.map (shT (15 + s.length + 1)))) := by
  have h1 : scanA 15 s = .ok ((us ++ [(⟨0, [], e⟩ : LTok)]).map (shT 15)) := by
    have := scanA_shift 15 s.length s 0 (Nat.le_refl _)
    rw [h] at this
    exact this
  have h2 : ∀ o, scanA o tailB = .ok (tailT.map (shT o)) := fun o => by
    have := scanA_shift o tailB.length tailB 0 (Nat.le_refl _)
    rw [tail_scan] at this
    exact this
  obtain ⟨us2, e2, h3, h4⟩ := (join_scan tailB s.length s 15 (Nat.le_refl _)).1 _ h1
  have h5 : us.map (shT 15) = us2 := by
    rw [List.map_append] at h3
    exact (List.append_inj' h3 rfl).1
  subst h5
  unfold condB
  rw [scan_name 0 (by decide) (.inr ⟨32, _, rfl, by decide⟩), scan_sp, scan_name _ (by decide) (.inr ⟨32, _, rfl, by decide⟩), scan_sp, scan_num _ (by decide) (.inr ⟨59, _, rfl, by decide⟩), scan_mark1 _ (by decide) (fun h => absurd h (by decide)), scan_sp, scan_name _ (by decide) (.inr ⟨32, _, rfl, by decide⟩), scan_sp]
  show LR.app _ (LR.app _ (LR.app _ (LR.app _ (LR.app _ (scanA 15 _))))) = _
  rw [h4, h2]
  rfl
theorem isK_eq {ts ts' : List Tok} {i : Nat} (h : (ts'[i]?).map (fun t => (t.kind, t.text)) = (ts[i]?).map (fun t => (t.kind, t.text))) : (∀ m, isK ts' i m = isK ts i m) ∧ nmK ts' i = nmK ts i := by
  unfold isK nmK
  cases a : ts'[i]? with
  | none =>
    cases b : ts[i]? with
    | none => exact ⟨fun _ => rfl, rfl⟩
    | some u => rw [a, b] at h; cases h
  | some t =>
    cases b : ts[i]? with
    | none => rw [a, b] at h; cases h
    | some u =>
      rw [a, b] at h
      simp only [Option.map_some, Option.some.injEq, Prod.mk.injEq] at h
      refine ⟨fun m => ?_, ?_⟩ <;> simp [h.1, h.2]
theorem al_of {us : List LTok} {e o : Nat} {f g : List UInt8} : Al ((us ++ [(⟨0, [], e⟩ : LTok)]).map (LTok.at f)) ((us.map (shT 15) ++ tailT.map (shT o)).map (LTok.at g)) us.length := by
  have hN : ((us ++ [(⟨0, [], e⟩ : LTok)]).map (LTok.at f))[us.length]? = some (LTok.at f (⟨0, [], e⟩ : LTok)) := by simp
  have hN' : ((us.map (shT 15) ++ tailT.map (shT o)).map (LTok.at g))[us.length]? = some (LTok.at g (shT o (⟨4, [123], 0⟩ : LTok))) := by
    rw [List.getElem?_map, List.getElem?_append_right (by simp)]
    simp [tailT]
  have e0 : ∀ m, isK ((us ++ [(⟨0, [], e⟩ : LTok)]).map (LTok.at f)) us.length m = false := fun m => by unfold isK; rw [hN]; rfl
  have en0 : nmK ((us ++ [(⟨0, [], e⟩ : LTok)]).map (LTok.at f)) us.length = none := by unfold nmK; rw [hN]; rfl
  have hlt : ∀ i, i < us.length → (((us.map (shT 15) ++ tailT.map (shT o)).map (LTok.at g))[i]?).map (fun t => (t.kind, t.text)) = (((us ++ [(⟨0, [], e⟩ : LTok)]).map (LTok.at f))[i]?).map (fun t => (t.kind, t.text)) := fun i hi => by
    rw [List.getElem?_map, List.getElem?_map, List.getElem?_append_left (by simpa using hi), List.getElem?_append_left hi, List.getElem?_map, List.getElem?_eq_getElem hi]
    rfl
  refine ⟨fun i hi m hm => ?_, fun i hi => ?_, e0, en0⟩
  · rcases Nat.lt_or_ge i us.length with h1 | h1
    · exact (isK_eq (hlt i h1)).1 m
    · obtain rfl : i = us.length := Nat.le_antisymm hi h1
      rw [e0]
      unfold isK
      rw [hN']
      have : ∀ m ∈ mks, decide ((⟨#[123]⟩ : ByteArray) = m) = false := by
        intro m hm
        unfold mks at hm
        simp only [List.mem_cons, List.not_mem_nil, or_false] at hm
        rcases hm with h | h | h | h | h | h | h | h <;> subst h <;> decide
      exact (congrArg (true && ·) (this m hm))
  · rcases Nat.lt_or_ge i us.length with h1 | h1
    · exact (isK_eq (hlt i h1)).2
    · obtain rfl : i = us.length := Nat.le_antisymm hi h1
      rw [en0]
      unfold nmK
      rw [hN']
      rfl
theorem cond_mod {s src : ByteArray} {l1 : List Tok} {x : Ex} {n : Nat} {t : Tok} (hs : s.size ≤ 2000) (h : scanP s = .ok l1) (hp : tksK l1 = .ok (x, n)) (ht : l1[n]? = some t) (hk : t.kind = 0) (hsrc : src.data.toList = condB s.data.toList) : ∃ M S, parseP src = .ok M ∧ M.stmts = [S] ∧ S.cond = x ∧ S.els.length = 1 := by
  obtain ⟨_, us, e, ha, hb, good, _⟩ := scanP_lr h
  have hn : n = us.length := by
    rw [hb, List.getElem?_map] at ht
    rcases Nat.lt_or_ge n us.length with h1 | h1
    · rw [List.getElem?_append_left h1, List.getElem?_eq_getElem h1] at ht
      injection ht with ht
      subst ht
      exact absurd hk (good _ (List.getElem_mem h1)).1
    · rcases Nat.lt_or_ge us.length n with h2 | h2
      · rw [List.getElem?_eq_none (by simp; omega)] at ht; cases ht
      · omega
  subst hn
  have hz : src.size ≤ 65536 := by rw [sz_len, hsrc]; rw [sz_len] at hs; simp only [condB, tailB, List.length_append, List.length_cons, List.length_nil]; omega
  have sc := scanP_L src hz
  rw [hsrc, cond_scan ha] at sc
  have sc : scanP src = .ok ((condH ++ (us.map (shT 15) ++ tailT.map (shT (15 + s.data.toList.length + 1)))).map (LTok.at (condB s.data.toList))) := sc
  generalize condB s.data.toList = g at sc
  generalize 15 + s.data.toList.length + 1 = o at sc
  have hal := al_of (us := us) (e := e) (o := o) (f := s.data.toList) (g := g)
  rw [← hb] at hal
  have hlen : l1.length ≤ ((us.map (shT 15) ++ tailT.map (shT o)).map (LTok.at g)).length := by rw [hb]; simp [tailT]
  have hc := tks_sim hal hlen hp
  generalize hW : (us.map (shT 15) ++ tailT.map (shT o)).map (LTok.at g) = W at *
  have hWl : W.length = us.length + 20 := by rw [← hW]; simp [tailT]
  have hWd : W.drop us.length = (tailT.map (shT o)).map (LTok.at g) := by rw [← hW, List.map_append, List.drop_left' (by simp)]
  generalize hl : (condH ++ (us.map (shT 15) ++ tailT.map (shT o))).map (LTok.at g) = l at sc
  have hl2 : l = condH.map (LTok.at g) ++ W := by rw [← hl, List.map_append, hW]
  obtain ⟨u, r, hur⟩ : ∃ u r, W = u :: r := by
    cases W with
    | nil => simp at hWl
    | cons u r => exact ⟨u, r, rfl⟩
  clear hl hal hlen
  have h0l : 0 < l.length := by rw [hl2]; simp [condH]
  obtain ⟨k0, hk0⟩ : ∃ k0 : Ix l, k0 = ⟨0, h0l⟩ := ⟨_, rfl⟩
  have d0 : l.drop k0.1 = ⟨1, ⟨#[109, 111, 100, 117, 108, 101]⟩, locP g 0⟩ :: ⟨1, ⟨#[109]⟩, locP g 7⟩ :: ⟨2, ⟨#[49]⟩, locP g 9⟩ :: ⟨4, ⟨#[59]⟩, locP g 10⟩ :: ⟨1, ⟨#[105, 102]⟩, locP g 12⟩ :: u :: r := by
    rw [hk0]
    show l.drop 0 = _
    rw [List.drop_zero, hl2, hur]; rfl
  have d1 := at_nx d0
  have d2 := at_nx d1
  have d3 := at_nx d2
  have d4 := at_nx d3
  have d5 := at_nx d4
  rw [← hur] at d5
  generalize hk4 : nx (nx (nx (nx k0))) = k4 at d4 d5
  generalize hk5 : nx k4 = k5 at d5
  have hk5l : k5.1 + us.length < l.length := by
    have := congrArg List.length d5
    rw [List.length_drop, hWl] at this
    omega
  obtain ⟨k6, hk6⟩ : ∃ k6 : Ix l, k6 = ⟨k5.1 + us.length, hk5l⟩ := ⟨_, rfl⟩
  have hcnd : condP tksK k5 = .ok (x, k6) := by
    unfold condP
    rw [d5, hc, ok_bind]
    dsimp only
    unfold ixAt
    rw [dif_pos hk5l, hk6]
  have d6 : l.drop k6.1 = (tailT.map (shT o)).map (LTok.at g) := by
    rw [hk6]
    show l.drop (k5.1 + us.length) = _
    rw [← List.drop_drop, d5, hWd]
  have hd1 : ∀ (z : Stm) (k : Ix l), declP ⟨#[97, 108, 108, 111, 119]⟩ z k = .ok (false, (z, k)) := fun z k => by unfold declP; rfl
  have hd2 : ∀ (z : Stm) (k : Ix l), declP ⟨#[100, 111, 110, 116, 97, 117, 100, 105, 116]⟩ z k = .ok (false, (z, k)) := fun z k => by unfold declP; rfl
  obtain ⟨F, hF⟩ : ∃ F, fuel l = F + 5 + 1 + 1 + 1 := ⟨8 * l.length + 8, rfl⟩
  obtain ⟨S1, k7, b1, d7⟩ := blk_at (cnd := tksK) (n := 1) (F + 2) 0 1 (by decide) hd1 (by rfl) (by decide) (by rfl) (by decide) d6
  obtain ⟨S2, k8, b2, d8⟩ := blk_at (cnd := tksK) (n := 3) (F + 2) 0 2 (by decide) hd2 (by rfl) (by decide) (by rfl) (by decide) (at_nx d7)
  have hels : isW ⟨#[101, 108, 115, 101]⟩ k7 = true := by rw [isW_at d7]; rfl
  have hst : stmtsP tksK (fuel l) 0 [] k4 0 = .ok ([{ Stm.zero with pos := locP g 12, kind := 17, cond := x, thn := [S1], els := [S2] }], (k8, 3)) := by
    rw [hF, stmtsP, at_tk d4, if_neg (fun h => h.elim (by dsimp only; decide) fun h => absurd h.1 (by decide)), stmtP, at_tk d4, if_pos ⟨rfl, rfl⟩, if_neg (by decide), if_pos (.inl rfl), if_neg (by decide), hk5, blocksP]
    rw [show decide ((⟨1, ⟨#[105, 102]⟩, locP g 12⟩ : Tok).text = ⟨#[105, 102]⟩) = true from rfl, if_pos rfl, hcnd]
    simp only [ok_bind]
    rw [show F + 5 = F + 2 + 3 from rfl, b1]
    simp only [ok_bind, hels, if_true]
    rw [b2]
    simp only [ok_bind]
    rw [stmtsP, at_tk d8, if_pos (.inl rfl)]
    rfl
  have hhd : headP k0 = .ok (⟨⟨#[109]⟩, 1, []⟩, k4) := by
    unfold headP
    rw [needW_at d0, ok_bind]
    dsimp only
    rw [name_at d1 (by decide), ok_bind]
    dsimp only
    rw [at_tk d2]
    dsimp only
    rw [if_pos rfl, if_neg (by decide), need_at d3, hk4]
    rfl
  refine ⟨⟨⟨#[109]⟩, 1, [{ Stm.zero with pos := locP g 12, kind := 17, cond := x, thn := [S1], els := [S2] }]⟩, { Stm.zero with pos := locP g 12, kind := 17, cond := x, thn := [S1], els := [S2] }, ?_, rfl, rfl, rfl⟩
  unfold parseP runP
  rw [sc, ok_bind, dif_pos h0l, ← hk0]
  unfold modQ
  dsimp only
  rw [hhd, ok_bind]
  dsimp only
  rw [hst]
  simp only [ok_bind]
  rw [at_tk d8]
  exact if_pos rfl
end Am
namespace Am
open Tk Go.RowKit
set_option maxRecDepth 100000
set_option maxHeartbeats 4000000
theorem cat_cond (s : ByteArray) : (⟨#[109, 111, 100, 117, 108, 101, 32, 109, 32, 49, 59, 32, 105, 102, 32]⟩ ++ s ++ ⟨#[10, 123, 32, 97, 108, 108, 111, 119, 32, 97, 32, 98, 32, 58, 32, 99, 32, 100, 59, 32, 125, 32, 101, 108, 115, 101, 32, 123, 32, 100, 111, 110, 116, 97, 117, 100, 105, 116, 32, 97, 32, 98, 32, 58, 32, 99, 32, 100, 59, 32, 125]⟩).data.toList = condB s.data.toList := by simp [condB, tailB]
theorem law_conds (s : ByteArray) : Pure Tryz.prog 9 [.c (sS s)] (.c (sB true)) := by
  have al := alive_p
  obtain ⟨x, f, p6, hf⟩ := parse6_p s
  by_cases hs : s.size ≤ 2000
  · rcases hf with hf | ⟨hf, l, n, t, h1, h2, h3, h4⟩
    · refine fn1 (fn := Tryz.f9) Tryz.call9 Tryz.func9 rfl Tryz.ntmps9 Tryz.results9 rfl (by first | rfl | simp [V.ok, okL, C.ok, okA, okV]) ?_
      repeat' (first | (with_reducible first | apply AW.seq | apply AW.block | apply AW.scope | apply AW.skip | apply AW.ret | apply AW.exit | apply AW.label | apply q_then | apply q_thenR | apply q_thenE | apply q_thenP | apply q_bloN | apply q_bloR | apply q_bloE | apply q_bloP | apply q_strN | apply q_strR | apply q_strE | apply q_strP | apply y_e | refine m_b rfl ?_ ?_ | refine m_g rfl ?_ | refine m_o rfl ?_ ?_ | refine v_reg ?_ | refine v_drw ?_ | refine v_rgl ?_ | refine v_drb ?_) | ((with_reducible apply i_dv); first | refine t_v AS.v ?_ | refine t_v (by first | exact u_call (hP := al) | exact u_call (hP := p6)) ?_ | refine t_w AS.w ?_) | ((with_reducible apply i_dg); first | refine t_n ?_ | refine t_f ?_ | refine t_m (hs := fun hg => AS.v) (k := ?_) | refine t_m (hs := fun hg => (by first | exact u_call (hP := al) | exact u_call (hP := p6))) (k := ?_)) | ((with_reducible apply i_ds); first | refine t_s AS.s ?_ | refine t_s0 (by first | exact u_call (hP := al) | exact u_call (hP := p6)) ?_ | refine t_p (k := fun σx => ?_)) | ((with_reducible refine i_aw ?_); first | refine v_yes ?_ | refine v_no ?_ | (refine v_cond (fun hc => ?_) (fun hc => ?_); all_goals (try (exfalso; simp [*] at hc; done)); all_goals (try (exfalso; revert hc; simp; omega)))) | ((with_reducible refine i_rt ?_); first | refine k_b ?_ | refine k_s ?_ | refine k_i ?_ | refine k_v ?_ | refine k_c ?_ | exact r_0 | ((first | refine k_cc ?_ ?_ | refine k_ccc ?_ ?_ ?_ | refine k_ct ?_ ?_ | refine k_ctc ?_ ?_ ?_); all_goals (with_reducible (first | apply un_b | apply un_i | apply un_s | apply un_a))) | exact r_0n | ((first | refine k_2 ?_ ?_ | refine k_2c ?_ ?_); all_goals (with_reducible (first | apply un_b | apply un_i | apply un_s | apply un_a)))) | ((with_reducible refine i_rx ?_); first | (with_reducible refine x_pan ?_) | refine l_1 (k := ?_) | refine l_0 (k := ?_) | refine l_1c (k := ?_) | refine l_d (k := ?_) | refine l_d0 (k := ?_) | refine l_el (k := ?_) | refine l_tc (k := ?_) | refine l_cc (k := ?_)) | ((with_reducible apply y_id); dsimp only [List.append]) | (refine q_bloX rfl ?_) | (refine ⟨by decide +kernel, fun (σx : St) => ?_⟩) | (refine ⟨by decide +kernel, ?_⟩) | fail)
      rfl
    · obtain ⟨M, S, eM, hM, hS, hE⟩ := cond_mod hs h1 h2 h3 h4 (cat_cond s)
      have pm := parse_p (⟨#[109, 111, 100, 117, 108, 101, 32, 109, 32, 49, 59, 32, 105, 102, 32]⟩ ++ s ++ ⟨#[10, 123, 32, 97, 108, 108, 111, 119, 32, 97, 32, 98, 32, 58, 32, 99, 32, 100, 59, 32, 125, 32, 101, 108, 115, 101, 32, 123, 32, 100, 111, 110, 116, 97, 117, 100, 105, 116, 32, 97, 32, 98, 32, 58, 32, 99, 32, 100, 59, 32, 125]⟩)
      rw [eM] at pm
      have pm : Pure _ _ _ (.tup [.agg (moC M), .agg (faC Fa.zero)]) := pm
      have sm : Pure Tryz.prog 25 [.agg (exC S.cond), .agg (exC x)] (.c (sB true)) := by rw [hS]; exact q6same_p x
      have hg : (M.stmts.map stC)[0]? = some (stC S) := by rw [hM]; rfl
      have hml : M.stmts.length = 1 := by rw [hM]; rfl
      clear eM h1 h2 h3 h4 hM
      refine fn1 (fn := Tryz.f9) Tryz.call9 Tryz.func9 rfl Tryz.ntmps9 Tryz.results9 rfl (by first | rfl | simp [V.ok, okL, C.ok, okA, okV]) ?_
      repeat' (first | (with_reducible first | apply AW.seq | apply AW.block | apply AW.scope | apply AW.skip | apply AW.ret | apply AW.exit | apply AW.label | apply q_then | apply q_thenR | apply q_thenE | apply q_thenP | apply q_bloN | apply q_bloR | apply q_bloE | apply q_bloP | apply q_strN | apply q_strR | apply q_strE | apply q_strP | apply y_e | refine m_b rfl ?_ ?_ | refine m_g rfl ?_ | refine m_o rfl ?_ ?_ | refine v_reg ?_ | refine v_drw ?_ | refine v_rgl ?_ | refine v_drb ?_) | ((with_reducible apply i_dv); first | refine t_v AS.v ?_ | refine t_v (by first | exact u_call (hP := al) | exact u_call (hP := p6) | exact u_call (hP := pm) | exact u_call (hP := sm)) ?_ | refine t_w AS.w ?_) | ((with_reducible apply i_dg); first | refine t_n ?_ | refine t_f ?_ | refine t_m (hs := fun hg => AS.v) (k := ?_) | refine t_m (hs := fun hg => (by first | exact u_call (hP := al) | exact u_call (hP := p6) | exact u_call (hP := pm) | exact u_call (hP := sm))) (k := ?_)) | ((with_reducible apply i_ds); first | refine t_s AS.s ?_ | refine t_s0 (by first | exact u_call (hP := al) | exact u_call (hP := p6) | exact u_call (hP := pm) | exact u_call (hP := sm)) ?_ | refine t_p (k := fun σx => ?_)) | ((with_reducible refine i_aw ?_); first | refine v_yes ?_ | refine v_no ?_ | (refine v_cond (fun hc => ?_) (fun hc => ?_); all_goals (try (exfalso; simp [*] at hc; done)); all_goals (try (exfalso; revert hc; simp; omega)))) | ((with_reducible refine i_rt ?_); first | refine k_b ?_ | refine k_s ?_ | refine k_i ?_ | refine k_v ?_ | refine k_c ?_ | exact r_0 | ((first | refine k_cc ?_ ?_ | refine k_ccc ?_ ?_ ?_ | refine k_ct ?_ ?_ | refine k_ctc ?_ ?_ ?_); all_goals (with_reducible (first | apply un_b | apply un_i | apply un_s | apply un_a))) | exact r_0n | ((first | refine k_2 ?_ ?_ | refine k_2c ?_ ?_); all_goals (with_reducible (first | apply un_b | apply un_i | apply un_s | apply un_a)))) | ((with_reducible refine i_rx ?_); first | (with_reducible refine x_pan ?_) | refine l_1 (k := ?_) | refine l_0 (k := ?_) | refine l_1c (k := ?_) | refine l_d (k := ?_) | refine l_d0 (k := ?_) | refine l_el (k := ?_) | refine l_tc (k := ?_) | refine l_cc (k := ?_)) | ((with_reducible apply y_id); dsimp only [List.append]) | (refine q_bloX rfl ?_) | (refine ⟨by decide +kernel, fun (σx : St) => ?_⟩) | (refine ⟨by decide +kernel, ?_⟩) | fail)
      simp [hE, hml, Fa.zero]
  · refine fn1 (fn := Tryz.f9) Tryz.call9 Tryz.func9 rfl Tryz.ntmps9 Tryz.results9 rfl (by first | rfl | simp [V.ok, okL, C.ok, okA, okV]) ?_
    repeat' (first | (with_reducible first | apply AW.seq | apply AW.block | apply AW.scope | apply AW.skip | apply AW.ret | apply AW.exit | apply AW.label | apply q_then | apply q_thenR | apply q_thenE | apply q_thenP | apply q_bloN | apply q_bloR | apply q_bloE | apply q_bloP | apply q_strN | apply q_strR | apply q_strE | apply q_strP | apply y_e | refine m_b rfl ?_ ?_ | refine m_g rfl ?_ | refine m_o rfl ?_ ?_ | refine v_reg ?_ | refine v_drw ?_ | refine v_rgl ?_ | refine v_drb ?_) | ((with_reducible apply i_dv); first | refine t_v AS.v ?_ | refine t_v (by first | exact u_call (hP := al)) ?_ | refine t_w AS.w ?_) | ((with_reducible apply i_dg); first | refine t_n ?_ | refine t_f ?_ | refine t_m (hs := fun hg => AS.v) (k := ?_) | refine t_m (hs := fun hg => (by first | exact u_call (hP := al))) (k := ?_)) | ((with_reducible apply i_ds); first | refine t_s AS.s ?_ | refine t_s0 (by first | exact u_call (hP := al)) ?_ | refine t_p (k := fun σx => ?_)) | ((with_reducible refine i_aw ?_); first | refine v_yes ?_ | refine v_no ?_ | (refine v_cond (fun hc => ?_) (fun hc => ?_); all_goals (try (exfalso; simp [*] at hc; done)); all_goals (try (exfalso; revert hc; simp; omega)))) | ((with_reducible refine i_rt ?_); first | refine k_b ?_ | refine k_s ?_ | refine k_i ?_ | refine k_v ?_ | refine k_c ?_ | exact r_0 | ((first | refine k_cc ?_ ?_ | refine k_ccc ?_ ?_ ?_ | refine k_ct ?_ ?_ | refine k_ctc ?_ ?_ ?_); all_goals (with_reducible (first | apply un_b | apply un_i | apply un_s | apply un_a))) | exact r_0n | ((first | refine k_2 ?_ ?_ | refine k_2c ?_ ?_); all_goals (with_reducible (first | apply un_b | apply un_i | apply un_s | apply un_a)))) | ((with_reducible refine i_rx ?_); first | (with_reducible refine x_pan ?_) | refine l_1 (k := ?_) | refine l_0 (k := ?_) | refine l_1c (k := ?_) | refine l_d (k := ?_) | refine l_d0 (k := ?_) | refine l_el (k := ?_) | refine l_tc (k := ?_) | refine l_cc (k := ?_)) | ((with_reducible apply y_id); dsimp only [List.append]) | (refine q_bloX rfl ?_) | (refine ⟨by decide +kernel, fun (σx : St) => ?_⟩) | (refine ⟨by decide +kernel, ?_⟩) | fail)
    rfl
end Am
end Go.Proofs.YtkpodagbefnebaaGreatDoor
