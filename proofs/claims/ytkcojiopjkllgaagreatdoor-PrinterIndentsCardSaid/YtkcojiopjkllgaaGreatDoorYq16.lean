import Derived.Test.YtkcojiopjkllgaaGreatDoorYq11
import Derived.Test.YtkcojiopjkllgaaGreatDoorYq14
import Derived.Laws.IdiomStrings
import Derived.Test.YtkcojiopjkllgaaGreatDoorYq13
set_option linter.unusedSimpArgs false
set_option linter.unusedVariables false
set_option linter.unusedSectionVars false
namespace Go.Proofs.YtkcojiopjkllgaaGreatDoor
namespace Am
open Tk
set_option maxRecDepth 100000
set_option maxHeartbeats 4000000
theorem qsmL_p (l : List ByteArray) : Pure Tryz.prog 73 [.c (strL l)] (.c (sB (smL l))) := by
  refine fn1 (fn := Tryz.f73) Tryz.call73 Tryz.func73 rfl Tryz.ntmps73 Tryz.results73 rfl (by first | rfl | simp [V.ok, okL, C.ok, okA, okV]) ?_
  refine AW.fact (t := 0) rfl (fun κ w x hr => repV_l hr) fun hn => ?_
  repeat' (first | (with_reducible first | apply AW.seq | apply AW.block | apply AW.scope | apply AW.skip | apply AW.ret | apply AW.exit | apply AW.label | apply q_then | apply q_thenR | apply q_thenE | apply q_bloN | apply q_bloR | apply q_bloE | apply q_strN | apply q_strR | apply q_strE | apply s_e | refine m_b rfl ?_ ?_ | refine m_g rfl ?_ | refine m_o rfl ?_ ?_ | refine v_reg ?_ | refine v_drw ?_ | refine v_rgl ?_ | refine v_drb ?_) | ((with_reducible apply i_dv); first | refine t_v AS.v ?_ | refine t_w AS.w ?_) | ((with_reducible apply i_dg); first | refine t_n ?_ | refine t_m (hs := fun hg => AS.v) (k := ?_) | refine t_f ?_) | ((with_reducible apply i_ds); first | refine t_s AS.s ?_) | ((with_reducible refine i_aw ?_); first | refine v_yes ?_ | refine v_no ?_ | (refine v_cond (fun hc => ?_) (fun hc => ?_); all_goals (try (exfalso; simp [*] at hc; done)); all_goals (try (exfalso; revert hc; simp; omega)))) | ((with_reducible refine i_rt ?_); first | refine k_b ?_ | refine k_s ?_ | refine k_i ?_ | refine k_v ?_ | refine k_c ?_ | exact r_0 | exact r_0n | ((first | refine k_2 ?_ ?_ | refine k_2c ?_ ?_); all_goals (with_reducible (first | apply un_b | apply un_i | apply un_s | apply un_a)))) | ((with_reducible apply al_id); dsimp only [List.append]) | (refine q_bloX rfl ?_) | (refine ⟨by decide +kernel, ?_⟩) | fail)
  refine AW.loop (fun m σ => ∃ j, m = l.length - j ∧ j ≤ l.length ∧ (l.take j).all (fun s => decide (s.size ≤ 300)) = true ∧ σ = mk [(0, .c (strL l)), (3, .c (sI j))] []) l.length ?_ ?_
  · exact ⟨_, wk_mk (by (repeat (first | exact all_nil | ((refine all_cons ⟨_, rfl, .inl rfl, ?_⟩ ?_); (· (first | rfl | exact okRow rfl | (simp [V.ok, okL, C.ok, okA, HO.ok]; done) | (change okL _ _ = true; assumption)))))); done) (by (repeat (first | exact all_nil | ((refine all_cons ⟨_, rfl, .inl rfl, ?_⟩ ?_); (· (first | rfl | exact okRow rfl | (simp [V.ok, okL, C.ok, okA, HO.ok]; done) | (change okL _ _ = true; assumption)))))); done) (by exact fun h => h), 0, rfl, Nat.zero_le _, rfl, rfl⟩
  rintro m σ ⟨j, rfl, hj, ha, rfl⟩
  by_cases h40 : l.length ≤ 40
  · by_cases hlt : j < l.length
    · obtain ⟨x, hx⟩ : ∃ x, l[j]? = some x := ⟨_, List.getElem?_eq_getElem hlt⟩
      repeat' (first | (with_reducible first | apply AW.seq | apply AW.block | apply AW.scope | apply AW.skip | apply AW.ret | apply AW.exit | apply AW.label | apply q_then | apply q_thenR | apply q_thenE | apply q_bloN | apply q_bloR | apply q_bloE | apply q_strN | apply q_strR | apply q_strE | apply s_e | refine m_b rfl ?_ ?_ | refine m_g rfl ?_ | refine m_o rfl ?_ ?_ | refine v_reg ?_ | refine v_drw ?_ | refine v_rgl ?_ | refine v_drb ?_) | ((with_reducible apply i_dv); first | refine t_v AS.v ?_ | refine t_w AS.w ?_) | ((with_reducible apply i_dg); first | refine t_n ?_ | refine t_m (hs := fun hg => AS.v) (k := ?_) | refine t_f ?_) | ((with_reducible apply i_ds); first | refine t_s AS.s ?_) | ((with_reducible refine i_aw ?_); first | refine v_yes ?_ | refine v_no ?_ | (refine v_cond (fun hc => ?_) (fun hc => ?_); all_goals (try (exfalso; simp [*] at hc; done)); all_goals (try (exfalso; revert hc; simp; omega)))) | ((with_reducible refine i_rt ?_); first | refine k_b ?_ | refine k_s ?_ | refine k_i ?_ | refine k_v ?_ | refine k_c ?_ | exact r_0 | exact r_0n | ((first | refine k_2 ?_ ?_ | refine k_2c ?_ ?_); all_goals (with_reducible (first | apply un_b | apply un_i | apply un_s | apply un_a)))) | ((with_reducible apply al_id); dsimp only [List.append]) | (refine q_bloX rfl ?_) | (refine ⟨by decide +kernel, ?_⟩) | fail)
      · rw [smL, all_no hx (by simp at hc ⊢; omega), Bool.and_false]
      · exact ⟨_, _, (show l.length - (j + 1) < l.length - j by omega), wk_mk (by (repeat (first | exact all_nil | ((refine all_cons ⟨_, rfl, .inl rfl, ?_⟩ ?_); (· (first | rfl | exact okRow rfl | (simp [V.ok, okL, C.ok, okA, HO.ok]; done) | (change okL _ _ = true; assumption)))))); done) (by (repeat (first | exact all_nil | ((refine all_cons ⟨_, rfl, .inl rfl, ?_⟩ ?_); (· (first | rfl | exact okRow rfl | (simp [V.ok, okL, C.ok, okA, HO.ok]; done) | (change okL _ _ = true; assumption)))))); done) (by exact fun h => h), j + 1, rfl, hlt, all_step hx ha (by simp at hc ⊢; omega), rfl⟩
    · repeat' (first | (with_reducible first | apply AW.seq | apply AW.block | apply AW.scope | apply AW.skip | apply AW.ret | apply AW.exit | apply AW.label | apply q_then | apply q_thenR | apply q_thenE | apply q_bloN | apply q_bloR | apply q_bloE | apply q_strN | apply q_strR | apply q_strE | apply s_e | refine m_b rfl ?_ ?_ | refine m_g rfl ?_ | refine m_o rfl ?_ ?_ | refine v_reg ?_ | refine v_drw ?_ | refine v_rgl ?_ | refine v_drb ?_) | ((with_reducible apply i_dv); first | refine t_v AS.v ?_ | refine t_w AS.w ?_) | ((with_reducible apply i_dg); first | refine t_n ?_ | refine t_m (hs := fun hg => AS.v) (k := ?_) | refine t_f ?_) | ((with_reducible apply i_ds); first | refine t_s AS.s ?_) | ((with_reducible refine i_aw ?_); first | refine v_yes ?_ | refine v_no ?_ | (refine v_cond (fun hc => ?_) (fun hc => ?_); all_goals (try (exfalso; simp [*] at hc; done)); all_goals (try (exfalso; revert hc; simp; omega)))) | ((with_reducible refine i_rt ?_); first | refine k_b ?_ | refine k_s ?_ | refine k_i ?_ | refine k_v ?_ | refine k_c ?_ | exact r_0 | exact r_0n | ((first | refine k_2 ?_ ?_ | refine k_2c ?_ ?_); all_goals (with_reducible (first | apply un_b | apply un_i | apply un_s | apply un_a)))) | ((with_reducible apply al_id); dsimp only [List.append]) | (refine q_bloX rfl ?_) | (refine ⟨by decide +kernel, ?_⟩) | fail)
      rw [smL, all_end ha (by omega), Bool.and_true, List.length_map]
      simp; omega
  · repeat' (first | (with_reducible first | apply AW.seq | apply AW.block | apply AW.scope | apply AW.skip | apply AW.ret | apply AW.exit | apply AW.label | apply q_then | apply q_thenR | apply q_thenE | apply q_bloN | apply q_bloR | apply q_bloE | apply q_strN | apply q_strR | apply q_strE | apply s_e | refine m_b rfl ?_ ?_ | refine m_g rfl ?_ | refine m_o rfl ?_ ?_ | refine v_reg ?_ | refine v_drw ?_ | refine v_rgl ?_ | refine v_drb ?_) | ((with_reducible apply i_dv); first | refine t_v AS.v ?_ | refine t_w AS.w ?_) | ((with_reducible apply i_dg); first | refine t_n ?_ | refine t_m (hs := fun hg => AS.v) (k := ?_) | refine t_f ?_) | ((with_reducible apply i_ds); first | refine t_s AS.s ?_) | ((with_reducible refine i_aw ?_); first | refine v_yes ?_ | refine v_no ?_ | (refine v_cond (fun hc => ?_) (fun hc => ?_); all_goals (try (exfalso; simp [*] at hc; done)); all_goals (try (exfalso; revert hc; simp; omega)))) | ((with_reducible refine i_rt ?_); first | refine k_b ?_ | refine k_s ?_ | refine k_i ?_ | refine k_v ?_ | refine k_c ?_ | exact r_0 | exact r_0n | ((first | refine k_2 ?_ ?_ | refine k_2c ?_ ?_); all_goals (with_reducible (first | apply un_b | apply un_i | apply un_s | apply un_a)))) | ((with_reducible apply al_id); dsimp only [List.append]) | (refine q_bloX rfl ?_) | (refine ⟨by decide +kernel, ?_⟩) | fail)
    rw [smL, decide_eq_false h40, Bool.false_and, List.length_map]
    simp; omega
theorem qsmN_p (n : NS) : Pure Tryz.prog 53 [.agg (nsC n)] (.c (sB (smN n))) := by
  refine fn1 (fn := Tryz.f53) Tryz.call53 Tryz.func53 rfl Tryz.ntmps53 Tryz.results53 rfl (by first | rfl | simp [V.ok, okL, C.ok, okA, okV]) ?_
  repeat' (first | (with_reducible first | apply AW.seq | apply AW.block | apply AW.scope | apply AW.skip | apply AW.ret | apply AW.exit | apply AW.label | apply q_then | apply q_thenR | apply q_thenE | apply q_bloN | apply q_bloR | apply q_bloE | apply q_strN | apply q_strR | apply q_strE | apply s_e | refine m_b rfl ?_ ?_ | refine m_g rfl ?_ | refine m_o rfl ?_ ?_ | refine v_reg ?_ | refine v_drw ?_ | refine v_rgl ?_ | refine v_drb ?_) | ((with_reducible apply i_dv); first | refine t_v AS.v ?_ | refine t_v (by first | exact u_call (hP := qsmL_p _)) ?_ | refine t_w AS.w ?_) | ((with_reducible apply i_dg); first | refine t_n ?_ | refine t_m (hs := fun hg => AS.v) (k := ?_) | refine t_m (hs := fun hg => (by first | exact u_call (hP := qsmL_p _))) (k := ?_) | refine t_f ?_) | ((with_reducible apply i_ds); first | refine t_s AS.s ?_) | ((with_reducible refine i_aw ?_); first | refine v_yes ?_ | refine v_no ?_ | (refine v_cond (fun hc => ?_) (fun hc => ?_); all_goals (try (exfalso; simp [*] at hc; done)); all_goals (try (exfalso; revert hc; simp; omega)))) | ((with_reducible refine i_rt ?_); first | refine k_b ?_ | refine k_s ?_ | refine k_i ?_ | refine k_v ?_ | refine k_c ?_ | exact r_0 | exact r_0n | ((first | refine k_2 ?_ ?_ | refine k_2c ?_ ?_); all_goals (with_reducible (first | apply un_b | apply un_i | apply un_s | apply un_a)))) | ((with_reducible apply al_id); dsimp only [List.append]) | (refine q_bloX rfl ?_) | (refine ⟨by decide +kernel, ?_⟩) | fail)
  rfl
theorem qsmX_n : ∀ (n : Nat) (e : Ex) (levels : Int), SizeOf.sizeOf e < n → -100 ≤ levels → levels ≤ 100 → Pure Tryz.prog 54 [.agg (exC e), .c (sI levels)] (.c (sB (smX levels e)))
  | 0, _, _, h, _, _ => absurd h (Nat.not_lt_zero _)
  | n + 1, e, levels, h, h0, h1 => by
    have ih : ∀ x ∈ e.kids, 0 < levels → Pure Tryz.prog 54 [.agg (exC x), .c (sI (levels - 1))] (.c (sB (smX (levels - 1) x))) := fun x hx k0 =>
      qsmX_n n x (levels - 1) (by have := kid_lt hx; omega) (by omega) (by omega)
    rw [smX_eq]
    refine fn2 (fn := Tryz.f54) Tryz.call54 Tryz.func54 rfl Tryz.ntmps54 Tryz.results54 rfl (by first | rfl | simp [V.ok, okL, C.ok, okA, okV]) ?_
    refine AW.fact (t := 0) rfl (fun κ w x hr => agg_kids hr) fun hn => ?_
    repeat' (first | (with_reducible first | apply AW.seq | apply AW.block | apply AW.scope | apply AW.skip | apply AW.ret | apply AW.exit | apply AW.label | apply q_then | apply q_thenR | apply q_thenE | apply q_bloN | apply q_bloR | apply q_bloE | apply q_strN | apply q_strR | apply q_strE | apply s_e | refine m_b rfl ?_ ?_ | refine m_g rfl ?_ | refine m_o rfl ?_ ?_ | refine v_reg ?_ | refine v_drw ?_ | refine v_rgl ?_ | refine v_drb ?_) | ((with_reducible apply i_dv); first | refine t_v AS.v ?_ | refine t_v (by first | exact u_call (hP := qsmL_p _)) ?_ | refine t_w AS.w ?_) | ((with_reducible apply i_dg); first | refine t_n ?_ | refine t_m (hs := fun hg => AS.v) (k := ?_) | refine t_m (hs := fun hg => (by first | exact u_call (hP := qsmL_p _))) (k := ?_) | refine t_f ?_) | ((with_reducible apply i_ds); first | refine t_s AS.s ?_) | ((with_reducible refine i_aw ?_); first | refine v_yes ?_ | refine v_no ?_ | (refine v_cond (fun hc => ?_) (fun hc => ?_); all_goals (try (exfalso; simp [*] at hc; done)); all_goals (try (exfalso; revert hc; simp; omega)))) | ((with_reducible refine i_rt ?_); first | refine k_b ?_ | refine k_s ?_ | refine k_i ?_ | refine k_v ?_ | refine k_c ?_ | exact r_0 | exact r_0n | ((first | refine k_2 ?_ ?_ | refine k_2c ?_ ?_); all_goals (with_reducible (first | apply un_b | apply un_i | apply un_s | apply un_a)))) | ((with_reducible apply al_id); dsimp only [List.append]) | (refine q_bloX rfl ?_) | (refine ⟨by decide +kernel, ?_⟩) | fail)
    · rw [eq_comm, Bool.and_eq_false_iff]; left
      simp only [List.length_map] at hc
      grind
    have hq : 0 < levels ∧ e.kids.length ≤ 4 ∧ smL e.names = true := by
      simp only [List.length_map] at hc
      grind
    rw [decide_eq_true hq.1, decide_eq_true hq.2.1, hq.2.2]
    obtain ⟨hq, -⟩ := hq
    refine AW.loop (fun m σ => ∃ j, m = e.kids.length - j ∧ j ≤ e.kids.length ∧ (e.kids.take j).all (smX (levels - 1)) = true ∧ σ = mk [(1, .c (sI levels)), (2, .c (.ptr 2 0)), (5, .c (sI j))] [(2, .obj 41 (exC e))]) e.kids.length ?_ ?_
    · exact ⟨_, wk_mk (by (repeat (first | exact all_nil | ((refine all_cons ⟨_, rfl, .inl rfl, ?_⟩ ?_); (· (first | rfl | exact okRow rfl | (simp [V.ok, okL, C.ok, okA, HO.ok]; done) | (change okL _ _ = true; assumption)))))); done) (by (repeat (first | exact all_nil | ((refine all_cons ⟨_, rfl, .inl rfl, ?_⟩ ?_); (· (first | rfl | exact okRow rfl | (simp [V.ok, okL, C.ok, okA, HO.ok]; done) | (change okL _ _ = true; assumption)))))); done) (by exact fun h => h), 0, rfl, Nat.zero_le _, rfl, rfl⟩
    rintro m σ ⟨j, rfl, hj, ha, rfl⟩
    by_cases hlt : j < e.kids.length
    · obtain ⟨x, hx⟩ : ∃ x, e.kids[j]? = some x := ⟨_, List.getElem?_eq_getElem hlt⟩
      have hp := ih x (List.mem_of_getElem? hx) hq
      repeat' (first | (with_reducible first | apply AW.seq | apply AW.block | apply AW.scope | apply AW.skip | apply AW.ret | apply AW.exit | apply AW.label | apply q_then | apply q_thenR | apply q_thenE | apply q_bloN | apply q_bloR | apply q_bloE | apply q_strN | apply q_strR | apply q_strE | apply s_e | refine m_b rfl ?_ ?_ | refine m_g rfl ?_ | refine m_o rfl ?_ ?_ | refine v_reg ?_ | refine v_drw ?_ | refine v_rgl ?_ | refine v_drb ?_) | ((with_reducible apply i_dv); first | refine t_v AS.v ?_ | refine t_v (by first | exact u_call (hP := hp)) ?_ | refine t_w AS.w ?_) | ((with_reducible apply i_dg); first | refine t_n ?_ | refine t_m (hs := fun hg => AS.v) (k := ?_) | refine t_m (hs := fun hg => (by first | exact u_call (hP := hp))) (k := ?_) | refine t_f ?_) | ((with_reducible apply i_ds); first | refine t_s AS.s ?_) | ((with_reducible refine i_aw ?_); first | refine v_yes ?_ | refine v_no ?_ | (refine v_cond (fun hc => ?_) (fun hc => ?_); all_goals (try (exfalso; simp [*] at hc; done)); all_goals (try (exfalso; revert hc; simp; omega)))) | ((with_reducible refine i_rt ?_); first | refine k_b ?_ | refine k_s ?_ | refine k_i ?_ | refine k_v ?_ | refine k_c ?_ | exact r_0 | exact r_0n | ((first | refine k_2 ?_ ?_ | refine k_2c ?_ ?_); all_goals (with_reducible (first | apply un_b | apply un_i | apply un_s | apply un_a)))) | ((with_reducible apply al_id); dsimp only [List.append]) | (refine q_bloX rfl ?_) | (refine ⟨by decide +kernel, ?_⟩) | fail)
      · rw [all_no hx (by simpa using hc)]; rfl
      · exact ⟨_, _, (show e.kids.length - (j + 1) < e.kids.length - j by omega), wk_mk (by (repeat (first | exact all_nil | ((refine all_cons ⟨_, rfl, .inl rfl, ?_⟩ ?_); (· (first | rfl | exact okRow rfl | (simp [V.ok, okL, C.ok, okA, HO.ok]; done) | (change okL _ _ = true; assumption)))))); done) (by (repeat (first | exact all_nil | ((refine all_cons ⟨_, rfl, .inl rfl, ?_⟩ ?_); (· (first | rfl | exact okRow rfl | (simp [V.ok, okL, C.ok, okA, HO.ok]; done) | (change okL _ _ = true; assumption)))))); done) (by exact fun h => h), j + 1, rfl, hlt, all_step hx ha (by simpa using hc), rfl⟩
    · repeat' (first | (with_reducible first | apply AW.seq | apply AW.block | apply AW.scope | apply AW.skip | apply AW.ret | apply AW.exit | apply AW.label | apply q_then | apply q_thenR | apply q_thenE | apply q_bloN | apply q_bloR | apply q_bloE | apply q_strN | apply q_strR | apply q_strE | apply s_e | refine m_b rfl ?_ ?_ | refine m_g rfl ?_ | refine m_o rfl ?_ ?_ | refine v_reg ?_ | refine v_drw ?_ | refine v_rgl ?_ | refine v_drb ?_) | ((with_reducible apply i_dv); first | refine t_v AS.v ?_ | refine t_w AS.w ?_) | ((with_reducible apply i_dg); first | refine t_n ?_ | refine t_m (hs := fun hg => AS.v) (k := ?_) | refine t_f ?_) | ((with_reducible apply i_ds); first | refine t_s AS.s ?_) | ((with_reducible refine i_aw ?_); first | refine v_yes ?_ | refine v_no ?_ | (refine v_cond (fun hc => ?_) (fun hc => ?_); all_goals (try (exfalso; simp [*] at hc; done)); all_goals (try (exfalso; revert hc; simp; omega)))) | ((with_reducible refine i_rt ?_); first | refine k_b ?_ | refine k_s ?_ | refine k_i ?_ | refine k_v ?_ | refine k_c ?_ | exact r_0 | exact r_0n | ((first | refine k_2 ?_ ?_ | refine k_2c ?_ ?_); all_goals (with_reducible (first | apply un_b | apply un_i | apply un_s | apply un_a)))) | ((with_reducible apply al_id); dsimp only [List.append]) | (refine q_bloX rfl ?_) | (refine ⟨by decide +kernel, ?_⟩) | fail)
      rw [all_end ha (by omega)]; rfl
theorem qsmX_p (e : Ex) : Pure Tryz.prog 54 [.agg (exC e), .c (sI 16)] (.c (sB (smX 16 e))) := qsmX_n _ e 16 (Nat.lt_succ_self _) (by omega) (by omega)
def spS (s : Sp) : Bool := decide (s.frm.size ≤ 300) && decide (s.to.size ≤ 300)
theorem smV_spS (l : Lv) : smV l = (decide (l.sens.size ≤ 300) && decide (l.cats.length ≤ 70) && l.cats.all spS) := rfl
theorem qsmR_p (r : Rg) : Pure Tryz.prog 55 [.agg (rgC r)] (.c (sB (smR r))) := by
  obtain ⟨L, hL⟩ : ∃ L, L = [r.lo, r.hi] := ⟨_, rfl⟩
  have hall : smR r = L.all smV := by rw [hL]; simp [smR]
  have hl : L.length = 2 := by rw [hL]; rfl
  rw [hall]
  refine fn1 (fn := Tryz.f55) Tryz.call55 Tryz.func55 rfl Tryz.ntmps55 Tryz.results55 rfl (by first | rfl | simp [V.ok, okL, C.ok, okA, okV]) ?_
  refine AW.fact (t := 0) rfl (fun κ w x hr => agg_l hr (t := none) (k := 2) (l := r.lo.cats) (f := spC) (by simp [rgC, lvC])) fun hn1 => ?_
  refine AW.fact (t := 0) rfl (fun κ w x hr => agg_l hr (t := none) (k := 2) (l := r.hi.cats) (f := spC) (by simp [rgC, lvC])) fun hn2 => ?_
  have hcats : ∀ l ∈ L, l.cats.length ≤ 9223372036854775807 := fun l h => by rw [hL] at h; simp at h; rcases h with rfl | rfl <;> assumption
  repeat' (first | (with_reducible first | apply AW.seq | apply AW.block | apply AW.scope | apply AW.skip | apply AW.ret | apply AW.exit | apply AW.label | apply q_then | apply q_thenR | apply q_thenE | apply q_bloN | apply q_bloR | apply q_bloE | apply q_strN | apply q_strR | apply q_strE | apply s_e | refine m_b rfl ?_ ?_ | refine m_g rfl ?_ | refine m_o rfl ?_ ?_ | refine v_reg ?_ | refine v_drw ?_ | refine v_rgl ?_ | refine v_drb ?_) | ((with_reducible apply i_dv); first | refine t_v AS.v ?_ | refine t_w AS.w ?_) | ((with_reducible apply i_dg); first | refine t_n ?_ | refine t_m (hs := fun hg => AS.v) (k := ?_) | refine t_f ?_) | ((with_reducible apply i_ds); first | refine t_s AS.s ?_) | ((with_reducible refine i_aw ?_); first | refine v_yes ?_ | refine v_no ?_ | (refine v_cond (fun hc => ?_) (fun hc => ?_); all_goals (try (exfalso; simp [*] at hc; done)); all_goals (try (exfalso; revert hc; simp; omega)))) | ((with_reducible refine i_rt ?_); first | refine k_b ?_ | refine k_s ?_ | refine k_i ?_ | refine k_v ?_ | refine k_c ?_ | exact r_0 | exact r_0n | ((first | refine k_2 ?_ ?_ | refine k_2c ?_ ?_); all_goals (with_reducible (first | apply un_b | apply un_i | apply un_s | apply un_a)))) | ((with_reducible apply al_id); dsimp only [List.append]) | (refine q_bloX rfl ?_) | (refine ⟨by decide +kernel, ?_⟩) | fail)
  rw [← hL]
  clear hL
  refine AW.loop (fun m σ => ∃ i, m = 2 - i ∧ i ≤ 2 ∧ (L.take i).all smV = true ∧ σ = mk [(3, .c (.lst none 2 (L.map lvC))), (4, .c (sI i))] []) 2 ?_ ?_
  · exact ⟨_, wk_mk (by (repeat (first | exact all_nil | ((refine all_cons ⟨_, rfl, .inl rfl, ?_⟩ ?_); (· (first | rfl | exact okRow rfl | (simp [V.ok, okL, C.ok, okA, HO.ok]; done) | (change okL _ _ = true; assumption)))))); done) (by (repeat (first | exact all_nil | ((refine all_cons ⟨_, rfl, .inl rfl, ?_⟩ ?_); (· (first | rfl | exact okRow rfl | (simp [V.ok, okL, C.ok, okA, HO.ok]; done) | (change okL _ _ = true; assumption)))))); done) (by exact fun h => h), 0, rfl, Nat.zero_le _, rfl, rfl⟩
  rintro m σ ⟨i, rfl, hi, ha, rfl⟩
  by_cases hlt : i < 2
  · obtain ⟨l, hx⟩ : ∃ l, L[i]? = some l := ⟨_, List.getElem?_eq_getElem (by omega)⟩
    have hcl := hcats l (List.mem_of_getElem? hx)
    have hsv := smV_spS l
    repeat' (first | (with_reducible first | apply AW.seq | apply AW.block | apply AW.scope | apply AW.skip | apply AW.ret | apply AW.exit | apply AW.label | apply q_then | apply q_thenR | apply q_thenE | apply q_bloN | apply q_bloR | apply q_bloE | apply q_strN | apply q_strR | apply q_strE | apply s_e | refine m_b rfl ?_ ?_ | refine m_g rfl ?_ | refine m_o rfl ?_ ?_ | refine v_reg ?_ | refine v_drw ?_ | refine v_rgl ?_ | refine v_drb ?_) | ((with_reducible apply i_dv); first | refine t_v AS.v ?_ | refine t_w AS.w ?_) | ((with_reducible apply i_dg); first | refine t_n ?_ | refine t_m (hs := fun hg => AS.v) (k := ?_) | refine t_f ?_) | ((with_reducible apply i_ds); first | refine t_s AS.s ?_) | ((with_reducible refine i_aw ?_); first | refine v_yes ?_ | refine v_no ?_ | (refine v_cond (fun hc => ?_) (fun hc => ?_); all_goals (try (exfalso; simp [*] at hc; done)); all_goals (try (exfalso; revert hc; simp; omega)))) | ((with_reducible refine i_rt ?_); first | refine k_b ?_ | refine k_s ?_ | refine k_i ?_ | refine k_v ?_ | refine k_c ?_ | exact r_0 | exact r_0n | ((first | refine k_2 ?_ ?_ | refine k_2c ?_ ?_); all_goals (with_reducible (first | apply un_b | apply un_i | apply un_s | apply un_a)))) | ((with_reducible apply al_id); dsimp only [List.append]) | (refine q_bloX rfl ?_) | (refine ⟨by decide +kernel, ?_⟩) | fail)
    · rw [all_no hx (by rw [hsv]; simp only [List.length_map] at hc; grind)]
    have hq : decide (l.sens.size ≤ 300) = true ∧ decide (l.cats.length ≤ 70) = true := by simp only [List.length_map] at hc; grind
    rw [hq.1, hq.2] at hsv
    clear hc
    refine AW.loop (fun m σ => ∃ j, m = l.cats.length - j ∧ j ≤ l.cats.length ∧ (l.cats.take j).all spS = true ∧ σ = mk [(3, .c (.lst none 2 (L.map lvC))), (4, .c (sI i)), (5, .c (sI j))] []) l.cats.length ?_ ?_
    · exact ⟨_, wk_mk (by (repeat (first | exact all_nil | ((refine all_cons ⟨_, rfl, .inl rfl, ?_⟩ ?_); (· (first | rfl | exact okRow rfl | (simp [V.ok, okL, C.ok, okA, HO.ok]; done) | (change okL _ _ = true; assumption)))))); done) (by (repeat (first | exact all_nil | ((refine all_cons ⟨_, rfl, .inl rfl, ?_⟩ ?_); (· (first | rfl | exact okRow rfl | (simp [V.ok, okL, C.ok, okA, HO.ok]; done) | (change okL _ _ = true; assumption)))))); done) (by exact fun h => h), 0, rfl, Nat.zero_le _, rfl, rfl⟩
    rintro m σ ⟨j, rfl, hj, hb, rfl⟩
    by_cases hlt2 : j < l.cats.length
    · obtain ⟨x, hy⟩ : ∃ x, l.cats[j]? = some x := ⟨_, List.getElem?_eq_getElem hlt2⟩
      repeat' (first | (with_reducible first | apply AW.seq | apply AW.block | apply AW.scope | apply AW.skip | apply AW.ret | apply AW.exit | apply AW.label | apply q_then | apply q_thenR | apply q_thenE | apply q_bloN | apply q_bloR | apply q_bloE | apply q_strN | apply q_strR | apply q_strE | apply s_e | refine m_b rfl ?_ ?_ | refine m_g rfl ?_ | refine m_o rfl ?_ ?_ | refine v_reg ?_ | refine v_drw ?_ | refine v_rgl ?_ | refine v_drb ?_) | ((with_reducible apply i_dv); first | refine t_v AS.v ?_ | refine t_w AS.w ?_) | ((with_reducible apply i_dg); first | refine t_n ?_ | refine t_m (hs := fun hg => AS.v) (k := ?_) | refine t_f ?_) | ((with_reducible apply i_ds); first | refine t_s AS.s ?_) | ((with_reducible refine i_aw ?_); first | refine v_yes ?_ | refine v_no ?_ | (refine v_cond (fun hc => ?_) (fun hc => ?_); all_goals (try (exfalso; simp [*] at hc; done)); all_goals (try (exfalso; revert hc; simp; omega)))) | ((with_reducible refine i_rt ?_); first | refine k_b ?_ | refine k_s ?_ | refine k_i ?_ | refine k_v ?_ | refine k_c ?_ | exact r_0 | exact r_0n | ((first | refine k_2 ?_ ?_ | refine k_2c ?_ ?_); all_goals (with_reducible (first | apply un_b | apply un_i | apply un_s | apply un_a)))) | ((with_reducible apply al_id); dsimp only [List.append]) | (refine q_bloX rfl ?_) | (refine ⟨by decide +kernel, ?_⟩) | fail)
      · have e : spS x = false := by unfold spS; grind
        rw [all_no hx (by rw [hsv, all_no hy e]; rfl)]
      · have e : spS x = true := by unfold spS; grind
        exact ⟨_, _, (show l.cats.length - (j + 1) < l.cats.length - j by omega), wk_mk (by (repeat (first | exact all_nil | ((refine all_cons ⟨_, rfl, .inl rfl, ?_⟩ ?_); (· (first | rfl | exact okRow rfl | (simp [V.ok, okL, C.ok, okA, HO.ok]; done) | (change okL _ _ = true; assumption)))))); done) (by (repeat (first | exact all_nil | ((refine all_cons ⟨_, rfl, .inl rfl, ?_⟩ ?_); (· (first | rfl | exact okRow rfl | (simp [V.ok, okL, C.ok, okA, HO.ok]; done) | (change okL _ _ = true; assumption)))))); done) (by exact fun h => h), j + 1, rfl, hlt2, all_step hy hb e, rfl⟩
    · rw [all_end hb (by omega)] at hsv
      repeat' (first | (with_reducible first | apply AW.seq | apply AW.block | apply AW.scope | apply AW.skip | apply AW.ret | apply AW.exit | apply AW.label | apply q_then | apply q_thenR | apply q_thenE | apply q_bloN | apply q_bloR | apply q_bloE | apply q_strN | apply q_strR | apply q_strE | apply s_e | refine m_b rfl ?_ ?_ | refine m_g rfl ?_ | refine m_o rfl ?_ ?_ | refine v_reg ?_ | refine v_drw ?_ | refine v_rgl ?_ | refine v_drb ?_) | ((with_reducible apply i_dv); first | refine t_v AS.v ?_ | refine t_w AS.w ?_) | ((with_reducible apply i_dg); first | refine t_n ?_ | refine t_m (hs := fun hg => AS.v) (k := ?_) | refine t_f ?_) | ((with_reducible apply i_ds); first | refine t_s AS.s ?_) | ((with_reducible refine i_aw ?_); first | refine v_yes ?_ | refine v_no ?_ | (refine v_cond (fun hc => ?_) (fun hc => ?_); all_goals (try (exfalso; simp [*] at hc; done)); all_goals (try (exfalso; revert hc; simp; omega)))) | ((with_reducible refine i_rt ?_); first | refine k_b ?_ | refine k_s ?_ | refine k_i ?_ | refine k_v ?_ | refine k_c ?_ | exact r_0 | exact r_0n | ((first | refine k_2 ?_ ?_ | refine k_2c ?_ ?_); all_goals (with_reducible (first | apply un_b | apply un_i | apply un_s | apply un_a)))) | ((with_reducible apply al_id); dsimp only [List.append]) | (refine q_bloX rfl ?_) | (refine ⟨by decide +kernel, ?_⟩) | fail)
      exact ⟨_, _, (show 2 - (i + 1) < 2 - i by omega), wk_mk (by (repeat (first | exact all_nil | ((refine all_cons ⟨_, rfl, .inl rfl, ?_⟩ ?_); (· (first | rfl | exact okRow rfl | (simp [V.ok, okL, C.ok, okA, HO.ok]; done) | (change okL _ _ = true; assumption)))))); done) (by (repeat (first | exact all_nil | ((refine all_cons ⟨_, rfl, .inl rfl, ?_⟩ ?_); (· (first | rfl | exact okRow rfl | (simp [V.ok, okL, C.ok, okA, HO.ok]; done) | (change okL _ _ = true; assumption)))))); done) (by exact fun h => h), i + 1, rfl, hlt, all_step hx ha hsv, rfl⟩
  · repeat' (first | (with_reducible first | apply AW.seq | apply AW.block | apply AW.scope | apply AW.skip | apply AW.ret | apply AW.exit | apply AW.label | apply q_then | apply q_thenR | apply q_thenE | apply q_bloN | apply q_bloR | apply q_bloE | apply q_strN | apply q_strR | apply q_strE | apply s_e | refine m_b rfl ?_ ?_ | refine m_g rfl ?_ | refine m_o rfl ?_ ?_ | refine v_reg ?_ | refine v_drw ?_ | refine v_rgl ?_ | refine v_drb ?_) | ((with_reducible apply i_dv); first | refine t_v AS.v ?_ | refine t_w AS.w ?_) | ((with_reducible apply i_dg); first | refine t_n ?_ | refine t_m (hs := fun hg => AS.v) (k := ?_) | refine t_f ?_) | ((with_reducible apply i_ds); first | refine t_s AS.s ?_) | ((with_reducible refine i_aw ?_); first | refine v_yes ?_ | refine v_no ?_ | (refine v_cond (fun hc => ?_) (fun hc => ?_); all_goals (try (exfalso; simp [*] at hc; done)); all_goals (try (exfalso; revert hc; simp; omega)))) | ((with_reducible refine i_rt ?_); first | refine k_b ?_ | refine k_s ?_ | refine k_i ?_ | refine k_v ?_ | refine k_c ?_ | exact r_0 | exact r_0n | ((first | refine k_2 ?_ ?_ | refine k_2c ?_ ?_); all_goals (with_reducible (first | apply un_b | apply un_i | apply un_s | apply un_a)))) | ((with_reducible apply al_id); dsimp only [List.append]) | (refine q_bloX rfl ?_) | (refine ⟨by decide +kernel, ?_⟩) | fail)
    rw [all_end ha (by omega)]
theorem qsmC_p (c : Ct) : Pure Tryz.prog 56 [.agg (cxC c)] (.c (sB (smC c))) := by
  refine fn1 (fn := Tryz.f56) Tryz.call56 Tryz.func56 rfl Tryz.ntmps56 Tryz.results56 rfl (by first | rfl | simp [V.ok, okL, C.ok, okA, okV]) ?_
  repeat' (first | (with_reducible first | apply AW.seq | apply AW.block | apply AW.scope | apply AW.skip | apply AW.ret | apply AW.exit | apply AW.label | apply q_then | apply q_thenR | apply q_thenE | apply q_bloN | apply q_bloR | apply q_bloE | apply q_strN | apply q_strR | apply q_strE | apply s_e | refine m_b rfl ?_ ?_ | refine m_g rfl ?_ | refine m_o rfl ?_ ?_ | refine v_reg ?_ | refine v_drw ?_ | refine v_rgl ?_ | refine v_drb ?_) | ((with_reducible apply i_dv); first | refine t_v AS.v ?_ | refine t_v (by first | exact u_call (hP := qsmL_p _) | exact u_call (hP := qsmR_p _)) ?_ | refine t_w AS.w ?_) | ((with_reducible apply i_dg); first | refine t_n ?_ | refine t_m (hs := fun hg => AS.v) (k := ?_) | refine t_m (hs := fun hg => (by first | exact u_call (hP := qsmL_p _) | exact u_call (hP := qsmR_p _))) (k := ?_) | refine t_f ?_) | ((with_reducible apply i_ds); first | refine t_s AS.s ?_) | ((with_reducible refine i_aw ?_); first | refine v_yes ?_ | refine v_no ?_ | (refine v_cond (fun hc => ?_) (fun hc => ?_); all_goals (try (exfalso; simp [*] at hc; done)); all_goals (try (exfalso; revert hc; simp; omega)))) | ((with_reducible refine i_rt ?_); first | refine k_b ?_ | refine k_s ?_ | refine k_i ?_ | refine k_v ?_ | refine k_c ?_ | exact r_0 | exact r_0n | ((first | refine k_2 ?_ ?_ | refine k_2c ?_ ?_); all_goals (with_reducible (first | apply un_b | apply un_i | apply un_s | apply un_a)))) | ((with_reducible apply al_id); dsimp only [List.append]) | (refine q_bloX rfl ?_) | (refine ⟨by decide +kernel, ?_⟩) | fail)
  rfl
theorem qsmall_n : ∀ (n : Nat) (l : List Stm) (most levels : Int), SizeOf.sizeOf l < n → -100 ≤ levels → levels ≤ 100 → Pure Tryz.prog 31 [.c (.lst none 55 (l.map stC)), .c (sI most), .c (sI levels)] (.c (sB (smallS l most levels)))
  | 0, _, _, _, h, _, _ => absurd h (Nat.not_lt_zero _)
  | n + 1, l, most, levels, h, h0, h1 => by
    have it : ∀ x ∈ l, 0 < levels → Pure Tryz.prog 31 [.c (.lst none 55 (x.thn.map stC)), .c (sI 12), .c (sI (levels - 1))] (.c (sB (smallS x.thn 12 (levels - 1)))) := fun x hx k0 =>
      qsmall_n n x.thn 12 (levels - 1) (by have := List.sizeOf_lt_of_mem hx; have := lthn_lt x; omega) (by omega) (by omega)
    have ie : ∀ x ∈ l, 0 < levels → Pure Tryz.prog 31 [.c (.lst none 55 (x.els.map stC)), .c (sI 12), .c (sI (levels - 1))] (.c (sB (smallS x.els 12 (levels - 1)))) := fun x hx k0 =>
      qsmall_n n x.els 12 (levels - 1) (by have := List.sizeOf_lt_of_mem hx; have := lels_lt x; omega) (by omega) (by omega)
    unfold smallS
    refine fn3 (fn := Tryz.f31) Tryz.call31 Tryz.func31 rfl Tryz.ntmps31 Tryz.results31 rfl (by first | rfl | simp [V.ok, okL, C.ok, okA, okV]) ?_
    refine AW.fact (t := 0) rfl (fun κ w x hr => repV_l hr) fun hn => ?_
    repeat' (first | (with_reducible first | apply AW.seq | apply AW.block | apply AW.scope | apply AW.skip | apply AW.ret | apply AW.exit | apply AW.label | apply q_then | apply q_thenR | apply q_thenE | apply q_bloN | apply q_bloR | apply q_bloE | apply q_strN | apply q_strR | apply q_strE | apply s_e | refine m_b rfl ?_ ?_ | refine m_g rfl ?_ | refine m_o rfl ?_ ?_ | refine v_reg ?_ | refine v_drw ?_ | refine v_rgl ?_ | refine v_drb ?_) | ((with_reducible apply i_dv); first | refine t_v AS.v ?_ | refine t_w AS.w ?_) | ((with_reducible apply i_dg); first | refine t_n ?_ | refine t_m (hs := fun hg => AS.v) (k := ?_) | refine t_f ?_) | ((with_reducible apply i_ds); first | refine t_s AS.s ?_) | ((with_reducible refine i_aw ?_); first | refine v_yes ?_ | refine v_no ?_ | (refine v_cond (fun hc => ?_) (fun hc => ?_); all_goals (try (exfalso; simp [*] at hc; done)); all_goals (try (exfalso; revert hc; simp; omega)))) | ((with_reducible refine i_rt ?_); first | refine k_b ?_ | refine k_s ?_ | refine k_i ?_ | refine k_v ?_ | refine k_c ?_ | exact r_0 | exact r_0n | ((first | refine k_2 ?_ ?_ | refine k_2c ?_ ?_); all_goals (with_reducible (first | apply un_b | apply un_i | apply un_s | apply un_a)))) | ((with_reducible apply al_id); dsimp only [List.append]) | (refine q_bloX rfl ?_) | (refine ⟨by decide +kernel, ?_⟩) | fail)
    · rw [eq_comm, Bool.and_eq_false_iff]; left
      simp only [List.length_map] at hc
      grind
    have hq : 0 < levels ∧ (l.length : Int) ≤ most := by
      simp only [List.length_map] at hc
      grind
    rw [decide_eq_true hq.1, decide_eq_true hq.2]
    obtain ⟨hq, -⟩ := hq
    refine AW.loop (fun m σ => ∃ j, m = l.length - j ∧ j ≤ l.length ∧ (l.take j).all (smSt levels) = true ∧ σ = mk [(0, .c (.lst none 55 (l.map stC))), (2, .c (sI levels)), (7, .c (sI j))] []) l.length ?_ ?_
    · exact ⟨_, wk_mk (by (repeat (first | exact all_nil | ((refine all_cons ⟨_, rfl, .inl rfl, ?_⟩ ?_); (· (first | rfl | exact okRow rfl | (simp [V.ok, okL, C.ok, okA, HO.ok]; done) | (change okL _ _ = true; assumption)))))); done) (by (repeat (first | exact all_nil | ((refine all_cons ⟨_, rfl, .inl rfl, ?_⟩ ?_); (· (first | rfl | exact okRow rfl | (simp [V.ok, okL, C.ok, okA, HO.ok]; done) | (change okL _ _ = true; assumption)))))); done) (by exact fun h => h), 0, rfl, Nat.zero_le _, rfl, rfl⟩
    rintro m σ ⟨j, rfl, hj, ha, rfl⟩
    by_cases hlt : j < l.length
    · obtain ⟨x, hx⟩ : ∃ x, l[j]? = some x := ⟨_, List.getElem?_eq_getElem hlt⟩
      have it := it x (List.mem_of_getElem? hx) hq
      have ie := ie x (List.mem_of_getElem? hx) hq
      have hr : Pure Tryz.prog 55 [.agg (lvC x.level ++ lvC Lv.zero)] (.c (sB (smR ⟨x.level, Lv.zero⟩))) := qsmR_p ⟨x.level, Lv.zero⟩
      have hse := smSt_eq levels x
      have hsh : smH x = (smL [x.name, x.result, x.text] && smL x.list && smL x.aliases && smN x.source && smN x.target && smN x.cls && smN x.perms && (smX 16 x.cond && smR x.range && smR ⟨x.level, Lv.zero⟩ && smC x.ctx)) := rfl
      repeat' (first | (with_reducible first | apply AW.seq | apply AW.block | apply AW.scope | apply AW.skip | apply AW.ret | apply AW.exit | apply AW.label | apply q_then | apply q_thenR | apply q_thenE | apply q_bloN | apply q_bloR | apply q_bloE | apply q_strN | apply q_strR | apply q_strE | apply s_e | refine m_b rfl ?_ ?_ | refine m_g rfl ?_ | refine m_o rfl ?_ ?_ | refine v_reg ?_ | refine v_drw ?_ | refine v_rgl ?_ | refine v_drb ?_) | ((with_reducible apply i_dv); first | refine t_v AS.v ?_ | refine t_v (by first | exact u_call (hP := qsmL_p _) | exact u_call (hP := qsmN_p _) | exact u_call (hP := qsmX_p _) | exact u_call (hP := qsmR_p _) | exact u_call (hP := hr) | exact u_call (hP := qsmC_p _) | exact u_call (hP := it) | exact u_call (hP := ie)) ?_ | refine t_w AS.w ?_) | ((with_reducible apply i_dg); first | refine t_n ?_ | refine t_m (hs := fun hg => AS.v) (k := ?_) | refine t_m (hs := fun hg => (by first | exact u_call (hP := qsmL_p _) | exact u_call (hP := qsmN_p _) | exact u_call (hP := qsmX_p _) | exact u_call (hP := qsmR_p _) | exact u_call (hP := hr) | exact u_call (hP := qsmC_p _) | exact u_call (hP := it) | exact u_call (hP := ie))) (k := ?_) | refine t_f ?_) | ((with_reducible apply i_ds); first | refine t_s AS.s ?_) | ((with_reducible refine i_aw ?_); first | refine v_yes ?_ | refine v_no ?_ | (refine v_cond (fun hc => ?_) (fun hc => ?_); all_goals (try (exfalso; simp [*] at hc; done)); all_goals (try (exfalso; revert hc; simp; omega)))) | ((with_reducible refine i_rt ?_); first | refine k_b ?_ | refine k_s ?_ | refine k_i ?_ | refine k_v ?_ | refine k_c ?_ | exact r_0 | exact r_0n | ((first | refine k_2 ?_ ?_ | refine k_2c ?_ ?_); all_goals (with_reducible (first | apply un_b | apply un_i | apply un_s | apply un_a)))) | ((with_reducible apply al_id); dsimp only [List.append]) | (refine q_bloX rfl ?_) | (refine ⟨by decide +kernel, ?_⟩) | fail)
      · rw [all_no hx (by rw [hse, hsh]; grind)]; rfl
      · rw [all_no hx (by rw [hse, hsh]; grind)]; rfl
      · rw [all_no hx (by rw [hse, hsh]; simp only [List.length_map] at hc; grind)]; rfl
      · exact ⟨_, _, (show l.length - (j + 1) < l.length - j by omega), wk_mk (by (repeat (first | exact all_nil | ((refine all_cons ⟨_, rfl, .inl rfl, ?_⟩ ?_); (· (first | rfl | exact okRow rfl | (simp [V.ok, okL, C.ok, okA, HO.ok]; done) | (change okL _ _ = true; assumption)))))); done) (by (repeat (first | exact all_nil | ((refine all_cons ⟨_, rfl, .inl rfl, ?_⟩ ?_); (· (first | rfl | exact okRow rfl | (simp [V.ok, okL, C.ok, okA, HO.ok]; done) | (change okL _ _ = true; assumption)))))); done) (by exact fun h => h), j + 1, rfl, hlt, all_step hx ha (by rw [hse, hsh]; simp only [List.length_map] at *; grind), rfl⟩
    · repeat' (first | (with_reducible first | apply AW.seq | apply AW.block | apply AW.scope | apply AW.skip | apply AW.ret | apply AW.exit | apply AW.label | apply q_then | apply q_thenR | apply q_thenE | apply q_bloN | apply q_bloR | apply q_bloE | apply q_strN | apply q_strR | apply q_strE | apply s_e | refine m_b rfl ?_ ?_ | refine m_g rfl ?_ | refine m_o rfl ?_ ?_ | refine v_reg ?_ | refine v_drw ?_ | refine v_rgl ?_ | refine v_drb ?_) | ((with_reducible apply i_dv); first | refine t_v AS.v ?_ | refine t_w AS.w ?_) | ((with_reducible apply i_dg); first | refine t_n ?_ | refine t_m (hs := fun hg => AS.v) (k := ?_) | refine t_f ?_) | ((with_reducible apply i_ds); first | refine t_s AS.s ?_) | ((with_reducible refine i_aw ?_); first | refine v_yes ?_ | refine v_no ?_ | (refine v_cond (fun hc => ?_) (fun hc => ?_); all_goals (try (exfalso; simp [*] at hc; done)); all_goals (try (exfalso; revert hc; simp; omega)))) | ((with_reducible refine i_rt ?_); first | refine k_b ?_ | refine k_s ?_ | refine k_i ?_ | refine k_v ?_ | refine k_c ?_ | exact r_0 | exact r_0n | ((first | refine k_2 ?_ ?_ | refine k_2c ?_ ?_); all_goals (with_reducible (first | apply un_b | apply un_i | apply un_s | apply un_a)))) | ((with_reducible apply al_id); dsimp only [List.append]) | (refine q_bloX rfl ?_) | (refine ⟨by decide +kernel, ?_⟩) | fail)
      rw [all_end ha (by omega)]; rfl
theorem qsmall_p (l : List Stm) (most levels : Int) (h0 : -100 ≤ levels) (h1 : levels ≤ 100) : Pure Tryz.prog 31 [.c (.lst none 55 (l.map stC)), .c (sI most), .c (sI levels)] (.c (sB (smallS l most levels))) := qsmall_n _ l most levels (Nat.lt_succ_self _) h0 h1
end Am
namespace Am
open Tk
set_option maxRecDepth 100000
set_option maxHeartbeats 4000000
def decT (n : Nat) : ByteArray := ⟨(Lib.decDigits n).toArray⟩
theorem decT_le (n : Nat) (h : n ≤ 9223372036854775807) : (decT n).size ≤ 21 := by
  have := Lib.itoa_length_le (n : Int) (by omega) (by omega)
  have e : Lib.itoa (n : Int) = Lib.decDigits n := by
    unfold Lib.itoa
    rw [if_neg (by omega)]; rfl
  rw [e] at this
  show (Lib.decDigits n).toArray.size ≤ _
  rw [List.size_toArray]; omega
theorem decT_small {n : Nat} (h : n < 10) : decT n = ⟨[UInt8.ofNat (48 + n % 10)].toArray⟩ := by
  unfold decT
  rw [Lib.decDigits, dif_pos h, Nat.mod_eq_of_lt h]
theorem decT_big {n : Nat} (h : ¬ n < 10) : decT n = decT (n / 10) ++ ⟨[UInt8.ofNat (48 + n % 10)].toArray⟩ := by
  unfold decT
  rw [Lib.decDigits, dif_neg h]
  apply ByteArray.ext
  simp [ByteArray.data_append]
theorem decimal_n : ∀ (m n : Nat), n < m → n ≤ 9223372036854775807 → Pure Tryz.prog 38 [.c (sI n)] (.c (sS (decT n)))
  | 0, _, h, _ => absurd h (Nat.not_lt_zero _)
  | m + 1, n, h, hn => by
    have hr : Int.tmod (n : Int) 10 = ((n % 10 : Nat) : Int) := by rw [Int.tmod_eq_emod_of_nonneg (by omega)]; omega
    have hq : Int.tdiv (n : Int) 10 = ((n / 10 : Nat) : Int) := by rw [Int.tdiv_eq_ediv_of_nonneg (by omega)]; omega
    obtain ⟨c, hcc⟩ : ∃ c, c = UInt8.ofNat (48 + n % 10) := ⟨_, rfl⟩
    have hcv : (48 : Int) + ((n % 10 : Nat) : Int) = c.toNat := by
      rw [hcc, UInt8.toNat_ofNat']
      omega
    have hle := decT_le (n / 10) (by omega)
    have h1 : ByteArray.size ⟨[c].toArray⟩ = 1 := rfl
    by_cases h9 : n < 10
    · rw [decT_small h9, ← hcc]
      clear hcc h
      refine fn1 (fn := Tryz.f38) Tryz.call38 Tryz.func38 rfl Tryz.ntmps38 Tryz.results38 rfl (by first | rfl | simp [V.ok, okL, C.ok, okA, okV]) ?_
      repeat' (first | (with_reducible first | apply AW.seq | apply AW.block | apply AW.scope | apply AW.skip | apply AW.ret | apply AW.exit | apply AW.label | apply q_then | apply q_thenR | apply q_thenE | apply q_bloN | apply q_bloR | apply q_bloE | apply q_strN | apply q_strR | apply q_strE | apply s_e | refine m_b rfl ?_ ?_ | refine m_g rfl ?_ | refine m_o rfl ?_ ?_ | refine v_reg ?_ | refine v_drw ?_ | refine v_rgl ?_ | refine v_drb ?_) | ((with_reducible apply i_dv); first | refine t_v AS.v ?_ | refine t_w AS.w ?_) | ((with_reducible apply i_dg); first | refine t_n ?_ | refine t_m (hs := fun hg => AS.v) (k := ?_) | refine t_f ?_) | ((with_reducible apply i_ds); first | refine t_s AS.s ?_) | ((with_reducible refine i_aw ?_); first | refine v_yes ?_ | refine v_no ?_ | (refine v_cond (fun hc => ?_) (fun hc => ?_); all_goals (try (exfalso; simp [*] at hc; done)); all_goals (try (exfalso; revert hc; simp; omega)))) | ((with_reducible refine i_rt ?_); first | refine k_b ?_ | refine k_s ?_ | refine k_i ?_ | refine k_v ?_ | refine k_c ?_ | exact r_0 | exact r_0n | ((first | refine k_2 ?_ ?_ | refine k_2c ?_ ?_); all_goals (with_reducible (first | apply un_b | apply un_i | apply un_s | apply un_a)))) | ((with_reducible apply al_id); dsimp only [List.append]) | (refine q_bloX rfl ?_) | (refine ⟨by decide +kernel, ?_⟩) | fail)
      rfl
    · have ih := decimal_n m (n / 10) (by omega) (by omega)
      rw [decT_big h9, ← hcc]
      clear hcc h
      refine fn1 (fn := Tryz.f38) Tryz.call38 Tryz.func38 rfl Tryz.ntmps38 Tryz.results38 rfl (by first | rfl | simp [V.ok, okL, C.ok, okA, okV]) ?_
      repeat' (first | (with_reducible first | apply AW.seq | apply AW.block | apply AW.scope | apply AW.skip | apply AW.ret | apply AW.exit | apply AW.label | apply q_then | apply q_thenR | apply q_thenE | apply q_bloN | apply q_bloR | apply q_bloE | apply q_strN | apply q_strR | apply q_strE | apply s_e | refine m_b rfl ?_ ?_ | refine m_g rfl ?_ | refine m_o rfl ?_ ?_ | refine v_reg ?_ | refine v_drw ?_ | refine v_rgl ?_ | refine v_drb ?_) | ((with_reducible apply i_dv); first | refine t_v AS.v ?_ | refine t_v (by first | exact u_call (hP := ih)) ?_ | refine t_w AS.w ?_) | ((with_reducible apply i_dg); first | refine t_n ?_ | refine t_m (hs := fun hg => AS.v) (k := ?_) | refine t_m (hs := fun hg => (by first | exact u_call (hP := ih))) (k := ?_) | refine t_f ?_) | ((with_reducible apply i_ds); first | refine t_s AS.s ?_) | ((with_reducible refine i_aw ?_); first | refine v_yes ?_ | refine v_no ?_ | (refine v_cond (fun hc => ?_) (fun hc => ?_); all_goals (try (exfalso; simp [*] at hc; done)); all_goals (try (exfalso; revert hc; simp; omega)))) | ((with_reducible refine i_rt ?_); first | refine k_b ?_ | refine k_s ?_ | refine k_i ?_ | refine k_v ?_ | refine k_c ?_ | exact r_0 | exact r_0n | ((first | refine k_2 ?_ ?_ | refine k_2c ?_ ?_); all_goals (with_reducible (first | apply un_b | apply un_i | apply un_s | apply un_a)))) | ((with_reducible apply al_id); dsimp only [List.append]) | (refine q_bloX rfl ?_) | (refine ⟨by decide +kernel, ?_⟩) | fail)
      rfl
end Am
namespace Am
open Tk
set_option maxRecDepth 100000
set_option maxHeartbeats 4000000
theorem qjoin_p {l : List ByteArray} {sep : ByteArray} (hb : (sepB sep l).size ≤ 140737488355328) : Pure Tryz.prog 143 [.c (strL l), .c (sS sep)] (.c (sS (sepB sep l))) := by
  refine fn2 (fn := Tryz.f143) Tryz.call143 Tryz.func143 rfl Tryz.ntmps143 Tryz.results143 rfl (by first | rfl | simp [V.ok, okL, C.ok, okA, okV]) ?_
  refine AW.fact (t := 0) rfl (fun κ w x hr => repV_l hr) fun hn => ?_
  repeat' (first | (with_reducible first | apply AW.seq | apply AW.block | apply AW.scope | apply AW.skip | apply AW.ret | apply AW.exit | apply AW.label | apply q_then | apply q_thenR | apply q_thenE | apply q_bloN | apply q_bloR | apply q_bloE | apply q_strN | apply q_strR | apply q_strE | apply s_e | refine m_b rfl ?_ ?_ | refine m_g rfl ?_ | refine m_o rfl ?_ ?_ | refine v_reg ?_ | refine v_drw ?_ | refine v_rgl ?_ | refine v_drb ?_) | ((with_reducible apply i_dv); first | refine t_v AS.v ?_ | refine t_w AS.w ?_) | ((with_reducible apply i_dg); first | refine t_n ?_ | refine t_m (hs := fun hg => AS.v) (k := ?_) | refine t_f ?_) | ((with_reducible apply i_ds); first | refine t_s AS.s ?_) | ((with_reducible refine i_aw ?_); first | refine v_yes ?_ | refine v_no ?_ | (refine v_cond (fun hc => ?_) (fun hc => ?_); all_goals (try (exfalso; simp [*] at hc; done)); all_goals (try (exfalso; revert hc; simp; omega)))) | ((with_reducible refine i_rt ?_); first | refine k_b ?_ | refine k_s ?_ | refine k_i ?_ | refine k_v ?_ | refine k_c ?_ | exact r_0 | exact r_0n | ((first | refine k_2 ?_ ?_ | refine k_2c ?_ ?_); all_goals (with_reducible (first | apply un_b | apply un_i | apply un_s | apply un_a)))) | ((with_reducible apply al_id); dsimp only [List.append]) | (refine q_bloX rfl ?_) | (refine ⟨by decide +kernel, ?_⟩) | fail)
  refine AW.loop (fun n σ => ∃ j, n = l.length - j ∧ j ≤ l.length ∧ σ = mk [(0, .c (strL l)), (1, .c (sS sep)), (5, .c (sS (sepB sep (l.take j)))), (6, .c (sI j))] []) l.length ?_ ?_
  · exact ⟨_, wk_mk (by (repeat (first | exact all_nil | ((refine all_cons ⟨_, rfl, .inl rfl, ?_⟩ ?_); (· (first | rfl | exact okRow rfl | (simp [V.ok, okL, C.ok, okA, HO.ok]; done) | (change okL _ _ = true; assumption)))))); done) (by (repeat (first | exact all_nil | ((refine all_cons ⟨_, rfl, .inl rfl, ?_⟩ ?_); (· (first | rfl | exact okRow rfl | (simp [V.ok, okL, C.ok, okA, HO.ok]; done) | (change okL _ _ = true; assumption)))))); done) (by exact fun h => h), 0, rfl, Nat.zero_le _, rfl⟩
  rintro n σ ⟨j, rfl, hj, rfl⟩
  by_cases hlt : j < l.length
  · obtain ⟨x, hx⟩ : ∃ x, l[j]? = some x := ⟨_, List.getElem?_eq_getElem hlt⟩
    have hle := sep_le (sep := sep) l (j + 1)
    by_cases h0 : 0 < j
    · rw [sep_step hx h0, ByteArray.size_append, ByteArray.size_append] at hle
      have e := sep_step (sep := sep) hx h0
      repeat' (first | (with_reducible first | apply AW.seq | apply AW.block | apply AW.scope | apply AW.skip | apply AW.ret | apply AW.exit | apply AW.label | apply q_then | apply q_thenR | apply q_thenE | apply q_bloN | apply q_bloR | apply q_bloE | apply q_strN | apply q_strR | apply q_strE | apply s_e | refine m_b rfl ?_ ?_ | refine m_g rfl ?_ | refine m_o rfl ?_ ?_ | refine v_reg ?_ | refine v_drw ?_ | refine v_rgl ?_ | refine v_drb ?_) | ((with_reducible apply i_dv); first | refine t_v AS.v ?_ | refine t_w AS.w ?_) | ((with_reducible apply i_dg); first | refine t_n ?_ | refine t_m (hs := fun hg => AS.v) (k := ?_) | refine t_f ?_) | ((with_reducible apply i_ds); first | refine t_s AS.s ?_) | ((with_reducible refine i_aw ?_); first | refine v_yes ?_ | refine v_no ?_ | (refine v_cond (fun hc => ?_) (fun hc => ?_); all_goals (try (exfalso; simp [*] at hc; done)); all_goals (try (exfalso; revert hc; simp; omega)))) | ((with_reducible refine i_rt ?_); first | refine k_b ?_ | refine k_s ?_ | refine k_i ?_ | refine k_v ?_ | refine k_c ?_ | exact r_0 | exact r_0n | ((first | refine k_2 ?_ ?_ | refine k_2c ?_ ?_); all_goals (with_reducible (first | apply un_b | apply un_i | apply un_s | apply un_a)))) | ((with_reducible apply al_id); dsimp only [List.append]) | (refine q_bloX rfl ?_) | (refine ⟨by decide +kernel, ?_⟩) | fail)
      rw [← e]
      exact ⟨_, _, (show l.length - (j + 1) < l.length - j by omega), wk_mk (by (repeat (first | exact all_nil | ((refine all_cons ⟨_, rfl, .inl rfl, ?_⟩ ?_); (· (first | rfl | exact okRow rfl | (simp [V.ok, okL, C.ok, okA, HO.ok]; done) | (change okL _ _ = true; assumption)))))); done) (by (repeat (first | exact all_nil | ((refine all_cons ⟨_, rfl, .inl rfl, ?_⟩ ?_); (· (first | rfl | exact okRow rfl | (simp [V.ok, okL, C.ok, okA, HO.ok]; done) | (change okL _ _ = true; assumption)))))); done) (by exact fun h => h), j + 1, rfl, hlt, rfl⟩
    · obtain rfl : j = 0 := by omega
      rw [sep_zero hx] at hle
      have hz : ByteArray.size (sepB sep (l.take 0)) = 0 := rfl
      have e : sepB sep (l.take 0) ++ x = sepB sep (l.take (0 + 1)) := by rw [sep_zero hx, List.take_zero, sepB, nil_ba]
      repeat' (first | (with_reducible first | apply AW.seq | apply AW.block | apply AW.scope | apply AW.skip | apply AW.ret | apply AW.exit | apply AW.label | apply q_then | apply q_thenR | apply q_thenE | apply q_bloN | apply q_bloR | apply q_bloE | apply q_strN | apply q_strR | apply q_strE | apply s_e | refine m_b rfl ?_ ?_ | refine m_g rfl ?_ | refine m_o rfl ?_ ?_ | refine v_reg ?_ | refine v_drw ?_ | refine v_rgl ?_ | refine v_drb ?_) | ((with_reducible apply i_dv); first | refine t_v AS.v ?_ | refine t_w AS.w ?_) | ((with_reducible apply i_dg); first | refine t_n ?_ | refine t_m (hs := fun hg => AS.v) (k := ?_) | refine t_f ?_) | ((with_reducible apply i_ds); first | refine t_s AS.s ?_) | ((with_reducible refine i_aw ?_); first | refine v_yes ?_ | refine v_no ?_ | (refine v_cond (fun hc => ?_) (fun hc => ?_); all_goals (try (exfalso; simp [*] at hc; done)); all_goals (try (exfalso; revert hc; simp; omega)))) | ((with_reducible refine i_rt ?_); first | refine k_b ?_ | refine k_s ?_ | refine k_i ?_ | refine k_v ?_ | refine k_c ?_ | exact r_0 | exact r_0n | ((first | refine k_2 ?_ ?_ | refine k_2c ?_ ?_); all_goals (with_reducible (first | apply un_b | apply un_i | apply un_s | apply un_a)))) | ((with_reducible apply al_id); dsimp only [List.append]) | (refine q_bloX rfl ?_) | (refine ⟨by decide +kernel, ?_⟩) | fail)
      rw [e]
      exact ⟨_, _, (show l.length - (0 + 1) < l.length - 0 by omega), wk_mk (by (repeat (first | exact all_nil | ((refine all_cons ⟨_, rfl, .inl rfl, ?_⟩ ?_); (· (first | rfl | exact okRow rfl | (simp [V.ok, okL, C.ok, okA, HO.ok]; done) | (change okL _ _ = true; assumption)))))); done) (by (repeat (first | exact all_nil | ((refine all_cons ⟨_, rfl, .inl rfl, ?_⟩ ?_); (· (first | rfl | exact okRow rfl | (simp [V.ok, okL, C.ok, okA, HO.ok]; done) | (change okL _ _ = true; assumption)))))); done) (by exact fun h => h), 1, rfl, hlt, rfl⟩
  · rw [List.take_of_length_le (by omega)]
    repeat' (first | (with_reducible first | apply AW.seq | apply AW.block | apply AW.scope | apply AW.skip | apply AW.ret | apply AW.exit | apply AW.label | apply q_then | apply q_thenR | apply q_thenE | apply q_bloN | apply q_bloR | apply q_bloE | apply q_strN | apply q_strR | apply q_strE | apply s_e | refine m_b rfl ?_ ?_ | refine m_g rfl ?_ | refine m_o rfl ?_ ?_ | refine v_reg ?_ | refine v_drw ?_ | refine v_rgl ?_ | refine v_drb ?_) | ((with_reducible apply i_dv); first | refine t_v AS.v ?_ | refine t_w AS.w ?_) | ((with_reducible apply i_dg); first | refine t_n ?_ | refine t_m (hs := fun hg => AS.v) (k := ?_) | refine t_f ?_) | ((with_reducible apply i_ds); first | refine t_s AS.s ?_) | ((with_reducible refine i_aw ?_); first | refine v_yes ?_ | refine v_no ?_ | (refine v_cond (fun hc => ?_) (fun hc => ?_); all_goals (try (exfalso; simp [*] at hc; done)); all_goals (try (exfalso; revert hc; simp; omega)))) | ((with_reducible refine i_rt ?_); first | refine k_b ?_ | refine k_s ?_ | refine k_i ?_ | refine k_v ?_ | refine k_c ?_ | exact r_0 | exact r_0n | ((first | refine k_2 ?_ ?_ | refine k_2c ?_ ?_); all_goals (with_reducible (first | apply un_b | apply un_i | apply un_s | apply un_a)))) | ((with_reducible apply al_id); dsimp only [List.append]) | (refine q_bloX rfl ?_) | (refine ⟨by decide +kernel, ?_⟩) | fail)
    rfl
theorem qbraces_p {l : List ByteArray} (hb : (brT l).size ≤ 140737488355328) : Pure Tryz.prog 111 [.c (strL l)] (.c (sS (brT l))) := by
  have hb2 := hb
  simp only [brT, ByteArray.size_append, ba_size, List.size_toArray, List.length_cons, List.length_nil] at hb2
  refine fn1 (fn := Tryz.f111) Tryz.call111 Tryz.func111 rfl Tryz.ntmps111 Tryz.results111 rfl (by first | rfl | simp [V.ok, okL, C.ok, okA, okV]) ?_
  repeat' (first | (with_reducible first | apply AW.seq | apply AW.block | apply AW.scope | apply AW.skip | apply AW.ret | apply AW.exit | apply AW.label | apply q_then | apply q_thenR | apply q_thenE | apply q_bloN | apply q_bloR | apply q_bloE | apply q_strN | apply q_strR | apply q_strE | apply s_e | refine m_b rfl ?_ ?_ | refine m_g rfl ?_ | refine m_o rfl ?_ ?_ | refine v_reg ?_ | refine v_drw ?_ | refine v_rgl ?_ | refine v_drb ?_) | ((with_reducible apply i_dv); first | refine t_v AS.v ?_ | refine t_v (by first | exact u_call (hP := qjoin_p (by omega))) ?_ | refine t_w AS.w ?_) | ((with_reducible apply i_dg); first | refine t_n ?_ | refine t_m (hs := fun hg => AS.v) (k := ?_) | refine t_m (hs := fun hg => (by first | exact u_call (hP := qjoin_p (by omega)))) (k := ?_) | refine t_f ?_) | ((with_reducible apply i_ds); first | refine t_s AS.s ?_) | ((with_reducible refine i_aw ?_); first | refine v_yes ?_ | refine v_no ?_ | (refine v_cond (fun hc => ?_) (fun hc => ?_); all_goals (try (exfalso; simp [*] at hc; done)); all_goals (try (exfalso; revert hc; simp; omega)))) | ((with_reducible refine i_rt ?_); first | refine k_b ?_ | refine k_s ?_ | refine k_i ?_ | refine k_v ?_ | refine k_c ?_ | exact r_0 | exact r_0n | ((first | refine k_2 ?_ ?_ | refine k_2c ?_ ?_); all_goals (with_reducible (first | apply un_b | apply un_i | apply un_s | apply un_a)))) | ((with_reducible apply al_id); dsimp only [List.append]) | (refine q_bloX rfl ?_) | (refine ⟨by decide +kernel, ?_⟩) | fail)
  rfl
theorem qnames_p {n : NS} (hb : (brT (nsL n)).size ≤ 70368744177664) (hl : (nsL n).length ≤ 4398046511104) : Pure Tryz.prog 60 [.agg (nsC n)] (.c (sS (nsT n))) := by
  have hl2 : (nsL1 n).length + n.except.length ≤ 4398046511104 := by simp [nsL, nsL2] at hl; omega
  have hl1 : n.names.length ≤ 4398046511104 := by simp [nsL1] at hl2; omega
  have hes : ∀ x ∈ n.except, x.size ≤ 70368744177664 := fun x hx => by
    have h1 : ⟨#[45, 32]⟩ ++ x ∈ nsL n := by simp only [nsL, nsL2]; exact List.mem_append_left _ (List.mem_append_right _ (List.mem_map_of_mem hx))
    have h2 := sep_mem (sep := ⟨#[32]⟩) h1
    simp only [brT, ByteArray.size_append] at hb h2
    omega
  refine fn1 (fn := Tryz.f60) Tryz.call60 Tryz.func60 rfl Tryz.ntmps60 Tryz.results60 rfl (by first | rfl | simp [V.ok, okL, C.ok, okA, okV]) ?_
  repeat' ((fail_if_success (with_reducible refine reg_at 2 ?_)); (first | (with_reducible first | apply AW.seq | apply AW.block | apply AW.scope | apply AW.skip | apply AW.ret | apply AW.exit | apply AW.label | apply q_then | apply q_thenR | apply q_thenE | apply q_bloN | apply q_bloR | apply q_bloE | apply q_strN | apply q_strR | apply q_strE | apply s_e | refine m_b rfl ?_ ?_ | refine m_g rfl ?_ | refine m_o rfl ?_ ?_ | refine v_reg ?_ | refine v_drw ?_ | refine v_rgl ?_ | refine v_drb ?_) | ((with_reducible apply i_dv); first | refine t_v AS.v ?_ | refine t_w AS.w ?_) | ((with_reducible apply i_dg); first | refine t_n ?_ | refine t_m (hs := fun hg => AS.v) (k := ?_) | refine t_f ?_) | ((with_reducible apply i_ds); first | refine t_s AS.s ?_) | ((with_reducible refine i_aw ?_); first | refine v_yes ?_ | refine v_no ?_ | (refine v_cond (fun hc => ?_) (fun hc => ?_); all_goals (try (exfalso; simp [*] at hc; done)); all_goals (try (exfalso; revert hc; simp; omega)))) | ((with_reducible refine i_rt ?_); first | refine k_b ?_ | refine k_s ?_ | refine k_i ?_ | refine k_v ?_ | refine k_c ?_ | exact r_0 | exact r_0n | ((first | refine k_2 ?_ ?_ | refine k_2c ?_ ?_); all_goals (with_reducible (first | apply un_b | apply un_i | apply un_s | apply un_a)))) | ((with_reducible apply al_id); dsimp only [List.append]) | (refine q_bloX rfl ?_) | (refine ⟨by decide +kernel, ?_⟩) | fail))
  apply nilRowS 3 3 rfl rfl
  repeat' ((fail_if_success (with_reducible refine reg_at 5 ?_)); (first | (with_reducible first | apply AW.seq | apply AW.block | apply AW.scope | apply AW.skip | apply AW.ret | apply AW.exit | apply AW.label | apply q_then | apply q_thenR | apply q_thenE | apply q_bloN | apply q_bloR | apply q_bloE | apply q_strN | apply q_strR | apply q_strE | apply s_e | refine m_b rfl ?_ ?_ | refine m_g rfl ?_ | refine m_o rfl ?_ ?_ | refine v_reg ?_ | refine v_drw ?_ | refine v_rgl ?_ | refine v_drb ?_) | ((with_reducible apply i_dv); first | refine t_v AS.v ?_ | refine t_w AS.w ?_) | ((with_reducible apply i_dg); first | refine t_n ?_ | refine t_m (hs := fun hg => AS.v) (k := ?_) | refine t_f ?_) | ((with_reducible apply i_ds); first | refine t_s AS.s ?_) | ((with_reducible refine i_aw ?_); first | refine v_yes ?_ | refine v_no ?_ | (refine v_cond (fun hc => ?_) (fun hc => ?_); all_goals (try (exfalso; simp [*] at hc; done)); all_goals (try (exfalso; revert hc; simp; omega)))) | ((with_reducible refine i_rt ?_); first | refine k_b ?_ | refine k_s ?_ | refine k_i ?_ | refine k_v ?_ | refine k_c ?_ | exact r_0 | exact r_0n | ((first | refine k_2 ?_ ?_ | refine k_2c ?_ ?_); all_goals (with_reducible (first | apply un_b | apply un_i | apply un_s | apply un_a)))) | ((with_reducible apply al_id); dsimp only [List.append]) | (refine q_bloX rfl ?_) | (refine ⟨by decide +kernel, ?_⟩) | fail))
  all_goals
    first
      | rw [show ([] : List ByteArray) ++ [(⟨#[42]⟩ : ByteArray)] ++ n.names = nsL1 n by simp [nsL1, hc]]
      | rw [show ([] : List ByteArray) ++ n.names = nsL1 n by simp [nsL1, hc]]
    refine AW.weak (σ' := mk [(1, .c (.ptr 1 0)), (2, .c (sS ⟨#[]⟩)), (3, .c (.lst (some 3) 1 ((nsL1 n).map oneS)))] [(3, .row 9 1 (nsL1 n).length), (1, .obj 35 (nsC n))]) (wk_mk (by (repeat (first | exact all_nil | ((refine all_cons ⟨_, rfl, .inl rfl, ?_⟩ ?_); (· (first | rfl | exact okRow rfl | (simp [V.ok, okL, C.ok, okA, HO.ok]; done) | (change okL _ _ = true; assumption)))))); done) (by (repeat (first | exact all_nil | ((refine all_cons ⟨_, rfl, .inl rfl, ?_⟩ ?_); (· (first | rfl | exact okRow rfl | (simp [V.ok, okL, C.ok, okA, HO.ok]; done) | (change okL _ _ = true; assumption)))))); done) (by exact fun h => h)) ?_
    clear hc
    repeat' (first | (with_reducible first | apply AW.seq | apply AW.block | apply AW.scope | apply AW.skip | apply AW.ret | apply AW.exit | apply AW.label | apply q_then | apply q_thenR | apply q_thenE | apply q_bloN | apply q_bloR | apply q_bloE | apply q_strN | apply q_strR | apply q_strE | apply s_e | refine m_b rfl ?_ ?_ | refine m_g rfl ?_ | refine m_o rfl ?_ ?_ | refine v_reg ?_ | refine v_drw ?_ | refine v_rgl ?_ | refine v_drb ?_) | ((with_reducible apply i_dv); first | refine t_v AS.v ?_ | refine t_w AS.w ?_) | ((with_reducible apply i_dg); first | refine t_n ?_ | refine t_m (hs := fun hg => AS.v) (k := ?_) | refine t_f ?_) | ((with_reducible apply i_ds); first | refine t_s AS.s ?_) | ((with_reducible refine i_aw ?_); first | refine v_yes ?_ | refine v_no ?_ | (refine v_cond (fun hc => ?_) (fun hc => ?_); all_goals (try (exfalso; simp [*] at hc; done)); all_goals (try (exfalso; revert hc; simp; omega)))) | ((with_reducible refine i_rt ?_); first | refine k_b ?_ | refine k_s ?_ | refine k_i ?_ | refine k_v ?_ | refine k_c ?_ | exact r_0 | exact r_0n | ((first | refine k_2 ?_ ?_ | refine k_2c ?_ ?_); all_goals (with_reducible (first | apply un_b | apply un_i | apply un_s | apply un_a)))) | ((with_reducible apply al_id); dsimp only [List.append]) | (refine q_bloX rfl ?_) | (refine ⟨by decide +kernel, ?_⟩) | fail)
    refine AW.loop (fun m σ => ∃ j, m = n.except.length - j ∧ j ≤ n.except.length ∧ σ = mk [(1, .c (.ptr 1 0)), (3, .c (.lst (some 3) 1 ((exL n j).map oneS))), (4, .c (sI j))] [(3, .row 9 1 (exL n j).length), (1, .obj 35 (nsC n))]) n.except.length ?_ ?_
    · rw [← exL_zero n]
      exact ⟨_, wk_mk (by (repeat (first | exact all_nil | ((refine all_cons ⟨_, rfl, .inl rfl, ?_⟩ ?_); (· (first | rfl | exact okRow rfl | (simp [V.ok, okL, C.ok, okA, HO.ok]; done) | (change okL _ _ = true; assumption)))))); done) (by (repeat (first | exact all_nil | ((refine all_cons ⟨_, rfl, .inl rfl, ?_⟩ ?_); (· (first | rfl | exact okRow rfl | (simp [V.ok, okL, C.ok, okA, HO.ok]; done) | (change okL _ _ = true; assumption)))))); done) (by exact fun h => h), 0, rfl, Nat.zero_le _, rfl⟩
    rintro m σ ⟨j, rfl, hj, rfl⟩
    have hlj := exL_len hj
    by_cases hlt : j < n.except.length
    · obtain ⟨x, hx⟩ : ∃ x, n.except[j]? = some x := ⟨_, List.getElem?_eq_getElem hlt⟩
      have hxs := hes x (List.mem_of_getElem? hx)
      repeat' (first | (with_reducible first | apply AW.seq | apply AW.block | apply AW.scope | apply AW.skip | apply AW.ret | apply AW.exit | apply AW.label | apply q_then | apply q_thenR | apply q_thenE | apply q_bloN | apply q_bloR | apply q_bloE | apply q_strN | apply q_strR | apply q_strE | apply s_e | refine m_b rfl ?_ ?_ | refine m_g rfl ?_ | refine m_o rfl ?_ ?_ | refine v_reg ?_ | refine v_drw ?_ | refine v_rgl ?_ | refine v_drb ?_) | ((with_reducible apply i_dv); first | refine t_v AS.v ?_ | refine t_w AS.w ?_) | ((with_reducible apply i_dg); first | refine t_n ?_ | refine t_m (hs := fun hg => AS.v) (k := ?_) | refine t_f ?_) | ((with_reducible apply i_ds); first | refine t_s AS.s ?_) | ((with_reducible refine i_aw ?_); first | refine v_yes ?_ | refine v_no ?_ | (refine v_cond (fun hc => ?_) (fun hc => ?_); all_goals (try (exfalso; simp [*] at hc; done)); all_goals (try (exfalso; revert hc; simp; omega)))) | ((with_reducible refine i_rt ?_); first | refine k_b ?_ | refine k_s ?_ | refine k_i ?_ | refine k_v ?_ | refine k_c ?_ | exact r_0 | exact r_0n | ((first | refine k_2 ?_ ?_ | refine k_2c ?_ ?_); all_goals (with_reducible (first | apply un_b | apply un_i | apply un_s | apply un_a)))) | ((with_reducible apply al_id); dsimp only [List.append]) | (refine q_bloX rfl ?_) | (refine ⟨by decide +kernel, ?_⟩) | fail)
      rw [exL_succ hx]
      exact ⟨_, _, (show n.except.length - (j + 1) < n.except.length - j by omega), wk_mk (by (repeat (first | exact all_nil | ((refine all_cons ⟨_, rfl, .inl rfl, ?_⟩ ?_); (· (first | rfl | exact okRow rfl | (simp [V.ok, okL, C.ok, okA, HO.ok]; done) | (change okL _ _ = true; assumption)))))); done) (by (repeat (first | exact all_nil | ((refine all_cons ⟨_, rfl, .inl rfl, ?_⟩ ?_); (· (first | rfl | exact okRow rfl | (simp [V.ok, okL, C.ok, okA, HO.ok]; done) | (change okL _ _ = true; assumption)))))); done) (by exact fun h => h), j + 1, rfl, hlt, rfl⟩
    · rw [exL_end (by omega)]
      rw [exL_end (by omega)] at hlj
      repeat' ((fail_if_success (with_reducible refine reg_at 11 ?_)); (first | (with_reducible first | apply AW.seq | apply AW.block | apply AW.scope | apply AW.skip | apply AW.ret | apply AW.exit | apply AW.label | apply q_then | apply q_thenR | apply q_thenE | apply q_bloN | apply q_bloR | apply q_bloE | apply q_strN | apply q_strR | apply q_strE | apply s_e | refine m_b rfl ?_ ?_ | refine m_g rfl ?_ | refine m_o rfl ?_ ?_ | refine v_reg ?_ | refine v_drw ?_ | refine v_rgl ?_ | refine v_drb ?_) | ((with_reducible apply i_dv); first | refine t_v AS.v ?_ | refine t_w AS.w ?_) | ((with_reducible apply i_dg); first | refine t_n ?_ | refine t_m (hs := fun hg => AS.v) (k := ?_) | refine t_f ?_) | ((with_reducible apply i_ds); first | refine t_s AS.s ?_) | ((with_reducible refine i_aw ?_); first | refine v_yes ?_ | refine v_no ?_ | (refine v_cond (fun hc => ?_) (fun hc => ?_); all_goals (try (exfalso; simp [*] at hc; done)); all_goals (try (exfalso; revert hc; simp; omega)))) | ((with_reducible refine i_rt ?_); first | refine k_b ?_ | refine k_s ?_ | refine k_i ?_ | refine k_v ?_ | refine k_c ?_ | exact r_0 | exact r_0n | ((first | refine k_2 ?_ ?_ | refine k_2c ?_ ?_); all_goals (with_reducible (first | apply un_b | apply un_i | apply un_s | apply un_a)))) | ((with_reducible apply al_id); dsimp only [List.append]) | (refine q_bloX rfl ?_) | (refine ⟨by decide +kernel, ?_⟩) | fail))
      all_goals
        first
          | rw [show nsL2 n ++ [(⟨#[115, 101, 108, 102]⟩ : ByteArray)] = nsL n by simp [nsL, hc]]
          | rw [show nsL2 n = nsL n by simp [nsL, hc]]
        refine AW.weak (σ' := mk [(1, .c (.ptr 1 0)), (3, .c (.lst (some 3) 1 ((nsL n).map oneS)))] [(3, .row 9 1 (nsL n).length), (1, .obj 35 (nsC n))]) (wk_mk (by (repeat (first | exact all_nil | ((refine all_cons ⟨_, rfl, .inl rfl, ?_⟩ ?_); (· (first | rfl | exact okRow rfl | (simp [V.ok, okL, C.ok, okA, HO.ok]; done) | (change okL _ _ = true; assumption)))))); done) (by (repeat (first | exact all_nil | ((refine all_cons ⟨_, rfl, .inl rfl, ?_⟩ ?_); (· (first | rfl | exact okRow rfl | (simp [V.ok, okL, C.ok, okA, HO.ok]; done) | (change okL _ _ = true; assumption)))))); done) (by exact fun h => h)) ?_
        clear hc
        by_cases h1 : (nsL n).length = 1
        · obtain ⟨x, hx⟩ : ∃ x, (nsL n)[0]? = some x := ⟨_, List.getElem?_eq_getElem (by omega)⟩
          have hg : (nsL n).getD 0 ⟨#[]⟩ = x := by rw [List.getD_eq_getElem?_getD, hx]; rfl
          have hxs : x.size ≤ 70368744177664 := by
            have := sep_mem (sep := ⟨#[32]⟩) (List.mem_of_getElem? hx)
            simp only [brT, ByteArray.size_append] at hb
            omega
          repeat' (first | (with_reducible first | apply AW.seq | apply AW.block | apply AW.scope | apply AW.skip | apply AW.ret | apply AW.exit | apply AW.label | apply q_then | apply q_thenR | apply q_thenE | apply q_bloN | apply q_bloR | apply q_bloE | apply q_strN | apply q_strR | apply q_strE | apply s_e | refine m_b rfl ?_ ?_ | refine m_g rfl ?_ | refine m_o rfl ?_ ?_ | refine v_reg ?_ | refine v_drw ?_ | refine v_rgl ?_ | refine v_drb ?_) | ((with_reducible apply i_dv); first | refine t_v AS.v ?_ | refine t_v (by first | exact u_call (hP := qbraces_p (by omega))) ?_ | refine t_w AS.w ?_) | ((with_reducible apply i_dg); first | refine t_n ?_ | refine t_m (hs := fun hg => AS.v) (k := ?_) | refine t_m (hs := fun hg => (by first | exact u_call (hP := qbraces_p (by omega)))) (k := ?_) | refine t_f ?_) | ((with_reducible apply i_ds); first | refine t_s AS.s ?_) | ((with_reducible refine i_aw ?_); first | refine v_yes ?_ | refine v_no ?_ | (refine v_cond (fun hc => ?_) (fun hc => ?_); all_goals (try (exfalso; simp [*] at hc; done)); all_goals (try (exfalso; revert hc; simp; omega)))) | ((with_reducible refine i_rt ?_); first | refine k_b ?_ | refine k_s ?_ | refine k_i ?_ | refine k_v ?_ | refine k_c ?_ | exact r_0 | exact r_0n | ((first | refine k_2 ?_ ?_ | refine k_2c ?_ ?_); all_goals (with_reducible (first | apply un_b | apply un_i | apply un_s | apply un_a)))) | ((with_reducible apply al_id); dsimp only [List.append]) | (refine q_bloX rfl ?_) | (refine ⟨by decide +kernel, ?_⟩) | fail)
          all_goals (simp only [List.length_map] at *; unfold nsT; grind)
        · repeat' (first | (with_reducible first | apply AW.seq | apply AW.block | apply AW.scope | apply AW.skip | apply AW.ret | apply AW.exit | apply AW.label | apply q_then | apply q_thenR | apply q_thenE | apply q_bloN | apply q_bloR | apply q_bloE | apply q_strN | apply q_strR | apply q_strE | apply s_e | refine m_b rfl ?_ ?_ | refine m_g rfl ?_ | refine m_o rfl ?_ ?_ | refine v_reg ?_ | refine v_drw ?_ | refine v_rgl ?_ | refine v_drb ?_) | ((with_reducible apply i_dv); first | refine t_v AS.v ?_ | refine t_v (by first | exact u_call (hP := qbraces_p (by omega))) ?_ | refine t_w AS.w ?_) | ((with_reducible apply i_dg); first | refine t_n ?_ | refine t_m (hs := fun hg => AS.v) (k := ?_) | refine t_m (hs := fun hg => (by first | exact u_call (hP := qbraces_p (by omega)))) (k := ?_) | refine t_f ?_) | ((with_reducible apply i_ds); first | refine t_s AS.s ?_) | ((with_reducible refine i_aw ?_); first | refine v_yes ?_ | refine v_no ?_ | (refine v_cond (fun hc => ?_) (fun hc => ?_); all_goals (try (exfalso; simp [*] at hc; done)); all_goals (try (exfalso; revert hc; simp; omega)))) | ((with_reducible refine i_rt ?_); first | refine k_b ?_ | refine k_s ?_ | refine k_i ?_ | refine k_v ?_ | refine k_c ?_ | exact r_0 | exact r_0n | ((first | refine k_2 ?_ ?_ | refine k_2c ?_ ?_); all_goals (with_reducible (first | apply un_b | apply un_i | apply un_s | apply un_a)))) | ((with_reducible apply al_id); dsimp only [List.append]) | (refine q_bloX rfl ?_) | (refine ⟨by decide +kernel, ?_⟩) | fail)
          all_goals (simp only [List.length_map] at *; unfold nsT; grind)
theorem qnames_q {n : NS} (hb : (nsT n).size ≤ 4398046511000) : Pure Tryz.prog 60 [.agg (nsC n)] (.c (sS (nsT n))) := by
  have := nsT_bounds n
  exact qnames_p (by omega) (by omega)
theorem qNames_p {n : NS} (hb : (nsT n).size ≤ 4398046511000) : Pure Tryz.prog 24 [.agg (nsC n)] (.tup [.c (sS (NamesR n).1), .c (sI (NamesR n).2)]) := by
  refine fn1 (fn := Tryz.f24) Tryz.call24 Tryz.func24 rfl Tryz.ntmps24 Tryz.results24 rfl (by first | rfl | simp [V.ok, okL, C.ok, okA, okV]) ?_
  repeat' (first | (with_reducible first | apply AW.seq | apply AW.block | apply AW.scope | apply AW.skip | apply AW.ret | apply AW.exit | apply AW.label | apply q_then | apply q_thenR | apply q_thenE | apply q_bloN | apply q_bloR | apply q_bloE | apply q_strN | apply q_strR | apply q_strE | apply s_e | refine m_b rfl ?_ ?_ | refine m_g rfl ?_ | refine m_o rfl ?_ ?_ | refine v_reg ?_ | refine v_drw ?_ | refine v_rgl ?_ | refine v_drb ?_) | ((with_reducible apply i_dv); first | refine t_v AS.v ?_ | refine t_v (by first | exact u_call (hP := qSet_p _ _) | exact u_call (hP := qnames_q hb)) ?_ | refine t_w AS.w ?_) | ((with_reducible apply i_dg); first | refine t_n ?_ | refine t_m (hs := fun hg => AS.v) (k := ?_) | refine t_m (hs := fun hg => (by first | exact u_call (hP := qSet_p _ _) | exact u_call (hP := qnames_q hb))) (k := ?_) | refine t_f ?_) | ((with_reducible apply i_ds); first | refine t_s AS.s ?_) | ((with_reducible refine i_aw ?_); first | refine v_yes ?_ | refine v_no ?_ | (refine v_cond (fun hc => ?_) (fun hc => ?_); all_goals (try (exfalso; simp [*] at hc; done)); all_goals (try (exfalso; revert hc; simp; omega)))) | ((with_reducible refine i_rt ?_); first | refine k_b ?_ | refine k_s ?_ | refine k_i ?_ | refine k_v ?_ | refine k_c ?_ | exact r_0 | exact r_0n | ((first | refine k_2 ?_ ?_ | refine k_2c ?_ ?_); all_goals (with_reducible (first | apply un_b | apply un_i | apply un_s | apply un_a)))) | ((with_reducible apply al_id); dsimp only [List.append]) | (refine q_bloX rfl ?_) | (refine ⟨by decide +kernel, ?_⟩) | fail)
  all_goals (unfold NamesR; simp_all)
theorem qlevelText_p {l : Lv} (hb : (lvT l).size ≤ 140737488355328) (hl : l.cats.length ≤ 4398046511104) : Pure Tryz.prog 124 [.agg (lvC l)] (.c (sS (lvT l))) := by
  have hs : 0 < l.cats.length → (l.sens ++ ⟨#[58]⟩).size + (sepB ⟨#[44]⟩ (l.cats.map spT)).size ≤ 140737488355328 := fun h => by
    have hb2 := hb
    rw [lvT, if_neg (by omega), ByteArray.size_append] at hb2
    exact hb2
  have hx : ∀ x ∈ l.cats, (spT x).size ≤ 140737488355328 := fun x hx => by
    have := sep_mem (sep := ⟨#[44]⟩) (List.mem_map_of_mem (f := spT) hx)
    have := hs (List.length_pos_of_mem hx)
    omega
  refine fn1 (fn := Tryz.f124) Tryz.call124 Tryz.func124 rfl Tryz.ntmps124 Tryz.results124 rfl (by first | rfl | simp [V.ok, okL, C.ok, okA, okV]) ?_
  repeat' ((fail_if_success (with_reducible refine reg_at 2 ?_)); (first | (with_reducible first | apply AW.seq | apply AW.block | apply AW.scope | apply AW.skip | apply AW.ret | apply AW.exit | apply AW.label | apply q_then | apply q_thenR | apply q_thenE | apply q_bloN | apply q_bloR | apply q_bloE | apply q_strN | apply q_strR | apply q_strE | apply s_e | refine m_b rfl ?_ ?_ | refine m_g rfl ?_ | refine m_o rfl ?_ ?_ | refine v_reg ?_ | refine v_drw ?_ | refine v_rgl ?_ | refine v_drb ?_) | ((with_reducible apply i_dv); first | refine t_v AS.v ?_ | refine t_w AS.w ?_) | ((with_reducible apply i_dg); first | refine t_n ?_ | refine t_m (hs := fun hg => AS.v) (k := ?_) | refine t_f ?_) | ((with_reducible apply i_ds); first | refine t_s AS.s ?_) | ((with_reducible refine i_aw ?_); first | refine v_yes ?_ | refine v_no ?_ | (refine v_cond (fun hc => ?_) (fun hc => ?_); all_goals (try (exfalso; simp [*] at hc; done)); all_goals (try (exfalso; revert hc; simp; omega)))) | ((with_reducible refine i_rt ?_); first | refine k_b ?_ | refine k_s ?_ | refine k_i ?_ | refine k_v ?_ | refine k_c ?_ | exact r_0 | exact r_0n | ((first | refine k_2 ?_ ?_ | refine k_2c ?_ ?_); all_goals (with_reducible (first | apply un_b | apply un_i | apply un_s | apply un_a)))) | ((with_reducible apply al_id); dsimp only [List.append]) | (refine q_bloX rfl ?_) | (refine ⟨by decide +kernel, ?_⟩) | fail))
  apply nilRowS 3 3 rfl rfl
  repeat' (first | (with_reducible first | apply AW.seq | apply AW.block | apply AW.scope | apply AW.skip | apply AW.ret | apply AW.exit | apply AW.label | apply q_then | apply q_thenR | apply q_thenE | apply q_bloN | apply q_bloR | apply q_bloE | apply q_strN | apply q_strR | apply q_strE | apply s_e | refine m_b rfl ?_ ?_ | refine m_g rfl ?_ | refine m_o rfl ?_ ?_ | refine v_reg ?_ | refine v_drw ?_ | refine v_rgl ?_ | refine v_drb ?_) | ((with_reducible apply i_dv); first | refine t_v AS.v ?_ | refine t_w AS.w ?_) | ((with_reducible apply i_dg); first | refine t_n ?_ | refine t_m (hs := fun hg => AS.v) (k := ?_) | refine t_f ?_) | ((with_reducible apply i_ds); first | refine t_s AS.s ?_) | ((with_reducible refine i_aw ?_); first | refine v_yes ?_ | refine v_no ?_ | (refine v_cond (fun hc => ?_) (fun hc => ?_); all_goals (try (exfalso; simp [*] at hc; done)); all_goals (try (exfalso; revert hc; simp; omega)))) | ((with_reducible refine i_rt ?_); first | refine k_b ?_ | refine k_s ?_ | refine k_i ?_ | refine k_v ?_ | refine k_c ?_ | exact r_0 | exact r_0n | ((first | refine k_2 ?_ ?_ | refine k_2c ?_ ?_); all_goals (with_reducible (first | apply un_b | apply un_i | apply un_s | apply un_a)))) | ((with_reducible apply al_id); dsimp only [List.append]) | (refine q_bloX rfl ?_) | (refine ⟨by decide +kernel, ?_⟩) | fail)
  refine AW.loop (fun m σ => ∃ j, m = l.cats.length - j ∧ j ≤ l.cats.length ∧ σ = mk [(1, .c (.ptr 1 0)), (3, .c (.lst (some 3) 1 (((l.cats.take j).map spT).map oneS))), (4, .c (sI j))] [(3, .row 9 1 ((l.cats.take j).map spT).length), (1, .obj 44 (lvC l))]) l.cats.length ?_ ?_
  · exact ⟨_, wk_mk (by (repeat (first | exact all_nil | ((refine all_cons ⟨_, rfl, .inl rfl, ?_⟩ ?_); (· (first | rfl | exact okRow rfl | (simp [V.ok, okL, C.ok, okA, HO.ok]; done) | (change okL _ _ = true; assumption)))))); done) (by (repeat (first | exact all_nil | ((refine all_cons ⟨_, rfl, .inl rfl, ?_⟩ ?_); (· (first | rfl | exact okRow rfl | (simp [V.ok, okL, C.ok, okA, HO.ok]; done) | (change okL _ _ = true; assumption)))))); done) (by exact fun h => h), 0, rfl, Nat.zero_le _, rfl⟩
  rintro m σ ⟨j, rfl, hj, rfl⟩
  by_cases hlt : j < l.cats.length
  · obtain ⟨x, hx2⟩ : ∃ x, l.cats[j]? = some x := ⟨_, List.getElem?_eq_getElem hlt⟩
    have hxs := hx x (List.mem_of_getElem? hx2)
    have hlj : (l.cats.take j).length = j := by rw [List.length_take]; omega
    have e : (l.cats.take j).map spT ++ [spT x] = (l.cats.take (j + 1)).map spT := (map_take hx2).symm
    by_cases h0 : x.to = ⟨#[]⟩
    · have e0 : spT x = x.frm := by unfold spT; rw [if_pos h0]
      rw [e0] at e hxs
      repeat' (first | (with_reducible first | apply AW.seq | apply AW.block | apply AW.scope | apply AW.skip | apply AW.ret | apply AW.exit | apply AW.label | apply q_then | apply q_thenR | apply q_thenE | apply q_bloN | apply q_bloR | apply q_bloE | apply q_strN | apply q_strR | apply q_strE | apply s_e | refine m_b rfl ?_ ?_ | refine m_g rfl ?_ | refine m_o rfl ?_ ?_ | refine v_reg ?_ | refine v_drw ?_ | refine v_rgl ?_ | refine v_drb ?_) | ((with_reducible apply i_dv); first | refine t_v AS.v ?_ | refine t_w AS.w ?_) | ((with_reducible apply i_dg); first | refine t_n ?_ | refine t_m (hs := fun hg => AS.v) (k := ?_) | refine t_f ?_) | ((with_reducible apply i_ds); first | refine t_s AS.s ?_) | ((with_reducible refine i_aw ?_); first | refine v_yes ?_ | refine v_no ?_ | (refine v_cond (fun hc => ?_) (fun hc => ?_); all_goals (try (exfalso; simp [*] at hc; done)); all_goals (try (exfalso; revert hc; simp; omega)))) | ((with_reducible refine i_rt ?_); first | refine k_b ?_ | refine k_s ?_ | refine k_i ?_ | refine k_v ?_ | refine k_c ?_ | exact r_0 | exact r_0n | ((first | refine k_2 ?_ ?_ | refine k_2c ?_ ?_); all_goals (with_reducible (first | apply un_b | apply un_i | apply un_s | apply un_a)))) | ((with_reducible apply al_id); dsimp only [List.append]) | (refine q_bloX rfl ?_) | (refine ⟨by decide +kernel, ?_⟩) | fail)
      rw [e]
      exact ⟨_, _, (show l.cats.length - (j + 1) < l.cats.length - j by omega), wk_mk (by (repeat (first | exact all_nil | ((refine all_cons ⟨_, rfl, .inl rfl, ?_⟩ ?_); (· (first | rfl | exact okRow rfl | (simp [V.ok, okL, C.ok, okA, HO.ok]; done) | (change okL _ _ = true; assumption)))))); done) (by (repeat (first | exact all_nil | ((refine all_cons ⟨_, rfl, .inl rfl, ?_⟩ ?_); (· (first | rfl | exact okRow rfl | (simp [V.ok, okL, C.ok, okA, HO.ok]; done) | (change okL _ _ = true; assumption)))))); done) (by exact fun h => h), j + 1, rfl, hlt, rfl⟩
    · have e0 : spT x = x.frm ++ ⟨#[46]⟩ ++ x.to := by unfold spT; rw [if_neg h0]
      rw [e0] at e hxs
      simp only [ByteArray.size_append, ba_size, List.size_toArray, List.length_cons, List.length_nil] at hxs
      repeat' (first | (with_reducible first | apply AW.seq | apply AW.block | apply AW.scope | apply AW.skip | apply AW.ret | apply AW.exit | apply AW.label | apply q_then | apply q_thenR | apply q_thenE | apply q_bloN | apply q_bloR | apply q_bloE | apply q_strN | apply q_strR | apply q_strE | apply s_e | refine m_b rfl ?_ ?_ | refine m_g rfl ?_ | refine m_o rfl ?_ ?_ | refine v_reg ?_ | refine v_drw ?_ | refine v_rgl ?_ | refine v_drb ?_) | ((with_reducible apply i_dv); first | refine t_v AS.v ?_ | refine t_w AS.w ?_) | ((with_reducible apply i_dg); first | refine t_n ?_ | refine t_m (hs := fun hg => AS.v) (k := ?_) | refine t_f ?_) | ((with_reducible apply i_ds); first | refine t_s AS.s ?_) | ((with_reducible refine i_aw ?_); first | refine v_yes ?_ | refine v_no ?_ | (refine v_cond (fun hc => ?_) (fun hc => ?_); all_goals (try (exfalso; simp [*] at hc; done)); all_goals (try (exfalso; revert hc; simp; omega)))) | ((with_reducible refine i_rt ?_); first | refine k_b ?_ | refine k_s ?_ | refine k_i ?_ | refine k_v ?_ | refine k_c ?_ | exact r_0 | exact r_0n | ((first | refine k_2 ?_ ?_ | refine k_2c ?_ ?_); all_goals (with_reducible (first | apply un_b | apply un_i | apply un_s | apply un_a)))) | ((with_reducible apply al_id); dsimp only [List.append]) | (refine q_bloX rfl ?_) | (refine ⟨by decide +kernel, ?_⟩) | fail)
      rw [e]
      exact ⟨_, _, (show l.cats.length - (j + 1) < l.cats.length - j by omega), wk_mk (by (repeat (first | exact all_nil | ((refine all_cons ⟨_, rfl, .inl rfl, ?_⟩ ?_); (· (first | rfl | exact okRow rfl | (simp [V.ok, okL, C.ok, okA, HO.ok]; done) | (change okL _ _ = true; assumption)))))); done) (by (repeat (first | exact all_nil | ((refine all_cons ⟨_, rfl, .inl rfl, ?_⟩ ?_); (· (first | rfl | exact okRow rfl | (simp [V.ok, okL, C.ok, okA, HO.ok]; done) | (change okL _ _ = true; assumption)))))); done) (by exact fun h => h), j + 1, rfl, hlt, rfl⟩
  · rw [List.take_of_length_le (by omega)]
    by_cases h0 : l.cats.length = 0
    · repeat' (first | (with_reducible first | apply AW.seq | apply AW.block | apply AW.scope | apply AW.skip | apply AW.ret | apply AW.exit | apply AW.label | apply q_then | apply q_thenR | apply q_thenE | apply q_bloN | apply q_bloR | apply q_bloE | apply q_strN | apply q_strR | apply q_strE | apply s_e | refine m_b rfl ?_ ?_ | refine m_g rfl ?_ | refine m_o rfl ?_ ?_ | refine v_reg ?_ | refine v_drw ?_ | refine v_rgl ?_ | refine v_drb ?_) | ((with_reducible apply i_dv); first | refine t_v AS.v ?_ | refine t_w AS.w ?_) | ((with_reducible apply i_dg); first | refine t_n ?_ | refine t_m (hs := fun hg => AS.v) (k := ?_) | refine t_f ?_) | ((with_reducible apply i_ds); first | refine t_s AS.s ?_) | ((with_reducible refine i_aw ?_); first | refine v_yes ?_ | refine v_no ?_ | (refine v_cond (fun hc => ?_) (fun hc => ?_); all_goals (try (exfalso; simp [*] at hc; done)); all_goals (try (exfalso; revert hc; simp; omega)))) | ((with_reducible refine i_rt ?_); first | refine k_b ?_ | refine k_s ?_ | refine k_i ?_ | refine k_v ?_ | refine k_c ?_ | exact r_0 | exact r_0n | ((first | refine k_2 ?_ ?_ | refine k_2c ?_ ?_); all_goals (with_reducible (first | apply un_b | apply un_i | apply un_s | apply un_a)))) | ((with_reducible apply al_id); dsimp only [List.append]) | (refine q_bloX rfl ?_) | (refine ⟨by decide +kernel, ?_⟩) | fail)
      · unfold lvT; rw [if_pos h0]
    · have h2 := hs (by omega)
      rw [ByteArray.size_append] at h2
      repeat' (first | (with_reducible first | apply AW.seq | apply AW.block | apply AW.scope | apply AW.skip | apply AW.ret | apply AW.exit | apply AW.label | apply q_then | apply q_thenR | apply q_thenE | apply q_bloN | apply q_bloR | apply q_bloE | apply q_strN | apply q_strR | apply q_strE | apply s_e | refine m_b rfl ?_ ?_ | refine m_g rfl ?_ | refine m_o rfl ?_ ?_ | refine v_reg ?_ | refine v_drw ?_ | refine v_rgl ?_ | refine v_drb ?_) | ((with_reducible apply i_dv); first | refine t_v AS.v ?_ | refine t_v (by first | exact u_call (hP := qjoin_p (by omega))) ?_ | refine t_w AS.w ?_) | ((with_reducible apply i_dg); first | refine t_n ?_ | refine t_m (hs := fun hg => AS.v) (k := ?_) | refine t_m (hs := fun hg => (by first | exact u_call (hP := qjoin_p (by omega)))) (k := ?_) | refine t_f ?_) | ((with_reducible apply i_ds); first | refine t_s AS.s ?_) | ((with_reducible refine i_aw ?_); first | refine v_yes ?_ | refine v_no ?_ | (refine v_cond (fun hc => ?_) (fun hc => ?_); all_goals (try (exfalso; simp [*] at hc; done)); all_goals (try (exfalso; revert hc; simp; omega)))) | ((with_reducible refine i_rt ?_); first | refine k_b ?_ | refine k_s ?_ | refine k_i ?_ | refine k_v ?_ | refine k_c ?_ | exact r_0 | exact r_0n | ((first | refine k_2 ?_ ?_ | refine k_2c ?_ ?_); all_goals (with_reducible (first | apply un_b | apply un_i | apply un_s | apply un_a)))) | ((with_reducible apply al_id); dsimp only [List.append]) | (refine q_bloX rfl ?_) | (refine ⟨by decide +kernel, ?_⟩) | fail)
      unfold lvT; rw [if_neg h0]
theorem qrange_p {r : Rg} (hb : (rgT r).size ≤ 140737488355328) (h1 : r.lo.cats.length ≤ 4398046511104) (h2 : r.hi.cats.length ≤ 4398046511104) : Pure Tryz.prog 68 [.agg (rgC r)] (.c (sS (rgT r))) := by
  cases h0 : blankL r.hi with
  | true =>
    have hb2 := hb
    rw [rgT, h0, if_pos rfl] at hb2
    refine fn1 (fn := Tryz.f68) Tryz.call68 Tryz.func68 rfl Tryz.ntmps68 Tryz.results68 rfl (by first | rfl | simp [V.ok, okL, C.ok, okA, okV]) ?_
    repeat' (first | (with_reducible first | apply AW.seq | apply AW.block | apply AW.scope | apply AW.skip | apply AW.ret | apply AW.exit | apply AW.label | apply q_then | apply q_thenR | apply q_thenE | apply q_bloN | apply q_bloR | apply q_bloE | apply q_strN | apply q_strR | apply q_strE | apply s_e | refine m_b rfl ?_ ?_ | refine m_g rfl ?_ | refine m_o rfl ?_ ?_ | refine v_reg ?_ | refine v_drw ?_ | refine v_rgl ?_ | refine v_drb ?_) | ((with_reducible apply i_dv); first | refine t_v AS.v ?_ | refine t_v (by first | exact u_call (hP := qsingle_p _) | exact u_call (hP := qlevelText_p (by omega) h1)) ?_ | refine t_w AS.w ?_) | ((with_reducible apply i_dg); first | refine t_n ?_ | refine t_m (hs := fun hg => AS.v) (k := ?_) | refine t_m (hs := fun hg => (by first | exact u_call (hP := qsingle_p _) | exact u_call (hP := qlevelText_p (by omega) h1))) (k := ?_) | refine t_f ?_) | ((with_reducible apply i_ds); first | refine t_s AS.s ?_) | ((with_reducible refine i_aw ?_); first | refine v_yes ?_ | refine v_no ?_ | (refine v_cond (fun hc => ?_) (fun hc => ?_); all_goals (try (exfalso; simp [*] at hc; done)); all_goals (try (exfalso; revert hc; simp; omega)))) | ((with_reducible refine i_rt ?_); first | refine k_b ?_ | refine k_s ?_ | refine k_i ?_ | refine k_v ?_ | refine k_c ?_ | exact r_0 | exact r_0n | ((first | refine k_2 ?_ ?_ | refine k_2c ?_ ?_); all_goals (with_reducible (first | apply un_b | apply un_i | apply un_s | apply un_a)))) | ((with_reducible apply al_id); dsimp only [List.append]) | (refine q_bloX rfl ?_) | (refine ⟨by decide +kernel, ?_⟩) | fail)
    all_goals (unfold rgT; simp_all)
  | false =>
    have hb2 := hb
    rw [rgT, h0, if_neg (by decide)] at hb2
    simp only [ByteArray.size_append, ba_size, List.size_toArray, List.length_cons, List.length_nil] at hb2
    refine fn1 (fn := Tryz.f68) Tryz.call68 Tryz.func68 rfl Tryz.ntmps68 Tryz.results68 rfl (by first | rfl | simp [V.ok, okL, C.ok, okA, okV]) ?_
    repeat' (first | (with_reducible first | apply AW.seq | apply AW.block | apply AW.scope | apply AW.skip | apply AW.ret | apply AW.exit | apply AW.label | apply q_then | apply q_thenR | apply q_thenE | apply q_bloN | apply q_bloR | apply q_bloE | apply q_strN | apply q_strR | apply q_strE | apply s_e | refine m_b rfl ?_ ?_ | refine m_g rfl ?_ | refine m_o rfl ?_ ?_ | refine v_reg ?_ | refine v_drw ?_ | refine v_rgl ?_ | refine v_drb ?_) | ((with_reducible apply i_dv); first | refine t_v AS.v ?_ | refine t_v (by first | exact u_call (hP := qsingle_p _) | exact u_call (hP := qlevelText_p (by omega) h1) | exact u_call (hP := qlevelText_p (by omega) h2)) ?_ | refine t_w AS.w ?_) | ((with_reducible apply i_dg); first | refine t_n ?_ | refine t_m (hs := fun hg => AS.v) (k := ?_) | refine t_m (hs := fun hg => (by first | exact u_call (hP := qsingle_p _) | exact u_call (hP := qlevelText_p (by omega) h1) | exact u_call (hP := qlevelText_p (by omega) h2))) (k := ?_) | refine t_f ?_) | ((with_reducible apply i_ds); first | refine t_s AS.s ?_) | ((with_reducible refine i_aw ?_); first | refine v_yes ?_ | refine v_no ?_ | (refine v_cond (fun hc => ?_) (fun hc => ?_); all_goals (try (exfalso; simp [*] at hc; done)); all_goals (try (exfalso; revert hc; simp; omega)))) | ((with_reducible refine i_rt ?_); first | refine k_b ?_ | refine k_s ?_ | refine k_i ?_ | refine k_v ?_ | refine k_c ?_ | exact r_0 | exact r_0n | ((first | refine k_2 ?_ ?_ | refine k_2c ?_ ?_); all_goals (with_reducible (first | apply un_b | apply un_i | apply un_s | apply un_a)))) | ((with_reducible apply al_id); dsimp only [List.append]) | (refine q_bloX rfl ?_) | (refine ⟨by decide +kernel, ?_⟩) | fail)
    all_goals (unfold rgT; simp_all)
theorem qRange_p {r : Rg} (hb : (rgT r).size ≤ 140737488355328) (h1 : r.lo.cats.length ≤ 4398046511104) (h2 : r.hi.cats.length ≤ 4398046511104) : Pure Tryz.prog 28 [.agg (rgC r)] (.tup [.c (sS (RangeR r).1), .c (sI (RangeR r).2)]) := by
  refine fn1 (fn := Tryz.f28) Tryz.call28 Tryz.func28 rfl Tryz.ntmps28 Tryz.results28 rfl (by first | rfl | simp [V.ok, okL, C.ok, okA, okV]) ?_
  repeat' (first | (with_reducible first | apply AW.seq | apply AW.block | apply AW.scope | apply AW.skip | apply AW.ret | apply AW.exit | apply AW.label | apply q_then | apply q_thenR | apply q_thenE | apply q_bloN | apply q_bloR | apply q_bloE | apply q_strN | apply q_strR | apply q_strE | apply s_e | refine m_b rfl ?_ ?_ | refine m_g rfl ?_ | refine m_o rfl ?_ ?_ | refine v_reg ?_ | refine v_drw ?_ | refine v_rgl ?_ | refine v_drb ?_) | ((with_reducible apply i_dv); first | refine t_v AS.v ?_ | refine t_v (by first | exact u_call (hP := qinterval_p _) | exact u_call (hP := qrange_p hb h1 h2)) ?_ | refine t_w AS.w ?_) | ((with_reducible apply i_dg); first | refine t_n ?_ | refine t_m (hs := fun hg => AS.v) (k := ?_) | refine t_m (hs := fun hg => (by first | exact u_call (hP := qinterval_p _) | exact u_call (hP := qrange_p hb h1 h2))) (k := ?_) | refine t_f ?_) | ((with_reducible apply i_ds); first | refine t_s AS.s ?_) | ((with_reducible refine i_aw ?_); first | refine v_yes ?_ | refine v_no ?_ | (refine v_cond (fun hc => ?_) (fun hc => ?_); all_goals (try (exfalso; simp [*] at hc; done)); all_goals (try (exfalso; revert hc; simp; omega)))) | ((with_reducible refine i_rt ?_); first | refine k_b ?_ | refine k_s ?_ | refine k_i ?_ | refine k_v ?_ | refine k_c ?_ | exact r_0 | exact r_0n | ((first | refine k_2 ?_ ?_ | refine k_2c ?_ ?_); all_goals (with_reducible (first | apply un_b | apply un_i | apply un_s | apply un_a)))) | ((with_reducible apply al_id); dsimp only [List.append]) | (refine q_bloX rfl ?_) | (refine ⟨by decide +kernel, ?_⟩) | fail)
  all_goals (unfold RangeR; simp_all)
theorem qctxT_p {c : Ct} (hb : (cxT c).size ≤ 140737488355328) (h1 : c.rng.lo.cats.length ≤ 4398046511104) (h2 : c.rng.hi.cats.length ≤ 4398046511104) : Pure Tryz.prog 72 [.agg (cxC c)] (.c (sS (cxT c))) := by
  have hb2 := hb
  simp only [cxT, ByteArray.size_append, ba_size, List.size_toArray, List.length_cons, List.length_nil] at hb2
  refine fn1 (fn := Tryz.f72) Tryz.call72 Tryz.func72 rfl Tryz.ntmps72 Tryz.results72 rfl (by first | rfl | simp [V.ok, okL, C.ok, okA, okV]) ?_
  repeat' (first | (with_reducible first | apply AW.seq | apply AW.block | apply AW.scope | apply AW.skip | apply AW.ret | apply AW.exit | apply AW.label | apply q_then | apply q_thenR | apply q_thenE | apply q_bloN | apply q_bloR | apply q_bloE | apply q_strN | apply q_strR | apply q_strE | apply s_e | refine m_b rfl ?_ ?_ | refine m_g rfl ?_ | refine m_o rfl ?_ ?_ | refine v_reg ?_ | refine v_drw ?_ | refine v_rgl ?_ | refine v_drb ?_) | ((with_reducible apply i_dv); first | refine t_v AS.v ?_ | refine t_v (by first | exact u_call (hP := qrange_p (by omega) h1 h2)) ?_ | refine t_w AS.w ?_) | ((with_reducible apply i_dg); first | refine t_n ?_ | refine t_m (hs := fun hg => AS.v) (k := ?_) | refine t_m (hs := fun hg => (by first | exact u_call (hP := qrange_p (by omega) h1 h2))) (k := ?_) | refine t_f ?_) | ((with_reducible apply i_ds); first | refine t_s AS.s ?_) | ((with_reducible refine i_aw ?_); first | refine v_yes ?_ | refine v_no ?_ | (refine v_cond (fun hc => ?_) (fun hc => ?_); all_goals (try (exfalso; simp [*] at hc; done)); all_goals (try (exfalso; revert hc; simp; omega)))) | ((with_reducible refine i_rt ?_); first | refine k_b ?_ | refine k_s ?_ | refine k_i ?_ | refine k_v ?_ | refine k_c ?_ | exact r_0 | exact r_0n | ((first | refine k_2 ?_ ?_ | refine k_2c ?_ ?_); all_goals (with_reducible (first | apply un_b | apply un_i | apply un_s | apply un_a)))) | ((with_reducible apply al_id); dsimp only [List.append]) | (refine q_bloX rfl ?_) | (refine ⟨by decide +kernel, ?_⟩) | fail)
  rfl
theorem qContext_p {c : Ct} (hb : (cxT c).size ≤ 140737488355328) (h1 : c.rng.lo.cats.length ≤ 4398046511104) (h2 : c.rng.hi.cats.length ≤ 4398046511104) : Pure Tryz.prog 30 [.agg (cxC c)] (.tup [.c (sS (ContextR c).1), .c (sI (ContextR c).2)]) := by
  refine fn1 (fn := Tryz.f30) Tryz.call30 Tryz.func30 rfl Tryz.ntmps30 Tryz.results30 rfl (by first | rfl | simp [V.ok, okL, C.ok, okA, okV]) ?_
  repeat' (first | (with_reducible first | apply AW.seq | apply AW.block | apply AW.scope | apply AW.skip | apply AW.ret | apply AW.exit | apply AW.label | apply q_then | apply q_thenR | apply q_thenE | apply q_bloN | apply q_bloR | apply q_bloE | apply q_strN | apply q_strR | apply q_strE | apply s_e | refine m_b rfl ?_ ?_ | refine m_g rfl ?_ | refine m_o rfl ?_ ?_ | refine v_reg ?_ | refine v_drw ?_ | refine v_rgl ?_ | refine v_drb ?_) | ((with_reducible apply i_dv); first | refine t_v AS.v ?_ | refine t_v (by first | exact u_call (hP := qcontext_p _) | exact u_call (hP := qctxT_p hb h1 h2)) ?_ | refine t_w AS.w ?_) | ((with_reducible apply i_dg); first | refine t_n ?_ | refine t_m (hs := fun hg => AS.v) (k := ?_) | refine t_m (hs := fun hg => (by first | exact u_call (hP := qcontext_p _) | exact u_call (hP := qctxT_p hb h1 h2))) (k := ?_) | refine t_f ?_) | ((with_reducible apply i_ds); first | refine t_s AS.s ?_) | ((with_reducible refine i_aw ?_); first | refine v_yes ?_ | refine v_no ?_ | (refine v_cond (fun hc => ?_) (fun hc => ?_); all_goals (try (exfalso; simp [*] at hc; done)); all_goals (try (exfalso; revert hc; simp; omega)))) | ((with_reducible refine i_rt ?_); first | refine k_b ?_ | refine k_s ?_ | refine k_i ?_ | refine k_v ?_ | refine k_c ?_ | exact r_0 | exact r_0n | ((first | refine k_2 ?_ ?_ | refine k_2c ?_ ?_); all_goals (with_reducible (first | apply un_b | apply un_i | apply un_s | apply un_a)))) | ((with_reducible apply al_id); dsimp only [List.append]) | (refine q_bloX rfl ?_) | (refine ⟨by decide +kernel, ?_⟩) | fail)
  all_goals (unfold ContextR; simp_all)
theorem decimal_p {n : Nat} (h : n ≤ 9223372036854775807) : Pure Tryz.prog 38 [.c (sI n)] (.c (sS (decT n))) := decimal_n _ n (Nat.lt_succ_self _) h
def attL : List ByteArray := [⟨#[117]⟩, ⟨#[114]⟩, ⟨#[116]⟩, ⟨#[108]⟩, ⟨#[104]⟩]
theorem qattribute_p {n : Nat} (hn : n < 15) : Pure Tryz.prog 117 [.c (sI n)] (.c (sS (attT n))) := by
  have hr : Int.tmod (n : Int) 5 = ((n % 5 : Nat) : Int) := by
    have : ∀ i : Fin 15, Int.tmod (i.val : Int) 5 = ((i.val % 5 : Nat) : Int) := by decide +kernel
    exact this ⟨n, hn⟩
  have hd : Int.tdiv (n : Int) 5 = ((n / 5 : Nat) : Int) := by
    have : ∀ i : Fin 15, Int.tdiv (i.val : Int) 5 = ((i.val / 5 : Nat) : Int) := by decide +kernel
    exact this ⟨n, hn⟩
  obtain ⟨x, hx, hxe, hxs⟩ : ∃ x, attL[n % 5]? = some x ∧ attT n = x ++ decT (n / 5 + 1) ∧ x.size ≤ 5 := by
    have : ∀ i : Fin 15, ∃ x, attL[i.val % 5]? = some x ∧ attT i.val = x ++ decT (i.val / 5 + 1) ∧ x.size ≤ 5 := by
      intro i
      have h5 : i.val % 5 < attL.length := Nat.mod_lt _ (by decide)
      refine ⟨attL[i.val % 5], List.getElem?_eq_getElem h5, ?_, ?_⟩
      · unfold attT decT
        congr 1
        have : ∀ j : Fin 5, (⟨#[117, 114, 116, 108, 104]⟩ : ByteArray).extract j.val (j.val + 1) = attL[j.val]'(by have := j.2; exact this) := by decide +kernel
        exact this ⟨i.val % 5, Nat.mod_lt _ (by decide)⟩
      · have : ∀ y ∈ attL, y.size ≤ 5 := by decide
        exact this _ (List.getElem_mem h5)
    exact this ⟨n, hn⟩
  unfold attL at hx
  have hdl := decT_le (n / 5 + 1) (by omega)
  have hi : Pure Tryz.prog 38 [.c (sI (1 + ((n / 5 : Nat) : Int)))] (.c (sS (decT (n / 5 + 1)))) := by
    have := decimal_p (n := n / 5 + 1) (by omega)
    rwa [show (((n / 5 + 1 : Nat)) : Int) = 1 + ((n / 5 : Nat) : Int) by omega] at this
  rw [hxe]
  refine fn1 (fn := Tryz.f117) Tryz.call117 Tryz.func117 rfl Tryz.ntmps117 Tryz.results117 rfl (by first | rfl | simp [V.ok, okL, C.ok, okA, okV]) ?_
  repeat' (first | (with_reducible first | apply AW.seq | apply AW.block | apply AW.scope | apply AW.skip | apply AW.ret | apply AW.exit | apply AW.label | apply q_then | apply q_thenR | apply q_thenE | apply q_bloN | apply q_bloR | apply q_bloE | apply q_strN | apply q_strR | apply q_strE | apply s_e | refine m_b rfl ?_ ?_ | refine m_g rfl ?_ | refine m_o rfl ?_ ?_ | refine v_reg ?_ | refine v_drw ?_ | refine v_rgl ?_ | refine v_drb ?_) | ((with_reducible apply i_dv); first | refine t_v AS.v ?_ | refine t_v (by first | exact u_call (hP := hi)) ?_ | refine t_w AS.w ?_) | ((with_reducible apply i_dg); first | refine t_n ?_ | refine t_m (hs := fun hg => AS.v) (k := ?_) | refine t_m (hs := fun hg => (by first | exact u_call (hP := hi))) (k := ?_) | refine t_f ?_) | ((with_reducible apply i_ds); first | refine t_s AS.s ?_) | ((with_reducible refine i_aw ?_); first | refine v_yes ?_ | refine v_no ?_ | (refine v_cond (fun hc => ?_) (fun hc => ?_); all_goals (try (exfalso; simp [*] at hc; done)); all_goals (try (exfalso; revert hc; simp; omega)))) | ((with_reducible refine i_rt ?_); first | refine k_b ?_ | refine k_s ?_ | refine k_i ?_ | refine k_v ?_ | refine k_c ?_ | exact r_0 | exact r_0n | ((first | refine k_2 ?_ ?_ | refine k_2c ?_ ?_); all_goals (with_reducible (first | apply un_b | apply un_i | apply un_s | apply un_a)))) | ((with_reducible apply al_id); dsimp only [List.append]) | (refine q_bloX rfl ?_) | (refine ⟨by decide +kernel, ?_⟩) | fail)
  rfl
end Am
namespace Am
open Tk
set_option maxRecDepth 100000
set_option maxHeartbeats 4000000
theorem qoperand_p {e : Ex} {p : Bool} (h : Pure Tryz.prog 64 [.agg (exC e)] (.c (sS (exT e)))) (hb : (opdT p (exT e)).size ≤ maxE) : Pure Tryz.prog 118 [.agg (exC e), .c (sB p)] (.c (sS (opdT p (exT e)))) := by
  have hb2 := hb
  unfold opdT maxE at hb2
  cases p with
  | true =>
    rw [if_pos rfl] at hb2
    simp only [ByteArray.size_append, ba_size, List.size_toArray, List.length_cons, List.length_nil] at hb2
    refine fn2 (fn := Tryz.f118) Tryz.call118 Tryz.func118 rfl Tryz.ntmps118 Tryz.results118 rfl (by first | rfl | simp [V.ok, okL, C.ok, okA, okV]) ?_
    repeat' (first | (with_reducible first | apply AW.seq | apply AW.block | apply AW.scope | apply AW.skip | apply AW.ret | apply AW.exit | apply AW.label | apply q_then | apply q_thenR | apply q_thenE | apply q_bloN | apply q_bloR | apply q_bloE | apply q_strN | apply q_strR | apply q_strE | apply s_e | refine m_b rfl ?_ ?_ | refine m_g rfl ?_ | refine m_o rfl ?_ ?_ | refine v_reg ?_ | refine v_drw ?_ | refine v_rgl ?_ | refine v_drb ?_) | ((with_reducible apply i_dv); first | refine t_v AS.v ?_ | refine t_v (by first | exact u_call (hP := h)) ?_ | refine t_w AS.w ?_) | ((with_reducible apply i_dg); first | refine t_n ?_ | refine t_m (hs := fun hg => AS.v) (k := ?_) | refine t_m (hs := fun hg => (by first | exact u_call (hP := h))) (k := ?_) | refine t_f ?_) | ((with_reducible apply i_ds); first | refine t_s AS.s ?_) | ((with_reducible refine i_aw ?_); first | refine v_yes ?_ | refine v_no ?_ | (refine v_cond (fun hc => ?_) (fun hc => ?_); all_goals (try (exfalso; simp [*] at hc; done)); all_goals (try (exfalso; revert hc; simp; omega)))) | ((with_reducible refine i_rt ?_); first | refine k_b ?_ | refine k_s ?_ | refine k_i ?_ | refine k_v ?_ | refine k_c ?_ | exact r_0 | exact r_0n | ((first | refine k_2 ?_ ?_ | refine k_2c ?_ ?_); all_goals (with_reducible (first | apply un_b | apply un_i | apply un_s | apply un_a)))) | ((with_reducible apply al_id); dsimp only [List.append]) | (refine q_bloX rfl ?_) | (refine ⟨by decide +kernel, ?_⟩) | fail)
    rfl
  | false =>
    refine fn2 (fn := Tryz.f118) Tryz.call118 Tryz.func118 rfl Tryz.ntmps118 Tryz.results118 rfl (by first | rfl | simp [V.ok, okL, C.ok, okA, okV]) ?_
    repeat' (first | (with_reducible first | apply AW.seq | apply AW.block | apply AW.scope | apply AW.skip | apply AW.ret | apply AW.exit | apply AW.label | apply q_then | apply q_thenR | apply q_thenE | apply q_bloN | apply q_bloR | apply q_bloE | apply q_strN | apply q_strR | apply q_strE | apply s_e | refine m_b rfl ?_ ?_ | refine m_g rfl ?_ | refine m_o rfl ?_ ?_ | refine v_reg ?_ | refine v_drw ?_ | refine v_rgl ?_ | refine v_drb ?_) | ((with_reducible apply i_dv); first | refine t_v AS.v ?_ | refine t_v (by first | exact u_call (hP := h)) ?_ | refine t_w AS.w ?_) | ((with_reducible apply i_dg); first | refine t_n ?_ | refine t_m (hs := fun hg => AS.v) (k := ?_) | refine t_m (hs := fun hg => (by first | exact u_call (hP := h))) (k := ?_) | refine t_f ?_) | ((with_reducible apply i_ds); first | refine t_s AS.s ?_) | ((with_reducible refine i_aw ?_); first | refine v_yes ?_ | refine v_no ?_ | (refine v_cond (fun hc => ?_) (fun hc => ?_); all_goals (try (exfalso; simp [*] at hc; done)); all_goals (try (exfalso; revert hc; simp; omega)))) | ((with_reducible refine i_rt ?_); first | refine k_b ?_ | refine k_s ?_ | refine k_i ?_ | refine k_v ?_ | refine k_c ?_ | exact r_0 | exact r_0n | ((first | refine k_2 ?_ ?_ | refine k_2c ?_ ?_); all_goals (with_reducible (first | apply un_b | apply un_i | apply un_s | apply un_a)))) | ((with_reducible apply al_id); dsimp only [List.append]) | (refine q_bloX rfl ?_) | (refine ⟨by decide +kernel, ?_⟩) | fail)
    rfl
def relL : List ByteArray := [⟨#[61, 61]⟩, ⟨#[33, 61]⟩, ⟨#[100, 111, 109]⟩, ⟨#[100, 111, 109, 98, 121]⟩, ⟨#[105, 110, 99, 111, 109, 112]⟩]
theorem rel_of {n : Int} (h0 : 0 ≤ n) (h1 : n < 5) : ∃ (j : Nat) (x : ByteArray), n = j ∧ relL[j]? = some x ∧ relT n = x := by
  obtain ⟨j, rfl⟩ : ∃ j : Nat, n = j := ⟨n.toNat, by omega⟩
  have hj : j < 5 := by omega
  have : ∀ i : Fin 5, ∃ x, relL[i.val]? = some x ∧ relT (i.val : Int) = x := by decide
  obtain ⟨x, h2, h3⟩ := this ⟨j, hj⟩
  exact ⟨j, x, rfl, h2, h3⟩
theorem nsT_one {l : List ByteArray} {x : ByteArray} (h : l = [x]) : nsT ⟨false, false, false, l, []⟩ = x := by
  subst h; simp [nsT, nsL, nsL1, nsL2]
theorem nsT_more {l : List ByteArray} (h : l.length ≠ 1) : nsT ⟨false, false, false, l, []⟩ = brT l := by
  simp [nsT, nsL, nsL1, nsL2, h]
theorem qexpression_n : ∀ (n : Nat) (e : Ex) (limit level : Int), SizeOf.sizeOf e < n → limit ≤ 15 → nodeB limit level e = true → (exT e).size ≤ 4398046511000 → Pure Tryz.prog 64 [.agg (exC e)] (.c (sS (exT e)))
  | 0, _, _, _, h, _, _, _ => absurd h (Nat.not_lt_zero _)
  | n + 1, e, limit, level, h, hl, hn, hb => by
    have ih : ∀ x ∈ e.kids, (exT x).size ≤ 4398046511000 → Pure Tryz.prog 64 [.agg (exC x)] (.c (sS (exT x))) := fun x hx hs =>
      qexpression_n n x limit (level + 1) (by have := kid_lt hx; omega) hl (by
        rw [nodeB_eq, Bool.and_eq_true] at hn
        exact List.all_eq_true.1 hn.2 x hx) hs
    rw [nodeB_eq, Bool.and_eq_true] at hn
    have hn := hn.1
    rw [exT_eq] at hb ⊢
    unfold headB at hn
    rw [Bool.and_eq_true] at hn
    have hn := hn.2
    by_cases o2 : e.op = 2
    · have hk : (e.kids.length : Int) = 1 := by simp [o2] at hn; omega
      obtain ⟨k, hk⟩ := one_of hk
      have hx : e.kids[0]? = some k := by rw [hk]; rfl
      have e1 : exH e.op e.a e.rel e.b e.names (e.kids.map exT) (e.kids.map (·.op)) = ⟨#[33]⟩ ++ opdT (decide (k.op ≠ 2)) (exT k) := by simp [exH, o2, hk]
      rw [e1] at hb ⊢
      simp only [ByteArray.size_append, ba_size, List.size_toArray, List.length_cons, List.length_nil] at hb
      have hs := opdT_le (decide (k.op ≠ 2)) (exT k)
      have hp := qoperand_p (p := decide (k.op ≠ 2)) (ih k (List.mem_of_getElem? hx) (by omega)) (by unfold maxE; omega)
      rw [decide_not] at hp hb ⊢
      clear ih hn hk h e1 hs
      refine fn1 (fn := Tryz.f64) Tryz.call64 Tryz.func64 rfl Tryz.ntmps64 Tryz.results64 rfl (by first | rfl | simp [V.ok, okL, C.ok, okA, okV]) ?_
      repeat' (first | (with_reducible first | apply AW.seq | apply AW.block | apply AW.scope | apply AW.skip | apply AW.ret | apply AW.exit | apply AW.label | apply q_then | apply q_thenR | apply q_thenE | apply q_bloN | apply q_bloR | apply q_bloE | apply q_strN | apply q_strR | apply q_strE | apply s_e | refine m_b rfl ?_ ?_ | refine m_g rfl ?_ | refine m_o rfl ?_ ?_ | refine v_reg ?_ | refine v_drw ?_ | refine v_rgl ?_ | refine v_drb ?_) | ((with_reducible apply i_dv); first | refine t_v AS.v ?_ | refine t_v (by first | exact u_call (hP := hp)) ?_ | refine t_w AS.w ?_) | ((with_reducible apply i_dg); first | refine t_n ?_ | refine t_m (hs := fun hg => AS.v) (k := ?_) | refine t_m (hs := fun hg => (by first | exact u_call (hP := hp))) (k := ?_) | refine t_f ?_) | ((with_reducible apply i_ds); first | refine t_s AS.s ?_) | ((with_reducible refine i_aw ?_); first | refine v_yes ?_ | refine v_no ?_ | (refine v_cond (fun hc => ?_) (fun hc => ?_); all_goals (try (exfalso; simp [*] at hc; done)); all_goals (try (exfalso; revert hc; simp; omega)))) | ((with_reducible refine i_rt ?_); first | refine k_b ?_ | refine k_s ?_ | refine k_i ?_ | refine k_v ?_ | refine k_c ?_ | exact r_0 | exact r_0n | ((first | refine k_2 ?_ ?_ | refine k_2c ?_ ?_); all_goals (with_reducible (first | apply un_b | apply un_i | apply un_s | apply un_a)))) | ((with_reducible apply al_id); dsimp only [List.append]) | (refine q_bloX rfl ?_) | (refine ⟨by decide +kernel, ?_⟩) | fail)
      rfl
    by_cases o3 : e.op = 3
    · have hk : (e.kids.length : Int) = 2 := by simp [o3] at hn; omega
      obtain ⟨k, m, hk⟩ := two_of hk
      have hx : e.kids[0]? = some k := by rw [hk]; rfl
      have hy : e.kids[1]? = some m := by rw [hk]; rfl
      have e1 : exH e.op e.a e.rel e.b e.names (e.kids.map exT) (e.kids.map (·.op)) = opdT (decide (k.op = 4)) (exT k) ++ ⟨#[32, 38, 38, 32]⟩ ++ opdT (decide (m.op = 4) || decide (m.op = 3)) (exT m) := by simp [exH, o3, hk]
      rw [e1] at hb ⊢
      simp only [ByteArray.size_append, ba_size, List.size_toArray, List.length_cons, List.length_nil] at hb
      have hs := opdT_le (decide (k.op = 4)) (exT k)
      have ht := opdT_le (decide (m.op = 4) || decide (m.op = 3)) (exT m)
      have hp := qoperand_p (p := decide (k.op = 4)) (ih k (List.mem_of_getElem? hx) (by omega)) (by unfold maxE; omega)
      have hq := qoperand_p (p := decide (m.op = 4) || decide (m.op = 3)) (ih m (List.mem_of_getElem? hy) (by omega)) (by unfold maxE; omega)
      have hp2 : ∀ b, b = decide (k.op = 4) → Pure Tryz.prog 118 [.agg (exC k), .c (sB b)] (.c (sS (opdT (decide (k.op = 4)) (exT k)))) := fun b hb => hb ▸ hp
      have hq2 : ∀ b, b = (decide (m.op = 4) || decide (m.op = 3)) → Pure Tryz.prog 118 [.agg (exC m), .c (sB b)] (.c (sS (opdT (decide (m.op = 4) || decide (m.op = 3)) (exT m)))) := fun b hb => hb ▸ hq
      clear ih hn hk h e1 hs ht hp hq
      refine fn1 (fn := Tryz.f64) Tryz.call64 Tryz.func64 rfl Tryz.ntmps64 Tryz.results64 rfl (by first | rfl | simp [V.ok, okL, C.ok, okA, okV]) ?_
      repeat' (first | (with_reducible first | apply AW.seq | apply AW.block | apply AW.scope | apply AW.skip | apply AW.ret | apply AW.exit | apply AW.label | apply q_then | apply q_thenR | apply q_thenE | apply q_bloN | apply q_bloR | apply q_bloE | apply q_strN | apply q_strR | apply q_strE | apply s_e | refine m_b rfl ?_ ?_ | refine m_g rfl ?_ | refine m_o rfl ?_ ?_ | refine v_reg ?_ | refine v_drw ?_ | refine v_rgl ?_ | refine v_drb ?_) | ((with_reducible apply i_dv); first | refine t_v AS.v ?_ | refine t_v (by first | exact u_call (hP := hp2 _ (by simp [o3]; done)) | exact u_call (hP := hq2 _ (by simp [o3]; done))) ?_ | refine t_w AS.w ?_) | ((with_reducible apply i_dg); first | refine t_n ?_ | refine t_m (hs := fun hg => AS.v) (k := ?_) | refine t_m (hs := fun hg => (by first | exact u_call (hP := hp2 _ (by simp [o3]; done)) | exact u_call (hP := hq2 _ (by simp [o3]; done)))) (k := ?_) | refine t_f ?_) | ((with_reducible apply i_ds); first | refine t_s AS.s ?_) | ((with_reducible refine i_aw ?_); first | refine v_yes ?_ | refine v_no ?_ | (refine v_cond (fun hc => ?_) (fun hc => ?_); all_goals (try (exfalso; simp [*] at hc; done)); all_goals (try (exfalso; revert hc; simp; omega)))) | ((with_reducible refine i_rt ?_); first | refine k_b ?_ | refine k_s ?_ | refine k_i ?_ | refine k_v ?_ | refine k_c ?_ | exact r_0 | exact r_0n | ((first | refine k_2 ?_ ?_ | refine k_2c ?_ ?_); all_goals (with_reducible (first | apply un_b | apply un_i | apply un_s | apply un_a)))) | ((with_reducible apply al_id); dsimp only [List.append]) | (refine q_bloX rfl ?_) | (refine ⟨by decide +kernel, ?_⟩) | fail)
      rfl
    by_cases o4 : e.op = 4
    · have hk : (e.kids.length : Int) = 2 := by simp [o4] at hn; omega
      obtain ⟨k, m, hk⟩ := two_of hk
      have hx : e.kids[0]? = some k := by rw [hk]; rfl
      have hy : e.kids[1]? = some m := by rw [hk]; rfl
      have e1 : exH e.op e.a e.rel e.b e.names (e.kids.map exT) (e.kids.map (·.op)) = opdT false (exT k) ++ ⟨#[32, 124, 124, 32]⟩ ++ opdT (decide (m.op = 4)) (exT m) := by simp [exH, o4, hk, opdT]
      rw [e1] at hb ⊢
      simp only [ByteArray.size_append, ba_size, List.size_toArray, List.length_cons, List.length_nil] at hb
      have hs := opdT_le false (exT k)
      have ht := opdT_le (decide (m.op = 4)) (exT m)
      have hp := qoperand_p (p := false) (ih k (List.mem_of_getElem? hx) (by omega)) (by unfold maxE; omega)
      have hq := qoperand_p (p := decide (m.op = 4)) (ih m (List.mem_of_getElem? hy) (by omega)) (by unfold maxE; omega)
      have hp2 : ∀ b, b = false → Pure Tryz.prog 118 [.agg (exC k), .c (sB b)] (.c (sS (opdT false (exT k)))) := fun b hb => hb ▸ hp
      have hq2 : ∀ b, b = decide (m.op = 4) → Pure Tryz.prog 118 [.agg (exC m), .c (sB b)] (.c (sS (opdT (decide (m.op = 4)) (exT m)))) := fun b hb => hb ▸ hq
      clear ih hn hk h e1 hs ht hp hq
      refine fn1 (fn := Tryz.f64) Tryz.call64 Tryz.func64 rfl Tryz.ntmps64 Tryz.results64 rfl (by first | rfl | simp [V.ok, okL, C.ok, okA, okV]) ?_
      repeat' (first | (with_reducible first | apply AW.seq | apply AW.block | apply AW.scope | apply AW.skip | apply AW.ret | apply AW.exit | apply AW.label | apply q_then | apply q_thenR | apply q_thenE | apply q_bloN | apply q_bloR | apply q_bloE | apply q_strN | apply q_strR | apply q_strE | apply s_e | refine m_b rfl ?_ ?_ | refine m_g rfl ?_ | refine m_o rfl ?_ ?_ | refine v_reg ?_ | refine v_drw ?_ | refine v_rgl ?_ | refine v_drb ?_) | ((with_reducible apply i_dv); first | refine t_v AS.v ?_ | refine t_v (by first | exact u_call (hP := hp2 _ (by simp [o4]; done)) | exact u_call (hP := hq2 _ (by simp [o4]; done))) ?_ | refine t_w AS.w ?_) | ((with_reducible apply i_dg); first | refine t_n ?_ | refine t_m (hs := fun hg => AS.v) (k := ?_) | refine t_m (hs := fun hg => (by first | exact u_call (hP := hp2 _ (by simp [o4]; done)) | exact u_call (hP := hq2 _ (by simp [o4]; done)))) (k := ?_) | refine t_f ?_) | ((with_reducible apply i_ds); first | refine t_s AS.s ?_) | ((with_reducible refine i_aw ?_); first | refine v_yes ?_ | refine v_no ?_ | (refine v_cond (fun hc => ?_) (fun hc => ?_); all_goals (try (exfalso; simp [*] at hc; done)); all_goals (try (exfalso; revert hc; simp; omega)))) | ((with_reducible refine i_rt ?_); first | refine k_b ?_ | refine k_s ?_ | refine k_i ?_ | refine k_v ?_ | refine k_c ?_ | exact r_0 | exact r_0n | ((first | refine k_2 ?_ ?_ | refine k_2c ?_ ?_); all_goals (with_reducible (first | apply un_b | apply un_i | apply un_s | apply un_a)))) | ((with_reducible apply al_id); dsimp only [List.append]) | (refine q_bloX rfl ?_) | (refine ⟨by decide +kernel, ?_⟩) | fail)
      rfl
    by_cases o9 : e.op = 9
    · have ha : 0 ≤ e.a ∧ e.a < 15 := by simp [o9] at hn; omega
      obtain ⟨a, ha2⟩ : ∃ a : Nat, e.a = a := ⟨e.a.toNat, by omega⟩
      have han : a < 15 := by omega
      have e1 : exH e.op e.a e.rel e.b e.names (e.kids.map exT) (e.kids.map (·.op)) = attT a ++ ⟨#[32, 105, 110, 32]⟩ ++ nsT ⟨false, false, false, e.names, []⟩ := by simp [exH, o9, ha2]
      rw [e1] at hb ⊢
      have hp : Pure Tryz.prog 117 [.c (sI e.a)] (.c (sS (attT a))) := by rw [ha2]; exact qattribute_p han
      by_cases n1 : e.names.length = 1
      · obtain ⟨x, hx⟩ := one_of (l := e.names) (by omega)
        have hx0 : e.names[0]? = some x := by rw [hx]; rfl
        rw [nsT_one hx] at hb ⊢
        simp only [ByteArray.size_append, ba_size, List.size_toArray, List.length_cons, List.length_nil] at hb
        clear ih hn h e1 ha ha2 hx
        refine fn1 (fn := Tryz.f64) Tryz.call64 Tryz.func64 rfl Tryz.ntmps64 Tryz.results64 rfl (by first | rfl | simp [V.ok, okL, C.ok, okA, okV]) ?_
        repeat' (first | (with_reducible first | apply AW.seq | apply AW.block | apply AW.scope | apply AW.skip | apply AW.ret | apply AW.exit | apply AW.label | apply q_then | apply q_thenR | apply q_thenE | apply q_bloN | apply q_bloR | apply q_bloE | apply q_strN | apply q_strR | apply q_strE | apply s_e | refine m_b rfl ?_ ?_ | refine m_g rfl ?_ | refine m_o rfl ?_ ?_ | refine v_reg ?_ | refine v_drw ?_ | refine v_rgl ?_ | refine v_drb ?_) | ((with_reducible apply i_dv); first | refine t_v AS.v ?_ | refine t_v (by first | exact u_call (hP := hp)) ?_ | refine t_w AS.w ?_) | ((with_reducible apply i_dg); first | refine t_n ?_ | refine t_m (hs := fun hg => AS.v) (k := ?_) | refine t_m (hs := fun hg => (by first | exact u_call (hP := hp))) (k := ?_) | refine t_f ?_) | ((with_reducible apply i_ds); first | refine t_s AS.s ?_) | ((with_reducible refine i_aw ?_); first | refine v_yes ?_ | refine v_no ?_ | (refine v_cond (fun hc => ?_) (fun hc => ?_); all_goals (try (exfalso; simp [*] at hc; done)); all_goals (try (exfalso; revert hc; simp; omega)))) | ((with_reducible refine i_rt ?_); first | refine k_b ?_ | refine k_s ?_ | refine k_i ?_ | refine k_v ?_ | refine k_c ?_ | exact r_0 | exact r_0n | ((first | refine k_2 ?_ ?_ | refine k_2c ?_ ?_); all_goals (with_reducible (first | apply un_b | apply un_i | apply un_s | apply un_a)))) | ((with_reducible apply al_id); dsimp only [List.append]) | (refine q_bloX rfl ?_) | (refine ⟨by decide +kernel, ?_⟩) | fail)
        rfl
      · rw [nsT_more n1] at hb ⊢
        simp only [ByteArray.size_append, ba_size, List.size_toArray, List.length_cons, List.length_nil] at hb
        have hq := qbraces_p (l := e.names) (by omega)
        clear ih hn h e1 ha ha2
        refine fn1 (fn := Tryz.f64) Tryz.call64 Tryz.func64 rfl Tryz.ntmps64 Tryz.results64 rfl (by first | rfl | simp [V.ok, okL, C.ok, okA, okV]) ?_
        repeat' (first | (with_reducible first | apply AW.seq | apply AW.block | apply AW.scope | apply AW.skip | apply AW.ret | apply AW.exit | apply AW.label | apply q_then | apply q_thenR | apply q_thenE | apply q_bloN | apply q_bloR | apply q_bloE | apply q_strN | apply q_strR | apply q_strE | apply s_e | refine m_b rfl ?_ ?_ | refine m_g rfl ?_ | refine m_o rfl ?_ ?_ | refine v_reg ?_ | refine v_drw ?_ | refine v_rgl ?_ | refine v_drb ?_) | ((with_reducible apply i_dv); first | refine t_v AS.v ?_ | refine t_v (by first | exact u_call (hP := hp) | exact u_call (hP := hq)) ?_ | refine t_w AS.w ?_) | ((with_reducible apply i_dg); first | refine t_n ?_ | refine t_m (hs := fun hg => AS.v) (k := ?_) | refine t_m (hs := fun hg => (by first | exact u_call (hP := hp) | exact u_call (hP := hq))) (k := ?_) | refine t_f ?_) | ((with_reducible apply i_ds); first | refine t_s AS.s ?_) | ((with_reducible refine i_aw ?_); first | refine v_yes ?_ | refine v_no ?_ | (refine v_cond (fun hc => ?_) (fun hc => ?_); all_goals (try (exfalso; simp [*] at hc; done)); all_goals (try (exfalso; revert hc; simp; omega)))) | ((with_reducible refine i_rt ?_); first | refine k_b ?_ | refine k_s ?_ | refine k_i ?_ | refine k_v ?_ | refine k_c ?_ | exact r_0 | exact r_0n | ((first | refine k_2 ?_ ?_ | refine k_2c ?_ ?_); all_goals (with_reducible (first | apply un_b | apply un_i | apply un_s | apply un_a)))) | ((with_reducible apply al_id); dsimp only [List.append]) | (refine q_bloX rfl ?_) | (refine ⟨by decide +kernel, ?_⟩) | fail)
        rfl
    · have ha : e.op = 8 ∧ 0 ≤ e.a ∧ e.a < 15 ∧ 0 ≤ e.b ∧ e.b < 15 ∧ 0 ≤ e.rel ∧ e.rel < 5 := by
        simp [o2, o3, o4, o9] at hn
        omega
      obtain ⟨o8, ha⟩ := ha
      obtain ⟨a, ha2⟩ : ∃ a : Nat, e.a = a := ⟨e.a.toNat, by omega⟩
      obtain ⟨b, hb2⟩ : ∃ b : Nat, e.b = b := ⟨e.b.toNat, by omega⟩
      obtain ⟨j, x, hj, hx, hxe⟩ := rel_of ha.2.2.2.2.1 ha.2.2.2.2.2
      unfold relL at hx
      have han : a < 15 := by omega
      have hbn : b < 15 := by omega
      have e1 : exH e.op e.a e.rel e.b e.names (e.kids.map exT) (e.kids.map (·.op)) = attT a ++ ⟨#[32]⟩ ++ relT e.rel ++ ⟨#[32]⟩ ++ attT b := by simp [exH, o8, ha2, hb2]
      rw [e1, hxe] at hb ⊢
      simp only [ByteArray.size_append, ba_size, List.size_toArray, List.length_cons, List.length_nil] at hb
      have hp : Pure Tryz.prog 117 [.c (sI e.a)] (.c (sS (attT a))) := by rw [ha2]; exact qattribute_p han
      have hq : Pure Tryz.prog 117 [.c (sI e.b)] (.c (sS (attT b))) := by rw [hb2]; exact qattribute_p hbn
      clear ih hn h e1 ha ha2 hb2 o2 o3 o4 o9 hxe
      refine fn1 (fn := Tryz.f64) Tryz.call64 Tryz.func64 rfl Tryz.ntmps64 Tryz.results64 rfl (by first | rfl | simp [V.ok, okL, C.ok, okA, okV]) ?_
      repeat' (first | (with_reducible first | apply AW.seq | apply AW.block | apply AW.scope | apply AW.skip | apply AW.ret | apply AW.exit | apply AW.label | apply q_then | apply q_thenR | apply q_thenE | apply q_bloN | apply q_bloR | apply q_bloE | apply q_strN | apply q_strR | apply q_strE | apply s_e | refine m_b rfl ?_ ?_ | refine m_g rfl ?_ | refine m_o rfl ?_ ?_ | refine v_reg ?_ | refine v_drw ?_ | refine v_rgl ?_ | refine v_drb ?_) | ((with_reducible apply i_dv); first | refine t_v AS.v ?_ | refine t_v (by first | exact u_call (hP := hp) | exact u_call (hP := hq)) ?_ | refine t_w AS.w ?_) | ((with_reducible apply i_dg); first | refine t_n ?_ | refine t_m (hs := fun hg => AS.v) (k := ?_) | refine t_m (hs := fun hg => (by first | exact u_call (hP := hp) | exact u_call (hP := hq))) (k := ?_) | refine t_f ?_) | ((with_reducible apply i_ds); first | refine t_s AS.s ?_) | ((with_reducible refine i_aw ?_); first | refine v_yes ?_ | refine v_no ?_ | (refine v_cond (fun hc => ?_) (fun hc => ?_); all_goals (try (exfalso; simp [*] at hc; done)); all_goals (try (exfalso; revert hc; simp; omega)))) | ((with_reducible refine i_rt ?_); first | refine k_b ?_ | refine k_s ?_ | refine k_i ?_ | refine k_v ?_ | refine k_c ?_ | exact r_0 | exact r_0n | ((first | refine k_2 ?_ ?_ | refine k_2c ?_ ?_); all_goals (with_reducible (first | apply un_b | apply un_i | apply un_s | apply un_a)))) | ((with_reducible apply al_id); dsimp only [List.append]) | (refine q_bloX rfl ?_) | (refine ⟨by decide +kernel, ?_⟩) | fail)
      rfl
theorem qexpression_p {e : Ex} {v : Bool} (h : consB e v = true) (hb : (exT e).size ≤ 4398046511000) : Pure Tryz.prog 64 [.agg (exC e)] (.c (sS (exT e))) :=
  qexpression_n _ e (if v then 15 else 10) 1 (Nat.lt_succ_self _) (by split <;> decide) h hb
theorem qConstraint_p {e : Ex} {v : Bool} (hb : consB e v = true → (exT e).size ≤ 4398046511000) : Pure Tryz.prog 26 [.agg (exC e), .c (sB v)] (.tup [.c (sS (ConstraintR e v).1), .c (sI (ConstraintR e v).2)]) := by
  have hx : Pure Tryz.prog 63 [.agg (exC e), .c (sB v), .c (sI 12)] (.c (sB (consB e v))) := by
    have := qExpr_n v _ e 12 (Nat.lt_succ_self _) (by omega) (by omega)
    rwa [show (13 : Int) - 12 = 1 by omega] at this
  cases h : consB e v with
  | true =>
    have hp := qexpression_p h (hb h)
    rw [h] at hx
    refine fn2 (fn := Tryz.f26) Tryz.call26 Tryz.func26 rfl Tryz.ntmps26 Tryz.results26 rfl (by first | rfl | simp [V.ok, okL, C.ok, okA, okV]) ?_
    repeat' (first | (with_reducible first | apply AW.seq | apply AW.block | apply AW.scope | apply AW.skip | apply AW.ret | apply AW.exit | apply AW.label | apply q_then | apply q_thenR | apply q_thenE | apply q_bloN | apply q_bloR | apply q_bloE | apply q_strN | apply q_strR | apply q_strE | apply s_e | refine m_b rfl ?_ ?_ | refine m_g rfl ?_ | refine m_o rfl ?_ ?_ | refine v_reg ?_ | refine v_drw ?_ | refine v_rgl ?_ | refine v_drb ?_) | ((with_reducible apply i_dv); first | refine t_v AS.v ?_ | refine t_v (by first | exact u_call (hP := hx) | exact u_call (hP := hp)) ?_ | refine t_w AS.w ?_) | ((with_reducible apply i_dg); first | refine t_n ?_ | refine t_m (hs := fun hg => AS.v) (k := ?_) | refine t_m (hs := fun hg => (by first | exact u_call (hP := hx) | exact u_call (hP := hp))) (k := ?_) | refine t_f ?_) | ((with_reducible apply i_ds); first | refine t_s AS.s ?_) | ((with_reducible refine i_aw ?_); first | refine v_yes ?_ | refine v_no ?_ | (refine v_cond (fun hc => ?_) (fun hc => ?_); all_goals (try (exfalso; simp [*] at hc; done)); all_goals (try (exfalso; revert hc; simp; omega)))) | ((with_reducible refine i_rt ?_); first | refine k_b ?_ | refine k_s ?_ | refine k_i ?_ | refine k_v ?_ | refine k_c ?_ | exact r_0 | exact r_0n | ((first | refine k_2 ?_ ?_ | refine k_2c ?_ ?_); all_goals (with_reducible (first | apply un_b | apply un_i | apply un_s | apply un_a)))) | ((with_reducible apply al_id); dsimp only [List.append]) | (refine q_bloX rfl ?_) | (refine ⟨by decide +kernel, ?_⟩) | fail)
    all_goals (unfold ConstraintR; simp_all)
  | false =>
    rw [h] at hx
    refine fn2 (fn := Tryz.f26) Tryz.call26 Tryz.func26 rfl Tryz.ntmps26 Tryz.results26 rfl (by first | rfl | simp [V.ok, okL, C.ok, okA, okV]) ?_
    repeat' (first | (with_reducible first | apply AW.seq | apply AW.block | apply AW.scope | apply AW.skip | apply AW.ret | apply AW.exit | apply AW.label | apply q_then | apply q_thenR | apply q_thenE | apply q_bloN | apply q_bloR | apply q_bloE | apply q_strN | apply q_strR | apply q_strE | apply s_e | refine m_b rfl ?_ ?_ | refine m_g rfl ?_ | refine m_o rfl ?_ ?_ | refine v_reg ?_ | refine v_drw ?_ | refine v_rgl ?_ | refine v_drb ?_) | ((with_reducible apply i_dv); first | refine t_v AS.v ?_ | refine t_v (by first | exact u_call (hP := hx)) ?_ | refine t_w AS.w ?_) | ((with_reducible apply i_dg); first | refine t_n ?_ | refine t_m (hs := fun hg => AS.v) (k := ?_) | refine t_m (hs := fun hg => (by first | exact u_call (hP := hx))) (k := ?_) | refine t_f ?_) | ((with_reducible apply i_ds); first | refine t_s AS.s ?_) | ((with_reducible refine i_aw ?_); first | refine v_yes ?_ | refine v_no ?_ | (refine v_cond (fun hc => ?_) (fun hc => ?_); all_goals (try (exfalso; simp [*] at hc; done)); all_goals (try (exfalso; revert hc; simp; omega)))) | ((with_reducible refine i_rt ?_); first | refine k_b ?_ | refine k_s ?_ | refine k_i ?_ | refine k_v ?_ | refine k_c ?_ | exact r_0 | exact r_0n | ((first | refine k_2 ?_ ?_ | refine k_2c ?_ ?_); all_goals (with_reducible (first | apply un_b | apply un_i | apply un_s | apply un_a)))) | ((with_reducible apply al_id); dsimp only [List.append]) | (refine q_bloX rfl ?_) | (refine ⟨by decide +kernel, ?_⟩) | fail)
    all_goals (unfold ConstraintR; simp_all)
end Am
namespace Am
open Tk
set_option maxRecDepth 100000
set_option maxHeartbeats 4000000
def strQ (op : Int) : Int := if op = 4 then 1 else if op = 5 then 2 else if op = 3 then 3 else if op = 6 ∨ op = 7 then 4 else if op = 2 then 5 else 6
theorem qstrength_p (op : Int) : Pure Tryz.prog 178 [.c (sI op)] (.c (sI (strQ op))) := by
  refine fn1 (fn := Tryz.f178) Tryz.call178 Tryz.func178 rfl Tryz.ntmps178 Tryz.results178 rfl (by first | rfl | simp [V.ok, okL, C.ok, okA, okV]) ?_
  repeat' (first | (with_reducible first | apply AW.seq | apply AW.block | apply AW.scope | apply AW.skip | apply AW.ret | apply AW.exit | apply AW.label | apply q_then | apply q_thenR | apply q_thenE | apply q_bloN | apply q_bloR | apply q_bloE | apply q_strN | apply q_strR | apply q_strE | apply s_e | refine m_b rfl ?_ ?_ | refine m_g rfl ?_ | refine m_o rfl ?_ ?_ | refine v_reg ?_ | refine v_drw ?_ | refine v_rgl ?_ | refine v_drb ?_) | ((with_reducible apply i_dv); first | refine t_v AS.v ?_ | refine t_w AS.w ?_) | ((with_reducible apply i_dg); first | refine t_n ?_ | refine t_m (hs := fun hg => AS.v) (k := ?_) | refine t_f ?_) | ((with_reducible apply i_ds); first | refine t_s AS.s ?_) | ((with_reducible refine i_aw ?_); first | refine v_yes ?_ | refine v_no ?_ | (refine v_cond (fun hc => ?_) (fun hc => ?_); all_goals (try (exfalso; simp [*] at hc; done)); all_goals (try (exfalso; revert hc; simp; omega)))) | ((with_reducible refine i_rt ?_); first | refine k_b ?_ | refine k_s ?_ | refine k_i ?_ | refine k_v ?_ | refine k_c ?_ | exact r_0 | exact r_0n | ((first | refine k_2 ?_ ?_ | refine k_2c ?_ ?_); all_goals (with_reducible (first | apply un_b | apply un_i | apply un_s | apply un_a)))) | ((with_reducible apply al_id); dsimp only [List.append]) | (refine q_bloX rfl ?_) | (refine ⟨by decide +kernel, ?_⟩) | fail)
  all_goals
    (try simp only [decide_eq_true_eq, decide_eq_false_iff_not] at *)
    unfold strQ
    grind
def markQ (op : Int) : ByteArray := if op = 4 then ⟨#[124, 124]⟩ else if op = 5 then ⟨#[94]⟩ else if op = 3 then ⟨#[38, 38]⟩ else if op = 6 then ⟨#[61, 61]⟩ else ⟨#[33, 61]⟩
theorem qmark_p (op : Int) : Pure Tryz.prog 180 [.c (sI op)] (.c (sS (markQ op))) := by
  refine fn1 (fn := Tryz.f180) Tryz.call180 Tryz.func180 rfl Tryz.ntmps180 Tryz.results180 rfl (by first | rfl | simp [V.ok, okL, C.ok, okA, okV]) ?_
  repeat' (first | (with_reducible first | apply AW.seq | apply AW.block | apply AW.scope | apply AW.skip | apply AW.ret | apply AW.exit | apply AW.label | apply q_then | apply q_thenR | apply q_thenE | apply q_bloN | apply q_bloR | apply q_bloE | apply q_strN | apply q_strR | apply q_strE | apply s_e | refine m_b rfl ?_ ?_ | refine m_g rfl ?_ | refine m_o rfl ?_ ?_ | refine v_reg ?_ | refine v_drw ?_ | refine v_rgl ?_ | refine v_drb ?_) | ((with_reducible apply i_dv); first | refine t_v AS.v ?_ | refine t_w AS.w ?_) | ((with_reducible apply i_dg); first | refine t_n ?_ | refine t_m (hs := fun hg => AS.v) (k := ?_) | refine t_f ?_) | ((with_reducible apply i_ds); first | refine t_s AS.s ?_) | ((with_reducible refine i_aw ?_); first | refine v_yes ?_ | refine v_no ?_ | (refine v_cond (fun hc => ?_) (fun hc => ?_); all_goals (try (exfalso; simp [*] at hc; done)); all_goals (try (exfalso; revert hc; simp; omega)))) | ((with_reducible refine i_rt ?_); first | refine k_b ?_ | refine k_s ?_ | refine k_i ?_ | refine k_v ?_ | refine k_c ?_ | exact r_0 | exact r_0n | ((first | refine k_2 ?_ ?_ | refine k_2c ?_ ?_); all_goals (with_reducible (first | apply un_b | apply un_i | apply un_s | apply un_a)))) | ((with_reducible apply al_id); dsimp only [List.append]) | (refine q_bloX rfl ?_) | (refine ⟨by decide +kernel, ?_⟩) | fail)
  all_goals
    (try simp only [decide_eq_true_eq, decide_eq_false_iff_not] at *)
    unfold markQ
    grind
theorem qpar_p {e : Ex} {least : Int} (h : Pure Tryz.prog 142 [.agg (exC e)] (.c (sS (btI e)))) (hs : ∀ n, n ≤ 5 → (strQ e.op < n ↔ strB e.op < n)) (hl : least ≤ 5) (hb : (btT e least).size ≤ 4398046511000) : Pure Tryz.prog 179 [.agg (exC e), .c (sI least)] (.c (sS (btT e least))) := by
  have hq := hs least hl
  by_cases hlt : strB e.op < least
  · have e0 : btT e least = ⟨#[40]⟩ ++ btI e ++ ⟨#[41]⟩ := by unfold btT parT; rw [if_pos hlt]
    rw [e0] at hb ⊢
    simp only [ByteArray.size_append, ba_size, List.size_toArray, List.length_cons, List.length_nil] at hb
    have hlt2 : strQ e.op < least := hq.2 hlt
    clear hs hq
    refine fn2 (fn := Tryz.f179) Tryz.call179 Tryz.func179 rfl Tryz.ntmps179 Tryz.results179 rfl (by first | rfl | simp [V.ok, okL, C.ok, okA, okV]) ?_
    repeat' (first | (with_reducible first | apply AW.seq | apply AW.block | apply AW.scope | apply AW.skip | apply AW.ret | apply AW.exit | apply AW.label | apply q_then | apply q_thenR | apply q_thenE | apply q_bloN | apply q_bloR | apply q_bloE | apply q_strN | apply q_strR | apply q_strE | apply s_e | refine m_b rfl ?_ ?_ | refine m_g rfl ?_ | refine m_o rfl ?_ ?_ | refine v_reg ?_ | refine v_drw ?_ | refine v_rgl ?_ | refine v_drb ?_) | ((with_reducible apply i_dv); first | refine t_v AS.v ?_ | refine t_v (by first | exact u_call (hP := qstrength_p _) | exact u_call (hP := h)) ?_ | refine t_w AS.w ?_) | ((with_reducible apply i_dg); first | refine t_n ?_ | refine t_m (hs := fun hg => AS.v) (k := ?_) | refine t_m (hs := fun hg => (by first | exact u_call (hP := qstrength_p _) | exact u_call (hP := h))) (k := ?_) | refine t_f ?_) | ((with_reducible apply i_ds); first | refine t_s AS.s ?_) | ((with_reducible refine i_aw ?_); first | refine v_yes ?_ | refine v_no ?_ | (refine v_cond (fun hc => ?_) (fun hc => ?_); all_goals (try (exfalso; simp [*] at hc; done)); all_goals (try (exfalso; revert hc; simp; omega)))) | ((with_reducible refine i_rt ?_); first | refine k_b ?_ | refine k_s ?_ | refine k_i ?_ | refine k_v ?_ | refine k_c ?_ | exact r_0 | exact r_0n | ((first | refine k_2 ?_ ?_ | refine k_2c ?_ ?_); all_goals (with_reducible (first | apply un_b | apply un_i | apply un_s | apply un_a)))) | ((with_reducible apply al_id); dsimp only [List.append]) | (refine q_bloX rfl ?_) | (refine ⟨by decide +kernel, ?_⟩) | fail)
    all_goals (first | rfl | (exfalso; simp at hc; omega))
  · have e0 : btT e least = btI e := by unfold btT parT; rw [if_neg hlt]
    rw [e0] at hb ⊢
    have hlt2 : ¬ strQ e.op < least := fun h => hlt (hq.1 h)
    clear hs hq
    refine fn2 (fn := Tryz.f179) Tryz.call179 Tryz.func179 rfl Tryz.ntmps179 Tryz.results179 rfl (by first | rfl | simp [V.ok, okL, C.ok, okA, okV]) ?_
    repeat' (first | (with_reducible first | apply AW.seq | apply AW.block | apply AW.scope | apply AW.skip | apply AW.ret | apply AW.exit | apply AW.label | apply q_then | apply q_thenR | apply q_thenE | apply q_bloN | apply q_bloR | apply q_bloE | apply q_strN | apply q_strR | apply q_strE | apply s_e | refine m_b rfl ?_ ?_ | refine m_g rfl ?_ | refine m_o rfl ?_ ?_ | refine v_reg ?_ | refine v_drw ?_ | refine v_rgl ?_ | refine v_drb ?_) | ((with_reducible apply i_dv); first | refine t_v AS.v ?_ | refine t_v (by first | exact u_call (hP := qstrength_p _) | exact u_call (hP := h)) ?_ | refine t_w AS.w ?_) | ((with_reducible apply i_dg); first | refine t_n ?_ | refine t_m (hs := fun hg => AS.v) (k := ?_) | refine t_m (hs := fun hg => (by first | exact u_call (hP := qstrength_p _) | exact u_call (hP := h))) (k := ?_) | refine t_f ?_) | ((with_reducible apply i_ds); first | refine t_s AS.s ?_) | ((with_reducible refine i_aw ?_); first | refine v_yes ?_ | refine v_no ?_ | (refine v_cond (fun hc => ?_) (fun hc => ?_); all_goals (try (exfalso; simp [*] at hc; done)); all_goals (try (exfalso; revert hc; simp; omega)))) | ((with_reducible refine i_rt ?_); first | refine k_b ?_ | refine k_s ?_ | refine k_i ?_ | refine k_v ?_ | refine k_c ?_ | exact r_0 | exact r_0n | ((first | refine k_2 ?_ ?_ | refine k_2c ?_ ?_); all_goals (with_reducible (first | apply un_b | apply un_i | apply un_s | apply un_a)))) | ((with_reducible apply al_id); dsimp only [List.append]) | (refine q_bloX rfl ?_) | (refine ⟨by decide +kernel, ?_⟩) | fail)
    all_goals (first | rfl | (exfalso; simp at hc; omega))
theorem str_same {op : Int} (h : 0 ≤ opnB op) : ∀ n, n ≤ 5 → (strQ op < n ↔ strB op < n) := by
  intro n hn
  unfold opnB at h
  unfold strQ strB opnB signN
  grind
theorem qwrite_n : ∀ (n : Nat) (e : Ex) (level : Int), SizeOf.sizeOf e < n → bchkB level e = 0 → (btI e).size ≤ 4398046511000 → Pure Tryz.prog 142 [.agg (exC e)] (.c (sS (btI e)))
  | 0, _, _, h, _, _ => absurd h (Nat.not_lt_zero _)
  | n + 1, e, level, h, hn, hb => by
    obtain ⟨h0, h1, h2, h3⟩ := bchk_node hn
    have ih : ∀ x ∈ e.kids, ∀ least, least ≤ 5 → (btT x least).size ≤ 4398046511000 → Pure Tryz.prog 179 [.agg (exC x), .c (sI least)] (.c (sS (btT x least))) := fun x hx least hl hs => by
      have hle := parT_le (strB x.op) least (btI x)
      unfold btT at hs
      exact qpar_p (qwrite_n n x (level + 1) (by have := kid_lt hx; omega) (h3 x hx) (by omega)) (str_same (bchk_node (h3 x hx)).1) hl hs
    by_cases k0 : opnB e.op = 0
    · obtain ⟨x, hx⟩ := one_of (l := e.names) (by have := h2 k0; omega)
      have hx0 : e.names[0]? = some x := by rw [hx]; rfl
      have e1 : btI e = x := by rw [btI_eq]; simp [btH, k0, hx]
      have hs : strQ e.op = 6 := by unfold opnB at k0; unfold strQ; grind
      have hst : Pure Tryz.prog 178 [.c (sI e.op)] (.c (sI 6)) := hs ▸ qstrength_p e.op
      rw [e1] at hb ⊢
      clear ih h1 h2 h3 hx h e1 hn h0 hs
      refine fn1 (fn := Tryz.f142) Tryz.call142 Tryz.func142 rfl Tryz.ntmps142 Tryz.results142 rfl (by first | rfl | simp [V.ok, okL, C.ok, okA, okV]) ?_
      repeat' (first | (with_reducible first | apply AW.seq | apply AW.block | apply AW.scope | apply AW.skip | apply AW.ret | apply AW.exit | apply AW.label | apply q_then | apply q_thenR | apply q_thenE | apply q_bloN | apply q_bloR | apply q_bloE | apply q_strN | apply q_strR | apply q_strE | apply s_e | refine m_b rfl ?_ ?_ | refine m_g rfl ?_ | refine m_o rfl ?_ ?_ | refine v_reg ?_ | refine v_drw ?_ | refine v_rgl ?_ | refine v_drb ?_) | ((with_reducible apply i_dv); first | refine t_v AS.v ?_ | refine t_v (by first | exact u_call (hP := hst)) ?_ | refine t_w AS.w ?_) | ((with_reducible apply i_dg); first | refine t_n ?_ | refine t_m (hs := fun hg => AS.v) (k := ?_) | refine t_m (hs := fun hg => (by first | exact u_call (hP := hst))) (k := ?_) | refine t_f ?_) | ((with_reducible apply i_ds); first | refine t_s AS.s ?_) | ((with_reducible refine i_aw ?_); first | refine v_yes ?_ | refine v_no ?_ | (refine v_cond (fun hc => ?_) (fun hc => ?_); all_goals (try (exfalso; simp [*] at hc; done)); all_goals (try (exfalso; revert hc; simp; omega)))) | ((with_reducible refine i_rt ?_); first | refine k_b ?_ | refine k_s ?_ | refine k_i ?_ | refine k_v ?_ | refine k_c ?_ | exact r_0 | exact r_0n | ((first | refine k_2 ?_ ?_ | refine k_2c ?_ ?_); all_goals (with_reducible (first | apply un_b | apply un_i | apply un_s | apply un_a)))) | ((with_reducible apply al_id); dsimp only [List.append]) | (refine q_bloX rfl ?_) | (refine ⟨by decide +kernel, ?_⟩) | fail)
      rfl
    by_cases k1 : opnB e.op = 1
    · obtain ⟨k, hk⟩ := one_of (l := e.kids) (by omega)
      have hx0 : e.kids[0]? = some k := by rw [hk]; rfl
      have e1 : btI e = ⟨#[33]⟩ ++ btT k 5 := by rw [btI_eq]; simp [btH, k1, hk, btT]
      have hs : strQ e.op = 5 := by unfold opnB at k1; unfold strQ; grind
      have hst : Pure Tryz.prog 178 [.c (sI e.op)] (.c (sI 5)) := hs ▸ qstrength_p e.op
      rw [e1] at hb ⊢
      simp only [ByteArray.size_append, ba_size, List.size_toArray, List.length_cons, List.length_nil] at hb
      have hp := ih k (List.mem_of_getElem? hx0) 5 (by omega) (by omega)
      clear ih h1 h2 h3 hk h e1 hn h0 hs
      refine fn1 (fn := Tryz.f142) Tryz.call142 Tryz.func142 rfl Tryz.ntmps142 Tryz.results142 rfl (by first | rfl | simp [V.ok, okL, C.ok, okA, okV]) ?_
      repeat' (first | (with_reducible first | apply AW.seq | apply AW.block | apply AW.scope | apply AW.skip | apply AW.ret | apply AW.exit | apply AW.label | apply q_then | apply q_thenR | apply q_thenE | apply q_bloN | apply q_bloR | apply q_bloE | apply q_strN | apply q_strR | apply q_strE | apply s_e | refine m_b rfl ?_ ?_ | refine m_g rfl ?_ | refine m_o rfl ?_ ?_ | refine v_reg ?_ | refine v_drw ?_ | refine v_rgl ?_ | refine v_drb ?_) | ((with_reducible apply i_dv); first | refine t_v AS.v ?_ | refine t_v (by first | exact u_call (hP := hst) | exact u_call (hP := hp)) ?_ | refine t_w AS.w ?_) | ((with_reducible apply i_dg); first | refine t_n ?_ | refine t_m (hs := fun hg => AS.v) (k := ?_) | refine t_m (hs := fun hg => (by first | exact u_call (hP := hst) | exact u_call (hP := hp))) (k := ?_) | refine t_f ?_) | ((with_reducible apply i_ds); first | refine t_s AS.s ?_) | ((with_reducible refine i_aw ?_); first | refine v_yes ?_ | refine v_no ?_ | (refine v_cond (fun hc => ?_) (fun hc => ?_); all_goals (try (exfalso; simp [*] at hc; done)); all_goals (try (exfalso; revert hc; simp; omega)))) | ((with_reducible refine i_rt ?_); first | refine k_b ?_ | refine k_s ?_ | refine k_i ?_ | refine k_v ?_ | refine k_c ?_ | exact r_0 | exact r_0n | ((first | refine k_2 ?_ ?_ | refine k_2c ?_ ?_); all_goals (with_reducible (first | apply un_b | apply un_i | apply un_s | apply un_a)))) | ((with_reducible apply al_id); dsimp only [List.append]) | (refine q_bloX rfl ?_) | (refine ⟨by decide +kernel, ?_⟩) | fail)
      rfl
    · have k2 : opnB e.op = 2 := by
        have : opnB e.op = 0 ∨ opnB e.op = 1 ∨ opnB e.op = 2 ∨ opnB e.op = -1 := by unfold opnB; grind
        omega
      obtain ⟨k, m, hk⟩ := two_of (l := e.kids) (by omega)
      have hx0 : e.kids[0]? = some k := by rw [hk]; rfl
      have hy0 : e.kids[1]? = some m := by rw [hk]; rfl
      have e1 : btI e = btT k (signN e.op) ++ ⟨#[32]⟩ ++ signM e.op ++ ⟨#[32]⟩ ++ btT m (signN e.op + 1) := by rw [btI_eq]; simp [btH, k2, hk, btT]
      have hsn : 1 ≤ signN e.op ∧ signN e.op ≤ 4 := by unfold signN; grind
      have hs : strQ e.op = signN e.op := by unfold opnB at k2; unfold strQ signN; grind
      have hm : markQ e.op = signM e.op := by unfold opnB at k2; unfold markQ signM; grind
      have hst : Pure Tryz.prog 178 [.c (sI e.op)] (.c (sI (signN e.op))) := hs ▸ qstrength_p e.op
      have hmk : Pure Tryz.prog 180 [.c (sI e.op)] (.c (sS (signM e.op))) := hm ▸ qmark_p e.op
      rw [e1] at hb ⊢
      simp only [ByteArray.size_append, ba_size, List.size_toArray, List.length_cons, List.length_nil] at hb
      have hp := ih k (List.mem_of_getElem? hx0) (signN e.op) (by omega) (by omega)
      have hq := ih m (List.mem_of_getElem? hy0) (signN e.op + 1) (by omega) (by omega)
      generalize signN e.op = sn at *
      generalize signM e.op = sm at *
      have n6 : ¬ sn = 6 := by omega
      have n5 : ¬ sn = 5 := by omega
      clear ih h1 h2 h3 hk h e1 hn h0 hs hm
      refine fn1 (fn := Tryz.f142) Tryz.call142 Tryz.func142 rfl Tryz.ntmps142 Tryz.results142 rfl (by first | rfl | simp [V.ok, okL, C.ok, okA, okV]) ?_
      repeat' (first | (with_reducible first | apply AW.seq | apply AW.block | apply AW.scope | apply AW.skip | apply AW.ret | apply AW.exit | apply AW.label | apply q_then | apply q_thenR | apply q_thenE | apply q_bloN | apply q_bloR | apply q_bloE | apply q_strN | apply q_strR | apply q_strE | apply s_e | refine m_b rfl ?_ ?_ | refine m_g rfl ?_ | refine m_o rfl ?_ ?_ | refine v_reg ?_ | refine v_drw ?_ | refine v_rgl ?_ | refine v_drb ?_) | ((with_reducible apply i_dv); first | refine t_v AS.v ?_ | refine t_v (by first | exact u_call (hP := hst) | exact u_call (hP := hmk) | exact u_call (hP := hp) | exact u_call (hP := hq)) ?_ | refine t_w AS.w ?_) | ((with_reducible apply i_dg); first | refine t_n ?_ | refine t_m (hs := fun hg => AS.v) (k := ?_) | refine t_m (hs := fun hg => (by first | exact u_call (hP := hst) | exact u_call (hP := hmk) | exact u_call (hP := hp) | exact u_call (hP := hq))) (k := ?_) | refine t_f ?_) | ((with_reducible apply i_ds); first | refine t_s AS.s ?_) | ((with_reducible refine i_aw ?_); first | refine v_yes ?_ | refine v_no ?_ | (refine v_cond (fun hc => ?_) (fun hc => ?_); all_goals (try (exfalso; simp [*] at hc; done)); all_goals (try (exfalso; revert hc; simp; omega)))) | ((with_reducible refine i_rt ?_); first | refine k_b ?_ | refine k_s ?_ | refine k_i ?_ | refine k_v ?_ | refine k_c ?_ | exact r_0 | exact r_0n | ((first | refine k_2 ?_ ?_ | refine k_2c ?_ ?_); all_goals (with_reducible (first | apply un_b | apply un_i | apply un_s | apply un_a)))) | ((with_reducible apply al_id); dsimp only [List.append]) | (refine q_bloX rfl ?_) | (refine ⟨by decide +kernel, ?_⟩) | fail)
      rfl
theorem qText_p {e : Ex} (h : bchkB 1 e = 0) (hb : (btT e 0).size ≤ 4398046511000) : Pure Tryz.prog 89 [.agg (exC e)] (.tup [.c (sS (btT e 0)), .c (sI 0)]) := by
  have hst : ¬ strB e.op < 0 := by unfold strB signN; grind
  have e0 : btT e 0 = btI e := by unfold btT parT; rw [if_neg hst]
  rw [e0] at hb ⊢
  have hw := qwrite_n _ e 1 (Nat.lt_succ_self _) h hb
  refine fn1 (fn := Tryz.f89) Tryz.call89 Tryz.func89 rfl Tryz.ntmps89 Tryz.results89 rfl (by first | rfl | simp [V.ok, okL, C.ok, okA, okV]) ?_
  repeat' (first | (with_reducible first | apply AW.seq | apply AW.block | apply AW.scope | apply AW.skip | apply AW.ret | apply AW.exit | apply AW.label | apply q_then | apply q_thenR | apply q_thenE | apply q_bloN | apply q_bloR | apply q_bloE | apply q_strN | apply q_strR | apply q_strE | apply s_e | refine m_b rfl ?_ ?_ | refine m_g rfl ?_ | refine m_o rfl ?_ ?_ | refine v_reg ?_ | refine v_drw ?_ | refine v_rgl ?_ | refine v_drb ?_) | ((with_reducible apply i_dv); first | refine t_v AS.v ?_ | refine t_v (by first | exact u_call (hP := qcheck_p _) | exact u_call (hP := hw)) ?_ | refine t_w AS.w ?_) | ((with_reducible apply i_dg); first | refine t_n ?_ | refine t_m (hs := fun hg => AS.v) (k := ?_) | refine t_m (hs := fun hg => (by first | exact u_call (hP := qcheck_p _) | exact u_call (hP := hw))) (k := ?_) | refine t_f ?_) | ((with_reducible apply i_ds); first | refine t_s AS.s ?_) | ((with_reducible refine i_aw ?_); first | refine v_yes ?_ | refine v_no ?_ | (refine v_cond (fun hc => ?_) (fun hc => ?_); all_goals (try (exfalso; simp [*] at hc; done)); all_goals (try (exfalso; revert hc; simp; omega)))) | ((with_reducible refine i_rt ?_); first | refine k_b ?_ | refine k_s ?_ | refine k_i ?_ | refine k_v ?_ | refine k_c ?_ | exact r_0 | exact r_0n | ((first | refine k_2 ?_ ?_ | refine k_2c ?_ ?_); all_goals (with_reducible (first | apply un_b | apply un_i | apply un_s | apply un_a)))) | ((with_reducible apply al_id); dsimp only [List.append]) | (refine q_bloX rfl ?_) | (refine ⟨by decide +kernel, ?_⟩) | fail)
  all_goals (first | rfl | (exfalso; simp [h] at hc))
end Am
namespace Am
open Tk
set_option maxRecDepth 100000
set_option maxHeartbeats 4000000
theorem lv_cats (l : Lv) : l.cats.length ≤ (lvT l).size + 1 := by
  have hs : ByteArray.size ⟨#[44]⟩ = 1 := rfl
  unfold lvT
  split
  · omega
  · have := sep_count (sep := ⟨#[44]⟩) (l.cats.map spT)
    rw [hs, List.length_map] at this
    rw [ByteArray.size_append]
    omega
theorem rg_cats (r : Rg) : r.lo.cats.length ≤ (rgT r).size + 1 ∧ r.hi.cats.length ≤ (rgT r).size + 1 := by
  have h1 := lv_cats r.lo
  have h2 := lv_cats r.hi
  unfold rgT
  split
  · rename_i h
    simp [blankL] at h
    rw [h.2]
    exact ⟨h1, Nat.zero_le _⟩
  · simp only [ByteArray.size_append]
    omega
theorem cx_cats (c : Ct) : c.rng.lo.cats.length ≤ (cxT c).size + 1 ∧ c.rng.hi.cats.length ≤ (cxT c).size + 1 := by
  have h := rg_cats c.rng
  simp only [cxT, ByteArray.size_append]
  omega
theorem qlevelText_q {l : Lv} (hb : (lvT l).size ≤ 4398046511000) : Pure Tryz.prog 124 [.agg (lvC l)] (.c (sS (lvT l))) := by
  have := lv_cats l
  exact qlevelText_p (by omega) (by omega)
theorem qrange_q {r : Rg} (hb : (rgT r).size ≤ 4398046511000) : Pure Tryz.prog 68 [.agg (rgC r)] (.c (sS (rgT r))) := by
  have := rg_cats r
  exact qrange_p (by omega) (by omega) (by omega)
theorem qctxT_q {c : Ct} (hb : (cxT c).size ≤ 4398046511000) : Pure Tryz.prog 72 [.agg (cxC c)] (.c (sS (cxT c))) := by
  have := cx_cats c
  exact qctxT_p (by omega) (by omega) (by omega)
theorem kw_at {l : List ByteArray} {n : Int} (h1 : 1 ≤ n) (h2 : n ≤ l.length) : ∃ (j : Nat) (x : ByteArray), n - 1 = j ∧ l[j]? = some x ∧ kwT l n = x := by
  obtain ⟨j, hj⟩ : ∃ j : Nat, n - 1 = j := ⟨(n - 1).toNat, by omega⟩
  have hl : j < l.length := by omega
  refine ⟨j, l[j], hj, List.getElem?_eq_getElem hl, ?_⟩
  have : (n - 1).toNat = j := by omega
  unfold kwT
  rw [this, List.getD_eq_getElem?_getD, List.getElem?_eq_getElem hl]; rfl
theorem qkind_p {n : Int} (h1 : 1 ≤ n) (h2 : n ≤ 8) : Pure Tryz.prog 144 [.c (sI n)] (.c (sS (kwT kwQ n))) := by
  obtain ⟨j, x, hj, hx, hxe⟩ := kw_at (l := kwQ) h1 (by unfold kwQ; exact h2)
  unfold kwQ at hx
  rw [hxe]
  clear hxe
  refine fn1 (fn := Tryz.f144) Tryz.call144 Tryz.func144 rfl Tryz.ntmps144 Tryz.results144 rfl (by first | rfl | simp [V.ok, okL, C.ok, okA, okV]) ?_
  repeat' (first | (with_reducible first | apply AW.seq | apply AW.block | apply AW.scope | apply AW.skip | apply AW.ret | apply AW.exit | apply AW.label | apply q_then | apply q_thenR | apply q_thenE | apply q_bloN | apply q_bloR | apply q_bloE | apply q_strN | apply q_strR | apply q_strE | apply s_e | refine m_b rfl ?_ ?_ | refine m_g rfl ?_ | refine m_o rfl ?_ ?_ | refine v_reg ?_ | refine v_drw ?_ | refine v_rgl ?_ | refine v_drb ?_) | ((with_reducible apply i_dv); first | refine t_v AS.v ?_ | refine t_w AS.w ?_) | ((with_reducible apply i_dg); first | refine t_n ?_ | refine t_m (hs := fun hg => AS.v) (k := ?_) | refine t_f ?_) | ((with_reducible apply i_ds); first | refine t_s AS.s ?_) | ((with_reducible refine i_aw ?_); first | refine v_yes ?_ | refine v_no ?_ | (refine v_cond (fun hc => ?_) (fun hc => ?_); all_goals (try (exfalso; simp [*] at hc; done)); all_goals (try (exfalso; revert hc; simp; omega)))) | ((with_reducible refine i_rt ?_); first | refine k_b ?_ | refine k_s ?_ | refine k_i ?_ | refine k_v ?_ | refine k_c ?_ | exact r_0 | exact r_0n | ((first | refine k_2 ?_ ?_ | refine k_2c ?_ ?_); all_goals (with_reducible (first | apply un_b | apply un_i | apply un_s | apply un_a)))) | ((with_reducible apply al_id); dsimp only [List.append]) | (refine q_bloX rfl ?_) | (refine ⟨by decide +kernel, ?_⟩) | fail)
  rfl
def kwRs : List ByteArray := [⟨#[97, 108, 108, 111, 119, 32]⟩, ⟨#[97, 117, 100, 105, 116, 97, 108, 108, 111, 119, 32]⟩, ⟨#[100, 111, 110, 116, 97, 117, 100, 105, 116, 32]⟩, ⟨#[110, 101, 118, 101, 114, 97, 108, 108, 111, 119, 32]⟩]
def kwXs : List ByteArray := [⟨#[116, 121, 112, 101, 95, 116, 114, 97, 110, 115, 105, 116, 105, 111, 110, 32]⟩, ⟨#[116, 121, 112, 101, 95, 99, 104, 97, 110, 103, 101, 32]⟩, ⟨#[116, 121, 112, 101, 95, 109, 101, 109, 98, 101, 114, 32]⟩]
theorem kwR_sp {n : Int} (h1 : 1 ≤ n) (h2 : n ≤ 4) : kwT kwRs n = kwT kwR n ++ ⟨#[32]⟩ := by
  have : n = 1 ∨ n = 2 ∨ n = 3 ∨ n = 4 := by omega
  rcases this with rfl | rfl | rfl | rfl <;> rfl
theorem kwX_sp {n : Int} (h1 : 1 ≤ n) (h2 : n ≤ 3) : kwT kwXs n = kwT kwX n ++ ⟨#[32]⟩ := by
  have : n = 1 ∨ n = 2 ∨ n = 3 := by omega
  rcases this with rfl | rfl | rfl <;> rfl
theorem bool_t : ⟨#[32]⟩ ++ boolT true = ⟨#[32, 116, 114, 117, 101]⟩ := rfl
theorem bool_f : ⟨#[32]⟩ ++ boolT false = ⟨#[32, 102, 97, 108, 115, 101]⟩ := rfl
def declK (s : Stm) : Prop := s.kind = 1 ∨ s.kind = 2 ∨ s.kind = 3 ∨ s.kind = 4 ∨ s.kind = 5 ∨ s.kind = 8 ∨ s.kind = 9 ∨ s.kind = 10 ∨ s.kind = 11 ∨ s.kind = 19 ∨ s.kind = 20 ∨ s.kind = 23
def ruleK (s : Stm) : Prop := s.kind = 6 ∨ s.kind = 7 ∨ s.kind = 12 ∨ s.kind = 13 ∨ s.kind = 14 ∨ s.kind = 15 ∨ s.kind = 16 ∨ s.kind = 21 ∨ s.kind = 22
theorem qruled_p {s : Stm} (hk : ruleK s) (hr : Rok s) (hb : Bd s) : Pure Tryz.prog 90 [.agg (stC s)] (.c (sS (lineT s))) := by
  have hl : lineT s = ruledT s := by
    unfold ruleK at hk
    unfold lineT
    repeat' (first | rfl | (rw [if_neg (by omega)]))
  rw [hl]
  obtain ⟨r12, r13, r15, r16, r19, r21, r23, r1, r2⟩ := hr
  obtain ⟨b1, b2, b3, b4, b5, b6, b7, b8, b9, b10, b11, b12, b13, b14, b15⟩ := hb
  have n1 := qnames_q (n := s.source) (by omega)
  have n2 := qnames_q (n := s.target) (by omega)
  have n3 := qnames_q (n := s.cls) (by omega)
  have n4 := qnames_q (n := s.perms) (by omega)
  have c1 := qctxT_q (c := s.ctx) (by omega)
  have s1 := qrange_q (r := s.range) (by omega)
  unfold ruleK at hk
  clear b4 b5 b6 b13 r1 r2 hl
  rcases hk with k | k | k | k | k | k | k | k | k
  case inl | inr.inl | inr.inr.inr.inr.inl | inr.inr.inr.inr.inr.inr.inr.inr =>
    all_goals
      clear r12 r13 r15 r16 r19 r21 r23 b11 b12
      refine fn1 (fn := Tryz.f90) Tryz.call90 Tryz.func90 rfl Tryz.ntmps90 Tryz.results90 rfl (by first | rfl | simp [V.ok, okL, C.ok, okA, okV]) ?_
      repeat' (first | (with_reducible first | apply AW.seq | apply AW.block | apply AW.scope | apply AW.skip | apply AW.ret | apply AW.exit | apply AW.label | apply q_then | apply q_thenR | apply q_thenE | apply q_bloN | apply q_bloR | apply q_bloE | apply q_strN | apply q_strR | apply q_strE | apply s_e | refine m_b rfl ?_ ?_ | refine m_g rfl ?_ | refine m_o rfl ?_ ?_ | refine v_reg ?_ | refine v_drw ?_ | refine v_rgl ?_ | refine v_drb ?_) | ((with_reducible apply i_dv); first | refine t_v AS.v ?_ | refine t_v (by first | exact u_call (hP := n1) | exact u_call (hP := n2) | exact u_call (hP := n3) | exact u_call (hP := n4) | exact u_call (hP := c1) | exact u_call (hP := s1)) ?_ | refine t_w AS.w ?_) | ((with_reducible apply i_dg); first | refine t_n ?_ | refine t_m (hs := fun hg => AS.v) (k := ?_) | refine t_m (hs := fun hg => (by first | exact u_call (hP := n1) | exact u_call (hP := n2) | exact u_call (hP := n3) | exact u_call (hP := n4) | exact u_call (hP := c1) | exact u_call (hP := s1))) (k := ?_) | refine t_f ?_) | ((with_reducible apply i_ds); first | refine t_s AS.s ?_) | ((with_reducible refine i_aw ?_); first | refine v_yes ?_ | refine v_no ?_ | (refine v_cond (fun hc => ?_) (fun hc => ?_); all_goals (try (exfalso; simp [*] at hc; done)); all_goals (try (exfalso; revert hc; simp; omega)))) | ((with_reducible refine i_rt ?_); first | refine k_b ?_ | refine k_s ?_ | refine k_i ?_ | refine k_v ?_ | refine k_c ?_ | exact r_0 | exact r_0n | ((first | refine k_2 ?_ ?_ | refine k_2c ?_ ?_); all_goals (with_reducible (first | apply un_b | apply un_i | apply un_s | apply un_a)))) | ((with_reducible apply al_id); dsimp only [List.append]) | (refine q_bloX rfl ?_) | (refine ⟨by decide +kernel, ?_⟩) | fail)
      all_goals simp [ruledT, pairT, k, ByteArray.append_assoc]
  · have r := r12 k
    obtain ⟨j, x, hj, hx, hxe⟩ := kw_at (l := kwRs) r.1 (by unfold kwRs; exact r.2)
    have hsz : x.size ≤ 100 := by rw [← hxe]; exact kw_le (l := kwRs) (by decide) _
    have hsp := kwR_sp r.1 r.2
    rw [hxe] at hsp
    unfold kwRs at hx
    clear r12 r13 r15 r16 r19 r21 r23 b11 b12 hxe
    refine fn1 (fn := Tryz.f90) Tryz.call90 Tryz.func90 rfl Tryz.ntmps90 Tryz.results90 rfl (by first | rfl | simp [V.ok, okL, C.ok, okA, okV]) ?_
    repeat' (first | (with_reducible first | apply AW.seq | apply AW.block | apply AW.scope | apply AW.skip | apply AW.ret | apply AW.exit | apply AW.label | apply q_then | apply q_thenR | apply q_thenE | apply q_bloN | apply q_bloR | apply q_bloE | apply q_strN | apply q_strR | apply q_strE | apply s_e | refine m_b rfl ?_ ?_ | refine m_g rfl ?_ | refine m_o rfl ?_ ?_ | refine v_reg ?_ | refine v_drw ?_ | refine v_rgl ?_ | refine v_drb ?_) | ((with_reducible apply i_dv); first | refine t_v AS.v ?_ | refine t_v (by first | exact u_call (hP := n1) | exact u_call (hP := n2) | exact u_call (hP := n3) | exact u_call (hP := n4)) ?_ | refine t_w AS.w ?_) | ((with_reducible apply i_dg); first | refine t_n ?_ | refine t_m (hs := fun hg => AS.v) (k := ?_) | refine t_m (hs := fun hg => (by first | exact u_call (hP := n1) | exact u_call (hP := n2) | exact u_call (hP := n3) | exact u_call (hP := n4))) (k := ?_) | refine t_f ?_) | ((with_reducible apply i_ds); first | refine t_s AS.s ?_) | ((with_reducible refine i_aw ?_); first | refine v_yes ?_ | refine v_no ?_ | (refine v_cond (fun hc => ?_) (fun hc => ?_); all_goals (try (exfalso; simp [*] at hc; done)); all_goals (try (exfalso; revert hc; simp; omega)))) | ((with_reducible refine i_rt ?_); first | refine k_b ?_ | refine k_s ?_ | refine k_i ?_ | refine k_v ?_ | refine k_c ?_ | exact r_0 | exact r_0n | ((first | refine k_2 ?_ ?_ | refine k_2c ?_ ?_); all_goals (with_reducible (first | apply un_b | apply un_i | apply un_s | apply un_a)))) | ((with_reducible apply al_id); dsimp only [List.append]) | (refine q_bloX rfl ?_) | (refine ⟨by decide +kernel, ?_⟩) | fail)
    simp [ruledT, pairT, k, hsp, ByteArray.append_assoc]
  · have r := r13 k
    obtain ⟨j, x, hj, hx, hxe⟩ := kw_at (l := kwXs) r.1 (by unfold kwXs; exact r.2)
    have hsz : x.size ≤ 100 := by rw [← hxe]; exact kw_le (l := kwXs) (by decide) _
    have hsp := kwX_sp r.1 r.2
    rw [hxe] at hsp
    unfold kwXs at hx
    clear r12 r13 r15 r16 r19 r21 r23 b11 b12 hxe
    refine fn1 (fn := Tryz.f90) Tryz.call90 Tryz.func90 rfl Tryz.ntmps90 Tryz.results90 rfl (by first | rfl | simp [V.ok, okL, C.ok, okA, okV]) ?_
    repeat' (first | (with_reducible first | apply AW.seq | apply AW.block | apply AW.scope | apply AW.skip | apply AW.ret | apply AW.exit | apply AW.label | apply q_then | apply q_thenR | apply q_thenE | apply q_bloN | apply q_bloR | apply q_bloE | apply q_strN | apply q_strR | apply q_strE | apply s_e | refine m_b rfl ?_ ?_ | refine m_g rfl ?_ | refine m_o rfl ?_ ?_ | refine v_reg ?_ | refine v_drw ?_ | refine v_rgl ?_ | refine v_drb ?_) | ((with_reducible apply i_dv); first | refine t_v AS.v ?_ | refine t_v (by first | exact u_call (hP := n1) | exact u_call (hP := n2) | exact u_call (hP := n3) | exact u_call (hP := n4)) ?_ | refine t_w AS.w ?_) | ((with_reducible apply i_dg); first | refine t_n ?_ | refine t_m (hs := fun hg => AS.v) (k := ?_) | refine t_m (hs := fun hg => (by first | exact u_call (hP := n1) | exact u_call (hP := n2) | exact u_call (hP := n3) | exact u_call (hP := n4))) (k := ?_) | refine t_f ?_) | ((with_reducible apply i_ds); first | refine t_s AS.s ?_) | ((with_reducible refine i_aw ?_); first | refine v_yes ?_ | refine v_no ?_ | (refine v_cond (fun hc => ?_) (fun hc => ?_); all_goals (try (exfalso; simp [*] at hc; done)); all_goals (try (exfalso; revert hc; simp; omega)))) | ((with_reducible refine i_rt ?_); first | refine k_b ?_ | refine k_s ?_ | refine k_i ?_ | refine k_v ?_ | refine k_c ?_ | exact r_0 | exact r_0n | ((first | refine k_2 ?_ ?_ | refine k_2c ?_ ?_); all_goals (with_reducible (first | apply un_b | apply un_i | apply un_s | apply un_a)))) | ((with_reducible apply al_id); dsimp only [List.append]) | (refine q_bloX rfl ?_) | (refine ⟨by decide +kernel, ?_⟩) | fail)
    all_goals
      simp only [Bool.not_eq_true', Bool.not_eq_false', decide_eq_true_eq, decide_eq_false_iff_not] at hc
      simp [ruledT, pairT, k, hsp, hc, ByteArray.append_assoc]
  · have r := r15 k
    have b := b11 (.inl r)
    have q := qexpression_p r (by omega)
    clear r12 r13 r15 r16 r19 r21 r23 b11 b12
    refine fn1 (fn := Tryz.f90) Tryz.call90 Tryz.func90 rfl Tryz.ntmps90 Tryz.results90 rfl (by first | rfl | simp [V.ok, okL, C.ok, okA, okV]) ?_
    repeat' (first | (with_reducible first | apply AW.seq | apply AW.block | apply AW.scope | apply AW.skip | apply AW.ret | apply AW.exit | apply AW.label | apply q_then | apply q_thenR | apply q_thenE | apply q_bloN | apply q_bloR | apply q_bloE | apply q_strN | apply q_strR | apply q_strE | apply s_e | refine m_b rfl ?_ ?_ | refine m_g rfl ?_ | refine m_o rfl ?_ ?_ | refine v_reg ?_ | refine v_drw ?_ | refine v_rgl ?_ | refine v_drb ?_) | ((with_reducible apply i_dv); first | refine t_v AS.v ?_ | refine t_v (by first | exact u_call (hP := n1) | exact u_call (hP := n2) | exact u_call (hP := n3) | exact u_call (hP := n4) | exact u_call (hP := q)) ?_ | refine t_w AS.w ?_) | ((with_reducible apply i_dg); first | refine t_n ?_ | refine t_m (hs := fun hg => AS.v) (k := ?_) | refine t_m (hs := fun hg => (by first | exact u_call (hP := n1) | exact u_call (hP := n2) | exact u_call (hP := n3) | exact u_call (hP := n4) | exact u_call (hP := q))) (k := ?_) | refine t_f ?_) | ((with_reducible apply i_ds); first | refine t_s AS.s ?_) | ((with_reducible refine i_aw ?_); first | refine v_yes ?_ | refine v_no ?_ | (refine v_cond (fun hc => ?_) (fun hc => ?_); all_goals (try (exfalso; simp [*] at hc; done)); all_goals (try (exfalso; revert hc; simp; omega)))) | ((with_reducible refine i_rt ?_); first | refine k_b ?_ | refine k_s ?_ | refine k_i ?_ | refine k_v ?_ | refine k_c ?_ | exact r_0 | exact r_0n | ((first | refine k_2 ?_ ?_ | refine k_2c ?_ ?_); all_goals (with_reducible (first | apply un_b | apply un_i | apply un_s | apply un_a)))) | ((with_reducible apply al_id); dsimp only [List.append]) | (refine q_bloX rfl ?_) | (refine ⟨by decide +kernel, ?_⟩) | fail)
    simp [ruledT, pairT, k, ByteArray.append_assoc]
  · have r := r16 k
    have b := b11 (.inr r)
    have q := qexpression_p r (by omega)
    clear r12 r13 r15 r16 r19 r21 r23 b11 b12
    refine fn1 (fn := Tryz.f90) Tryz.call90 Tryz.func90 rfl Tryz.ntmps90 Tryz.results90 rfl (by first | rfl | simp [V.ok, okL, C.ok, okA, okV]) ?_
    repeat' (first | (with_reducible first | apply AW.seq | apply AW.block | apply AW.scope | apply AW.skip | apply AW.ret | apply AW.exit | apply AW.label | apply q_then | apply q_thenR | apply q_thenE | apply q_bloN | apply q_bloR | apply q_bloE | apply q_strN | apply q_strR | apply q_strE | apply s_e | refine m_b rfl ?_ ?_ | refine m_g rfl ?_ | refine m_o rfl ?_ ?_ | refine v_reg ?_ | refine v_drw ?_ | refine v_rgl ?_ | refine v_drb ?_) | ((with_reducible apply i_dv); first | refine t_v AS.v ?_ | refine t_v (by first | exact u_call (hP := n1) | exact u_call (hP := n2) | exact u_call (hP := n3) | exact u_call (hP := n4) | exact u_call (hP := q)) ?_ | refine t_w AS.w ?_) | ((with_reducible apply i_dg); first | refine t_n ?_ | refine t_m (hs := fun hg => AS.v) (k := ?_) | refine t_m (hs := fun hg => (by first | exact u_call (hP := n1) | exact u_call (hP := n2) | exact u_call (hP := n3) | exact u_call (hP := n4) | exact u_call (hP := q))) (k := ?_) | refine t_f ?_) | ((with_reducible apply i_ds); first | refine t_s AS.s ?_) | ((with_reducible refine i_aw ?_); first | refine v_yes ?_ | refine v_no ?_ | (refine v_cond (fun hc => ?_) (fun hc => ?_); all_goals (try (exfalso; simp [*] at hc; done)); all_goals (try (exfalso; revert hc; simp; omega)))) | ((with_reducible refine i_rt ?_); first | refine k_b ?_ | refine k_s ?_ | refine k_i ?_ | refine k_v ?_ | refine k_c ?_ | exact r_0 | exact r_0n | ((first | refine k_2 ?_ ?_ | refine k_2c ?_ ?_); all_goals (with_reducible (first | apply un_b | apply un_i | apply un_s | apply un_a)))) | ((with_reducible apply al_id); dsimp only [List.append]) | (refine q_bloX rfl ?_) | (refine ⟨by decide +kernel, ?_⟩) | fail)
    simp [ruledT, pairT, k, ByteArray.append_assoc]
  · have r := r21 k
    obtain ⟨j, x, hj, hx, hxe⟩ := kw_at (l := kwF) (n := s.op + 1) (by omega) (by unfold kwF; have := r.2; show _ ≤ (5 : Int); omega)
    have hsz : x.size ≤ 100 := by rw [← hxe]; exact kw_le (l := kwF) (by decide) _
    have hj2 : s.op = j := by omega
    unfold kwF at hx
    clear r12 r13 r15 r16 r19 r21 r23 b11 b12 hj
    refine fn1 (fn := Tryz.f90) Tryz.call90 Tryz.func90 rfl Tryz.ntmps90 Tryz.results90 rfl (by first | rfl | simp [V.ok, okL, C.ok, okA, okV]) ?_
    repeat' (first | (with_reducible first | apply AW.seq | apply AW.block | apply AW.scope | apply AW.skip | apply AW.ret | apply AW.exit | apply AW.label | apply q_then | apply q_thenR | apply q_thenE | apply q_bloN | apply q_bloR | apply q_bloE | apply q_strN | apply q_strR | apply q_strE | apply s_e | refine m_b rfl ?_ ?_ | refine m_g rfl ?_ | refine m_o rfl ?_ ?_ | refine v_reg ?_ | refine v_drw ?_ | refine v_rgl ?_ | refine v_drb ?_) | ((with_reducible apply i_dv); first | refine t_v AS.v ?_ | refine t_v (by first | exact u_call (hP := n1) | exact u_call (hP := n2) | exact u_call (hP := n3) | exact u_call (hP := n4) | exact u_call (hP := c1)) ?_ | refine t_w AS.w ?_) | ((with_reducible apply i_dg); first | refine t_n ?_ | refine t_m (hs := fun hg => AS.v) (k := ?_) | refine t_m (hs := fun hg => (by first | exact u_call (hP := n1) | exact u_call (hP := n2) | exact u_call (hP := n3) | exact u_call (hP := n4) | exact u_call (hP := c1))) (k := ?_) | refine t_f ?_) | ((with_reducible apply i_ds); first | refine t_s AS.s ?_) | ((with_reducible refine i_aw ?_); first | refine v_yes ?_ | refine v_no ?_ | (refine v_cond (fun hc => ?_) (fun hc => ?_); all_goals (try (exfalso; simp [*] at hc; done)); all_goals (try (exfalso; revert hc; simp; omega)))) | ((with_reducible refine i_rt ?_); first | refine k_b ?_ | refine k_s ?_ | refine k_i ?_ | refine k_v ?_ | refine k_c ?_ | exact r_0 | exact r_0n | ((first | refine k_2 ?_ ?_ | refine k_2c ?_ ?_); all_goals (with_reducible (first | apply un_b | apply un_i | apply un_s | apply un_a)))) | ((with_reducible apply al_id); dsimp only [List.append]) | (refine q_bloX rfl ?_) | (refine ⟨by decide +kernel, ?_⟩) | fail)
    simp [ruledT, pairT, k, hxe, ByteArray.append_assoc]
theorem qdeclared_p {s : Stm} (hk : declK s) (h5 : s.kind = 5 → emptyB s.source = !namedB s.source false) (hr : Rok s) (hb : Bd s) : Pure Tryz.prog 91 [.agg (stC s)] (.c (sS (lineT s))) := by
  obtain ⟨r12, r13, r15, r16, r19, r21, r23, r1, r2⟩ := hr
  obtain ⟨b1, b2, b3, b4, b5, b6, b7, b8, b9, b10, b11, b12, b13, b14, b15⟩ := hb
  have n1 := qnames_q (n := s.source) (by omega)
  have n2 := qnames_q (n := s.target) (by omega)
  have l1 := qbraces_p (l := s.list) (by omega)
  have l2 := qjoin_p (l := s.list) (sep := ⟨#[44, 32]⟩) (by omega)
  have l3 := qbraces_p (l := s.aliases) (by omega)
  have v1 := qlevelText_q (l := s.level) (by omega)
  have s1 := qrange_q (r := s.range) (by omega)
  have c1 := qctxT_q (c := s.ctx) (by omega)
  have f2 := boolT_le s.value
  clear r12 r13 r15 r16 r21 b11 b12
  unfold declK at hk
  by_cases k19 : s.kind = 19
  · have r := r19 k19
    have q := qkind_p r.1 r.2
    have hsz := kw_le (l := kwQ) (by decide) s.op
    clear r19 r23
    refine fn1 (fn := Tryz.f91) Tryz.call91 Tryz.func91 rfl Tryz.ntmps91 Tryz.results91 rfl (by first | rfl | simp [V.ok, okL, C.ok, okA, okV]) ?_
    repeat' (first | (with_reducible first | apply AW.seq | apply AW.block | apply AW.scope | apply AW.skip | apply AW.ret | apply AW.exit | apply AW.label | apply q_then | apply q_thenR | apply q_thenE | apply q_bloN | apply q_bloR | apply q_bloE | apply q_strN | apply q_strR | apply q_strE | apply s_e | refine m_b rfl ?_ ?_ | refine m_g rfl ?_ | refine m_o rfl ?_ ?_ | refine v_reg ?_ | refine v_drw ?_ | refine v_rgl ?_ | refine v_drb ?_) | ((with_reducible apply i_dv); first | refine t_v AS.v ?_ | refine t_v (by first | exact u_call (hP := l1) | exact u_call (hP := l2) | exact u_call (hP := q)) ?_ | refine t_w AS.w ?_) | ((with_reducible apply i_dg); first | refine t_n ?_ | refine t_m (hs := fun hg => AS.v) (k := ?_) | refine t_m (hs := fun hg => (by first | exact u_call (hP := l1) | exact u_call (hP := l2) | exact u_call (hP := q))) (k := ?_) | refine t_f ?_) | ((with_reducible apply i_ds); first | refine t_s AS.s ?_) | ((with_reducible refine i_aw ?_); first | refine v_yes ?_ | refine v_no ?_ | (refine v_cond (fun hc => ?_) (fun hc => ?_); all_goals (try (exfalso; simp [*] at hc; done)); all_goals (try (exfalso; revert hc; simp; omega)))) | ((with_reducible refine i_rt ?_); first | refine k_b ?_ | refine k_s ?_ | refine k_i ?_ | refine k_v ?_ | refine k_c ?_ | exact r_0 | exact r_0n | ((first | refine k_2 ?_ ?_ | refine k_2c ?_ ?_); all_goals (with_reducible (first | apply un_b | apply un_i | apply un_s | apply un_a)))) | ((with_reducible apply al_id); dsimp only [List.append]) | (refine q_bloX rfl ?_) | (refine ⟨by decide +kernel, ?_⟩) | fail)
    all_goals
      simp only [decide_eq_true_eq, decide_eq_false_iff_not] at hc
      simp [lineT, ruledT, k19, hc]
  by_cases k23 : s.kind = 23
  · have r := r23 k23
    obtain ⟨j, x, hj, hx, hxe⟩ := kw_at (l := kwA) r.1 (by unfold kwA; exact r.2)
    have hsz : x.size ≤ 100 := by rw [← hxe]; exact kw_le (l := kwA) (by decide) _
    unfold kwA at hx
    clear r19 r23
    refine fn1 (fn := Tryz.f91) Tryz.call91 Tryz.func91 rfl Tryz.ntmps91 Tryz.results91 rfl (by first | rfl | simp [V.ok, okL, C.ok, okA, okV]) ?_
    repeat' (first | (with_reducible first | apply AW.seq | apply AW.block | apply AW.scope | apply AW.skip | apply AW.ret | apply AW.exit | apply AW.label | apply q_then | apply q_thenR | apply q_thenE | apply q_bloN | apply q_bloR | apply q_bloE | apply q_strN | apply q_strR | apply q_strE | apply s_e | refine m_b rfl ?_ ?_ | refine m_g rfl ?_ | refine m_o rfl ?_ ?_ | refine v_reg ?_ | refine v_drw ?_ | refine v_rgl ?_ | refine v_drb ?_) | ((with_reducible apply i_dv); first | refine t_v AS.v ?_ | refine t_v (by first | exact u_call (hP := n1) | exact u_call (hP := n2)) ?_ | refine t_w AS.w ?_) | ((with_reducible apply i_dg); first | refine t_n ?_ | refine t_m (hs := fun hg => AS.v) (k := ?_) | refine t_m (hs := fun hg => (by first | exact u_call (hP := n1) | exact u_call (hP := n2))) (k := ?_) | refine t_f ?_) | ((with_reducible apply i_ds); first | refine t_s AS.s ?_) | ((with_reducible refine i_aw ?_); first | refine v_yes ?_ | refine v_no ?_ | (refine v_cond (fun hc => ?_) (fun hc => ?_); all_goals (try (exfalso; simp [*] at hc; done)); all_goals (try (exfalso; revert hc; simp; omega)))) | ((with_reducible refine i_rt ?_); first | refine k_b ?_ | refine k_s ?_ | refine k_i ?_ | refine k_v ?_ | refine k_c ?_ | exact r_0 | exact r_0n | ((first | refine k_2 ?_ ?_ | refine k_2c ?_ ?_); all_goals (with_reducible (first | apply un_b | apply un_i | apply un_s | apply un_a)))) | ((with_reducible apply al_id); dsimp only [List.append]) | (refine q_bloX rfl ?_) | (refine ⟨by decide +kernel, ?_⟩) | fail)
    simp [lineT, ruledT, pairT, k23, hxe, ByteArray.append_assoc]
  clear r19 r23
  refine fn1 (fn := Tryz.f91) Tryz.call91 Tryz.func91 rfl Tryz.ntmps91 Tryz.results91 rfl (by first | rfl | simp [V.ok, okL, C.ok, okA, okV]) ?_
  repeat' (first | (with_reducible first | apply AW.seq | apply AW.block | apply AW.scope | apply AW.skip | apply AW.ret | apply AW.exit | apply AW.label | apply q_then | apply q_thenR | apply q_thenE | apply q_bloN | apply q_bloR | apply q_bloE | apply q_strN | apply q_strR | apply q_strE | apply s_e | refine m_b rfl ?_ ?_ | refine m_g rfl ?_ | refine m_o rfl ?_ ?_ | refine v_reg ?_ | refine v_drw ?_ | refine v_rgl ?_ | refine v_drb ?_) | ((with_reducible apply i_dv); first | refine t_v AS.v ?_ | refine t_v (by first | exact u_call (hP := n1) | exact u_call (hP := l1) | exact u_call (hP := l2) | exact u_call (hP := l3) | exact u_call (hP := v1) | exact u_call (hP := s1) | exact u_call (hP := c1) | exact u_call (hP := qempty_p _)) ?_ | refine t_w AS.w ?_) | ((with_reducible apply i_dg); first | refine t_n ?_ | refine t_m (hs := fun hg => AS.v) (k := ?_) | refine t_m (hs := fun hg => (by first | exact u_call (hP := n1) | exact u_call (hP := l1) | exact u_call (hP := l2) | exact u_call (hP := l3) | exact u_call (hP := v1) | exact u_call (hP := s1) | exact u_call (hP := c1) | exact u_call (hP := qempty_p _))) (k := ?_) | refine t_f ?_) | ((with_reducible apply i_ds); first | refine t_s AS.s ?_) | ((with_reducible refine i_aw ?_); first | refine v_yes ?_ | refine v_no ?_ | (refine v_cond (fun hc => ?_) (fun hc => ?_); all_goals (try (exfalso; simp [*] at hc; done)); all_goals (try (exfalso; revert hc; simp; omega)))) | ((with_reducible refine i_rt ?_); first | refine k_b ?_ | refine k_s ?_ | refine k_i ?_ | refine k_v ?_ | refine k_c ?_ | exact r_0 | exact r_0n | ((first | refine k_2 ?_ ?_ | refine k_2c ?_ ?_); all_goals (with_reducible (first | apply un_b | apply un_i | apply un_s | apply un_a)))) | ((with_reducible apply al_id); dsimp only [List.append]) | (refine q_bloX rfl ?_) | (refine ⟨by decide +kernel, ?_⟩) | fail)
  all_goals
    simp only [decide_eq_true_eq, decide_eq_false_iff_not, List.length_map] at *
    clear n1 n2 l1 l2 l3 v1 s1 c1 b1 b2 b3 b4 b5 b6 b7 b8 b9 b10 b13 b14 b15 f2
    first
    | (exfalso; omega)
    | (simp [lineT, *, ByteArray.append_assoc]; done)
    | (have e2 : s.kind = 2 := by assumption
       unfold lineT
       rw [if_neg (by omega), if_pos e2]
       first | rw [if_pos (by omega), if_pos (by omega)] | rw [if_pos (by omega), if_neg (by omega)] | rw [if_neg (by omega), if_pos (by omega)] | rw [if_neg (by omega), if_neg (by omega)]
       try simp only [ByteArray.append_assoc]
       done)
    | (have e5 : s.kind = 5 := by assumption
       have h6 := h5 e5
       unfold lineT
       rw [if_neg (by omega), if_neg (by omega), if_neg (by omega), if_neg (by omega), if_pos e5]
       first
       | (have h7 : emptyB s.source = true := by assumption
          rw [h7] at h6
          rw [show namedB s.source false = false by revert h6; cases namedB s.source false <;> simp]
          rfl)
       | (have h7 : emptyB s.source = false := by assumption
          rw [h7] at h6
          rw [show namedB s.source false = true by revert h6; cases namedB s.source false <;> simp]
          rfl))
    | (have e9 : s.kind = 9 := by assumption
       unfold lineT
       rw [if_neg (by omega), if_neg (by omega), if_neg (by omega), if_neg (by omega), if_neg (by omega), if_neg (by omega), if_pos e9]
       rw [ByteArray.append_assoc (b := ⟨#[32]⟩) (c := boolT s.value)]
       first
       | (have h7 : s.value = true := by assumption
          rw [h7, bool_t]; done)
       | (have h7 : s.value = false := by assumption
          rw [h7, bool_f]; done))
    | (have e20 : s.kind = 20 := by omega
       have hl : lineT s = ruledT s := by
         unfold lineT
         repeat' (first | rfl | (rw [if_neg (by omega)]))
       rw [hl]
       unfold ruledT
       rw [if_neg (by omega), if_neg (by omega), if_neg (by omega), if_neg (by omega), if_neg (by omega), if_neg (by omega), if_neg (by omega), if_neg (by omega), if_pos e20]; done)

end Am
end Go.Proofs.YtkcojiopjkllgaaGreatDoor
