import Derived.Test.YtkcojiopjkllgaaGreatDoorYq17
set_option linter.unusedSimpArgs false
set_option linter.unusedVariables false
set_option linter.unusedSectionVars false
namespace Go.Proofs.YtkcojiopjkllgaaGreatDoor
namespace Am
open Tk
set_option maxRecDepth 100000
set_option maxHeartbeats 4000000
theorem check_zero {m : Mo} (h : checkB m = 0) : idB m.name = true ∧ 0 ≤ m.version ∧ m.version ≤ 9999 ∧ cntW m.stmts ≤ 1024 ∧ dpL m.stmts ≤ 12 ∧ m.stmts.all fmB = true := by
  unfold checkB at h
  split at h
  · omega
  · split at h
    · omega
    · split at h
      · omega
      · split at h
        · omega
        · rename_i h0 h1 h2 h3
          exact ⟨by simpa using h0, by omega, by omega, by omega, by omega, by simpa using h3⟩
theorem blk_mem {lv : Nat} {l : List Stm} {x : Stm} (h : x ∈ l) : (stT lv x).size ≤ (blkT lv l).size := by
  induction l with
  | nil => cases h
  | cons y l ih =>
    rw [blkT, ByteArray.size_append, ByteArray.size_append]
    rcases List.mem_cons.1 h with rfl | h
    · omega
    · have := ih h; omega
theorem lawLines (m : Mo) : Pure Tryz.prog 6 [.agg (moC m)] (.c (sB true)) := by
  by_cases h : okM m.stmts = true ∧ m.name.size ≤ 300
  · obtain ⟨hs, hn⟩ := h
    have p1 := Module_p (m := m) (dp_ok hs) fun hc => mod_ok hs hn hc
    have sm := small_p m.stmts
    rw [hs] at sm
    by_cases hz : (ModuleR m).2 = 0
    · have hc0 : checkB m = 0 := by
        unfold ModuleR at hz
        split at hz
        · exact hz
        · rename_i h; simpa using h
      have hsz : (modT m).size ≤ 65536 ∧ ModuleR m = (modT m, 0) := by
        unfold ModuleR at hz ⊢
        rw [if_neg (by rw [hc0]; decide)] at hz ⊢
        split at hz
        · cases hz
        · rename_i h; rw [if_neg h]; exact ⟨by omega, rfl⟩
      rw [hsz.2] at p1
      obtain ⟨c1, c2, c3, c4, c5, c6⟩ := check_zero hc0
      have hw := (mod_ok hs hn hc0).1
      have hm : modT m = modT ⟨m.name, m.version, []⟩ ++ blkT 0 m.stmts := by
        simp only [modT, blkT, ba_nil]
      have hk0 : checkB ⟨m.name, m.version, []⟩ = 0 := by
        unfold checkB
        rw [if_neg (by rw [c1]; decide), if_neg (by show ¬(m.version < 0 ∨ 9999 < m.version); omega), if_neg (by show ¬(1024 < cntW [] ∨ 12 < dpL []); rw [dpL]; decide), if_neg (by simp)]
      have hsz1 := hsz.1
      rw [hm, ByteArray.size_append] at hsz1
      have p2 := Module_p (m := ⟨m.name, m.version, []⟩) (by show dpL [] ≤ _; rw [dpL]; omega) fun _ => ⟨fun x hx => (by cases hx), by omega⟩
      have e2 : ModuleR ⟨m.name, m.version, []⟩ = (modT ⟨m.name, m.version, []⟩, 0) := by
        unfold ModuleR
        rw [if_neg (by rw [hk0]; decide), if_neg (by omega)]
      rw [e2] at p2
      have hst : ∀ x ∈ m.stmts, Pure Tryz.prog 14 [.agg (stC x), .c (sI 0)] (.tup [.c (sS (stT 0 x)), .c (sI 0)]) := fun x hx => by
        have hd : dpL [x] ≤ 12 := by have := dp_mem hx; rw [dpL, dpL]; omega
        have hf := List.all_eq_true.1 c6 x hx
        have hsx := blk_mem (lv := 0) hx
        have p := Statement_p (s := x) (lv := 0) (by omega) fun _ _ _ _ => ⟨hw x hx, by show (stT 0 x).size ≤ _; omega⟩
        have e : StatementR x 0 = (stT 0 x, 0) := by
          unfold StatementR
          rw [if_neg (by omega), if_neg (by omega), if_neg (by rw [hf]; decide), if_neg (by show ¬(65536 < (stT 0 x).size); omega)]
          rfl
        rwa [e] at p
      rw [hm] at p1
      clear hs hz hc0 hsz c1 c2 c3 c4 c5 c6 hw hm hk0 e2
      generalize hM0 : modT ⟨m.name, m.version, []⟩ = M0 at *
      refine fn1 (fn := Tryz.f6) Tryz.call6 Tryz.func6 rfl Tryz.ntmps6 Tryz.results6 rfl (by first | rfl | simp [V.ok, okL, C.ok, okA, okV]) ?_
      refine AW.fact (t := 0) rfl (fun κ w x hr => agg_l hr (t := none) (k := 55) (l := m.stmts) (f := stC) (by simp [moC])) fun hn2 => ?_
      repeat' (first | (with_reducible first | apply AW.seq | apply AW.block | apply AW.scope | apply AW.skip | apply AW.ret | apply AW.exit | apply AW.label | apply q_then | apply q_thenR | apply q_thenE | apply q_bloN | apply q_bloR | apply q_bloE | apply q_strN | apply q_strR | apply q_strE | apply s_e | refine m_b rfl ?_ ?_ | refine m_g rfl ?_ | refine m_o rfl ?_ ?_ | refine v_reg ?_ | refine v_drw ?_ | refine v_rgl ?_ | refine v_drb ?_) | ((with_reducible apply i_dv); first | refine t_v AS.v ?_ | refine t_v (by first | exact u_call (hP := sm) | exact u_call (hP := p1) | exact u_call (hP := p2)) ?_ | refine t_w AS.w ?_) | ((with_reducible apply i_dg); first | refine t_n ?_ | refine t_m (hs := fun hg => AS.v) (k := ?_) | refine t_m (hs := fun hg => (by first | exact u_call (hP := sm) | exact u_call (hP := p1) | exact u_call (hP := p2))) (k := ?_) | refine t_f ?_) | ((with_reducible apply i_ds); first | refine t_s AS.s ?_) | ((with_reducible refine i_aw ?_); first | refine v_yes ?_ | refine v_no ?_ | (refine v_cond (fun hc => ?_) (fun hc => ?_); all_goals (try (exfalso; simp [*] at hc; done)); all_goals (try (exfalso; revert hc; simp; omega)))) | ((with_reducible refine i_rt ?_); first | refine k_b ?_ | refine k_s ?_ | refine k_i ?_ | refine k_v ?_ | refine k_c ?_ | exact r_0 | exact r_0n | ((first | refine k_2 ?_ ?_ | refine k_2c ?_ ?_); all_goals (with_reducible (first | apply un_b | apply un_i | apply un_s | apply un_a)))) | ((with_reducible apply al_id); dsimp only [List.append]) | (refine q_bloX rfl ?_) | (refine ⟨by decide +kernel, ?_⟩) | fail)
      refine AW.loop (fun n σ => ∃ j, n = m.stmts.length - j ∧ j ≤ m.stmts.length ∧ σ = mk [(1, .c (.ptr 1 0)), (3, .c (sS (M0 ++ blkT 0 m.stmts))), (5, .c (sS (M0 ++ blkT 0 (m.stmts.take j)))), (7, .c (sI j))] [(1, .obj 24 (moC m))]) m.stmts.length ?_ ?_
      · have e : M0 = M0 ++ blkT 0 (m.stmts.take 0) := by rw [List.take_zero, blkT, ba_nil]
        refine ⟨_, ?_, 0, rfl, Nat.zero_le _, rfl⟩
        rw [← e]
        exact wk_mk (by (repeat (first | exact all_nil | ((refine all_cons ⟨_, rfl, .inl rfl, ?_⟩ ?_); (· (first | rfl | exact okRow rfl | (simp [V.ok, okL, C.ok, okA, HO.ok]; done) | (change okL _ _ = true; assumption)))))); done) (by (repeat (first | exact all_nil | ((refine all_cons ⟨_, rfl, .inl rfl, ?_⟩ ?_); (· (first | rfl | exact okRow rfl | (simp [V.ok, okL, C.ok, okA, HO.ok]; done) | (change okL _ _ = true; assumption)))))); done) (by exact fun h => h)
      rintro n σ ⟨j, rfl, hj, rfl⟩
      by_cases hlt : j < m.stmts.length
      · obtain ⟨x, hx⟩ : ∃ x, m.stmts[j]? = some x := ⟨_, List.getElem?_eq_getElem hlt⟩
        have hp := hst x (List.mem_of_getElem? hx)
        have hle := blk_le (lv := 0) m.stmts (j + 1)
        have e1 := blk_step (lv := 0) hx
        rw [e1, ByteArray.size_append, ByteArray.size_append] at hle
        have h1 : ByteArray.size ⟨#[10]⟩ = 1 := rfl
        repeat' (first | (with_reducible first | apply AW.seq | apply AW.block | apply AW.scope | apply AW.skip | apply AW.ret | apply AW.exit | apply AW.label | apply q_then | apply q_thenR | apply q_thenE | apply q_bloN | apply q_bloR | apply q_bloE | apply q_strN | apply q_strR | apply q_strE | apply s_e | refine m_b rfl ?_ ?_ | refine m_g rfl ?_ | refine m_o rfl ?_ ?_ | refine v_reg ?_ | refine v_drw ?_ | refine v_rgl ?_ | refine v_drb ?_) | ((with_reducible apply i_dv); first | refine t_v AS.v ?_ | refine t_v (by first | exact u_call (hP := hp)) ?_ | refine t_w AS.w ?_) | ((with_reducible apply i_dg); first | refine t_n ?_ | refine t_m (hs := fun hg => AS.v) (k := ?_) | refine t_m (hs := fun hg => (by first | exact u_call (hP := hp))) (k := ?_) | refine t_f ?_) | ((with_reducible apply i_ds); first | refine t_s AS.s ?_) | ((with_reducible refine i_aw ?_); first | refine v_yes ?_ | refine v_no ?_ | (refine v_cond (fun hc => ?_) (fun hc => ?_); all_goals (try (exfalso; simp [*] at hc; done)); all_goals (try (exfalso; revert hc; simp; omega)))) | ((with_reducible refine i_rt ?_); first | refine k_b ?_ | refine k_s ?_ | refine k_i ?_ | refine k_v ?_ | refine k_c ?_ | exact r_0 | exact r_0n | ((first | refine k_2 ?_ ?_ | refine k_2c ?_ ?_); all_goals (with_reducible (first | apply un_b | apply un_i | apply un_s | apply un_a)))) | ((with_reducible apply al_id); dsimp only [List.append]) | (refine q_bloX rfl ?_) | (refine ⟨by decide +kernel, ?_⟩) | fail)
        have e : M0 ++ blkT 0 (m.stmts.take j) ++ stT 0 x ++ ⟨#[10]⟩ = M0 ++ blkT 0 (m.stmts.take (j + 1)) := by rw [e1]; simp only [ByteArray.append_assoc]
        rw [e]
        exact ⟨_, _, (show m.stmts.length - (j + 1) < m.stmts.length - j by omega), wk_mk (by (repeat (first | exact all_nil | ((refine all_cons ⟨_, rfl, .inl rfl, ?_⟩ ?_); (· (first | rfl | exact okRow rfl | (simp [V.ok, okL, C.ok, okA, HO.ok]; done) | (change okL _ _ = true; assumption)))))); done) (by (repeat (first | exact all_nil | ((refine all_cons ⟨_, rfl, .inl rfl, ?_⟩ ?_); (· (first | rfl | exact okRow rfl | (simp [V.ok, okL, C.ok, okA, HO.ok]; done) | (change okL _ _ = true; assumption)))))); done) (by exact fun h => h), j + 1, rfl, hlt, rfl⟩
      · rw [List.take_of_length_le (by omega)]
        repeat' (first | (with_reducible first | apply AW.seq | apply AW.block | apply AW.scope | apply AW.skip | apply AW.ret | apply AW.exit | apply AW.label | apply q_then | apply q_thenR | apply q_thenE | apply q_bloN | apply q_bloR | apply q_bloE | apply q_strN | apply q_strR | apply q_strE | apply s_e | refine m_b rfl ?_ ?_ | refine m_g rfl ?_ | refine m_o rfl ?_ ?_ | refine v_reg ?_ | refine v_drw ?_ | refine v_rgl ?_ | refine v_drb ?_) | ((with_reducible apply i_dv); first | refine t_v AS.v ?_ | refine t_v (by first | exact u_call (hP := awake_p)) ?_ | refine t_w AS.w ?_) | ((with_reducible apply i_dg); first | refine t_n ?_ | refine t_m (hs := fun hg => AS.v) (k := ?_) | refine t_m (hs := fun hg => (by first | exact u_call (hP := awake_p))) (k := ?_) | refine t_f ?_) | ((with_reducible apply i_ds); first | refine t_s AS.s ?_) | ((with_reducible refine i_aw ?_); first | refine v_yes ?_ | refine v_no ?_ | (refine v_cond (fun hc => ?_) (fun hc => ?_); all_goals (try (exfalso; simp [*] at hc; done)); all_goals (try (exfalso; revert hc; simp; omega)))) | ((with_reducible refine i_rt ?_); first | refine k_b ?_ | refine k_s ?_ | refine k_i ?_ | refine k_v ?_ | refine k_c ?_ | exact r_0 | exact r_0n | ((first | refine k_2 ?_ ?_ | refine k_2c ?_ ?_); all_goals (with_reducible (first | apply un_b | apply un_i | apply un_s | apply un_a)))) | ((with_reducible apply al_id); dsimp only [List.append]) | (refine q_bloX rfl ?_) | (refine ⟨by decide +kernel, ?_⟩) | fail)
        simp
    · clear hs
      refine fn1 (fn := Tryz.f6) Tryz.call6 Tryz.func6 rfl Tryz.ntmps6 Tryz.results6 rfl (by first | rfl | simp [V.ok, okL, C.ok, okA, okV]) ?_
      repeat' (first | (with_reducible first | apply AW.seq | apply AW.block | apply AW.scope | apply AW.skip | apply AW.ret | apply AW.exit | apply AW.label | apply q_then | apply q_thenR | apply q_thenE | apply q_bloN | apply q_bloR | apply q_bloE | apply q_strN | apply q_strR | apply q_strE | apply s_e | refine m_b rfl ?_ ?_ | refine m_g rfl ?_ | refine m_o rfl ?_ ?_ | refine v_reg ?_ | refine v_drw ?_ | refine v_rgl ?_ | refine v_drb ?_) | ((with_reducible apply i_dv); first | refine t_v AS.v ?_ | refine t_v (by first | exact u_call (hP := sm) | exact u_call (hP := p1) | exact u_call (hP := awake_p)) ?_ | refine t_w AS.w ?_) | ((with_reducible apply i_dg); first | refine t_n ?_ | refine t_m (hs := fun hg => AS.v) (k := ?_) | refine t_m (hs := fun hg => (by first | exact u_call (hP := sm) | exact u_call (hP := p1) | exact u_call (hP := awake_p))) (k := ?_) | refine t_f ?_) | ((with_reducible apply i_ds); first | refine t_s AS.s ?_) | ((with_reducible refine i_aw ?_); first | refine v_yes ?_ | refine v_no ?_ | (refine v_cond (fun hc => ?_) (fun hc => ?_); all_goals (try (exfalso; simp [*] at hc; done)); all_goals (try (exfalso; revert hc; simp; omega)))) | ((with_reducible refine i_rt ?_); first | refine k_b ?_ | refine k_s ?_ | refine k_i ?_ | refine k_v ?_ | refine k_c ?_ | exact r_0 | exact r_0n | ((first | refine k_2 ?_ ?_ | refine k_2c ?_ ?_); all_goals (with_reducible (first | apply un_b | apply un_i | apply un_s | apply un_a)))) | ((with_reducible apply al_id); dsimp only [List.append]) | (refine q_bloX rfl ?_) | (refine ⟨by decide +kernel, ?_⟩) | fail)
      rfl
  · have e : (okM m.stmts = false) ∨ 300 < m.name.size := by
      rcases Decidable.em (m.name.size ≤ 300) with h1 | h1
      · left; cases ho : okM m.stmts with
        | false => rfl
        | true => exact absurd ⟨ho, h1⟩ h
      · right; omega
    clear h
    rcases e with e | e
    all_goals
      refine fn1 (fn := Tryz.f6) Tryz.call6 Tryz.func6 rfl Tryz.ntmps6 Tryz.results6 rfl (by first | rfl | simp [V.ok, okL, C.ok, okA, okV]) ?_
      repeat' (first | (with_reducible first | apply AW.seq | apply AW.block | apply AW.scope | apply AW.skip | apply AW.ret | apply AW.exit | apply AW.label | apply q_then | apply q_thenR | apply q_thenE | apply q_bloN | apply q_bloR | apply q_bloE | apply q_strN | apply q_strR | apply q_strE | apply s_e | refine m_b rfl ?_ ?_ | refine m_g rfl ?_ | refine m_o rfl ?_ ?_ | refine v_reg ?_ | refine v_drw ?_ | refine v_rgl ?_ | refine v_drb ?_) | ((with_reducible apply i_dv); first | refine t_v AS.v ?_ | refine t_v (by first | exact u_call (hP := small_p _) | exact u_call (hP := awake_p)) ?_ | refine t_w AS.w ?_) | ((with_reducible apply i_dg); first | refine t_n ?_ | refine t_m (hs := fun hg => AS.v) (k := ?_) | refine t_m (hs := fun hg => (by first | exact u_call (hP := small_p _) | exact u_call (hP := awake_p))) (k := ?_) | refine t_f ?_) | ((with_reducible apply i_ds); first | refine t_s AS.s ?_) | ((with_reducible refine i_aw ?_); first | refine v_yes ?_ | refine v_no ?_ | (refine v_cond (fun hc => ?_) (fun hc => ?_); all_goals (try (exfalso; simp [*] at hc; done)); all_goals (try (exfalso; revert hc; simp; omega)))) | ((with_reducible refine i_rt ?_); first | refine k_b ?_ | refine k_s ?_ | refine k_i ?_ | refine k_v ?_ | refine k_c ?_ | exact r_0 | exact r_0n | ((first | refine k_2 ?_ ?_ | refine k_2c ?_ ?_); all_goals (with_reducible (first | apply un_b | apply un_i | apply un_s | apply un_a)))) | ((with_reducible apply al_id); dsimp only [List.append]) | (refine q_bloX rfl ?_) | (refine ⟨by decide +kernel, ?_⟩) | fail)
      rfl
end Am
end Go.Proofs.YtkcojiopjkllgaaGreatDoor
