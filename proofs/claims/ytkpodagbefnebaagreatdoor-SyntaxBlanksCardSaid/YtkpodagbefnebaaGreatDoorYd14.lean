import Derived.Test.YtkpodagbefnebaaGreatDoorYd13
set_option linter.unusedSimpArgs false
set_option linter.unusedVariables false
set_option linter.unusedSectionVars false
namespace Go.Proofs.YtkpodagbefnebaaGreatDoor
namespace Am
open Tk Go.RowKit
set_option maxRecDepth 100000
set_option maxHeartbeats 4000000
abbrev stO (s : Stm) : HO := .obj 69 (stC s)
section
variable {l : List Tok} {k k' : Ix l} {c d : Int}
theorem number_p (s : ByteArray) (ws : List ByteArray) (hw : ws.length ≤ 100) : Pure Tryz.prog 252 [.c (sS s), .c (strL ws)] (.c (sI (numW s ws))) := by
  refine fn2 (fn := Tryz.f252) Tryz.call252 Tryz.func252 rfl Tryz.ntmps252 Tryz.results252 rfl (by rfl) ?_
  repeat' (first | (with_reducible first | apply AW.seq | apply AW.block | apply AW.skip | apply AW.ret | apply q_then | apply q_thenR | apply q_bloN | apply q_bloR | apply y_e | refine v_rgl ?_) | ((with_reducible apply i_dv); refine t_v AS.v ?_) | ((with_reducible refine i_aw ?_); ((refine v_cond (fun hc => ?_) (fun hc => ?_); all_goals (try (exfalso; simp [*] at hc; done))))) | ((with_reducible refine i_rt ?_); refine k_i ?_) | fail)
  simp only [List.length_map]
  refine AW.loop (fun m σ => ∃ j, m = ws.length - j ∧ j ≤ ws.length ∧ (∀ x ∈ ws.take j, decide (x = s) = false) ∧ σ = mk [(0, .c (sS s)), (7, .c (strL ws)), (8, .c (sI ws.length)), (9, .c (sI j))] []) ws.length ?_ ?_
  · exact ⟨_, wk_mk (by (repeat (first | exact all_nil | ((refine all_cons ⟨_, rfl, .inl rfl, ?_⟩ ?_); (· (first | rfl | (simp [V.ok, okL, C.ok, okA, HO.ok]; done)))))); done) (by (repeat (exact all_nil)); done) (by rfl), 0, rfl, Nat.zero_le _, by simp, rfl⟩
  rintro m σ ⟨j, rfl, hj, ha, rfl⟩
  by_cases hlt : j < ws.length
  · obtain ⟨w, hw⟩ : ∃ w, ws[j]? = some w := ⟨_, List.getElem?_eq_getElem hlt⟩
    repeat' (first | (with_reducible first | apply AW.seq | apply AW.block | apply AW.skip | apply AW.ret | apply q_then | apply q_thenR | apply q_bloN | apply q_bloR | apply y_e | refine v_rgl ?_) | ((with_reducible apply i_dv); refine t_v AS.v ?_) | ((with_reducible refine i_aw ?_); ((refine v_cond (fun hc => ?_) (fun hc => ?_); all_goals (try (exfalso; simp [*] at hc; done))))) | ((with_reducible refine i_rt ?_); refine k_i ?_) | fail)
    · rw [numW, find_at hw ha (by simpa using hc)]
    · exact ⟨_, _, (show ws.length - (j + 1) < ws.length - j by omega), wk_mk (by (repeat (first | exact all_nil | ((refine all_cons ⟨_, rfl, .inl rfl, ?_⟩ ?_); (· (first | rfl | (simp [V.ok, okL, C.ok, okA, HO.ok]; done)))))); done) (by (repeat (exact all_nil)); done) (by rfl), j + 1, rfl, hlt, take_step hw ha (by simpa using hc), rfl⟩
  · repeat' (first | (with_reducible first | apply AW.seq | apply AW.ret | apply AW.exit | apply q_then | apply q_thenE | apply q_bloE | apply y_e | refine v_rgl ?_) | ((with_reducible apply i_dv); refine t_v AS.v ?_) | ((with_reducible refine i_aw ?_); ((refine v_cond (fun hc => ?_) (fun hc => ?_); all_goals (try (exfalso; simp [*] at hc; done))))) | ((with_reducible refine i_rt ?_); refine k_i ?_) | fail)
    rw [numW, find_no (by omega) ha]
theorem pair_x (hf : Fine l) (s : Stm) (self : Bool) : MX Tryz.prog 253 [(0, psO k c d), (1001, stO s)] [.c (.ptr 0 0), .c (.ptr 1001 0), .c (sB self)] (pairP self s k) (fun _ => .tup []) (fun b => [(0, psO b.2 c d), (1001, stO b.1)]) pvS := by
  refine MX.of (fn := Tryz.f253) Tryz.call253 Tryz.func253 rfl Tryz.ntmps253 Tryz.results253 rfl rfl (by intro a; rfl) (by intro b; exact ⟨rfl, by simp [HO.one, okL, C.ok, okA]⟩) ?_
  repeat' (first | (with_reducible first | apply AW.seq | apply q_then | apply q_thenP | apply y_e | refine v_rgl ?_) | ((with_reducible apply i_dv); first | refine t_v AS.v ?_ | refine t_c1 (hP := set_x hf _) (k1 := fun x k h => ?_) (k2 := fun e h σx => ?_) | refine t_c1 (hP := need_x hf _) (k1 := fun x k h => ?_) (k2 := fun e h σx => ?_)) | ((with_reducible apply i_ds); refine t_s AS.s ?_) | ((with_reducible refine i_rx ?_); first | (with_reducible refine x_pan ?_) | refine l_d0 (k := ?_)) | fail)
  all_goals (first | (refine ⟨(), (_, _), ?_, (by rfl), (by exact le_id rfl), (by exact le_id rfl)⟩; simp_all [pairP, ok_bind, err_bind, adv, Lv.zero, Sp.zero, Rg.zero, Ct.zero]; done) | (simp_all [pairP, ok_bind, err_bind, adv, Lv.zero, Sp.zero, Rg.zero, Ct.zero]; done) | fail "end")
theorem declaration_x (hf : Fine l) (s : Stm) (w : ByteArray) (hw : w ≠ ⟨#[116, 121, 112, 101]⟩) : MX Tryz.prog 182 [(0, psO k c d), (1001, stO s)] [.c (.ptr 0 0), .c (.ptr 1001 0), .c (sS w)] (declP w s k) (fun b => .c (sB b)) (fun b => [(0, psO b.2 c d), (1001, stO b.1)]) pvS := by
  have a1 := fun k => (acceptWord_x (k := k) (c := c) (d := d) hf ⟨#[116, 121, 112, 101, 115]⟩).ok _ _ rfl
  refine MX.of (fn := Tryz.f182) Tryz.call182 Tryz.func182 rfl Tryz.ntmps182 Tryz.results182 rfl rfl (by intro a; rfl) (by intro b; exact ⟨rfl, by simp [HO.one, okL, C.ok, okA]⟩) ?_
  repeat' (first | (with_reducible first | apply AW.seq | apply AW.block | apply AW.skip | apply AW.ret | apply q_then | apply q_thenR | apply q_thenP | apply q_bloN | apply q_bloR | apply q_bloP | apply y_e | refine v_rgl ?_) | ((with_reducible apply i_dv); first | refine t_v AS.v ?_ | refine t_w (by exact u_m1 (hP := a1 _)) ?_ | refine t_c1 (hP := name_x hf) (k1 := fun x k h => ?_) (k2 := fun e h σx => ?_) | refine t_c1 (hP := braced_x hf) (k1 := fun x k h => ?_) (k2 := fun e h σx => ?_) | refine t_c1 (hP := listed_x hf) (k1 := fun x k h => ?_) (k2 := fun e h σx => ?_) | refine t_c1 (hP := set_x hf _) (k1 := fun x k h => ?_) (k2 := fun e h σx => ?_) | refine t_c1 (hP := needWord_x hf _) (k1 := fun x k h => ?_) (k2 := fun e h σx => ?_) | refine t_c1 (hP := level_x hf) (k1 := fun x k h => ?_) (k2 := fun e h σx => ?_) | refine t_c1 (hP := span_x hf) (k1 := fun x k h => ?_) (k2 := fun e h σx => ?_) | refine t_c1 (hP := choose_x hf _ (by decide)) (k1 := fun x k h => ?_) (k2 := fun e h σx => ?_)) | ((with_reducible apply i_ds); refine t_s AS.s ?_) | ((with_reducible refine i_aw ?_); ((refine v_cond (fun hc => ?_) (fun hc => ?_); all_goals (try (exfalso; simp [*] at hc; done))))) | ((with_reducible refine i_rx ?_); first | (with_reducible refine x_pan ?_) | refine l_d (k := ?_)) | fail)
  all_goals first | (first | (refine ⟨_, (_, _), ?_, (by rfl), (by exact le_id rfl), (by exact le_id rfl)⟩; simp_all [declP, ok_bind, err_bind, adv, Lv.zero, Sp.zero, Rg.zero, Ct.zero]; done) | (simp_all [declP, ok_bind, err_bind, adv, Lv.zero, Sp.zero, Rg.zero, Ct.zero]; done) | fail "end") | (refine ⟨true, ({ s with kind := 5, name := x }, k), ?_, rfl, (by rw [hc]; exact le_id rfl), le_id rfl⟩; simp_all [declP, ok_bind, err_bind]; done)
theorem numW_le (s : ByteArray) (ws : List ByteArray) : 0 ≤ numW s ws ∧ numW s ws ≤ ws.length := by
  unfold numW
  split
  · rename_i i h
    have := (List.findIdx?_eq_some_iff_getElem.1 h).1
    omega
  · omega
theorem rule_x (hf : Fine l) (s : Stm) (w : ByteArray) : MX Tryz.prog 183 [(0, psO k c d), (1001, stO s)] [.c (.ptr 0 0), .c (.ptr 1001 0), .c (sS w)] (ruleP w s k) (fun b => .c (sB b)) (fun b => [(0, psO b.2 c d), (1001, stO b.1)]) pvS := by
  have n1 := number_p w ruleW (by decide)
  have n2 := number_p w transW (by decide)
  have a := fun k => (take_x (k := k) (c := c) (d := d) hf).ok _ _ rfl
  have g1 := (numW_le w ruleW).1
  have g2 := (numW_le w transW).1
  unfold ruleP
  generalize numW w ruleW = r at *
  generalize numW w transW = t at *
  unfold ruleW at n1
  unfold transW at n2
  by_cases hr : r = 0
  · subst hr
    by_cases ht : t = 0
    · subst ht
      simp only [Int.lt_irrefl, if_false]
      refine MX.of (fn := Tryz.f183) Tryz.call183 Tryz.func183 rfl Tryz.ntmps183 Tryz.results183 rfl rfl (by intro a; rfl) (by intro b; exact ⟨rfl, by simp [HO.one, okL, C.ok, okA]⟩) ?_
      repeat' (first | (with_reducible first | apply AW.seq | apply AW.block | apply AW.skip | apply AW.ret | apply q_then | apply q_thenR | apply q_thenP | apply q_bloN | apply q_bloR | apply q_bloP | apply y_e | refine v_rgl ?_) | ((with_reducible apply i_dv); first | refine t_v AS.v ?_ | refine t_v (by first | exact u_call (hP := n1) | exact u_call (hP := n2)) ?_ | refine t_c1 (hP := name_x hf) (k1 := fun x k h => ?_) (k2 := fun e h σx => ?_) | refine t_c1 (hP := set_x hf _) (k1 := fun x k h => ?_) (k2 := fun e h σx => ?_) | refine t_c1 (hP := span_x hf) (k1 := fun x k h => ?_) (k2 := fun e h σx => ?_) | refine t_c1 (hP := constraint_x hf _) (k1 := fun x k h => ?_) (k2 := fun e h σx => ?_) | refine t_c2 (hP := pair_x hf _ _) (k1 := fun x k h => ?_) (k2 := fun e h σx => ?_)) | ((with_reducible apply i_ds); refine t_s AS.s ?_) | ((with_reducible refine i_aw ?_); first | refine v_no ?_ | (refine v_cond (fun hc => ?_) (fun hc => ?_))) | ((with_reducible refine i_rx ?_); first | (with_reducible refine x_pan ?_) | refine l_d (k := ?_)) | fail)
      all_goals (first | (refine ⟨_, (_, _), ?_, (by rfl), (by exact le_id rfl), (by exact le_id rfl)⟩; simp_all [ok_bind, err_bind, adv, Lv.zero, Sp.zero, Rg.zero, Ct.zero]; done) | (simp_all [ok_bind, err_bind, adv, Lv.zero, Sp.zero, Rg.zero, Ct.zero]; done) | fail "end")
    · have ht : 0 < t := by omega
      simp only [Int.lt_irrefl, if_false, ht, if_true]
      refine MX.of (fn := Tryz.f183) Tryz.call183 Tryz.func183 rfl Tryz.ntmps183 Tryz.results183 rfl rfl (by intro a; rfl) (by intro b; exact ⟨rfl, by simp [HO.one, okL, C.ok, okA]⟩) ?_
      repeat' (first | (with_reducible first | apply AW.seq | apply AW.skip | apply AW.ret | apply q_then | apply q_thenR | apply q_thenP | apply y_e | refine v_rgl ?_) | ((with_reducible apply i_dv); first | refine t_v AS.v ?_ | refine t_v (by first | exact u_call (hP := n1) | exact u_call (hP := n2) | exact u_call (hP := sobjName_p _) | exact u_eye (hP := next_p)) ?_ | refine t_w AS.w ?_ | refine t_w (by exact u_m1 (hP := a _)) ?_ | refine t_c1 (hP := name_x hf) (k1 := fun x k h => ?_) (k2 := fun e h σx => ?_) | refine t_c2 (hP := pair_x hf _ _) (k1 := fun x k h => ?_) (k2 := fun e h σx => ?_) | refine t_q (hP := fail_q _ _) (k := fun σx => ?_)) | ((with_reducible apply i_dg); refine t_m (hs := fun hg => AS.v) (k := ?_)) | ((with_reducible apply i_ds); refine t_s AS.s ?_) | ((with_reducible refine i_aw ?_); first | refine v_no ?_ | (refine v_cond (fun hc => ?_) (fun hc => ?_); all_goals (try (exfalso; simp [*] at hc; done)))) | ((with_reducible refine i_rx ?_); first | (with_reducible refine x_pan ?_) | refine l_d (k := ?_)) | fail)
      case refine_1.refine_1.refine_1.refine_1.refine_2 =>
        have hk3 : (tk k).kind = 3 := by simp_all
        have ht1 : t = 1 := by simp_all
        have ea : adv (decide ((tk k).kind ≠ 0)) k = nx k := by rw [hk3]; rfl
        rw [ea]
        refine ⟨_, (_, nx k), ?_, rfl, le_id rfl, le_id rfl⟩
        clear ea
        simp_all [ok_bind]
      all_goals (first | (refine ⟨_, (_, _), ?_, (by rfl), (by exact le_id rfl), (by exact le_id rfl)⟩; simp_all [ok_bind, err_bind, adv, Lv.zero, Sp.zero, Rg.zero, Ct.zero]; done) | (simp_all [ok_bind, err_bind, adv, Lv.zero, Sp.zero, Rg.zero, Ct.zero]; done) | fail "end")
  · have hr : 0 < r := by omega
    simp only [hr, if_true]
    refine MX.of (fn := Tryz.f183) Tryz.call183 Tryz.func183 rfl Tryz.ntmps183 Tryz.results183 rfl rfl (by intro a; rfl) (by intro b; exact ⟨rfl, by simp [HO.one, okL, C.ok, okA]⟩) ?_
    repeat' (first | (with_reducible first | apply AW.seq | apply AW.ret | apply q_then | apply q_thenR | apply q_thenP | apply y_e | refine v_rgl ?_) | ((with_reducible apply i_dv); first | refine t_v AS.v ?_ | refine t_v (by exact u_call (hP := n1)) ?_ | refine t_c1 (hP := set_x hf _) (k1 := fun x k h => ?_) (k2 := fun e h σx => ?_) | refine t_c2 (hP := pair_x hf _ _) (k1 := fun x k h => ?_) (k2 := fun e h σx => ?_)) | ((with_reducible apply i_ds); refine t_s AS.s ?_) | ((with_reducible refine i_aw ?_); ((refine v_cond (fun hc => ?_) (fun hc => ?_); all_goals (try (exfalso; simp [*] at hc; done))))) | ((with_reducible refine i_rx ?_); first | (with_reducible refine x_pan ?_) | refine l_d (k := ?_)) | fail)
    all_goals (first | (refine ⟨_, (_, _), ?_, (by rfl), (by exact le_id rfl), (by exact le_id rfl)⟩; simp_all [ok_bind, err_bind, adv, Lv.zero, Sp.zero, Rg.zero, Ct.zero]; done) | (simp_all [ok_bind, err_bind, adv, Lv.zero, Sp.zero, Rg.zero, Ct.zero]; done) | fail "end")
theorem other_x (hf : Fine l) (s : Stm) (w : ByteArray) : MX Tryz.prog 184 [(0, psO k c d), (1001, stO s)] [.c (.ptr 0 0), .c (.ptr 1001 0), .c (sS w)] (otherP w s k) (fun _ => .tup []) (fun b => [(0, psO b.2 c d), (1001, stO b.1)]) pvS := by
  refine MX.of (fn := Tryz.f184) Tryz.call184 Tryz.func184 rfl Tryz.ntmps184 Tryz.results184 rfl rfl (by intro a; rfl) (by intro b; exact ⟨rfl, by simp [HO.one, okL, C.ok, okA]⟩) ?_
  repeat' ((fail_if_success (with_reducible refine reg_at 4 ?_)); (fail_if_success (with_reducible refine reg_at 19 ?_)); (first | (with_reducible first | apply AW.seq | apply AW.block | apply AW.skip | apply q_then | apply q_thenP | apply q_bloN | apply q_bloP | apply y_e | refine v_rgl ?_) | ((with_reducible apply i_dv); first | refine t_v AS.v ?_ | refine t_c1 (hP := choose_x hf _ (by decide)) (k1 := fun x k h => ?_) (k2 := fun e h σx => ?_) | refine t_c1 (hP := name_x hf) (k1 := fun x k h => ?_) (k2 := fun e h σx => ?_) | refine t_c1 (hP := set_x hf _) (k1 := fun x k h => ?_) (k2 := fun e h σx => ?_) | refine t_c1 (hP := context_x hf) (k1 := fun x k h => ?_) (k2 := fun e h σx => ?_) | refine t_c1 (hP := text_x hf) (k1 := fun x k h => ?_) (k2 := fun e h σx => ?_)) | ((with_reducible apply i_ds); refine t_s AS.s ?_) | ((with_reducible refine i_aw ?_); ((refine v_cond (fun hc => ?_) (fun hc => ?_)))) | ((with_reducible refine i_rx ?_); first | (with_reducible refine x_pan ?_) | refine l_d0 (k := ?_)) | fail))
  case refine_1.refine_1 =>
    have hb := choose_ok hf h
    have hb1 := hb.1
    have hb2 : x < 8 := hb.2.1
    rw [wrap64 (by omega) (by omega)]
    clear hb
    by_cases hx : x = 0
    · subst hx
      repeat' (first | (with_reducible first | apply AW.seq | apply q_then | apply q_bloN | apply q_bloP | apply y_e | refine v_rgl ?_) | ((with_reducible apply i_dv); first | refine t_v AS.v ?_ | refine t_c1 (hP := name_x hf) (k1 := fun x k h => ?_) (k2 := fun e h σx => ?_) | refine t_c1 (hP := braced_x hf) (k1 := fun x k h => ?_) (k2 := fun e h σx => ?_)) | ((with_reducible apply i_ds); refine t_s AS.s ?_) | ((with_reducible refine i_aw ?_); refine v_yes ?_) | ((with_reducible refine i_rx ?_); first | (with_reducible refine x_pan ?_) | refine l_d0 (k := ?_)) | fail)
      all_goals (first | (refine ⟨(), (_, _), ?_, (by rfl), (by exact le_id rfl), (by exact le_id rfl)⟩; simp_all [otherP, symW, ok_bind, err_bind, adv, Lv.zero, Sp.zero, Rg.zero, Ct.zero]; done) | (simp_all [otherP, symW, ok_bind, err_bind, adv, Lv.zero, Sp.zero, Rg.zero, Ct.zero]; done) | fail "end")
    · repeat' (first | (with_reducible first | apply AW.seq | apply q_then | apply q_bloN | apply q_bloP | apply y_e | refine v_rgl ?_) | ((with_reducible apply i_dv); first | refine t_v AS.v ?_ | refine t_c1 (hP := listed_x hf) (k1 := fun x k h => ?_) (k2 := fun e h σx => ?_)) | ((with_reducible apply i_ds); refine t_s AS.s ?_) | ((with_reducible refine i_aw ?_); ((refine v_cond (fun hc => ?_) (fun hc => ?_); all_goals (try (exfalso; revert hc; simp; omega))))) | ((with_reducible refine i_rx ?_); first | (with_reducible refine x_pan ?_) | refine l_d0 (k := ?_)) | fail)
      all_goals (first | (refine ⟨(), (_, _), ?_, (by rfl), (by exact le_id rfl), (by exact le_id rfl)⟩; simp_all [otherP, symW, ok_bind, err_bind, adv, Lv.zero, Sp.zero, Rg.zero, Ct.zero]; done) | (simp_all [otherP, symW, ok_bind, err_bind, adv, Lv.zero, Sp.zero, Rg.zero, Ct.zero]; done) | fail "end")
  case refine_2.refine_2.refine_2.refine_2.refine_1.refine_1.refine_1 =>
    have hb := choose_ok hf h
    have hb1 := hb.1
    have hb2 : x < 3 := hb.2.1
    rw [wrap64 (by omega) (by omega)]
    clear hb
    repeat' (first | (with_reducible first | apply AW.seq | apply q_then | apply q_thenP | apply q_bloN | apply q_bloP | apply y_e | refine v_rgl ?_) | ((with_reducible apply i_dv); first | refine t_v AS.v ?_ | refine t_c1 (hP := set_x hf _) (k1 := fun x k h => ?_) (k2 := fun e h σx => ?_)) | ((with_reducible apply i_ds); refine t_s AS.s ?_) | ((with_reducible refine i_rx ?_); first | (with_reducible refine x_pan ?_) | refine l_d0 (k := ?_)) | fail)
    all_goals (first | (refine ⟨(), (_, _), ?_, (by rfl), (by exact le_id rfl), (by exact le_id rfl)⟩; simp_all [otherP, asrW, ok_bind, err_bind, adv, Lv.zero, Sp.zero, Rg.zero, Ct.zero]; done) | (simp_all [otherP, asrW, ok_bind, err_bind, adv, Lv.zero, Sp.zero, Rg.zero, Ct.zero]; done) | fail "end")
  all_goals (first | (refine ⟨(), (_, _), ?_, (by rfl), (by exact le_id rfl), (by exact le_id rfl)⟩; simp_all [otherP, symW, fileW, asrW, ok_bind, err_bind, adv, Lv.zero, Sp.zero, Rg.zero, Ct.zero]; done) | (simp_all [otherP, symW, fileW, asrW, ok_bind, err_bind, adv, Lv.zero, Sp.zero, Rg.zero, Ct.zero]; done) | fail "end")
end
end Am
end Go.Proofs.YtkpodagbefnebaaGreatDoor
