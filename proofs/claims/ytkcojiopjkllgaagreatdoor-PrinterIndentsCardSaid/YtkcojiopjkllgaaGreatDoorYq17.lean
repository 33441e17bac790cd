import Derived.Test.YtkcojiopjkllgaaGreatDoorYq16
import Derived.Test.YtkcojiopjkllgaaGreatDoorYq15
set_option linter.unusedSimpArgs false
set_option linter.unusedVariables false
set_option linter.unusedSectionVars false
namespace Go.Proofs.YtkcojiopjkllgaaGreatDoor
namespace Am
open Tk
set_option maxRecDepth 100000
set_option maxHeartbeats 4000000
theorem indT_succ (n : Nat) : indT (n + 1) = indT n ++ ⟨#[32, 32]⟩ := by
  unfold indT repT
  apply ByteArray.ext
  rw [ByteArray.data_append]
  apply Array.ext'
  rw [Array.toList_append]
  show Lib.repeatL [32, 32] (n + 1) = Lib.repeatL [32, 32] n ++ [32, 32]
  induction n with
  | zero => rfl
  | succ n ih =>
    have h : ∀ m, Lib.repeatL ([32, 32] : List UInt8) (m + 1) = [32, 32] ++ Lib.repeatL [32, 32] m := fun m => rfl
    rw [h (n + 1), ih, ← List.append_assoc, ← h n, ih]
theorem qindent_p {n : Nat} (hn : n ≤ 70368744177664) : Pure Tryz.prog 88 [.c (sI n)] (.c (sS (indT n))) := by
  refine fn1 (fn := Tryz.f88) Tryz.call88 Tryz.func88 rfl Tryz.ntmps88 Tryz.results88 rfl (by first | rfl | simp [V.ok, okL, C.ok, okA, okV]) ?_
  repeat' (first | (with_reducible first | apply AW.seq | apply AW.block | apply AW.scope | apply AW.skip | apply AW.ret | apply AW.exit | apply AW.label | apply q_then | apply q_thenR | apply q_thenE | apply q_bloN | apply q_bloR | apply q_bloE | apply q_strN | apply q_strR | apply q_strE | apply s_e | refine m_b rfl ?_ ?_ | refine m_g rfl ?_ | refine m_o rfl ?_ ?_ | refine v_reg ?_ | refine v_drw ?_ | refine v_rgl ?_ | refine v_drb ?_) | ((with_reducible apply i_dv); first | refine t_v AS.v ?_ | refine t_w AS.w ?_) | ((with_reducible apply i_dg); first | refine t_n ?_ | refine t_m (hs := fun hg => AS.v) (k := ?_) | refine t_f ?_) | ((with_reducible apply i_ds); first | refine t_s AS.s ?_) | ((with_reducible refine i_aw ?_); first | refine v_yes ?_ | refine v_no ?_ | (refine v_cond (fun hc => ?_) (fun hc => ?_); all_goals (try (exfalso; simp [*] at hc; done)); all_goals (try (exfalso; revert hc; simp; omega)))) | ((with_reducible refine i_rt ?_); first | refine k_b ?_ | refine k_s ?_ | refine k_i ?_ | refine k_v ?_ | refine k_c ?_ | exact r_0 | exact r_0n | ((first | refine k_2 ?_ ?_ | refine k_2c ?_ ?_); all_goals (with_reducible (first | apply un_b | apply un_i | apply un_s | apply un_a)))) | ((with_reducible apply al_id); dsimp only [List.append]) | (refine q_bloX rfl ?_) | (refine ⟨by decide +kernel, ?_⟩) | fail)
  refine AW.loop (fun m σ => ∃ j, m = n - j ∧ j ≤ n ∧ σ = mk [(0, .c (sI n)), (3, .c (sS (indT j))), (4, .c (sI j))] []) n ?_ ?_
  · exact ⟨_, wk_mk (by (repeat (first | exact all_nil | ((refine all_cons ⟨_, rfl, .inl rfl, ?_⟩ ?_); (· (first | rfl | exact okRow rfl | (simp [V.ok, okL, C.ok, okA, HO.ok]; done) | (change okL _ _ = true; assumption)))))); done) (by (repeat (first | exact all_nil | ((refine all_cons ⟨_, rfl, .inl rfl, ?_⟩ ?_); (· (first | rfl | exact okRow rfl | (simp [V.ok, okL, C.ok, okA, HO.ok]; done) | (change okL _ _ = true; assumption)))))); done) (by exact fun h => h), 0, rfl, Nat.zero_le _, rfl⟩
  rintro m σ ⟨j, rfl, hj, rfl⟩
  by_cases hlt : j < n
  · have hs := indT_size j
    have e := indT_succ j
    repeat' (first | (with_reducible first | apply AW.seq | apply AW.block | apply AW.scope | apply AW.skip | apply AW.ret | apply AW.exit | apply AW.label | apply q_then | apply q_thenR | apply q_thenE | apply q_bloN | apply q_bloR | apply q_bloE | apply q_strN | apply q_strR | apply q_strE | apply s_e | refine m_b rfl ?_ ?_ | refine m_g rfl ?_ | refine m_o rfl ?_ ?_ | refine v_reg ?_ | refine v_drw ?_ | refine v_rgl ?_ | refine v_drb ?_) | ((with_reducible apply i_dv); first | refine t_v AS.v ?_ | refine t_w AS.w ?_) | ((with_reducible apply i_dg); first | refine t_n ?_ | refine t_m (hs := fun hg => AS.v) (k := ?_) | refine t_f ?_) | ((with_reducible apply i_ds); first | refine t_s AS.s ?_) | ((with_reducible refine i_aw ?_); first | refine v_yes ?_ | refine v_no ?_ | (refine v_cond (fun hc => ?_) (fun hc => ?_); all_goals (try (exfalso; simp [*] at hc; done)); all_goals (try (exfalso; revert hc; simp; omega)))) | ((with_reducible refine i_rt ?_); first | refine k_b ?_ | refine k_s ?_ | refine k_i ?_ | refine k_v ?_ | refine k_c ?_ | exact r_0 | exact r_0n | ((first | refine k_2 ?_ ?_ | refine k_2c ?_ ?_); all_goals (with_reducible (first | apply un_b | apply un_i | apply un_s | apply un_a)))) | ((with_reducible apply al_id); dsimp only [List.append]) | (refine q_bloX rfl ?_) | (refine ⟨by decide +kernel, ?_⟩) | fail)
    rw [← e]
    exact ⟨_, _, (show n - (j + 1) < n - j by omega), wk_mk (by (repeat (first | exact all_nil | ((refine all_cons ⟨_, rfl, .inl rfl, ?_⟩ ?_); (· (first | rfl | exact okRow rfl | (simp [V.ok, okL, C.ok, okA, HO.ok]; done) | (change okL _ _ = true; assumption)))))); done) (by (repeat (first | exact all_nil | ((refine all_cons ⟨_, rfl, .inl rfl, ?_⟩ ?_); (· (first | rfl | exact okRow rfl | (simp [V.ok, okL, C.ok, okA, HO.ok]; done) | (change okL _ _ = true; assumption)))))); done) (by exact fun h => h), j + 1, rfl, hlt, rfl⟩
  · obtain rfl : j = n := by omega
    repeat' (first | (with_reducible first | apply AW.seq | apply AW.block | apply AW.scope | apply AW.skip | apply AW.ret | apply AW.exit | apply AW.label | apply q_then | apply q_thenR | apply q_thenE | apply q_bloN | apply q_bloR | apply q_bloE | apply q_strN | apply q_strR | apply q_strE | apply s_e | refine m_b rfl ?_ ?_ | refine m_g rfl ?_ | refine m_o rfl ?_ ?_ | refine v_reg ?_ | refine v_drw ?_ | refine v_rgl ?_ | refine v_drb ?_) | ((with_reducible apply i_dv); first | refine t_v AS.v ?_ | refine t_w AS.w ?_) | ((with_reducible apply i_dg); first | refine t_n ?_ | refine t_m (hs := fun hg => AS.v) (k := ?_) | refine t_f ?_) | ((with_reducible apply i_ds); first | refine t_s AS.s ?_) | ((with_reducible refine i_aw ?_); first | refine v_yes ?_ | refine v_no ?_ | (refine v_cond (fun hc => ?_) (fun hc => ?_); all_goals (try (exfalso; simp [*] at hc; done)); all_goals (try (exfalso; revert hc; simp; omega)))) | ((with_reducible refine i_rt ?_); first | refine k_b ?_ | refine k_s ?_ | refine k_i ?_ | refine k_v ?_ | refine k_c ?_ | exact r_0 | exact r_0n | ((first | refine k_2 ?_ ?_ | refine k_2c ?_ ?_); all_goals (with_reducible (first | apply un_b | apply un_i | apply un_s | apply un_a)))) | ((with_reducible apply al_id); dsimp only [List.append]) | (refine q_bloX rfl ?_) | (refine ⟨by decide +kernel, ?_⟩) | fail)
    rfl
theorem qblock_m {l : List Stm} {lv : Nat} (h : ∀ x ∈ l, (stT lv x).size ≤ 70368744177664 → Pure Tryz.prog 45 [.agg (stC x), .c (sI lv)] (.c (sS (stT lv x)))) (hb : (blkT lv l).size ≤ 70368744177664) :
    Pure Tryz.prog 39 [.c (.lst none 55 (l.map stC)), .c (sI lv)] (.c (sS (⟨#[10]⟩ ++ blkT lv l))) := by
  refine fn2 (fn := Tryz.f39) Tryz.call39 Tryz.func39 rfl Tryz.ntmps39 Tryz.results39 rfl (by first | rfl | simp [V.ok, okL, C.ok, okA, okV]) ?_
  refine AW.fact (t := 0) rfl (fun κ w x hr => repV_l hr) fun hn => ?_
  repeat' (first | (with_reducible first | apply AW.seq | apply AW.block | apply AW.scope | apply AW.skip | apply AW.ret | apply AW.exit | apply AW.label | apply q_then | apply q_thenR | apply q_thenE | apply q_bloN | apply q_bloR | apply q_bloE | apply q_strN | apply q_strR | apply q_strE | apply s_e | refine m_b rfl ?_ ?_ | refine m_g rfl ?_ | refine m_o rfl ?_ ?_ | refine v_reg ?_ | refine v_drw ?_ | refine v_rgl ?_ | refine v_drb ?_) | ((with_reducible apply i_dv); first | refine t_v AS.v ?_ | refine t_w AS.w ?_) | ((with_reducible apply i_dg); first | refine t_n ?_ | refine t_m (hs := fun hg => AS.v) (k := ?_) | refine t_f ?_) | ((with_reducible apply i_ds); first | refine t_s AS.s ?_) | ((with_reducible refine i_aw ?_); first | refine v_yes ?_ | refine v_no ?_ | (refine v_cond (fun hc => ?_) (fun hc => ?_); all_goals (try (exfalso; simp [*] at hc; done)); all_goals (try (exfalso; revert hc; simp; omega)))) | ((with_reducible refine i_rt ?_); first | refine k_b ?_ | refine k_s ?_ | refine k_i ?_ | refine k_v ?_ | refine k_c ?_ | exact r_0 | exact r_0n | ((first | refine k_2 ?_ ?_ | refine k_2c ?_ ?_); all_goals (with_reducible (first | apply un_b | apply un_i | apply un_s | apply un_a)))) | ((with_reducible apply al_id); dsimp only [List.append]) | (refine q_bloX rfl ?_) | (refine ⟨by decide +kernel, ?_⟩) | fail)
  refine AW.loop (fun n σ => ∃ j, n = l.length - j ∧ j ≤ l.length ∧ σ = mk [(0, .c (.lst none 55 (l.map stC))), (1, .c (sI lv)), (5, .c (sS (⟨#[10]⟩ ++ blkT lv (l.take j)))), (6, .c (sI j))] []) l.length ?_ ?_
  · have e : (⟨#[10]⟩ : ByteArray) ++ blkT lv (l.take 0) = ⟨#[10]⟩ := by rw [List.take_zero, blkT, ba_nil]
    refine ⟨_, ?_, 0, rfl, Nat.zero_le _, rfl⟩
    rw [e]
    exact wk_mk (by (repeat (first | exact all_nil | ((refine all_cons ⟨_, rfl, .inl rfl, ?_⟩ ?_); (· (first | rfl | exact okRow rfl | (simp [V.ok, okL, C.ok, okA, HO.ok]; done) | (change okL _ _ = true; assumption)))))); done) (by (repeat (first | exact all_nil | ((refine all_cons ⟨_, rfl, .inl rfl, ?_⟩ ?_); (· (first | rfl | exact okRow rfl | (simp [V.ok, okL, C.ok, okA, HO.ok]; done) | (change okL _ _ = true; assumption)))))); done) (by exact fun h => h)
  rintro n σ ⟨j, rfl, hj, rfl⟩
  by_cases hlt : j < l.length
  · obtain ⟨x, hx⟩ : ∃ x, l[j]? = some x := ⟨_, List.getElem?_eq_getElem hlt⟩
    have hle := blk_le (lv := lv) l (j + 1)
    have e1 := blk_step (lv := lv) hx
    rw [e1, ByteArray.size_append, ByteArray.size_append] at hle
    have h1 : ByteArray.size ⟨#[10]⟩ = 1 := rfl
    have hp := h x (List.mem_of_getElem? hx) (by omega)
    repeat' (first | (with_reducible first | apply AW.seq | apply AW.block | apply AW.scope | apply AW.skip | apply AW.ret | apply AW.exit | apply AW.label | apply q_then | apply q_thenR | apply q_thenE | apply q_bloN | apply q_bloR | apply q_bloE | apply q_strN | apply q_strR | apply q_strE | apply s_e | refine m_b rfl ?_ ?_ | refine m_g rfl ?_ | refine m_o rfl ?_ ?_ | refine v_reg ?_ | refine v_drw ?_ | refine v_rgl ?_ | refine v_drb ?_) | ((with_reducible apply i_dv); first | refine t_v AS.v ?_ | refine t_v (by first | exact u_call (hP := hp)) ?_ | refine t_w AS.w ?_) | ((with_reducible apply i_dg); first | refine t_n ?_ | refine t_m (hs := fun hg => AS.v) (k := ?_) | refine t_m (hs := fun hg => (by first | exact u_call (hP := hp))) (k := ?_) | refine t_f ?_) | ((with_reducible apply i_ds); first | refine t_s AS.s ?_) | ((with_reducible refine i_aw ?_); first | refine v_yes ?_ | refine v_no ?_ | (refine v_cond (fun hc => ?_) (fun hc => ?_); all_goals (try (exfalso; simp [*] at hc; done)); all_goals (try (exfalso; revert hc; simp; omega)))) | ((with_reducible refine i_rt ?_); first | refine k_b ?_ | refine k_s ?_ | refine k_i ?_ | refine k_v ?_ | refine k_c ?_ | exact r_0 | exact r_0n | ((first | refine k_2 ?_ ?_ | refine k_2c ?_ ?_); all_goals (with_reducible (first | apply un_b | apply un_i | apply un_s | apply un_a)))) | ((with_reducible apply al_id); dsimp only [List.append]) | (refine q_bloX rfl ?_) | (refine ⟨by decide +kernel, ?_⟩) | fail)
    have e : (⟨#[10]⟩ : ByteArray) ++ blkT lv (l.take j) ++ stT lv x ++ ⟨#[10]⟩ = ⟨#[10]⟩ ++ blkT lv (l.take (j + 1)) := by rw [e1]; simp only [ByteArray.append_assoc]
    rw [e]
    exact ⟨_, _, (show l.length - (j + 1) < l.length - j by omega), wk_mk (by (repeat (first | exact all_nil | ((refine all_cons ⟨_, rfl, .inl rfl, ?_⟩ ?_); (· (first | rfl | exact okRow rfl | (simp [V.ok, okL, C.ok, okA, HO.ok]; done) | (change okL _ _ = true; assumption)))))); done) (by (repeat (first | exact all_nil | ((refine all_cons ⟨_, rfl, .inl rfl, ?_⟩ ?_); (· (first | rfl | exact okRow rfl | (simp [V.ok, okL, C.ok, okA, HO.ok]; done) | (change okL _ _ = true; assumption)))))); done) (by exact fun h => h), j + 1, rfl, hlt, rfl⟩
  · rw [List.take_of_length_le (by omega)]
    repeat' (first | (with_reducible first | apply AW.seq | apply AW.block | apply AW.scope | apply AW.skip | apply AW.ret | apply AW.exit | apply AW.label | apply q_then | apply q_thenR | apply q_thenE | apply q_bloN | apply q_bloR | apply q_bloE | apply q_strN | apply q_strR | apply q_strE | apply s_e | refine m_b rfl ?_ ?_ | refine m_g rfl ?_ | refine m_o rfl ?_ ?_ | refine v_reg ?_ | refine v_drw ?_ | refine v_rgl ?_ | refine v_drb ?_) | ((with_reducible apply i_dv); first | refine t_v AS.v ?_ | refine t_w AS.w ?_) | ((with_reducible apply i_dg); first | refine t_n ?_ | refine t_m (hs := fun hg => AS.v) (k := ?_) | refine t_f ?_) | ((with_reducible apply i_ds); first | refine t_s AS.s ?_) | ((with_reducible refine i_aw ?_); first | refine v_yes ?_ | refine v_no ?_ | (refine v_cond (fun hc => ?_) (fun hc => ?_); all_goals (try (exfalso; simp [*] at hc; done)); all_goals (try (exfalso; revert hc; simp; omega)))) | ((with_reducible refine i_rt ?_); first | refine k_b ?_ | refine k_s ?_ | refine k_i ?_ | refine k_v ?_ | refine k_c ?_ | exact r_0 | exact r_0n | ((first | refine k_2 ?_ ?_ | refine k_2c ?_ ?_); all_goals (with_reducible (first | apply un_b | apply un_i | apply un_s | apply un_a)))) | ((with_reducible apply al_id); dsimp only [List.append]) | (refine q_bloX rfl ?_) | (refine ⟨by decide +kernel, ?_⟩) | fail)
    rfl
theorem lit2 (a b : List UInt8) : (⟨a.toArray⟩ : ByteArray) ++ ⟨b.toArray⟩ = ⟨(a ++ b).toArray⟩ := by
  apply ByteArray.ext; simp [ByteArray.data_append]
theorem head_if {s : Stm} (k : s.kind = 17) : headT s = ⟨#[105, 102, 32]⟩ ++ btT s.cond 0 ++ ⟨#[32, 123]⟩ ++ ⟨#[10]⟩ := by
  unfold headT
  rw [if_pos k]
  simp only [sepB, tlB, ba_nil, ByteArray.append_assoc]
  rw [show (⟨#[105, 102, 32]⟩ : ByteArray) = ⟨#[105, 102]⟩ ++ ⟨#[32]⟩ from (lit2 [105, 102] [32]).symm, show (⟨#[32, 123]⟩ : ByteArray) = ⟨#[32]⟩ ++ ⟨#[123]⟩ from (lit2 [32] [123]).symm, show (⟨#[123, 10]⟩ : ByteArray) = ⟨#[123]⟩ ++ ⟨#[10]⟩ from (lit2 [123] [10]).symm]
  simp only [ByteArray.append_assoc]
theorem head_opt {s : Stm} (k : s.kind = 18) : headT s = ⟨#[111, 112, 116, 105, 111, 110, 97, 108, 32, 123]⟩ ++ ⟨#[10]⟩ := by
  unfold headT
  rw [if_neg (by omega)]
  simp only [sepB, tlB, ba_nil]
  rfl
theorem else_lit : (⟨#[32, 101, 108, 115, 101, 32, 123, 10]⟩ : ByteArray) = ⟨#[32, 101, 108, 115, 101, 32, 123]⟩ ++ ⟨#[10]⟩ := (lit2 [32, 101, 108, 115, 101, 32, 123] [10]).symm
theorem empty_fm {s : Stm} (h : fmB s = true) (k : s.kind = 5) : emptyB s.source = !namedB s.source false := by
  rw [fm_well] at h
  unfold wellH at h
  rw [Bool.and_eq_true] at h
  have h := h.1
  simp only [k, Int.reduceEq, or_true, true_or, or_self, or_false, false_or, if_true, ↓reduceIte, declQ, if_false, Bool.and_eq_true] at h
  have h2 := h.2
  revert h2
  cases hn : namedB s.source false with
  | true =>
    intro _
    cases he : emptyB s.source with
    | false => rfl
    | true =>
      exfalso
      simp [emptyB] at he
      simp [namedB, he] at hn
  | false =>
    intro h2
    simpa using h2
theorem qstatement_n : ∀ (n : Nat) (s : Stm), SizeOf.sizeOf s < n → stW s → fmB s = true → ∀ (lv : Nat), (stT lv s).size ≤ 70368744177664 → Pure Tryz.prog 45 [.agg (stC s), .c (sI lv)] (.c (sS (stT lv s)))
  | 0, _, h, _, _, _, _ => absurd h (Nat.not_lt_zero _)
  | n + 1, s, h, hW, hf, lv, hb => by
    have hfw := hf
    rw [fm_well] at hfw
    have hemp := empty_fm hf
    rw [stW_eq] at hW
    obtain ⟨⟨hr, hbd, hc2⟩, w1, w2⟩ := hW
    rw [stT_eq] at hb ⊢
    have hlv : lv ≤ 70368744177664 := by
      have := indT_size lv
      unfold stH at hb
      split at hb <;> simp only [ByteArray.size_append] at hb <;> omega
    have hind := qindent_p hlv
    by_cases hp : s.kind ≠ 17 ∧ s.kind ≠ 18
    · have e1 : stH lv s (blkT (lv + 1) s.thn) (blkT (lv + 1) s.els) = indT lv ++ (lineT s ++ ⟨#[59]⟩) := by unfold stH; rw [if_pos hp]
      rw [e1] at hb ⊢
      simp only [ByteArray.size_append, ba_size, List.size_toArray, List.length_cons, List.length_nil] at hb
      have hrk := hr hp.1 hp.2
      have hkk := hrk.rk
      obtain ⟨p1, p2⟩ := hp
      by_cases hrule : s.kind = 6 ∨ s.kind = 7 ∨ s.kind = 12 ∨ s.kind = 13 ∨ s.kind = 14 ∨ s.kind = 15 ∨ s.kind = 16 ∨ s.kind = 21 ∨ s.kind = 22
      · have hl := qruled_p hrule hrk hbd
        clear hr hbd hc2 w1 w2 e1 h hfw hemp hrk
        rcases hrule with k | k | k | k | k | k | k | k | k
        all_goals
          refine fn2 (fn := Tryz.f45) Tryz.call45 Tryz.func45 rfl Tryz.ntmps45 Tryz.results45 rfl (by first | rfl | simp [V.ok, okL, C.ok, okA, okV]) ?_
          repeat' (first | (with_reducible first | apply AW.seq | apply AW.block | apply AW.scope | apply AW.skip | apply AW.ret | apply AW.exit | apply AW.label | apply q_then | apply q_thenR | apply q_thenE | apply q_bloN | apply q_bloR | apply q_bloE | apply q_strN | apply q_strR | apply q_strE | apply s_e | refine m_b rfl ?_ ?_ | refine m_g rfl ?_ | refine m_o rfl ?_ ?_ | refine v_reg ?_ | refine v_drw ?_ | refine v_rgl ?_ | refine v_drb ?_) | ((with_reducible apply i_dv); first | refine t_v AS.v ?_ | refine t_v (by first | exact u_call (hP := hind) | exact u_call (hP := hl)) ?_ | refine t_w AS.w ?_) | ((with_reducible apply i_dg); first | refine t_n ?_ | refine t_m (hs := fun hg => AS.v) (k := ?_) | refine t_m (hs := fun hg => (by first | exact u_call (hP := hind) | exact u_call (hP := hl))) (k := ?_) | refine t_f ?_) | ((with_reducible apply i_ds); first | refine t_s AS.s ?_) | ((with_reducible refine i_aw ?_); first | refine v_yes ?_ | refine v_no ?_ | (refine v_cond (fun hc => ?_) (fun hc => ?_); all_goals (try (exfalso; simp [*] at hc; done)); all_goals (try (exfalso; revert hc; simp; omega)))) | ((with_reducible refine i_rt ?_); first | refine k_b ?_ | refine k_s ?_ | refine k_i ?_ | refine k_v ?_ | refine k_c ?_ | exact r_0 | exact r_0n | ((first | refine k_2 ?_ ?_ | refine k_2c ?_ ?_); all_goals (with_reducible (first | apply un_b | apply un_i | apply un_s | apply un_a)))) | ((with_reducible apply al_id); dsimp only [List.append]) | (refine q_bloX rfl ?_) | (refine ⟨by decide +kernel, ?_⟩) | fail)
          simp only [ByteArray.append_assoc]
      · have hl := qdeclared_p (s := s) (by unfold declK; omega) hemp hrk hbd
        clear hr hbd hc2 w1 w2 e1 h hfw hemp hrk
        simp only [not_or] at hrule
        obtain ⟨k1, k2, k3, k4, k5, k6, k7, k8, k9⟩ := hrule
        refine fn2 (fn := Tryz.f45) Tryz.call45 Tryz.func45 rfl Tryz.ntmps45 Tryz.results45 rfl (by first | rfl | simp [V.ok, okL, C.ok, okA, okV]) ?_
        repeat' (first | (with_reducible first | apply AW.seq | apply AW.block | apply AW.scope | apply AW.skip | apply AW.ret | apply AW.exit | apply AW.label | apply q_then | apply q_thenR | apply q_thenE | apply q_bloN | apply q_bloR | apply q_bloE | apply q_strN | apply q_strR | apply q_strE | apply s_e | refine m_b rfl ?_ ?_ | refine m_g rfl ?_ | refine m_o rfl ?_ ?_ | refine v_reg ?_ | refine v_drw ?_ | refine v_rgl ?_ | refine v_drb ?_) | ((with_reducible apply i_dv); first | refine t_v AS.v ?_ | refine t_v (by first | exact u_call (hP := hind) | exact u_call (hP := hl)) ?_ | refine t_w AS.w ?_) | ((with_reducible apply i_dg); first | refine t_n ?_ | refine t_m (hs := fun hg => AS.v) (k := ?_) | refine t_m (hs := fun hg => (by first | exact u_call (hP := hind) | exact u_call (hP := hl))) (k := ?_) | refine t_f ?_) | ((with_reducible apply i_ds); first | refine t_s AS.s ?_) | ((with_reducible refine i_aw ?_); first | refine v_yes ?_ | refine v_no ?_ | (refine v_cond (fun hc => ?_) (fun hc => ?_); all_goals (try (exfalso; simp [*] at hc; done)); all_goals (try (exfalso; revert hc; simp; omega)))) | ((with_reducible refine i_rt ?_); first | refine k_b ?_ | refine k_s ?_ | refine k_i ?_ | refine k_v ?_ | refine k_c ?_ | exact r_0 | exact r_0n | ((first | refine k_2 ?_ ?_ | refine k_2c ?_ ?_); all_goals (with_reducible (first | apply un_b | apply un_i | apply un_s | apply un_a)))) | ((with_reducible apply al_id); dsimp only [List.append]) | (refine q_bloX rfl ?_) | (refine ⟨by decide +kernel, ?_⟩) | fail)
        simp only [ByteArray.append_assoc]
    have hk : s.kind = 17 ∨ s.kind = 18 := by omega
    have hall : s.thn.all fmB = true ∧ s.els.all fmB = true := by
      unfold wellH at hfw
      rw [Bool.and_eq_true] at hfw
      have hf := hfw.1
      rcases hk with k | k
      · simp only [k, Int.reduceEq, or_self, if_false, if_true, Bool.and_eq_true] at hf
        exact ⟨hf.1.2, hf.2⟩
      · simp only [k, Int.reduceEq, or_self, if_false, if_true, Bool.and_eq_true] at hf
        exact ⟨hf.1.2, hf.2⟩
    have i1 : (blkT (lv + 1) s.thn).size ≤ 70368744177664 → Pure Tryz.prog 39 [.c (.lst none 55 (s.thn.map stC)), .c (sI ((lv : Int) + 1))] (.c (sS (⟨#[10]⟩ ++ blkT (lv + 1) s.thn))) := fun hb =>
      qblock_m (lv := lv + 1) (fun x hx hb' => qstatement_n n x (by have := thn_lt hx; omega) (w1 x hx) (List.all_eq_true.1 hall.1 x hx) (lv + 1) hb') hb
    have i2 : (blkT (lv + 1) s.els).size ≤ 70368744177664 → Pure Tryz.prog 39 [.c (.lst none 55 (s.els.map stC)), .c (sI ((lv : Int) + 1))] (.c (sS (⟨#[10]⟩ ++ blkT (lv + 1) s.els))) := fun hb =>
      qblock_m (lv := lv + 1) (fun x hx hb' => qstatement_n n x (by have := els_lt hx; omega) (w2 x hx) (List.all_eq_true.1 hall.2 x hx) (lv + 1) hb') hb
    have hq : stH lv s (blkT (lv + 1) s.thn) (blkT (lv + 1) s.els) = indT lv ++ headT s ++ blkT (lv + 1) s.thn ++ indT lv ++ ⟨#[125]⟩ ++ (if 0 < s.els.length then ⟨#[32, 101, 108, 115, 101, 32, 123, 10]⟩ ++ blkT (lv + 1) s.els ++ indT lv ++ ⟨#[125]⟩ else ⟨#[]⟩) := by unfold stH; rw [if_neg hp]
    rw [hq, else_lit] at hb
    rw [hq, else_lit]
    have ht : s.kind = 17 → Pure Tryz.prog 89 [.agg (exC s.cond)] (.tup [.c (sS (btT s.cond 0)), .c (sI 0)]) := fun k => qText_p (hc2 k) (by have := hbd.cond2 (hc2 k); omega)
    clear hq hr hbd hc2 w1 w2 h hp hfw hemp hf
    rcases hk with k | k
    · rw [head_if k] at hb ⊢
      have ht := ht k
      by_cases he : 0 < s.els.length
      · rw [if_pos he] at hb ⊢
        simp only [ByteArray.size_append, ba_size, List.size_toArray, List.length_cons, List.length_nil] at hb
        have i1 := i1 (by omega)
        have i2 := i2 (by omega)
        refine fn2 (fn := Tryz.f45) Tryz.call45 Tryz.func45 rfl Tryz.ntmps45 Tryz.results45 rfl (by first | rfl | simp [V.ok, okL, C.ok, okA, okV]) ?_
        repeat' (first | (with_reducible first | apply AW.seq | apply AW.block | apply AW.scope | apply AW.skip | apply AW.ret | apply AW.exit | apply AW.label | apply q_then | apply q_thenR | apply q_thenE | apply q_bloN | apply q_bloR | apply q_bloE | apply q_strN | apply q_strR | apply q_strE | apply s_e | refine m_b rfl ?_ ?_ | refine m_g rfl ?_ | refine m_o rfl ?_ ?_ | refine v_reg ?_ | refine v_drw ?_ | refine v_rgl ?_ | refine v_drb ?_) | ((with_reducible apply i_dv); first | refine t_v AS.v ?_ | refine t_v (by first | exact u_call (hP := hind) | exact u_call (hP := ht) | exact u_call (hP := i1) | exact u_call (hP := i2)) ?_ | refine t_w AS.w ?_) | ((with_reducible apply i_dg); first | refine t_n ?_ | refine t_m (hs := fun hg => AS.v) (k := ?_) | refine t_m (hs := fun hg => (by first | exact u_call (hP := hind) | exact u_call (hP := ht) | exact u_call (hP := i1) | exact u_call (hP := i2))) (k := ?_) | refine t_f ?_) | ((with_reducible apply i_ds); first | refine t_s AS.s ?_) | ((with_reducible refine i_aw ?_); first | refine v_yes ?_ | refine v_no ?_ | (refine v_cond (fun hc => ?_) (fun hc => ?_); all_goals (try (exfalso; simp [*] at hc; done)); all_goals (try (exfalso; revert hc; simp; omega)))) | ((with_reducible refine i_rt ?_); first | refine k_b ?_ | refine k_s ?_ | refine k_i ?_ | refine k_v ?_ | refine k_c ?_ | exact r_0 | exact r_0n | ((first | refine k_2 ?_ ?_ | refine k_2c ?_ ?_); all_goals (with_reducible (first | apply un_b | apply un_i | apply un_s | apply un_a)))) | ((with_reducible apply al_id); dsimp only [List.append]) | (refine q_bloX rfl ?_) | (refine ⟨by decide +kernel, ?_⟩) | fail)
        all_goals (simp only [ByteArray.append_assoc])
      · rw [if_neg he] at hb ⊢
        simp only [ByteArray.size_append, ba_size, List.size_toArray, List.length_cons, List.length_nil] at hb
        have i1 := i1 (by omega)
        clear i2
        refine fn2 (fn := Tryz.f45) Tryz.call45 Tryz.func45 rfl Tryz.ntmps45 Tryz.results45 rfl (by first | rfl | simp [V.ok, okL, C.ok, okA, okV]) ?_
        repeat' (first | (with_reducible first | apply AW.seq | apply AW.block | apply AW.scope | apply AW.skip | apply AW.ret | apply AW.exit | apply AW.label | apply q_then | apply q_thenR | apply q_thenE | apply q_bloN | apply q_bloR | apply q_bloE | apply q_strN | apply q_strR | apply q_strE | apply s_e | refine m_b rfl ?_ ?_ | refine m_g rfl ?_ | refine m_o rfl ?_ ?_ | refine v_reg ?_ | refine v_drw ?_ | refine v_rgl ?_ | refine v_drb ?_) | ((with_reducible apply i_dv); first | refine t_v AS.v ?_ | refine t_v (by first | exact u_call (hP := hind) | exact u_call (hP := ht) | exact u_call (hP := i1)) ?_ | refine t_w AS.w ?_) | ((with_reducible apply i_dg); first | refine t_n ?_ | refine t_m (hs := fun hg => AS.v) (k := ?_) | refine t_m (hs := fun hg => (by first | exact u_call (hP := hind) | exact u_call (hP := ht) | exact u_call (hP := i1))) (k := ?_) | refine t_f ?_) | ((with_reducible apply i_ds); first | refine t_s AS.s ?_) | ((with_reducible refine i_aw ?_); first | refine v_yes ?_ | refine v_no ?_ | (refine v_cond (fun hc => ?_) (fun hc => ?_); all_goals (try (exfalso; simp [*] at hc; done)); all_goals (try (exfalso; revert hc; simp; omega)))) | ((with_reducible refine i_rt ?_); first | refine k_b ?_ | refine k_s ?_ | refine k_i ?_ | refine k_v ?_ | refine k_c ?_ | exact r_0 | exact r_0n | ((first | refine k_2 ?_ ?_ | refine k_2c ?_ ?_); all_goals (with_reducible (first | apply un_b | apply un_i | apply un_s | apply un_a)))) | ((with_reducible apply al_id); dsimp only [List.append]) | (refine q_bloX rfl ?_) | (refine ⟨by decide +kernel, ?_⟩) | fail)
        all_goals (simp only [ByteArray.append_assoc, ba_nil2])
    · rw [head_opt k] at hb ⊢
      clear ht
      by_cases he : 0 < s.els.length
      · rw [if_pos he] at hb ⊢
        simp only [ByteArray.size_append, ba_size, List.size_toArray, List.length_cons, List.length_nil] at hb
        have i1 := i1 (by omega)
        have i2 := i2 (by omega)
        refine fn2 (fn := Tryz.f45) Tryz.call45 Tryz.func45 rfl Tryz.ntmps45 Tryz.results45 rfl (by first | rfl | simp [V.ok, okL, C.ok, okA, okV]) ?_
        repeat' (first | (with_reducible first | apply AW.seq | apply AW.block | apply AW.scope | apply AW.skip | apply AW.ret | apply AW.exit | apply AW.label | apply q_then | apply q_thenR | apply q_thenE | apply q_bloN | apply q_bloR | apply q_bloE | apply q_strN | apply q_strR | apply q_strE | apply s_e | refine m_b rfl ?_ ?_ | refine m_g rfl ?_ | refine m_o rfl ?_ ?_ | refine v_reg ?_ | refine v_drw ?_ | refine v_rgl ?_ | refine v_drb ?_) | ((with_reducible apply i_dv); first | refine t_v AS.v ?_ | refine t_v (by first | exact u_call (hP := hind) | exact u_call (hP := i1) | exact u_call (hP := i2)) ?_ | refine t_w AS.w ?_) | ((with_reducible apply i_dg); first | refine t_n ?_ | refine t_m (hs := fun hg => AS.v) (k := ?_) | refine t_m (hs := fun hg => (by first | exact u_call (hP := hind) | exact u_call (hP := i1) | exact u_call (hP := i2))) (k := ?_) | refine t_f ?_) | ((with_reducible apply i_ds); first | refine t_s AS.s ?_) | ((with_reducible refine i_aw ?_); first | refine v_yes ?_ | refine v_no ?_ | (refine v_cond (fun hc => ?_) (fun hc => ?_); all_goals (try (exfalso; simp [*] at hc; done)); all_goals (try (exfalso; revert hc; simp; omega)))) | ((with_reducible refine i_rt ?_); first | refine k_b ?_ | refine k_s ?_ | refine k_i ?_ | refine k_v ?_ | refine k_c ?_ | exact r_0 | exact r_0n | ((first | refine k_2 ?_ ?_ | refine k_2c ?_ ?_); all_goals (with_reducible (first | apply un_b | apply un_i | apply un_s | apply un_a)))) | ((with_reducible apply al_id); dsimp only [List.append]) | (refine q_bloX rfl ?_) | (refine ⟨by decide +kernel, ?_⟩) | fail)
        all_goals (simp only [ByteArray.append_assoc])
      · rw [if_neg he] at hb ⊢
        simp only [ByteArray.size_append, ba_size, List.size_toArray, List.length_cons, List.length_nil] at hb
        have i1 := i1 (by omega)
        clear i2
        refine fn2 (fn := Tryz.f45) Tryz.call45 Tryz.func45 rfl Tryz.ntmps45 Tryz.results45 rfl (by first | rfl | simp [V.ok, okL, C.ok, okA, okV]) ?_
        repeat' (first | (with_reducible first | apply AW.seq | apply AW.block | apply AW.scope | apply AW.skip | apply AW.ret | apply AW.exit | apply AW.label | apply q_then | apply q_thenR | apply q_thenE | apply q_bloN | apply q_bloR | apply q_bloE | apply q_strN | apply q_strR | apply q_strE | apply s_e | refine m_b rfl ?_ ?_ | refine m_g rfl ?_ | refine m_o rfl ?_ ?_ | refine v_reg ?_ | refine v_drw ?_ | refine v_rgl ?_ | refine v_drb ?_) | ((with_reducible apply i_dv); first | refine t_v AS.v ?_ | refine t_v (by first | exact u_call (hP := hind) | exact u_call (hP := i1)) ?_ | refine t_w AS.w ?_) | ((with_reducible apply i_dg); first | refine t_n ?_ | refine t_m (hs := fun hg => AS.v) (k := ?_) | refine t_m (hs := fun hg => (by first | exact u_call (hP := hind) | exact u_call (hP := i1))) (k := ?_) | refine t_f ?_) | ((with_reducible apply i_ds); first | refine t_s AS.s ?_) | ((with_reducible refine i_aw ?_); first | refine v_yes ?_ | refine v_no ?_ | (refine v_cond (fun hc => ?_) (fun hc => ?_); all_goals (try (exfalso; simp [*] at hc; done)); all_goals (try (exfalso; revert hc; simp; omega)))) | ((with_reducible refine i_rt ?_); first | refine k_b ?_ | refine k_s ?_ | refine k_i ?_ | refine k_v ?_ | refine k_c ?_ | exact r_0 | exact r_0n | ((first | refine k_2 ?_ ?_ | refine k_2c ?_ ?_); all_goals (with_reducible (first | apply un_b | apply un_i | apply un_s | apply un_a)))) | ((with_reducible apply al_id); dsimp only [List.append]) | (refine q_bloX rfl ?_) | (refine ⟨by decide +kernel, ?_⟩) | fail)
        all_goals (simp only [ByteArray.append_assoc, ba_nil2])
end Am
namespace Am
open Tk
set_option maxRecDepth 100000
set_option maxHeartbeats 4000000
theorem qStatement_p {s : Stm} {lv : Int} (h2 : dpL [s] ≤ 4611686018427387904) (hw : 0 ≤ lv → lv ≤ 12 → dpL [s] ≤ 12 → fmB s = true → stW s ∧ (stT lv.toNat s).size ≤ 70368744177664) : Pure Tryz.prog 15 [.agg (stC s), .c (sI lv)] (.tup [.c (sS (StatementR s lv).1), .c (sI (StatementR s lv).2)]) := by
  have hd := qdepth_p (l := [s]) h2
  have hwl : Pure Tryz.prog 44 [.c (.lst none 55 ([s].map stC))] (.c (sB (fmB s))) := by
    have := qwell_n _ [s] (Nat.lt_succ_self _)
    rwa [show [s].all fmB = fmB s by simp] at this
  by_cases h : 0 ≤ lv ∧ lv ≤ 12 ∧ dpL [s] ≤ 12 ∧ fmB s = true
  · obtain ⟨k1, k2, k3, k4⟩ := h
    obtain ⟨w1, w2⟩ := hw k1 k2 k3 k4
    obtain ⟨n, hn⟩ : ∃ n : Nat, lv = n := ⟨lv.toNat, by omega⟩
    have hnn : lv.toNat = n := by omega
    rw [hnn] at w2
    have hp : Pure Tryz.prog 45 [.agg (stC s), .c (sI lv)] (.c (sS (stT n s))) := by
      rw [hn]
      exact qstatement_n _ s (Nat.lt_succ_self _) w1 k4 n w2
    clear hw h2
    refine fn2 (fn := Tryz.f15) Tryz.call15 Tryz.func15 rfl Tryz.ntmps15 Tryz.results15 rfl (by first | rfl | simp [V.ok, okL, C.ok, okA, okV]) ?_
    repeat' (first | (with_reducible first | apply AW.seq | apply AW.block | apply AW.scope | apply AW.skip | apply AW.ret | apply AW.exit | apply AW.label | apply q_then | apply q_thenR | apply q_thenE | apply q_bloN | apply q_bloR | apply q_bloE | apply q_strN | apply q_strR | apply q_strE | apply s_e | refine m_b rfl ?_ ?_ | refine m_g rfl ?_ | refine m_o rfl ?_ ?_ | refine v_reg ?_ | refine v_drw ?_ | refine v_rgl ?_ | refine v_drb ?_) | ((with_reducible apply i_dv); first | refine t_v AS.v ?_ | refine t_v (by first | exact u_call (hP := hd) | exact u_call (hP := hwl) | exact u_call (hP := hp)) ?_ | refine t_w AS.w ?_) | ((with_reducible apply i_dg); first | refine t_n ?_ | refine t_m (hs := fun hg => AS.v) (k := ?_) | refine t_m (hs := fun hg => (by first | exact u_call (hP := hd) | exact u_call (hP := hwl) | exact u_call (hP := hp))) (k := ?_) | refine t_f ?_) | ((with_reducible apply i_ds); first | refine t_s AS.s ?_) | ((with_reducible refine i_aw ?_); first | refine v_yes ?_ | refine v_no ?_ | (refine v_cond (fun hc => ?_) (fun hc => ?_); all_goals (try (exfalso; simp [*] at hc; done)); all_goals (try (exfalso; revert hc; simp; omega)))) | ((with_reducible refine i_rt ?_); first | refine k_b ?_ | refine k_s ?_ | refine k_i ?_ | refine k_v ?_ | refine k_c ?_ | exact r_0 | exact r_0n | ((first | refine k_2 ?_ ?_ | refine k_2c ?_ ?_); all_goals (with_reducible (first | apply un_b | apply un_i | apply un_s | apply un_a)))) | ((with_reducible apply al_id); dsimp only [List.append]) | (refine q_bloX rfl ?_) | (refine ⟨by decide +kernel, ?_⟩) | fail)
    all_goals
      simp only [decide_eq_true_eq, decide_eq_false_iff_not] at hc
      unfold StatementR
      rw [if_neg (by omega), if_neg (by omega), if_neg (by simp [k4]), hnn]
      first | rw [if_pos (by omega)] | rw [if_neg (by omega)]
  · clear hw
    have e1 : fmB s = false ∨ fmB s = true := by cases fmB s <;> simp
    refine fn2 (fn := Tryz.f15) Tryz.call15 Tryz.func15 rfl Tryz.ntmps15 Tryz.results15 rfl (by first | rfl | simp [V.ok, okL, C.ok, okA, okV]) ?_
    repeat' (first | (with_reducible first | apply AW.seq | apply AW.block | apply AW.scope | apply AW.skip | apply AW.ret | apply AW.exit | apply AW.label | apply q_then | apply q_thenR | apply q_thenE | apply q_bloN | apply q_bloR | apply q_bloE | apply q_strN | apply q_strR | apply q_strE | apply s_e | refine m_b rfl ?_ ?_ | refine m_g rfl ?_ | refine m_o rfl ?_ ?_ | refine v_reg ?_ | refine v_drw ?_ | refine v_rgl ?_ | refine v_drb ?_) | ((with_reducible apply i_dv); first | refine t_v AS.v ?_ | refine t_v (by first | exact u_call (hP := hd) | exact u_call (hP := hwl)) ?_ | refine t_w AS.w ?_) | ((with_reducible apply i_dg); first | refine t_n ?_ | refine t_m (hs := fun hg => AS.v) (k := ?_) | refine t_m (hs := fun hg => (by first | exact u_call (hP := hd) | exact u_call (hP := hwl))) (k := ?_) | refine t_f ?_) | ((with_reducible apply i_ds); first | refine t_s AS.s ?_) | ((with_reducible refine i_aw ?_); first | refine v_yes ?_ | refine v_no ?_ | (refine v_cond (fun hc => ?_) (fun hc => ?_); all_goals (try (exfalso; simp [*] at hc; done)); all_goals (try (exfalso; revert hc; simp; omega)))) | ((with_reducible refine i_rt ?_); first | refine k_b ?_ | refine k_s ?_ | refine k_i ?_ | refine k_v ?_ | refine k_c ?_ | exact r_0 | exact r_0n | ((first | refine k_2 ?_ ?_ | refine k_2c ?_ ?_); all_goals (with_reducible (first | apply un_b | apply un_i | apply un_s | apply un_a)))) | ((with_reducible apply al_id); dsimp only [List.append]) | (refine q_bloX rfl ?_) | (refine ⟨by decide +kernel, ?_⟩) | fail)
    all_goals
      unfold StatementR
      grind
theorem itT_dec {n : Int} (h : 0 ≤ n) : itT n = decT n.toNat := by
  unfold itT decT Lib.itoa
  rw [if_neg (by omega)]
theorem modT_eq {m : Mo} (h : 0 ≤ m.version) : modT m = ⟨#[109, 111, 100, 117, 108, 101, 32]⟩ ++ m.name ++ ⟨#[32]⟩ ++ decT m.version.toNat ++ ⟨#[59]⟩ ++ (⟨#[10]⟩ ++ blkT 0 m.stmts) := by
  rw [modT, itT_dec h]
  simp only [sepB, tlB, ba_nil, ByteArray.append_assoc]
  rw [show (⟨#[109, 111, 100, 117, 108, 101, 32]⟩ : ByteArray) = ⟨#[109, 111, 100, 117, 108, 101]⟩ ++ ⟨#[32]⟩ from (lit2 [109, 111, 100, 117, 108, 101] [32]).symm, show (⟨#[59, 10]⟩ : ByteArray) = ⟨#[59]⟩ ++ ⟨#[10]⟩ from (lit2 [59] [10]).symm]
  simp only [ByteArray.append_assoc]
theorem qModule_p {m : Mo} (h2 : dpL m.stmts ≤ 4611686018427387904) (hw : checkB m = 0 → (∀ x ∈ m.stmts, stW x) ∧ (modT m).size ≤ 70368744177664) : Pure Tryz.prog 13 [.agg (moC m)] (.tup [.c (sS (ModuleR m).1), .c (sI (ModuleR m).2)]) := by
  by_cases h : checkB m = 0
  · obtain ⟨w1, w2⟩ := hw h
    have hv : 0 ≤ m.version ∧ m.version ≤ 9999 ∧ m.stmts.all fmB = true := by
      unfold checkB at h
      split at h
      · omega
      · split at h
        · omega
        · split at h
          · omega
          · split at h
            · omega
            · rename_i h1 h2 h3
              exact ⟨by omega, by omega, by simpa using h3⟩
    have w3 := w2
    rw [modT_eq hv.1] at w3
    have hdec : Pure Tryz.prog 38 [.c (sI m.version)] (.c (sS (decT m.version.toNat))) := by
      obtain ⟨n, hn⟩ : ∃ n : Nat, m.version = n := ⟨m.version.toNat, by omega⟩
      rw [show m.version.toNat = n by omega, hn]
      exact decimal_p (by omega)
    simp only [ByteArray.size_append, ba_size, List.size_toArray, List.length_cons, List.length_nil] at w3
    have hp : Pure Tryz.prog 39 [.c (.lst none 55 (m.stmts.map stC)), .c (sI 0)] (.c (sS (⟨#[10]⟩ ++ blkT 0 m.stmts))) :=
      qblock_m (lv := 0) (fun x hx hb' => qstatement_n _ x (Nat.lt_succ_self _) (w1 x hx) (List.all_eq_true.1 hv.2.2 x hx) 0 hb') (by omega)
    have e1 := modT_eq hv.1
    clear hw
    refine fn1 (fn := Tryz.f13) Tryz.call13 Tryz.func13 rfl Tryz.ntmps13 Tryz.results13 rfl (by first | rfl | simp [V.ok, okL, C.ok, okA, okV]) ?_
    repeat' (first | (with_reducible first | apply AW.seq | apply AW.block | apply AW.scope | apply AW.skip | apply AW.ret | apply AW.exit | apply AW.label | apply q_then | apply q_thenR | apply q_thenE | apply q_bloN | apply q_bloR | apply q_bloE | apply q_strN | apply q_strR | apply q_strE | apply s_e | refine m_b rfl ?_ ?_ | refine m_g rfl ?_ | refine m_o rfl ?_ ?_ | refine v_reg ?_ | refine v_drw ?_ | refine v_rgl ?_ | refine v_drb ?_) | ((with_reducible apply i_dv); first | refine t_v AS.v ?_ | refine t_v (by first | exact u_call (hP := qCheck_p h2) | exact u_call (hP := hdec) | exact u_call (hP := hp)) ?_ | refine t_w AS.w ?_) | ((with_reducible apply i_dg); first | refine t_n ?_ | refine t_m (hs := fun hg => AS.v) (k := ?_) | refine t_m (hs := fun hg => (by first | exact u_call (hP := qCheck_p h2) | exact u_call (hP := hdec) | exact u_call (hP := hp))) (k := ?_) | refine t_f ?_) | ((with_reducible apply i_ds); first | refine t_s AS.s ?_) | ((with_reducible refine i_aw ?_); first | refine v_yes ?_ | refine v_no ?_ | (refine v_cond (fun hc => ?_) (fun hc => ?_); all_goals (try (exfalso; simp [*] at hc; done)); all_goals (try (exfalso; revert hc; simp; omega)))) | ((with_reducible refine i_rt ?_); first | refine k_b ?_ | refine k_s ?_ | refine k_i ?_ | refine k_v ?_ | refine k_c ?_ | exact r_0 | exact r_0n | ((first | refine k_2 ?_ ?_ | refine k_2c ?_ ?_); all_goals (with_reducible (first | apply un_b | apply un_i | apply un_s | apply un_a)))) | ((with_reducible apply al_id); dsimp only [List.append]) | (refine q_bloX rfl ?_) | (refine ⟨by decide +kernel, ?_⟩) | fail)
    all_goals
      rw [← e1] at hc
      try rw [← e1]
      unfold ModuleR
      simp only [decide_eq_true_eq, decide_eq_false_iff_not] at hc
      rw [if_neg (by rw [h]; decide)]
      first | rw [if_pos (by omega)] | rw [if_neg (by omega)]
  · clear hw
    refine fn1 (fn := Tryz.f13) Tryz.call13 Tryz.func13 rfl Tryz.ntmps13 Tryz.results13 rfl (by first | rfl | simp [V.ok, okL, C.ok, okA, okV]) ?_
    repeat' (first | (with_reducible first | apply AW.seq | apply AW.block | apply AW.scope | apply AW.skip | apply AW.ret | apply AW.exit | apply AW.label | apply q_then | apply q_thenR | apply q_thenE | apply q_bloN | apply q_bloR | apply q_bloE | apply q_strN | apply q_strR | apply q_strE | apply s_e | refine m_b rfl ?_ ?_ | refine m_g rfl ?_ | refine m_o rfl ?_ ?_ | refine v_reg ?_ | refine v_drw ?_ | refine v_rgl ?_ | refine v_drb ?_) | ((with_reducible apply i_dv); first | refine t_v AS.v ?_ | refine t_v (by first | exact u_call (hP := qCheck_p h2)) ?_ | refine t_w AS.w ?_) | ((with_reducible apply i_dg); first | refine t_n ?_ | refine t_m (hs := fun hg => AS.v) (k := ?_) | refine t_m (hs := fun hg => (by first | exact u_call (hP := qCheck_p h2))) (k := ?_) | refine t_f ?_) | ((with_reducible apply i_ds); first | refine t_s AS.s ?_) | ((with_reducible refine i_aw ?_); first | refine v_yes ?_ | refine v_no ?_ | (refine v_cond (fun hc => ?_) (fun hc => ?_); all_goals (try (exfalso; simp [*] at hc; done)); all_goals (try (exfalso; revert hc; simp; omega)))) | ((with_reducible refine i_rt ?_); first | refine k_b ?_ | refine k_s ?_ | refine k_i ?_ | refine k_v ?_ | refine k_c ?_ | exact r_0 | exact r_0n | ((first | refine k_2 ?_ ?_ | refine k_2c ?_ ?_); all_goals (with_reducible (first | apply un_b | apply un_i | apply un_s | apply un_a)))) | ((with_reducible apply al_id); dsimp only [List.append]) | (refine q_bloX rfl ?_) | (refine ⟨by decide +kernel, ?_⟩) | fail)
    all_goals
      unfold ModuleR
      rw [if_pos h]
end Am
namespace Am
open Tk
set_option maxRecDepth 100000
set_option maxHeartbeats 4000000
def awS : Stm := ⟨2, 0, Po.zero, ⟨#[97, 95, 116]⟩, ⟨#[]⟩, ⟨#[]⟩, [⟨#[120]⟩, ⟨#[121]⟩], [⟨#[98, 95, 116]⟩], NS.zero, NS.zero, NS.zero, NS.zero, Ex.zero, Lv.zero, Rg.zero, Ct.zero, false, [], []⟩
def awR : Stm := ⟨12, 1, Po.zero, ⟨#[]⟩, ⟨#[]⟩, ⟨#[]⟩, [], [], ⟨true, false, false, [], [⟨#[99, 95, 116]⟩]⟩, ⟨false, false, true, [], []⟩, ⟨false, false, false, [⟨#[102, 105, 108, 101]⟩], []⟩, ⟨false, false, false, [⟨#[114, 101, 97, 100]⟩, ⟨#[119, 114, 105, 116, 101]⟩], []⟩, Ex.zero, Lv.zero, Rg.zero, Ct.zero, false, [], []⟩
def awM : Mo := ⟨⟨#[109]⟩, 10, [awR]⟩
def awN : NS := ⟨false, true, false, [⟨#[97]⟩], []⟩
def awK : Ex := ⟨8, 0, 0, 5, [], ⟨0, 0, 0, 0⟩, []⟩
def awE : Ex := ⟨2, 0, 0, 0, [], ⟨0, 0, 0, 0⟩, [awK]⟩
def awT1 : ByteArray := ⟨#[116, 121, 112, 101, 32, 97, 95, 116, 32, 97, 108, 105, 97, 115, 32, 123, 32, 98, 95, 116, 32, 125, 44, 32, 120, 44, 32, 121, 59]⟩
def awT2 : ByteArray := ⟨#[109, 111, 100, 117, 108, 101, 32, 109, 32, 49, 48, 59, 10, 97, 108, 108, 111, 119, 32, 123, 32, 42, 32, 45, 32, 99, 95, 116, 32, 125, 32, 115, 101, 108, 102, 32, 58, 32, 102, 105, 108, 101, 32, 123, 32, 114, 101, 97, 100, 32, 119, 114, 105, 116, 101, 32, 125, 59, 10]⟩
theorem awS_p : Pure Tryz.prog 14 [.agg (stC awS), .c (sI 0)] (.tup [.c (sS awT1), .c (sI 0)]) := by
  have hs : okM [awS] = true := by decide +kernel
  have h := Statement_p (s := awS) (lv := 0) (dp_ok hs) fun h0 h1 hd hf => st_ok hs h0 h1 hd hf
  have e : StatementR awS 0 = (awT1, 0) := by decide +kernel
  rwa [e] at h
theorem awM_p : Pure Tryz.prog 12 [.agg (moC awM)] (.tup [.c (sS awT2), .c (sI 0)]) := by
  have hs : okM awM.stmts = true := by decide +kernel
  have h := Module_p (m := awM) (dp_ok hs) fun hc => mod_ok hs (by decide) hc
  have e : ModuleR awM = (awT2, 0) := by decide +kernel
  rwa [e] at h
theorem awN_p : Pure Tryz.prog 23 [.agg (nsC awN)] (.tup [.c (sS ⟨#[126, 32, 97]⟩), .c (sI 0)]) := by
  have h := Names_p (n := awN) (by decide +kernel)
  have e : NamesR awN = (⟨#[126, 32, 97]⟩, 0) := by decide +kernel
  rwa [e] at h
theorem awE_p : Pure Tryz.prog 25 [.agg (exC awE), .c (sB false)] (.tup [.c (sS ⟨#[33, 40, 117, 49, 32, 61, 61, 32, 117, 50, 41]⟩), .c (sI 0)]) := by
  have h := Constraint_p (e := awE) (v := false) fun _ => by decide +kernel
  have e : ConstraintR awE false = (⟨#[33, 40, 117, 49, 32, 61, 61, 32, 117, 50, 41]⟩, 0) := by decide +kernel
  rwa [e] at h
theorem awC_p : Pure Tryz.prog 16 [.agg (moC Mo.zero)] (.c (sI 10)) := by
  have h := Check_p (m := Mo.zero) (by decide)
  have e : checkB Mo.zero = 10 := by decide +kernel
  rwa [e] at h
section
variable {ρ : Operand → Option V} {H : Nat → Option HO} {d : Option Nat} {ty : TypeId} {pos : String} {af : Array Edge} {gu : Option (Nat × Bool)}
theorem a_awk {x0 : Operand} (h0 : Ev ρ x0 (.agg (exC awK))) : AS Tryz.prog ρ H ⟨d, .buildSlice 39 1 #[(0, x0)], ty, pos, af, gu⟩ ⟨.c (.lst none 10 ([awK].map exC)), none, []⟩ :=
  a_slice (zs := exC Ex.zero) (sleT_ok rfl) (zwT_ok rfl) rfl (by decide) (by decide) (show EvP ρ _ _ from .cons h0 rfl (.nil)) rfl rfl
end
theorem awake_p : Pure Tryz.prog 11 [] (.c (sB true)) := by
  refine fn0 (fn := Tryz.f11) Tryz.call11 Tryz.func11 rfl Tryz.ntmps11 Tryz.results11 rfl (by first | rfl | simp [V.ok, okL, C.ok, okA, okV]) ?_
  repeat' ((fail_if_success (with_reducible refine reg_at 3 ?_)); (first | (with_reducible first | apply AW.seq | apply AW.block | apply AW.scope | apply AW.skip | apply AW.ret | apply AW.exit | apply AW.label | apply q_then | apply q_thenR | apply q_thenE | apply q_bloN | apply q_bloR | apply q_bloE | apply q_strN | apply q_strR | apply q_strE | apply s_e | refine m_b rfl ?_ ?_ | refine m_g rfl ?_ | refine m_o rfl ?_ ?_ | refine v_reg ?_ | refine v_drw ?_ | refine v_rgl ?_ | refine v_drb ?_) | ((with_reducible apply i_dv); first | refine t_v AS.v ?_ | refine t_v (by first | exact u_call (hP := awS_p) | exact a_awk (.pl rfl)) ?_ | refine t_w AS.w ?_) | ((with_reducible apply i_dg); first | refine t_n ?_ | refine t_m (hs := fun hg => AS.v) (k := ?_) | refine t_m (hs := fun hg => (by first | exact u_call (hP := awS_p) | exact a_awk (.pl rfl))) (k := ?_) | refine t_f ?_) | ((with_reducible apply i_ds); first | refine t_s AS.s ?_) | ((with_reducible refine i_aw ?_); first | refine v_yes ?_ | refine v_no ?_ | (refine v_cond (fun hc => ?_) (fun hc => ?_); all_goals (try (exfalso; simp [*] at hc; done)); all_goals (try (exfalso; revert hc; simp; omega)))) | ((with_reducible refine i_rt ?_); first | refine k_b ?_ | refine k_s ?_ | refine k_i ?_ | refine k_v ?_ | refine k_c ?_ | exact r_0 | exact r_0n | ((first | refine k_2 ?_ ?_ | refine k_2c ?_ ?_); all_goals (with_reducible (first | apply un_b | apply un_i | apply un_s | apply un_a)))) | ((with_reducible apply al_id); dsimp only [List.append]) | (refine q_bloX rfl ?_) | (refine ⟨by decide +kernel, ?_⟩) | fail))
  refine AW.weak (σ' := mk [(1, .c (sS awT1)), (2, .c (sI 0)), (3, .c (.ptr 3 0))] [(3, .obj 50 (stC awR))]) (wk_mk (by (repeat (first | exact all_nil | ((refine all_cons ⟨_, rfl, .inl rfl, ?_⟩ ?_); (· (first | rfl | exact okRow rfl | (simp [V.ok, okL, C.ok, okA, HO.ok]; done) | (change okL _ _ = true; assumption)))))); done) (by (repeat (first | exact all_nil | ((refine all_cons ⟨_, rfl, .inl rfl, ?_⟩ ?_); (· (first | rfl | exact okRow rfl | (simp [V.ok, okL, C.ok, okA, HO.ok]; done) | (change okL _ _ = true; assumption)))))); done) (by exact fun h => h)) ?_
  repeat' (first | (with_reducible first | apply AW.seq | apply AW.block | apply AW.scope | apply AW.skip | apply AW.ret | apply AW.exit | apply AW.label | apply q_then | apply q_thenR | apply q_thenE | apply q_bloN | apply q_bloR | apply q_bloE | apply q_strN | apply q_strR | apply q_strE | apply s_e | refine m_b rfl ?_ ?_ | refine m_g rfl ?_ | refine m_o rfl ?_ ?_ | refine v_reg ?_ | refine v_drw ?_ | refine v_rgl ?_ | refine v_drb ?_) | ((with_reducible apply i_dv); first | refine t_v AS.v ?_ | refine t_v (by first | exact u_call (hP := awM_p) | exact u_call (hP := awN_p) | exact u_call (hP := awE_p) | exact u_call (hP := awC_p) | exact a_awk (.pl rfl)) ?_ | refine t_w AS.w ?_) | ((with_reducible apply i_dg); first | refine t_n ?_ | refine t_m (hs := fun hg => AS.v) (k := ?_) | refine t_m (hs := fun hg => (by first | exact u_call (hP := awM_p) | exact u_call (hP := awN_p) | exact u_call (hP := awE_p) | exact u_call (hP := awC_p) | exact a_awk (.pl rfl))) (k := ?_) | refine t_f ?_) | ((with_reducible apply i_ds); first | refine t_s AS.s ?_) | ((with_reducible refine i_aw ?_); first | refine v_yes ?_ | refine v_no ?_ | (refine v_cond (fun hc => ?_) (fun hc => ?_); all_goals (try (exfalso; simp [*] at hc; done)); all_goals (try (exfalso; revert hc; simp; omega)))) | ((with_reducible refine i_rt ?_); first | refine k_b ?_ | refine k_s ?_ | refine k_i ?_ | refine k_v ?_ | refine k_c ?_ | exact r_0 | exact r_0n | ((first | refine k_2 ?_ ?_ | refine k_2c ?_ ?_); all_goals (with_reducible (first | apply un_b | apply un_i | apply un_s | apply un_a)))) | ((with_reducible apply al_id); dsimp only [List.append]) | (refine q_bloX rfl ?_) | (refine ⟨by decide +kernel, ?_⟩) | fail)
  decide +kernel
theorem small_p (l : List Stm) : Pure Tryz.prog 10 [.c (.lst none 55 (l.map stC))] (.c (sB (okM l))) := by
  have hs := qsmall_p l 40 14 (by omega) (by omega)
  have hc : Pure Tryz.prog 32 [.agg [sS ⟨#[]⟩, sI 0, .lst none 55 (l.map stC)]] (.c (sI (cntW l))) := Count_p ⟨⟨#[]⟩, 0, l⟩
  refine fn1 (fn := Tryz.f10) Tryz.call10 Tryz.func10 rfl Tryz.ntmps10 Tryz.results10 rfl (by first | rfl | simp [V.ok, okL, C.ok, okA, okV]) ?_
  repeat' (first | (with_reducible first | apply AW.seq | apply AW.block | apply AW.scope | apply AW.skip | apply AW.ret | apply AW.exit | apply AW.label | apply q_then | apply q_thenR | apply q_thenE | apply q_bloN | apply q_bloR | apply q_bloE | apply q_strN | apply q_strR | apply q_strE | apply s_e | refine m_b rfl ?_ ?_ | refine m_g rfl ?_ | refine m_o rfl ?_ ?_ | refine v_reg ?_ | refine v_drw ?_ | refine v_rgl ?_ | refine v_drb ?_) | ((with_reducible apply i_dv); first | refine t_v AS.v ?_ | refine t_v (by first | exact u_call (hP := hs) | exact u_call (hP := hc) | exact a_awk (.pl rfl)) ?_ | refine t_w AS.w ?_) | ((with_reducible apply i_dg); first | refine t_n ?_ | refine t_m (hs := fun hg => AS.v) (k := ?_) | refine t_m (hs := fun hg => (by first | exact u_call (hP := hs) | exact u_call (hP := hc) | exact a_awk (.pl rfl))) (k := ?_) | refine t_f ?_) | ((with_reducible apply i_ds); first | refine t_s AS.s ?_) | ((with_reducible refine i_aw ?_); first | refine v_yes ?_ | refine v_no ?_ | (refine v_cond (fun hc => ?_) (fun hc => ?_); all_goals (try (exfalso; simp [*] at hc; done)); all_goals (try (exfalso; revert hc; simp; omega)))) | ((with_reducible refine i_rt ?_); first | refine k_b ?_ | refine k_s ?_ | refine k_i ?_ | refine k_v ?_ | refine k_c ?_ | exact r_0 | exact r_0n | ((first | refine k_2 ?_ ?_ | refine k_2c ?_ ?_); all_goals (with_reducible (first | apply un_b | apply un_i | apply un_s | apply un_a)))) | ((with_reducible apply al_id); dsimp only [List.append]) | (refine q_bloX rfl ?_) | (refine ⟨by decide +kernel, ?_⟩) | fail)
  rfl
def slB (p : Pa) : Bool := smN p.names && smX 16 p.cond && smR p.range && smC p.context
theorem slight_p (p : Pa) : Pure Tryz.prog 22 [.agg (paC p)] (.c (sB (slB p))) := by
  refine fn1 (fn := Tryz.f22) Tryz.call22 Tryz.func22 rfl Tryz.ntmps22 Tryz.results22 rfl (by first | rfl | simp [V.ok, okL, C.ok, okA, okV]) ?_
  repeat' (first | (with_reducible first | apply AW.seq | apply AW.block | apply AW.scope | apply AW.skip | apply AW.ret | apply AW.exit | apply AW.label | apply q_then | apply q_thenR | apply q_thenE | apply q_bloN | apply q_bloR | apply q_bloE | apply q_strN | apply q_strR | apply q_strE | apply s_e | refine m_b rfl ?_ ?_ | refine m_g rfl ?_ | refine m_o rfl ?_ ?_ | refine v_reg ?_ | refine v_drw ?_ | refine v_rgl ?_ | refine v_drb ?_) | ((with_reducible apply i_dv); first | refine t_v AS.v ?_ | refine t_v (by first | exact u_call (hP := qsmN_p _) | exact u_call (hP := qsmX_p _) | exact u_call (hP := qsmR_p _) | exact u_call (hP := qsmC_p _) | exact a_awk (.pl rfl)) ?_ | refine t_w AS.w ?_) | ((with_reducible apply i_dg); first | refine t_n ?_ | refine t_m (hs := fun hg => AS.v) (k := ?_) | refine t_m (hs := fun hg => (by first | exact u_call (hP := qsmN_p _) | exact u_call (hP := qsmX_p _) | exact u_call (hP := qsmR_p _) | exact u_call (hP := qsmC_p _) | exact a_awk (.pl rfl))) (k := ?_) | refine t_f ?_) | ((with_reducible apply i_ds); first | refine t_s AS.s ?_) | ((with_reducible refine i_aw ?_); first | refine v_yes ?_ | refine v_no ?_ | (refine v_cond (fun hc => ?_) (fun hc => ?_); all_goals (try (exfalso; simp [*] at hc; done)); all_goals (try (exfalso; revert hc; simp; omega)))) | ((with_reducible refine i_rt ?_); first | refine k_b ?_ | refine k_s ?_ | refine k_i ?_ | refine k_v ?_ | refine k_c ?_ | exact r_0 | exact r_0n | ((first | refine k_2 ?_ ?_ | refine k_2c ?_ ?_); all_goals (with_reducible (first | apply un_b | apply un_i | apply un_s | apply un_a)))) | ((with_reducible apply al_id); dsimp only [List.append]) | (refine q_bloX rfl ?_) | (refine ⟨by decide +kernel, ?_⟩) | fail)
  rfl
end Am
end Go.Proofs.YtkcojiopjkllgaaGreatDoor
