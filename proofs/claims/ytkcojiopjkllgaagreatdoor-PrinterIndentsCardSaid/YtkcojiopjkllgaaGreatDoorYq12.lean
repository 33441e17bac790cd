import Derived.Test.YtkcojiopjkllgaaGreatDoorYq10
set_option linter.unusedSimpArgs false
set_option linter.unusedVariables false
set_option linter.unusedSectionVars false
namespace Go.Proofs.YtkcojiopjkllgaaGreatDoor
namespace Am
set_option maxRecDepth 100000
set_option maxHeartbeats 4000000
structure Bd (s : Stm) : Prop where
  name : s.name.size ≤ 268435456
  result : s.result.size ≤ 268435456
  text : s.text.size ≤ 268435456
  list : (brT s.list).size ≤ 268435456
  comm : (sepB ⟨#[44, 32]⟩ s.list).size ≤ 268435456
  aliases : (brT s.aliases).size ≤ 268435456
  source : (nsT s.source).size ≤ 268435456
  target : (nsT s.target).size ≤ 268435456
  cls : (nsT s.cls).size ≤ 268435456
  perms : (nsT s.perms).size ≤ 268435456
  cond : consB s.cond false = true ∨ consB s.cond true = true → (exT s.cond).size ≤ 268435456
  cond2 : bchkB 1 s.cond = 0 → (btT s.cond 0).size ≤ 268435456
  level : (lvT s.level).size ≤ 268435456
  range : (rgT s.range).size ≤ 268435456
  ctx : (cxT s.ctx).size ≤ 268435456
def kwT (l : List ByteArray) (n : Int) : ByteArray := l.getD (n - 1).toNat ⟨#[]⟩
theorem keyword_q {l : List ByteArray} {n : Int} (h1 : 1 ≤ n) (h2 : n ≤ l.length) (h3 : l.length ≤ 100) : Pure Tryz.prog 173 [.c (sI n), .c (strL l)] (.c (sS (kwT l n))) := by
  obtain ⟨j, hj⟩ : ∃ j : Nat, n = (j : Int) + 1 := ⟨(n - 1).toNat, by omega⟩
  have hl : j < l.length := by omega
  have e : kwT l n = l[j] := by
    have : (n - 1).toNat = j := by omega
    unfold kwT
    rw [this, List.getD_eq_getElem?_getD, List.getElem?_eq_getElem hl]; rfl
  rw [e, hj]
  exact keyword_p (List.getElem?_eq_getElem hl) (by omega)
def kwR : List ByteArray := [⟨#[97, 108, 108, 111, 119]⟩, ⟨#[97, 117, 100, 105, 116, 97, 108, 108, 111, 119]⟩, ⟨#[100, 111, 110, 116, 97, 117, 100, 105, 116]⟩, ⟨#[110, 101, 118, 101, 114, 97, 108, 108, 111, 119]⟩]
def kwX : List ByteArray := [⟨#[116, 121, 112, 101, 95, 116, 114, 97, 110, 115, 105, 116, 105, 111, 110]⟩, ⟨#[116, 121, 112, 101, 95, 99, 104, 97, 110, 103, 101]⟩, ⟨#[116, 121, 112, 101, 95, 109, 101, 109, 98, 101, 114]⟩]
def kwQ : List ByteArray := [⟨#[99, 108, 97, 115, 115]⟩, ⟨#[116, 121, 112, 101]⟩, ⟨#[97, 116, 116, 114, 105, 98, 117, 116, 101]⟩, ⟨#[114, 111, 108, 101]⟩, ⟨#[117, 115, 101, 114]⟩, ⟨#[98, 111, 111, 108]⟩, ⟨#[115, 101, 110, 115, 105, 116, 105, 118, 105, 116, 121]⟩, ⟨#[99, 97, 116, 101, 103, 111, 114, 121]⟩]
def kwF : List ByteArray := [⟨#[97, 110, 121]⟩, ⟨#[114, 101, 103, 117, 108, 97, 114]⟩, ⟨#[100, 105, 114, 101, 99, 116, 111, 114, 121]⟩, ⟨#[108, 105, 110, 107]⟩, ⟨#[115, 111, 99, 107, 101, 116]⟩]
def kwA : List ByteArray := [⟨#[110, 111, 102, 108, 111, 119]⟩, ⟨#[110, 111, 100, 111, 109, 97, 105, 110]⟩, ⟨#[115, 101, 112, 97, 114, 97, 116, 101]⟩]
def pairT (s : Stm) : ByteArray := nsT s.source ++ ⟨#[32]⟩ ++ nsT s.target
def ruledT (s : Stm) : ByteArray :=
  if s.kind = 6 then ⟨#[114, 111, 108, 101, 97, 108, 108, 111, 119, 32]⟩ ++ pairT s
  else if s.kind = 7 then ⟨#[114, 111, 108, 101, 95, 116, 114, 97, 110, 115, 105, 116, 105, 111, 110, 32]⟩ ++ pairT s ++ ⟨#[32, 58, 32]⟩ ++ nsT s.cls ++ ⟨#[32]⟩ ++ s.result
  else if s.kind = 12 then kwT kwR s.op ++ ⟨#[32]⟩ ++ pairT s ++ ⟨#[32, 58, 32]⟩ ++ nsT s.cls ++ ⟨#[32]⟩ ++ nsT s.perms
  else if s.kind = 13 then
    (if s.text = ⟨#[]⟩ then kwT kwX s.op ++ ⟨#[32]⟩ ++ pairT s ++ ⟨#[32, 58, 32]⟩ ++ nsT s.cls ++ ⟨#[32]⟩ ++ s.result
     else kwT kwX s.op ++ ⟨#[32]⟩ ++ pairT s ++ ⟨#[32, 58, 32]⟩ ++ nsT s.cls ++ ⟨#[32]⟩ ++ s.result ++ (⟨#[32, 34]⟩ ++ s.text ++ ⟨#[34]⟩))
  else if s.kind = 14 then ⟨#[114, 97, 110, 103, 101, 95, 116, 114, 97, 110, 115, 105, 116, 105, 111, 110, 32]⟩ ++ pairT s ++ ⟨#[32, 58, 32]⟩ ++ nsT s.cls ++ ⟨#[32]⟩ ++ rgT s.range
  else if s.kind = 15 then ⟨#[99, 111, 110, 115, 116, 114, 97, 105, 110, 32]⟩ ++ nsT s.cls ++ ⟨#[32]⟩ ++ nsT s.perms ++ ⟨#[32]⟩ ++ exT s.cond
  else if s.kind = 16 then ⟨#[118, 97, 108, 105, 100, 97, 116, 101, 116, 114, 97, 110, 115, 32]⟩ ++ nsT s.cls ++ ⟨#[32]⟩ ++ exT s.cond
  else if s.kind = 19 then (if s.op = 1 then ⟨#[114, 101, 113, 117, 105, 114, 101, 32, 99, 108, 97, 115, 115, 32]⟩ ++ s.name ++ ⟨#[32]⟩ ++ brT s.list else ⟨#[114, 101, 113, 117, 105, 114, 101, 32]⟩ ++ kwT kwQ s.op ++ ⟨#[32]⟩ ++ sepB ⟨#[44, 32]⟩ s.list)
  else if s.kind = 20 then ⟨#[115, 105, 100, 32]⟩ ++ s.name ++ ⟨#[32]⟩ ++ cxT s.ctx
  else if s.kind = 21 then ⟨#[102, 105, 108, 101, 99, 111, 110, 32, 34]⟩ ++ s.text ++ ⟨#[34, 32]⟩ ++ kwT kwF (s.op + 1) ++ ⟨#[32]⟩ ++ cxT s.ctx
  else if s.kind = 22 then ⟨#[112, 101, 114, 109, 105, 115, 115, 105, 118, 101, 32]⟩ ++ nsT s.source
  else ⟨#[97, 115, 115, 101, 114, 116, 32]⟩ ++ s.name ++ ⟨#[32]⟩ ++ kwT kwA s.op ++ ⟨#[32]⟩ ++ pairT s
structure Rok (s : Stm) : Prop where
  r12 : s.kind = 12 → 1 ≤ s.op ∧ s.op ≤ 4
  r13 : s.kind = 13 → 1 ≤ s.op ∧ s.op ≤ 3
  r15 : s.kind = 15 → consB s.cond false = true
  r16 : s.kind = 16 → consB s.cond true = true
  r19 : s.kind = 19 → 1 ≤ s.op ∧ s.op ≤ 8
  r21 : s.kind = 21 → 0 ≤ s.op ∧ s.op ≤ 4
  r23 : s.kind = 23 → 1 ≤ s.op ∧ s.op ≤ 3
  rk : 1 ≤ s.kind ∧ s.kind ≤ 23
theorem kw_le {l : List ByteArray} (h : ∀ x ∈ l, x.size ≤ 100) (n : Int) : (kwT l n).size ≤ 100 := by
  unfold kwT
  rw [List.getD_eq_getElem?_getD]
  cases hx : l[(n - 1).toNat]? with
  | none => exact Nat.zero_le _
  | some x => exact h x (List.mem_of_getElem? hx)
theorem ruled_p {s : Stm} (hk : ¬(s.kind = 1 ∨ s.kind = 2 ∨ s.kind = 3 ∨ s.kind = 4 ∨ s.kind = 5 ∨ s.kind = 8 ∨ s.kind = 9 ∨ s.kind = 10 ∨ s.kind = 11 ∨ s.kind = 17 ∨ s.kind = 18)) (hr : Rok s) (hb : Bd s) : Pure Tryz.prog 136 [.agg (stC s)] (.c (sS (ruledT s))) := by
  obtain ⟨r12, r13, r15, r16, r19, r21, r23, r1, r2⟩ := hr
  obtain ⟨b1, b2, b3, b4, b5, b6, b7, b8, b9, b10, b11, b12, b13, b14, b15⟩ := hb
  have n1 := names_q (n := s.source) (by omega)
  have n2 := names_q (n := s.target) (by omega)
  have n3 := names_q (n := s.cls) (by omega)
  have n4 := names_q (n := s.perms) (by omega)
  have l1 := braces_p (l := s.list) (by omega)
  have l2 := commas_p (l := s.list) (by omega)
  have c1 := context_p (c := s.ctx) (by omega)
  have s1 := span_p (r := s.range) (by omega)
  have u4 := kw_le (l := kwR) (by decide)
  have u3 := kw_le (l := kwX) (by decide)
  have u8 := kw_le (l := kwQ) (by decide)
  have u5 := kw_le (l := kwF) (by decide)
  have u9 := kw_le (l := kwA) (by decide)
  unfold kwR at u4
  unfold kwX at u3
  unfold kwQ at u8
  unfold kwF at u5
  unfold kwA at u9
  have hx : s.kind = 6 ∨ s.kind = 7 ∨ s.kind = 14 ∨ s.kind = 20 ∨ s.kind = 22 ∨ s.kind = 12 ∨ s.kind = 13 ∨ s.kind = 15 ∨ s.kind = 16 ∨ s.kind = 19 ∨ s.kind = 21 ∨ s.kind = 23 := by omega
  clear b6 b13 hk r1 r2
  rcases hx with k | k | k | k | k | k | k | k | k | k | k | k
  case inl | inr.inl | inr.inr.inl | inr.inr.inr.inl | inr.inr.inr.inr.inl =>
    all_goals
      clear r12 r13 r15 r16 r19 r21 r23 b11 b12 u4 u3 u8 u5 u9
      refine fn1 (fn := Tryz.f136) Tryz.call136 Tryz.func136 rfl Tryz.ntmps136 Tryz.results136 rfl (by first | rfl | simp [V.ok, okL, C.ok, okA, okV]) ?_
      repeat' (first | (with_reducible first | apply AW.seq | apply AW.block | apply AW.scope | apply AW.skip | apply AW.ret | apply AW.exit | apply AW.label | apply q_then | apply q_thenR | apply q_thenE | apply q_bloN | apply q_bloR | apply q_bloE | apply q_strN | apply q_strR | apply q_strE | apply s_e | refine m_b rfl ?_ ?_ | refine m_g rfl ?_ | refine m_o rfl ?_ ?_ | refine v_reg ?_ | refine v_drw ?_ | refine v_rgl ?_ | refine v_drb ?_) | ((with_reducible apply i_dv); first | refine t_v AS.v ?_ | refine t_v (by first | exact u_call (hP := n1) | exact u_call (hP := n2) | exact u_call (hP := n3) | exact u_call (hP := n4) | exact u_call (hP := l1) | exact u_call (hP := l2) | exact u_call (hP := c1) | exact u_call (hP := s1)) ?_ | refine t_w AS.w ?_) | ((with_reducible apply i_dg); first | refine t_n ?_ | refine t_m (hs := fun hg => AS.v) (k := ?_) | refine t_m (hs := fun hg => (by first | exact u_call (hP := n1) | exact u_call (hP := n2) | exact u_call (hP := n3) | exact u_call (hP := n4) | exact u_call (hP := l1) | exact u_call (hP := l2) | exact u_call (hP := c1) | exact u_call (hP := s1))) (k := ?_) | refine t_f ?_) | ((with_reducible apply i_ds); first | refine t_s AS.s ?_) | ((with_reducible refine i_aw ?_); first | refine v_yes ?_ | refine v_no ?_ | (refine v_cond (fun hc => ?_) (fun hc => ?_); all_goals (try (exfalso; simp [*] at hc; done)); all_goals (try (exfalso; revert hc; simp; omega)))) | ((with_reducible refine i_rt ?_); first | refine k_b ?_ | refine k_s ?_ | refine k_i ?_ | refine k_v ?_ | refine k_c ?_ | exact r_0 | exact r_0n | ((first | refine k_2 ?_ ?_ | refine k_2c ?_ ?_); all_goals (with_reducible (first | apply un_b | apply un_i | apply un_s | apply un_a)))) | ((with_reducible apply al_id); dsimp only [List.append]) | (refine q_bloX rfl ?_) | (refine ⟨by decide +kernel, ?_⟩) | fail)
      all_goals simp [ruledT, pairT, k]
  · have r := r12 k
    have q := keyword_q (l := kwR) r.1 (by unfold kwR; exact r.2) (by decide)
    have v := u4 s.op
    unfold kwR at q
    clear r12 r13 r15 r16 r19 r21 r23 b11 b12 u4 u3 u8 u5 u9
    refine fn1 (fn := Tryz.f136) Tryz.call136 Tryz.func136 rfl Tryz.ntmps136 Tryz.results136 rfl (by first | rfl | simp [V.ok, okL, C.ok, okA, okV]) ?_
    repeat' (first | (with_reducible first | apply AW.seq | apply AW.block | apply AW.scope | apply AW.skip | apply AW.ret | apply AW.exit | apply AW.label | apply q_then | apply q_thenR | apply q_thenE | apply q_bloN | apply q_bloR | apply q_bloE | apply q_strN | apply q_strR | apply q_strE | apply s_e | refine m_b rfl ?_ ?_ | refine m_g rfl ?_ | refine m_o rfl ?_ ?_ | refine v_reg ?_ | refine v_drw ?_ | refine v_rgl ?_ | refine v_drb ?_) | ((with_reducible apply i_dv); first | refine t_v AS.v ?_ | refine t_v (by first | exact u_call (hP := n1) | exact u_call (hP := n2) | exact u_call (hP := n3) | exact u_call (hP := n4) | exact u_call (hP := q)) ?_ | refine t_w AS.w ?_) | ((with_reducible apply i_dg); first | refine t_n ?_ | refine t_m (hs := fun hg => AS.v) (k := ?_) | refine t_m (hs := fun hg => (by first | exact u_call (hP := n1) | exact u_call (hP := n2) | exact u_call (hP := n3) | exact u_call (hP := n4) | exact u_call (hP := q))) (k := ?_) | refine t_f ?_) | ((with_reducible apply i_ds); first | refine t_s AS.s ?_) | ((with_reducible refine i_aw ?_); first | refine v_yes ?_ | refine v_no ?_ | (refine v_cond (fun hc => ?_) (fun hc => ?_); all_goals (try (exfalso; simp [*] at hc; done)); all_goals (try (exfalso; revert hc; simp; omega)))) | ((with_reducible refine i_rt ?_); first | refine k_b ?_ | refine k_s ?_ | refine k_i ?_ | refine k_v ?_ | refine k_c ?_ | exact r_0 | exact r_0n | ((first | refine k_2 ?_ ?_ | refine k_2c ?_ ?_); all_goals (with_reducible (first | apply un_b | apply un_i | apply un_s | apply un_a)))) | ((with_reducible apply al_id); dsimp only [List.append]) | (refine q_bloX rfl ?_) | (refine ⟨by decide +kernel, ?_⟩) | fail)
    simp [ruledT, pairT, k, kwR]
  · have r := r13 k
    have q := keyword_q (l := kwX) r.1 (by unfold kwX; exact r.2) (by decide)
    have v := u3 s.op
    unfold kwX at q
    clear r12 r13 r15 r16 r19 r21 r23 b11 b12 u4 u3 u8 u5 u9
    refine fn1 (fn := Tryz.f136) Tryz.call136 Tryz.func136 rfl Tryz.ntmps136 Tryz.results136 rfl (by first | rfl | simp [V.ok, okL, C.ok, okA, okV]) ?_
    repeat' (first | (with_reducible first | apply AW.seq | apply AW.block | apply AW.scope | apply AW.skip | apply AW.ret | apply AW.exit | apply AW.label | apply q_then | apply q_thenR | apply q_thenE | apply q_bloN | apply q_bloR | apply q_bloE | apply q_strN | apply q_strR | apply q_strE | apply s_e | refine m_b rfl ?_ ?_ | refine m_g rfl ?_ | refine m_o rfl ?_ ?_ | refine v_reg ?_ | refine v_drw ?_ | refine v_rgl ?_ | refine v_drb ?_) | ((with_reducible apply i_dv); first | refine t_v AS.v ?_ | refine t_v (by first | exact u_call (hP := n1) | exact u_call (hP := n2) | exact u_call (hP := n3) | exact u_call (hP := n4) | exact u_call (hP := q)) ?_ | refine t_w AS.w ?_) | ((with_reducible apply i_dg); first | refine t_n ?_ | refine t_m (hs := fun hg => AS.v) (k := ?_) | refine t_m (hs := fun hg => (by first | exact u_call (hP := n1) | exact u_call (hP := n2) | exact u_call (hP := n3) | exact u_call (hP := n4) | exact u_call (hP := q))) (k := ?_) | refine t_f ?_) | ((with_reducible apply i_ds); first | refine t_s AS.s ?_) | ((with_reducible refine i_aw ?_); first | refine v_yes ?_ | refine v_no ?_ | (refine v_cond (fun hc => ?_) (fun hc => ?_); all_goals (try (exfalso; simp [*] at hc; done)); all_goals (try (exfalso; revert hc; simp; omega)))) | ((with_reducible refine i_rt ?_); first | refine k_b ?_ | refine k_s ?_ | refine k_i ?_ | refine k_v ?_ | refine k_c ?_ | exact r_0 | exact r_0n | ((first | refine k_2 ?_ ?_ | refine k_2c ?_ ?_); all_goals (with_reducible (first | apply un_b | apply un_i | apply un_s | apply un_a)))) | ((with_reducible apply al_id); dsimp only [List.append]) | (refine q_bloX rfl ?_) | (refine ⟨by decide +kernel, ?_⟩) | fail)
    all_goals simp_all [ruledT, pairT, k, kwX]
  · have r := r15 k
    have b := b11 (.inl r)
    have q := expression_p r (by omega)
    clear r12 r13 r15 r16 r19 r21 r23 b11 b12 u4 u3 u8 u5 u9
    refine fn1 (fn := Tryz.f136) Tryz.call136 Tryz.func136 rfl Tryz.ntmps136 Tryz.results136 rfl (by first | rfl | simp [V.ok, okL, C.ok, okA, okV]) ?_
    repeat' (first | (with_reducible first | apply AW.seq | apply AW.block | apply AW.scope | apply AW.skip | apply AW.ret | apply AW.exit | apply AW.label | apply q_then | apply q_thenR | apply q_thenE | apply q_bloN | apply q_bloR | apply q_bloE | apply q_strN | apply q_strR | apply q_strE | apply s_e | refine m_b rfl ?_ ?_ | refine m_g rfl ?_ | refine m_o rfl ?_ ?_ | refine v_reg ?_ | refine v_drw ?_ | refine v_rgl ?_ | refine v_drb ?_) | ((with_reducible apply i_dv); first | refine t_v AS.v ?_ | refine t_v (by first | exact u_call (hP := n1) | exact u_call (hP := n2) | exact u_call (hP := n3) | exact u_call (hP := n4) | exact u_call (hP := q)) ?_ | refine t_w AS.w ?_) | ((with_reducible apply i_dg); first | refine t_n ?_ | refine t_m (hs := fun hg => AS.v) (k := ?_) | refine t_m (hs := fun hg => (by first | exact u_call (hP := n1) | exact u_call (hP := n2) | exact u_call (hP := n3) | exact u_call (hP := n4) | exact u_call (hP := q))) (k := ?_) | refine t_f ?_) | ((with_reducible apply i_ds); first | refine t_s AS.s ?_) | ((with_reducible refine i_aw ?_); first | refine v_yes ?_ | refine v_no ?_ | (refine v_cond (fun hc => ?_) (fun hc => ?_); all_goals (try (exfalso; simp [*] at hc; done)); all_goals (try (exfalso; revert hc; simp; omega)))) | ((with_reducible refine i_rt ?_); first | refine k_b ?_ | refine k_s ?_ | refine k_i ?_ | refine k_v ?_ | refine k_c ?_ | exact r_0 | exact r_0n | ((first | refine k_2 ?_ ?_ | refine k_2c ?_ ?_); all_goals (with_reducible (first | apply un_b | apply un_i | apply un_s | apply un_a)))) | ((with_reducible apply al_id); dsimp only [List.append]) | (refine q_bloX rfl ?_) | (refine ⟨by decide +kernel, ?_⟩) | fail)
    simp [ruledT, pairT, k]
  · have r := r16 k
    have b := b11 (.inr r)
    have q := expression_p r (by omega)
    clear r12 r13 r15 r16 r19 r21 r23 b11 b12 u4 u3 u8 u5 u9
    refine fn1 (fn := Tryz.f136) Tryz.call136 Tryz.func136 rfl Tryz.ntmps136 Tryz.results136 rfl (by first | rfl | simp [V.ok, okL, C.ok, okA, okV]) ?_
    repeat' (first | (with_reducible first | apply AW.seq | apply AW.block | apply AW.scope | apply AW.skip | apply AW.ret | apply AW.exit | apply AW.label | apply q_then | apply q_thenR | apply q_thenE | apply q_bloN | apply q_bloR | apply q_bloE | apply q_strN | apply q_strR | apply q_strE | apply s_e | refine m_b rfl ?_ ?_ | refine m_g rfl ?_ | refine m_o rfl ?_ ?_ | refine v_reg ?_ | refine v_drw ?_ | refine v_rgl ?_ | refine v_drb ?_) | ((with_reducible apply i_dv); first | refine t_v AS.v ?_ | refine t_v (by first | exact u_call (hP := n1) | exact u_call (hP := n2) | exact u_call (hP := n3) | exact u_call (hP := n4) | exact u_call (hP := q)) ?_ | refine t_w AS.w ?_) | ((with_reducible apply i_dg); first | refine t_n ?_ | refine t_m (hs := fun hg => AS.v) (k := ?_) | refine t_m (hs := fun hg => (by first | exact u_call (hP := n1) | exact u_call (hP := n2) | exact u_call (hP := n3) | exact u_call (hP := n4) | exact u_call (hP := q))) (k := ?_) | refine t_f ?_) | ((with_reducible apply i_ds); first | refine t_s AS.s ?_) | ((with_reducible refine i_aw ?_); first | refine v_yes ?_ | refine v_no ?_ | (refine v_cond (fun hc => ?_) (fun hc => ?_); all_goals (try (exfalso; simp [*] at hc; done)); all_goals (try (exfalso; revert hc; simp; omega)))) | ((with_reducible refine i_rt ?_); first | refine k_b ?_ | refine k_s ?_ | refine k_i ?_ | refine k_v ?_ | refine k_c ?_ | exact r_0 | exact r_0n | ((first | refine k_2 ?_ ?_ | refine k_2c ?_ ?_); all_goals (with_reducible (first | apply un_b | apply un_i | apply un_s | apply un_a)))) | ((with_reducible apply al_id); dsimp only [List.append]) | (refine q_bloX rfl ?_) | (refine ⟨by decide +kernel, ?_⟩) | fail)
    simp [ruledT, pairT, k]
  · have r := r19 k
    have q := keyword_q (l := kwQ) r.1 (by unfold kwQ; exact r.2) (by decide)
    have v := u8 s.op
    unfold kwQ at q
    clear r12 r13 r15 r16 r19 r21 r23 b11 b12 u4 u3 u8 u5 u9
    refine fn1 (fn := Tryz.f136) Tryz.call136 Tryz.func136 rfl Tryz.ntmps136 Tryz.results136 rfl (by first | rfl | simp [V.ok, okL, C.ok, okA, okV]) ?_
    repeat' (first | (with_reducible first | apply AW.seq | apply AW.block | apply AW.scope | apply AW.skip | apply AW.ret | apply AW.exit | apply AW.label | apply q_then | apply q_thenR | apply q_thenE | apply q_bloN | apply q_bloR | apply q_bloE | apply q_strN | apply q_strR | apply q_strE | apply s_e | refine m_b rfl ?_ ?_ | refine m_g rfl ?_ | refine m_o rfl ?_ ?_ | refine v_reg ?_ | refine v_drw ?_ | refine v_rgl ?_ | refine v_drb ?_) | ((with_reducible apply i_dv); first | refine t_v AS.v ?_ | refine t_v (by first | exact u_call (hP := n1) | exact u_call (hP := n2) | exact u_call (hP := n3) | exact u_call (hP := n4) | exact u_call (hP := q) | exact u_call (hP := l1) | exact u_call (hP := l2)) ?_ | refine t_w AS.w ?_) | ((with_reducible apply i_dg); first | refine t_n ?_ | refine t_m (hs := fun hg => AS.v) (k := ?_) | refine t_m (hs := fun hg => (by first | exact u_call (hP := n1) | exact u_call (hP := n2) | exact u_call (hP := n3) | exact u_call (hP := n4) | exact u_call (hP := q) | exact u_call (hP := l1) | exact u_call (hP := l2))) (k := ?_) | refine t_f ?_) | ((with_reducible apply i_ds); first | refine t_s AS.s ?_) | ((with_reducible refine i_aw ?_); first | refine v_yes ?_ | refine v_no ?_ | (refine v_cond (fun hc => ?_) (fun hc => ?_); all_goals (try (exfalso; simp [*] at hc; done)); all_goals (try (exfalso; revert hc; simp; omega)))) | ((with_reducible refine i_rt ?_); first | refine k_b ?_ | refine k_s ?_ | refine k_i ?_ | refine k_v ?_ | refine k_c ?_ | exact r_0 | exact r_0n | ((first | refine k_2 ?_ ?_ | refine k_2c ?_ ?_); all_goals (with_reducible (first | apply un_b | apply un_i | apply un_s | apply un_a)))) | ((with_reducible apply al_id); dsimp only [List.append]) | (refine q_bloX rfl ?_) | (refine ⟨by decide +kernel, ?_⟩) | fail)
    all_goals simp_all [ruledT, pairT, k, kwQ]
  · have r := r21 k
    have q := keyword_q (l := kwF) (n := s.op + 1) (by omega) (by unfold kwF; have := r.2; show _ ≤ (5 : Int); omega) (by decide)
    have v := u5 (s.op + 1)
    unfold kwF at q
    obtain ⟨r1, r2⟩ := r
    clear r12 r13 r15 r16 r19 r21 r23 b11 b12 u4 u3 u8 u5 u9
    refine fn1 (fn := Tryz.f136) Tryz.call136 Tryz.func136 rfl Tryz.ntmps136 Tryz.results136 rfl (by first | rfl | simp [V.ok, okL, C.ok, okA, okV]) ?_
    repeat' (first | (with_reducible first | apply AW.seq | apply AW.block | apply AW.scope | apply AW.skip | apply AW.ret | apply AW.exit | apply AW.label | apply q_then | apply q_thenR | apply q_thenE | apply q_bloN | apply q_bloR | apply q_bloE | apply q_strN | apply q_strR | apply q_strE | apply s_e | refine m_b rfl ?_ ?_ | refine m_g rfl ?_ | refine m_o rfl ?_ ?_ | refine v_reg ?_ | refine v_drw ?_ | refine v_rgl ?_ | refine v_drb ?_) | ((with_reducible apply i_dv); first | refine t_v AS.v ?_ | refine t_v (by first | exact u_call (hP := n1) | exact u_call (hP := n2) | exact u_call (hP := n3) | exact u_call (hP := n4) | exact u_call (hP := q) | exact u_call (hP := c1)) ?_ | refine t_w AS.w ?_) | ((with_reducible apply i_dg); first | refine t_n ?_ | refine t_m (hs := fun hg => AS.v) (k := ?_) | refine t_m (hs := fun hg => (by first | exact u_call (hP := n1) | exact u_call (hP := n2) | exact u_call (hP := n3) | exact u_call (hP := n4) | exact u_call (hP := q) | exact u_call (hP := c1))) (k := ?_) | refine t_f ?_) | ((with_reducible apply i_ds); first | refine t_s AS.s ?_) | ((with_reducible refine i_aw ?_); first | refine v_yes ?_ | refine v_no ?_ | (refine v_cond (fun hc => ?_) (fun hc => ?_); all_goals (try (exfalso; simp [*] at hc; done)); all_goals (try (exfalso; revert hc; simp; omega)))) | ((with_reducible refine i_rt ?_); first | refine k_b ?_ | refine k_s ?_ | refine k_i ?_ | refine k_v ?_ | refine k_c ?_ | exact r_0 | exact r_0n | ((first | refine k_2 ?_ ?_ | refine k_2c ?_ ?_); all_goals (with_reducible (first | apply un_b | apply un_i | apply un_s | apply un_a)))) | ((with_reducible apply al_id); dsimp only [List.append]) | (refine q_bloX rfl ?_) | (refine ⟨by decide +kernel, ?_⟩) | fail)
    simp [ruledT, pairT, k, kwF]
  · have r := r23 k
    have q := keyword_q (l := kwA) r.1 (by unfold kwA; exact r.2) (by decide)
    have v := u9 s.op
    unfold kwA at q
    clear r12 r13 r15 r16 r19 r21 r23 b11 b12 u4 u3 u8 u5 u9
    refine fn1 (fn := Tryz.f136) Tryz.call136 Tryz.func136 rfl Tryz.ntmps136 Tryz.results136 rfl (by first | rfl | simp [V.ok, okL, C.ok, okA, okV]) ?_
    repeat' (first | (with_reducible first | apply AW.seq | apply AW.block | apply AW.scope | apply AW.skip | apply AW.ret | apply AW.exit | apply AW.label | apply q_then | apply q_thenR | apply q_thenE | apply q_bloN | apply q_bloR | apply q_bloE | apply q_strN | apply q_strR | apply q_strE | apply s_e | refine m_b rfl ?_ ?_ | refine m_g rfl ?_ | refine m_o rfl ?_ ?_ | refine v_reg ?_ | refine v_drw ?_ | refine v_rgl ?_ | refine v_drb ?_) | ((with_reducible apply i_dv); first | refine t_v AS.v ?_ | refine t_v (by first | exact u_call (hP := n1) | exact u_call (hP := n2) | exact u_call (hP := n3) | exact u_call (hP := n4) | exact u_call (hP := q)) ?_ | refine t_w AS.w ?_) | ((with_reducible apply i_dg); first | refine t_n ?_ | refine t_m (hs := fun hg => AS.v) (k := ?_) | refine t_m (hs := fun hg => (by first | exact u_call (hP := n1) | exact u_call (hP := n2) | exact u_call (hP := n3) | exact u_call (hP := n4) | exact u_call (hP := q))) (k := ?_) | refine t_f ?_) | ((with_reducible apply i_ds); first | refine t_s AS.s ?_) | ((with_reducible refine i_aw ?_); first | refine v_yes ?_ | refine v_no ?_ | (refine v_cond (fun hc => ?_) (fun hc => ?_); all_goals (try (exfalso; simp [*] at hc; done)); all_goals (try (exfalso; revert hc; simp; omega)))) | ((with_reducible refine i_rt ?_); first | refine k_b ?_ | refine k_s ?_ | refine k_i ?_ | refine k_v ?_ | refine k_c ?_ | exact r_0 | exact r_0n | ((first | refine k_2 ?_ ?_ | refine k_2c ?_ ?_); all_goals (with_reducible (first | apply un_b | apply un_i | apply un_s | apply un_a)))) | ((with_reducible apply al_id); dsimp only [List.append]) | (refine q_bloX rfl ?_) | (refine ⟨by decide +kernel, ?_⟩) | fail)
    simp [ruledT, pairT, k, kwA]
def boolT (b : Bool) : ByteArray := ⟨(Lib.formatBool b).toArray⟩
def lineT (s : Stm) : ByteArray :=
  if s.kind = 1 then ⟨#[99, 108, 97, 115, 115, 32]⟩ ++ s.name ++ ⟨#[32]⟩ ++ brT s.list
  else if s.kind = 2 then
    (if 0 < s.aliases.length then (if 0 < s.list.length then ⟨#[116, 121, 112, 101, 32]⟩ ++ s.name ++ (⟨#[32, 97, 108, 105, 97, 115, 32]⟩ ++ brT s.aliases) ++ (⟨#[44, 32]⟩ ++ sepB ⟨#[44, 32]⟩ s.list) else ⟨#[116, 121, 112, 101, 32]⟩ ++ s.name ++ (⟨#[32, 97, 108, 105, 97, 115, 32]⟩ ++ brT s.aliases))
     else (if 0 < s.list.length then ⟨#[116, 121, 112, 101, 32]⟩ ++ s.name ++ (⟨#[44, 32]⟩ ++ sepB ⟨#[44, 32]⟩ s.list) else ⟨#[116, 121, 112, 101, 32]⟩ ++ s.name))
  else if s.kind = 3 then ⟨#[97, 116, 116, 114, 105, 98, 117, 116, 101, 32]⟩ ++ s.name
  else if s.kind = 4 then ⟨#[116, 121, 112, 101, 97, 116, 116, 114, 105, 98, 117, 116, 101, 32]⟩ ++ s.name ++ ⟨#[32]⟩ ++ sepB ⟨#[44, 32]⟩ s.list
  else if s.kind = 5 then (if namedB s.source false then ⟨#[114, 111, 108, 101, 32]⟩ ++ s.name ++ ⟨#[32, 116, 121, 112, 101, 115, 32]⟩ ++ nsT s.source else ⟨#[114, 111, 108, 101, 32]⟩ ++ s.name)
  else if s.kind = 8 then ⟨#[117, 115, 101, 114, 32]⟩ ++ s.name ++ ⟨#[32, 114, 111, 108, 101, 115, 32]⟩ ++ brT s.list ++ ⟨#[32, 108, 101, 118, 101, 108, 32]⟩ ++ lvT s.level ++ ⟨#[32, 114, 97, 110, 103, 101, 32]⟩ ++ rgT s.range
  else if s.kind = 9 then ⟨#[98, 111, 111, 108, 32]⟩ ++ s.name ++ ⟨#[32]⟩ ++ boolT s.value
  else if s.kind = 10 then ⟨#[115, 101, 110, 115, 105, 116, 105, 118, 105, 116, 121, 32]⟩ ++ s.name
  else if s.kind = 11 then ⟨#[99, 97, 116, 101, 103, 111, 114, 121, 32]⟩ ++ s.name
  else ruledT s
theorem boolT_le (b : Bool) : (boolT b).size ≤ 5 := by cases b <;> decide
theorem line_p {s : Stm} (hk : ¬(s.kind = 17 ∨ s.kind = 18)) (hr : Rok s) (hb : Bd s) : Pure Tryz.prog 82 [.agg (stC s)] (.c (sS (lineT s))) := by
  have hu : ¬(s.kind = 1 ∨ s.kind = 2 ∨ s.kind = 3 ∨ s.kind = 4 ∨ s.kind = 5 ∨ s.kind = 8 ∨ s.kind = 9 ∨ s.kind = 10 ∨ s.kind = 11) → Pure Tryz.prog 136 [.agg (stC s)] (.c (sS (ruledT s))) := fun h => ruled_p (by omega) hr hb
  obtain ⟨b1, b2, b3, b4, b5, b6, b7, b8, b9, b10, b11, b12, b13, b14, b15⟩ := hb
  have n1 := names_q (n := s.source) (by omega)
  have l1 := braces_p (l := s.list) (by omega)
  have l2 := commas_p (l := s.list) (by omega)
  have l3 := braces_p (l := s.aliases) (by omega)
  have v1 := level_p (l := s.level) (by omega)
  have s1 := span_p (r := s.range) (by omega)
  have f1 : Pure Tryz.prog 135 [.c (sB s.value)] (.c (sS (boolT s.value))) := fmtBool_p s.value
  have f2 := boolT_le s.value
  clear hr hk b11 b12
  refine fn1 (fn := Tryz.f82) Tryz.call82 Tryz.func82 rfl Tryz.ntmps82 Tryz.results82 rfl (by first | rfl | simp [V.ok, okL, C.ok, okA, okV]) ?_
  repeat' (first | (with_reducible first | apply AW.seq | apply AW.block | apply AW.scope | apply AW.skip | apply AW.ret | apply AW.exit | apply AW.label | apply q_then | apply q_thenR | apply q_thenE | apply q_bloN | apply q_bloR | apply q_bloE | apply q_strN | apply q_strR | apply q_strE | apply s_e | refine m_b rfl ?_ ?_ | refine m_g rfl ?_ | refine m_o rfl ?_ ?_ | refine v_reg ?_ | refine v_drw ?_ | refine v_rgl ?_ | refine v_drb ?_) | ((with_reducible apply i_dv); first | refine t_v AS.v ?_ | refine t_v (by first | exact u_call (hP := n1) | exact u_call (hP := l1) | exact u_call (hP := l2) | exact u_call (hP := l3) | exact u_call (hP := v1) | exact u_call (hP := s1) | exact u_call (hP := f1) | exact u_call (hP := named_p _ _) | exact u_call (hP := hu (by grind))) ?_ | refine t_w AS.w ?_) | ((with_reducible apply i_dg); first | refine t_n ?_ | refine t_m (hs := fun hg => AS.v) (k := ?_) | refine t_m (hs := fun hg => (by first | exact u_call (hP := n1) | exact u_call (hP := l1) | exact u_call (hP := l2) | exact u_call (hP := l3) | exact u_call (hP := v1) | exact u_call (hP := s1) | exact u_call (hP := f1) | exact u_call (hP := named_p _ _) | exact u_call (hP := hu (by grind)))) (k := ?_) | refine t_f ?_) | ((with_reducible apply i_ds); first | refine t_s AS.s ?_) | ((with_reducible refine i_aw ?_); first | refine v_yes ?_ | refine v_no ?_ | (refine v_cond (fun hc => ?_) (fun hc => ?_); all_goals (try (exfalso; simp [*] at hc; done)); all_goals (try (exfalso; revert hc; simp; omega)))) | ((with_reducible refine i_rt ?_); first | refine k_b ?_ | refine k_s ?_ | refine k_i ?_ | refine k_v ?_ | refine k_c ?_ | exact r_0 | exact r_0n | ((first | refine k_2 ?_ ?_ | refine k_2c ?_ ?_); all_goals (with_reducible (first | apply un_b | apply un_i | apply un_s | apply un_a)))) | ((with_reducible apply al_id); dsimp only [List.append]) | (refine q_bloX rfl ?_) | (refine ⟨by decide +kernel, ?_⟩) | fail)
  all_goals
    simp only [decide_eq_true_eq, decide_eq_false_iff_not, List.length_map] at *
    try simp_all [lineT]
end Am
end Go.Proofs.YtkcojiopjkllgaaGreatDoor
