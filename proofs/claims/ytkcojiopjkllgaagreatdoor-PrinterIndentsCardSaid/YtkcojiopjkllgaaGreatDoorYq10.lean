import Derived.Test.YtkcojiopjkllgaaGreatDoorYq9
set_option linter.unusedSimpArgs false
set_option linter.unusedVariables false
set_option linter.unusedSectionVars false
namespace Go.Proofs.YtkcojiopjkllgaaGreatDoor
namespace Am
set_option maxRecDepth 100000
set_option maxHeartbeats 1000000
abbrev maxE : Nat := 4398046511104
theorem tl_count {sep : ByteArray} : ∀ (l : List ByteArray), l.length * sep.size ≤ (tlB sep l).size
  | [] => by simp
  | x :: l => by
    have := tl_count (sep := sep) l
    simp only [tlB, ByteArray.size_append, List.length_cons, Nat.add_mul]
    omega
theorem sep_count {sep : ByteArray} : ∀ (l : List ByteArray), l.length * sep.size ≤ (sepB sep l).size + sep.size
  | [] => by simp
  | x :: l => by
    have := tl_count (sep := sep) l
    simp only [sepB, ByteArray.size_append, List.length_cons, Nat.add_mul]
    omega
theorem nsT_bounds (n : NS) : (brT (nsL n)).size ≤ (nsT n).size + 4 ∧ (nsL n).length ≤ (nsT n).size + 1 := by
  have hs : ByteArray.size ⟨#[32]⟩ = 1 := rfl
  have hc := sep_count (sep := ⟨#[32]⟩) (nsL n)
  rw [hs, Nat.mul_one] at hc
  have hb : (brT (nsL n)).size = (sepB ⟨#[32]⟩ (nsL n)).size + 4 := by
    simp only [brT, ByteArray.size_append, ba_size, List.size_toArray, List.length_cons, List.length_nil]; omega
  have h2 : ByteArray.size ⟨#[126, 32]⟩ = 2 := rfl
  have h1 : (nsL n).length = 1 → (brT (nsL n)).size = ((nsL n).getD 0 ⟨#[]⟩).size + 4 := fun h => by
    match hl : nsL n, h with
    | [x], _ =>
      simp only [brT, sepB, tlB, ByteArray.size_append, ba_size, List.size_toArray, List.length_cons, List.length_nil, List.getD_cons_zero]; omega
  unfold nsT
  split
  · rename_i h
    have := h1 h.2.1
    rw [ByteArray.size_append, h2]
    omega
  · split
    · rw [ByteArray.size_append, h2]; omega
    · split
      · rename_i h
        have := h1 h.1
        omega
      · omega
theorem names_q {n : NS} (hb : (nsT n).size ≤ 4398046511000) : Pure Tryz.prog 58 [.agg (nsC n)] (.c (sS (nsT n))) := by
  have := nsT_bounds n
  exact names_p (by omega) (by omega)
def opdT (p : Bool) (s : ByteArray) : ByteArray := if p then ⟨#[40]⟩ ++ s ++ ⟨#[41]⟩ else s
theorem opdT_le (p : Bool) (s : ByteArray) : s.size ≤ (opdT p s).size := by
  unfold opdT; split
  · simp only [ByteArray.size_append]; omega
  · omega
def exH (op a rel b : Int) (names : List ByteArray) (ts : List ByteArray) (ops : List Int) : ByteArray :=
  if op = 2 then ⟨#[33]⟩ ++ opdT (decide (ops.getD 0 0 ≠ 2)) (ts.getD 0 ⟨#[]⟩)
  else if op = 3 then opdT (decide (ops.getD 0 0 = 4)) (ts.getD 0 ⟨#[]⟩) ++ ⟨#[32, 38, 38, 32]⟩ ++ opdT (decide (ops.getD 1 0 = 4) || decide (ops.getD 1 0 = 3)) (ts.getD 1 ⟨#[]⟩)
  else if op = 4 then ts.getD 0 ⟨#[]⟩ ++ ⟨#[32, 124, 124, 32]⟩ ++ opdT (decide (ops.getD 1 0 = 4)) (ts.getD 1 ⟨#[]⟩)
  else if op = 9 then attT a.toNat ++ ⟨#[32, 105, 110, 32]⟩ ++ nsT ⟨false, false, false, names, []⟩
  else attT a.toNat ++ ⟨#[32]⟩ ++ relT rel ++ ⟨#[32]⟩ ++ attT b.toNat
mutual
def exT : Ex → ByteArray
  | ⟨op, a, rel, b, names, _, kids⟩ => exH op a rel b names (exTs kids) (kids.map (·.op))
def exTs : List Ex → List ByteArray
  | [] => []
  | x :: l => exT x :: exTs l
end
theorem exTs_map : ∀ l : List Ex, exTs l = l.map exT
  | [] => by rw [exTs]; rfl
  | x :: l => by rw [exTs, exTs_map l]; rfl
theorem exT_eq (e : Ex) : exT e = exH e.op e.a e.rel e.b e.names (e.kids.map exT) (e.kids.map (·.op)) := by
  cases e; rw [exT, exTs_map]
theorem operand_p {e : Ex} {p : Bool} (h : Pure Tryz.prog 62 [.agg (exC e)] (.c (sS (exT e)))) (hb : (opdT p (exT e)).size ≤ maxE) : Pure Tryz.prog 113 [.agg (exC e), .c (sB p)] (.c (sS (opdT p (exT e)))) := by
  have hb2 := hb
  unfold opdT maxE at hb2
  cases p with
  | true =>
    rw [if_pos rfl] at hb2
    simp only [ByteArray.size_append, ba_size, List.size_toArray, List.length_cons, List.length_nil] at hb2
    refine fn2 (fn := Tryz.f113) Tryz.call113 Tryz.func113 rfl Tryz.ntmps113 Tryz.results113 rfl (by first | rfl | simp [V.ok, okL, C.ok, okA, okV]) ?_
    repeat' (first | (with_reducible first | apply AW.seq | apply AW.block | apply AW.scope | apply AW.skip | apply AW.ret | apply AW.exit | apply AW.label | apply q_then | apply q_thenR | apply q_thenE | apply q_bloN | apply q_bloR | apply q_bloE | apply q_strN | apply q_strR | apply q_strE | apply s_e | refine m_b rfl ?_ ?_ | refine m_g rfl ?_ | refine m_o rfl ?_ ?_ | refine v_reg ?_ | refine v_drw ?_ | refine v_rgl ?_ | refine v_drb ?_) | ((with_reducible apply i_dv); first | refine t_v AS.v ?_ | refine t_v (by first | exact u_call (hP := h)) ?_ | refine t_w AS.w ?_) | ((with_reducible apply i_dg); first | refine t_n ?_ | refine t_m (hs := fun hg => AS.v) (k := ?_) | refine t_m (hs := fun hg => (by first | exact u_call (hP := h))) (k := ?_) | refine t_f ?_) | ((with_reducible apply i_ds); first | refine t_s AS.s ?_) | ((with_reducible refine i_aw ?_); first | refine v_yes ?_ | refine v_no ?_ | (refine v_cond (fun hc => ?_) (fun hc => ?_); all_goals (try (exfalso; simp [*] at hc; done)); all_goals (try (exfalso; revert hc; simp; omega)))) | ((with_reducible refine i_rt ?_); first | refine k_b ?_ | refine k_s ?_ | refine k_i ?_ | refine k_v ?_ | refine k_c ?_ | exact r_0 | exact r_0n | ((first | refine k_2 ?_ ?_ | refine k_2c ?_ ?_); all_goals (with_reducible (first | apply un_b | apply un_i | apply un_s | apply un_a)))) | ((with_reducible apply al_id); dsimp only [List.append]) | (refine q_bloX rfl ?_) | (refine ⟨by decide +kernel, ?_⟩) | fail)
    rfl
  | false =>
    refine fn2 (fn := Tryz.f113) Tryz.call113 Tryz.func113 rfl Tryz.ntmps113 Tryz.results113 rfl (by first | rfl | simp [V.ok, okL, C.ok, okA, okV]) ?_
    repeat' (first | (with_reducible first | apply AW.seq | apply AW.block | apply AW.scope | apply AW.skip | apply AW.ret | apply AW.exit | apply AW.label | apply q_then | apply q_thenR | apply q_thenE | apply q_bloN | apply q_bloR | apply q_bloE | apply q_strN | apply q_strR | apply q_strE | apply s_e | refine m_b rfl ?_ ?_ | refine m_g rfl ?_ | refine m_o rfl ?_ ?_ | refine v_reg ?_ | refine v_drw ?_ | refine v_rgl ?_ | refine v_drb ?_) | ((with_reducible apply i_dv); first | refine t_v AS.v ?_ | refine t_v (by first | exact u_call (hP := h)) ?_ | refine t_w AS.w ?_) | ((with_reducible apply i_dg); first | refine t_n ?_ | refine t_m (hs := fun hg => AS.v) (k := ?_) | refine t_m (hs := fun hg => (by first | exact u_call (hP := h))) (k := ?_) | refine t_f ?_) | ((with_reducible apply i_ds); first | refine t_s AS.s ?_) | ((with_reducible refine i_aw ?_); first | refine v_yes ?_ | refine v_no ?_ | (refine v_cond (fun hc => ?_) (fun hc => ?_); all_goals (try (exfalso; simp [*] at hc; done)); all_goals (try (exfalso; revert hc; simp; omega)))) | ((with_reducible refine i_rt ?_); first | refine k_b ?_ | refine k_s ?_ | refine k_i ?_ | refine k_v ?_ | refine k_c ?_ | exact r_0 | exact r_0n | ((first | refine k_2 ?_ ?_ | refine k_2c ?_ ?_); all_goals (with_reducible (first | apply un_b | apply un_i | apply un_s | apply un_a)))) | ((with_reducible apply al_id); dsimp only [List.append]) | (refine q_bloX rfl ?_) | (refine ⟨by decide +kernel, ?_⟩) | fail)
    rfl
theorem att_le {n : Nat} (hn : n < 15) : (attT n).size ≤ 2 := by
  have : ∀ i : Fin 15, (attT i.val).size ≤ 2 := by decide +kernel
  exact this ⟨n, hn⟩
theorem rel_le (n : Int) : (relT n).size ≤ 6 := by
  unfold relT
  repeat' split
  all_goals decide
theorem two_of {α : Type} {l : List α} (h : (l.length : Int) = 2) : ∃ a b, l = [a, b] := by
  match l, h with
  | [a, b], _ => exact ⟨a, b, rfl⟩
  | [], h => simp at h
  | [_], h => simp at h
  | _ :: _ :: _ :: _, h => simp only [List.length_cons] at h; omega
theorem one_of {α : Type} {l : List α} (h : (l.length : Int) = 1) : ∃ a, l = [a] := by
  match l, h with
  | [a], _ => exact ⟨a, rfl⟩
  | [], h => simp at h
  | _ :: _ :: _, h => simp only [List.length_cons] at h; omega
theorem expression_n : ∀ (n : Nat) (e : Ex) (limit level : Int), SizeOf.sizeOf e < n → limit ≤ 15 → nodeB limit level e = true → (exT e).size ≤ 4398046511000 → Pure Tryz.prog 62 [.agg (exC e)] (.c (sS (exT e)))
  | 0, _, _, _, h, _, _, _ => absurd h (Nat.not_lt_zero _)
  | n + 1, e, limit, level, h, hl, hn, hb => by
    have ih : ∀ x ∈ e.kids, (exT x).size ≤ 4398046511000 → Pure Tryz.prog 62 [.agg (exC x)] (.c (sS (exT x))) := fun x hx hs =>
      expression_n n x limit (level + 1) (by have := kid_lt hx; omega) hl (by
        rw [nodeB_eq, Bool.and_eq_true] at hn
        exact List.all_eq_true.1 hn.2 x hx) hs
    rw [nodeB_eq, Bool.and_eq_true] at hn
    have hn := hn.1
    rw [exT_eq] at hb ⊢
    unfold headB at hn
    rw [Bool.and_eq_true] at hn
    have hn := hn.2
    by_cases o2 : e.op = 2
    · have hk : (e.kids.length : Int) = 1 := by simp [o2] at hn; omega
      obtain ⟨k, hk⟩ := one_of hk
      have hx : e.kids[0]? = some k := by rw [hk]; rfl
      have e1 : exH e.op e.a e.rel e.b e.names (e.kids.map exT) (e.kids.map (·.op)) = ⟨#[33]⟩ ++ opdT (decide (k.op ≠ 2)) (exT k) := by simp [exH, o2, hk]
      rw [e1] at hb ⊢
      simp only [ByteArray.size_append, ba_size, List.size_toArray, List.length_cons, List.length_nil] at hb
      have hs := opdT_le (decide (k.op ≠ 2)) (exT k)
      have hp := operand_p (p := decide (k.op ≠ 2)) (ih k (List.mem_of_getElem? hx) (by omega)) (by unfold maxE; omega)
      rw [decide_not] at hp hb ⊢
      clear ih hn hk h e1 hs
      refine fn1 (fn := Tryz.f62) Tryz.call62 Tryz.func62 rfl Tryz.ntmps62 Tryz.results62 rfl (by first | rfl | simp [V.ok, okL, C.ok, okA, okV]) ?_
      repeat' (first | (with_reducible first | apply AW.seq | apply AW.block | apply AW.scope | apply AW.skip | apply AW.ret | apply AW.exit | apply AW.label | apply q_then | apply q_thenR | apply q_thenE | apply q_bloN | apply q_bloR | apply q_bloE | apply q_strN | apply q_strR | apply q_strE | apply s_e | refine m_b rfl ?_ ?_ | refine m_g rfl ?_ | refine m_o rfl ?_ ?_ | refine v_reg ?_ | refine v_drw ?_ | refine v_rgl ?_ | refine v_drb ?_) | ((with_reducible apply i_dv); first | refine t_v AS.v ?_ | refine t_v (by first | exact u_call (hP := hp)) ?_ | refine t_w AS.w ?_) | ((with_reducible apply i_dg); first | refine t_n ?_ | refine t_m (hs := fun hg => AS.v) (k := ?_) | refine t_m (hs := fun hg => (by first | exact u_call (hP := hp))) (k := ?_) | refine t_f ?_) | ((with_reducible apply i_ds); first | refine t_s AS.s ?_) | ((with_reducible refine i_aw ?_); first | refine v_yes ?_ | refine v_no ?_ | (refine v_cond (fun hc => ?_) (fun hc => ?_); all_goals (try (exfalso; simp [*] at hc; done)); all_goals (try (exfalso; revert hc; simp; omega)))) | ((with_reducible refine i_rt ?_); first | refine k_b ?_ | refine k_s ?_ | refine k_i ?_ | refine k_v ?_ | refine k_c ?_ | exact r_0 | exact r_0n | ((first | refine k_2 ?_ ?_ | refine k_2c ?_ ?_); all_goals (with_reducible (first | apply un_b | apply un_i | apply un_s | apply un_a)))) | ((with_reducible apply al_id); dsimp only [List.append]) | (refine q_bloX rfl ?_) | (refine ⟨by decide +kernel, ?_⟩) | fail)
      rfl
    by_cases o3 : e.op = 3
    · have hk : (e.kids.length : Int) = 2 := by simp [o3] at hn; omega
      obtain ⟨k, m, hk⟩ := two_of hk
      have hx : e.kids[0]? = some k := by rw [hk]; rfl
      have hy : e.kids[1]? = some m := by rw [hk]; rfl
      have e1 : exH e.op e.a e.rel e.b e.names (e.kids.map exT) (e.kids.map (·.op)) = opdT (decide (k.op = 4)) (exT k) ++ ⟨#[32, 38, 38, 32]⟩ ++ opdT (decide (m.op = 4) || decide (m.op = 3)) (exT m) := by simp [exH, o3, hk]
      rw [e1] at hb ⊢
      simp only [ByteArray.size_append, ba_size, List.size_toArray, List.length_cons, List.length_nil] at hb
      have hs := opdT_le (decide (k.op = 4)) (exT k)
      have ht := opdT_le (decide (m.op = 4) || decide (m.op = 3)) (exT m)
      have hp := operand_p (p := decide (k.op = 4)) (ih k (List.mem_of_getElem? hx) (by omega)) (by unfold maxE; omega)
      have hq := operand_p (p := decide (m.op = 4) || decide (m.op = 3)) (ih m (List.mem_of_getElem? hy) (by omega)) (by unfold maxE; omega)
      clear ih hn hk h e1 hs ht
      refine fn1 (fn := Tryz.f62) Tryz.call62 Tryz.func62 rfl Tryz.ntmps62 Tryz.results62 rfl (by first | rfl | simp [V.ok, okL, C.ok, okA, okV]) ?_
      repeat' (first | (with_reducible first | apply AW.seq | apply AW.block | apply AW.scope | apply AW.skip | apply AW.ret | apply AW.exit | apply AW.label | apply q_then | apply q_thenR | apply q_thenE | apply q_bloN | apply q_bloR | apply q_bloE | apply q_strN | apply q_strR | apply q_strE | apply s_e | refine m_b rfl ?_ ?_ | refine m_g rfl ?_ | refine m_o rfl ?_ ?_ | refine v_reg ?_ | refine v_drw ?_ | refine v_rgl ?_ | refine v_drb ?_) | ((with_reducible apply i_dv); first | refine t_v AS.v ?_ | refine t_v (by first | exact u_call (hP := hp) | exact u_call (hP := hq)) ?_ | refine t_w AS.w ?_) | ((with_reducible apply i_dg); first | refine t_n ?_ | refine t_m (hs := fun hg => AS.v) (k := ?_) | refine t_m (hs := fun hg => (by first | exact u_call (hP := hp) | exact u_call (hP := hq))) (k := ?_) | refine t_f ?_) | ((with_reducible apply i_ds); first | refine t_s AS.s ?_) | ((with_reducible refine i_aw ?_); first | refine v_yes ?_ | refine v_no ?_ | (refine v_cond (fun hc => ?_) (fun hc => ?_); all_goals (try (exfalso; simp [*] at hc; done)); all_goals (try (exfalso; revert hc; simp; omega)))) | ((with_reducible refine i_rt ?_); first | refine k_b ?_ | refine k_s ?_ | refine k_i ?_ | refine k_v ?_ | refine k_c ?_ | exact r_0 | exact r_0n | ((first | refine k_2 ?_ ?_ | refine k_2c ?_ ?_); all_goals (with_reducible (first | apply un_b | apply un_i | apply un_s | apply un_a)))) | ((with_reducible apply al_id); dsimp only [List.append]) | (refine q_bloX rfl ?_) | (refine ⟨by decide +kernel, ?_⟩) | fail)
      rfl
    by_cases o4 : e.op = 4
    · have hk : (e.kids.length : Int) = 2 := by simp [o4] at hn; omega
      obtain ⟨k, m, hk⟩ := two_of hk
      have hx : e.kids[0]? = some k := by rw [hk]; rfl
      have hy : e.kids[1]? = some m := by rw [hk]; rfl
      have e1 : exH e.op e.a e.rel e.b e.names (e.kids.map exT) (e.kids.map (·.op)) = opdT false (exT k) ++ ⟨#[32, 124, 124, 32]⟩ ++ opdT (decide (m.op = 4)) (exT m) := by simp [exH, o4, hk, opdT]
      rw [e1] at hb ⊢
      simp only [ByteArray.size_append, ba_size, List.size_toArray, List.length_cons, List.length_nil] at hb
      have hs := opdT_le false (exT k)
      have ht := opdT_le (decide (m.op = 4)) (exT m)
      have hp := operand_p (p := false) (ih k (List.mem_of_getElem? hx) (by omega)) (by unfold maxE; omega)
      have hq := operand_p (p := decide (m.op = 4)) (ih m (List.mem_of_getElem? hy) (by omega)) (by unfold maxE; omega)
      clear ih hn hk h e1 hs ht
      refine fn1 (fn := Tryz.f62) Tryz.call62 Tryz.func62 rfl Tryz.ntmps62 Tryz.results62 rfl (by first | rfl | simp [V.ok, okL, C.ok, okA, okV]) ?_
      repeat' (first | (with_reducible first | apply AW.seq | apply AW.block | apply AW.scope | apply AW.skip | apply AW.ret | apply AW.exit | apply AW.label | apply q_then | apply q_thenR | apply q_thenE | apply q_bloN | apply q_bloR | apply q_bloE | apply q_strN | apply q_strR | apply q_strE | apply s_e | refine m_b rfl ?_ ?_ | refine m_g rfl ?_ | refine m_o rfl ?_ ?_ | refine v_reg ?_ | refine v_drw ?_ | refine v_rgl ?_ | refine v_drb ?_) | ((with_reducible apply i_dv); first | refine t_v AS.v ?_ | refine t_v (by first | exact u_call (hP := hp) | exact u_call (hP := hq)) ?_ | refine t_w AS.w ?_) | ((with_reducible apply i_dg); first | refine t_n ?_ | refine t_m (hs := fun hg => AS.v) (k := ?_) | refine t_m (hs := fun hg => (by first | exact u_call (hP := hp) | exact u_call (hP := hq))) (k := ?_) | refine t_f ?_) | ((with_reducible apply i_ds); first | refine t_s AS.s ?_) | ((with_reducible refine i_aw ?_); first | refine v_yes ?_ | refine v_no ?_ | (refine v_cond (fun hc => ?_) (fun hc => ?_); all_goals (try (exfalso; simp [*] at hc; done)); all_goals (try (exfalso; revert hc; simp; omega)))) | ((with_reducible refine i_rt ?_); first | refine k_b ?_ | refine k_s ?_ | refine k_i ?_ | refine k_v ?_ | refine k_c ?_ | exact r_0 | exact r_0n | ((first | refine k_2 ?_ ?_ | refine k_2c ?_ ?_); all_goals (with_reducible (first | apply un_b | apply un_i | apply un_s | apply un_a)))) | ((with_reducible apply al_id); dsimp only [List.append]) | (refine q_bloX rfl ?_) | (refine ⟨by decide +kernel, ?_⟩) | fail)
      rfl
    by_cases o9 : e.op = 9
    · have ha : 0 ≤ e.a ∧ e.a < 15 := by simp [o9] at hn; omega
      obtain ⟨a, ha2⟩ : ∃ a : Nat, e.a = a := ⟨e.a.toNat, by omega⟩
      have han : a < 15 := by omega
      have e1 : exH e.op e.a e.rel e.b e.names (e.kids.map exT) (e.kids.map (·.op)) = attT a ++ ⟨#[32, 105, 110, 32]⟩ ++ nsT ⟨false, false, false, e.names, []⟩ := by simp [exH, o9, ha2]
      rw [e1] at hb ⊢
      simp only [ByteArray.size_append, ba_size, List.size_toArray, List.length_cons, List.length_nil] at hb
      have hp : Pure Tryz.prog 114 [.c (sI e.a)] (.c (sS (attT a))) := by rw [ha2]; exact attribute_p han
      have hq := names_q (n := ⟨false, false, false, e.names, []⟩) (by omega)
      clear ih hn h e1 ha ha2
      refine fn1 (fn := Tryz.f62) Tryz.call62 Tryz.func62 rfl Tryz.ntmps62 Tryz.results62 rfl (by first | rfl | simp [V.ok, okL, C.ok, okA, okV]) ?_
      repeat' (first | (with_reducible first | apply AW.seq | apply AW.block | apply AW.scope | apply AW.skip | apply AW.ret | apply AW.exit | apply AW.label | apply q_then | apply q_thenR | apply q_thenE | apply q_bloN | apply q_bloR | apply q_bloE | apply q_strN | apply q_strR | apply q_strE | apply s_e | refine m_b rfl ?_ ?_ | refine m_g rfl ?_ | refine m_o rfl ?_ ?_ | refine v_reg ?_ | refine v_drw ?_ | refine v_rgl ?_ | refine v_drb ?_) | ((with_reducible apply i_dv); first | refine t_v AS.v ?_ | refine t_v (by first | exact u_call (hP := hp) | exact u_call (hP := hq)) ?_ | refine t_w AS.w ?_) | ((with_reducible apply i_dg); first | refine t_n ?_ | refine t_m (hs := fun hg => AS.v) (k := ?_) | refine t_m (hs := fun hg => (by first | exact u_call (hP := hp) | exact u_call (hP := hq))) (k := ?_) | refine t_f ?_) | ((with_reducible apply i_ds); first | refine t_s AS.s ?_) | ((with_reducible refine i_aw ?_); first | refine v_yes ?_ | refine v_no ?_ | (refine v_cond (fun hc => ?_) (fun hc => ?_); all_goals (try (exfalso; simp [*] at hc; done)); all_goals (try (exfalso; revert hc; simp; omega)))) | ((with_reducible refine i_rt ?_); first | refine k_b ?_ | refine k_s ?_ | refine k_i ?_ | refine k_v ?_ | refine k_c ?_ | exact r_0 | exact r_0n | ((first | refine k_2 ?_ ?_ | refine k_2c ?_ ?_); all_goals (with_reducible (first | apply un_b | apply un_i | apply un_s | apply un_a)))) | ((with_reducible apply al_id); dsimp only [List.append]) | (refine q_bloX rfl ?_) | (refine ⟨by decide +kernel, ?_⟩) | fail)
      rfl
    · have ha : e.op = 8 ∧ 0 ≤ e.a ∧ e.a < 15 ∧ 0 ≤ e.b ∧ e.b < 15 := by
        simp [o2, o3, o4, o9] at hn
        omega
      obtain ⟨o8, ha⟩ := ha
      obtain ⟨a, ha2⟩ : ∃ a : Nat, e.a = a := ⟨e.a.toNat, by omega⟩
      obtain ⟨b, hb2⟩ : ∃ b : Nat, e.b = b := ⟨e.b.toNat, by omega⟩
      have han : a < 15 := by omega
      have hbn : b < 15 := by omega
      have e1 : exH e.op e.a e.rel e.b e.names (e.kids.map exT) (e.kids.map (·.op)) = attT a ++ ⟨#[32]⟩ ++ relT e.rel ++ ⟨#[32]⟩ ++ attT b := by simp [exH, o8, ha2, hb2]
      rw [e1] at hb ⊢
      simp only [ByteArray.size_append, ba_size, List.size_toArray, List.length_cons, List.length_nil] at hb
      have hp : Pure Tryz.prog 114 [.c (sI e.a)] (.c (sS (attT a))) := by rw [ha2]; exact attribute_p han
      have hq : Pure Tryz.prog 114 [.c (sI e.b)] (.c (sS (attT b))) := by rw [hb2]; exact attribute_p hbn
      have hr := relation_p e.rel
      clear ih hn h e1 ha ha2 hb2 o2 o3 o4 o9
      refine fn1 (fn := Tryz.f62) Tryz.call62 Tryz.func62 rfl Tryz.ntmps62 Tryz.results62 rfl (by first | rfl | simp [V.ok, okL, C.ok, okA, okV]) ?_
      repeat' (first | (with_reducible first | apply AW.seq | apply AW.block | apply AW.scope | apply AW.skip | apply AW.ret | apply AW.exit | apply AW.label | apply q_then | apply q_thenR | apply q_thenE | apply q_bloN | apply q_bloR | apply q_bloE | apply q_strN | apply q_strR | apply q_strE | apply s_e | refine m_b rfl ?_ ?_ | refine m_g rfl ?_ | refine m_o rfl ?_ ?_ | refine v_reg ?_ | refine v_drw ?_ | refine v_rgl ?_ | refine v_drb ?_) | ((with_reducible apply i_dv); first | refine t_v AS.v ?_ | refine t_v (by first | exact u_call (hP := hp) | exact u_call (hP := hq) | exact u_call (hP := hr)) ?_ | refine t_w AS.w ?_) | ((with_reducible apply i_dg); first | refine t_n ?_ | refine t_m (hs := fun hg => AS.v) (k := ?_) | refine t_m (hs := fun hg => (by first | exact u_call (hP := hp) | exact u_call (hP := hq) | exact u_call (hP := hr))) (k := ?_) | refine t_f ?_) | ((with_reducible apply i_ds); first | refine t_s AS.s ?_) | ((with_reducible refine i_aw ?_); first | refine v_yes ?_ | refine v_no ?_ | (refine v_cond (fun hc => ?_) (fun hc => ?_); all_goals (try (exfalso; simp [*] at hc; done)); all_goals (try (exfalso; revert hc; simp; omega)))) | ((with_reducible refine i_rt ?_); first | refine k_b ?_ | refine k_s ?_ | refine k_i ?_ | refine k_v ?_ | refine k_c ?_ | exact r_0 | exact r_0n | ((first | refine k_2 ?_ ?_ | refine k_2c ?_ ?_); all_goals (with_reducible (first | apply un_b | apply un_i | apply un_s | apply un_a)))) | ((with_reducible apply al_id); dsimp only [List.append]) | (refine q_bloX rfl ?_) | (refine ⟨by decide +kernel, ?_⟩) | fail)
      rfl
theorem expression_p {e : Ex} {v : Bool} (h : consB e v = true) (hb : (exT e).size ≤ 4398046511000) : Pure Tryz.prog 62 [.agg (exC e)] (.c (sS (exT e))) :=
  expression_n _ e (if v then 15 else 10) 1 (Nat.lt_succ_self _) (by split <;> decide) h hb
end Am
namespace Am
set_option maxRecDepth 100000
set_option maxHeartbeats 1000000
def signM (op : Int) : ByteArray := if op = 6 then ⟨#[61, 61]⟩ else if op = 7 then ⟨#[33, 61]⟩ else if op = 3 then ⟨#[38, 38]⟩ else if op = 5 then ⟨#[94]⟩ else ⟨#[124, 124]⟩
def signN (op : Int) : Int := if op = 6 then 4 else if op = 7 then 4 else if op = 3 then 3 else if op = 5 then 2 else 1
def strB (op : Int) : Int := if opnB op < 2 then 5 else signN op
theorem sign_p (op : Int) : Pure Tryz.prog 175 [.c (sI op)] (.tup [.c (sS (signM op)), .c (sI (signN op))]) := by
  refine fn1 (fn := Tryz.f175) Tryz.call175 Tryz.func175 rfl Tryz.ntmps175 Tryz.results175 rfl (by first | rfl | simp [V.ok, okL, C.ok, okA, okV]) ?_
  repeat' (first | (with_reducible first | apply AW.seq | apply AW.block | apply AW.scope | apply AW.skip | apply AW.ret | apply AW.exit | apply AW.label | apply q_then | apply q_thenR | apply q_thenE | apply q_bloN | apply q_bloR | apply q_bloE | apply q_strN | apply q_strR | apply q_strE | apply s_e | refine m_b rfl ?_ ?_ | refine m_g rfl ?_ | refine m_o rfl ?_ ?_ | refine v_reg ?_ | refine v_drw ?_ | refine v_rgl ?_ | refine v_drb ?_) | ((with_reducible apply i_dv); first | refine t_v AS.v ?_ | refine t_w AS.w ?_) | ((with_reducible apply i_dg); first | refine t_n ?_ | refine t_m (hs := fun hg => AS.v) (k := ?_) | refine t_f ?_) | ((with_reducible apply i_ds); first | refine t_s AS.s ?_) | ((with_reducible refine i_aw ?_); first | refine v_yes ?_ | refine v_no ?_ | (refine v_cond (fun hc => ?_) (fun hc => ?_); all_goals (try (exfalso; simp [*] at hc; done)); all_goals (try (exfalso; revert hc; simp; omega)))) | ((with_reducible refine i_rt ?_); first | refine k_b ?_ | refine k_s ?_ | refine k_i ?_ | refine k_v ?_ | refine k_c ?_ | exact r_0 | exact r_0n | ((first | refine k_2 ?_ ?_ | refine k_2c ?_ ?_); all_goals (with_reducible (first | apply un_b | apply un_i | apply un_s | apply un_a)))) | ((with_reducible apply al_id); dsimp only [List.append]) | (refine q_bloX rfl ?_) | (refine ⟨by decide +kernel, ?_⟩) | fail)
  all_goals (simp only [decide_eq_true_eq, decide_eq_false_iff_not] at *; simp [signM, signN, *])
theorem strength_p (e : Ex) : Pure Tryz.prog 176 [.agg (exC e)] (.c (sI (strB e.op))) := by
  refine fn1 (fn := Tryz.f176) Tryz.call176 Tryz.func176 rfl Tryz.ntmps176 Tryz.results176 rfl (by first | rfl | simp [V.ok, okL, C.ok, okA, okV]) ?_
  repeat' (first | (with_reducible first | apply AW.seq | apply AW.block | apply AW.scope | apply AW.skip | apply AW.ret | apply AW.exit | apply AW.label | apply q_then | apply q_thenR | apply q_thenE | apply q_bloN | apply q_bloR | apply q_bloE | apply q_strN | apply q_strR | apply q_strE | apply s_e | refine m_b rfl ?_ ?_ | refine m_g rfl ?_ | refine m_o rfl ?_ ?_ | refine v_reg ?_ | refine v_drw ?_ | refine v_rgl ?_ | refine v_drb ?_) | ((with_reducible apply i_dv); first | refine t_v AS.v ?_ | refine t_v (by first | exact u_call (hP := operands_p _) | exact u_call (hP := sign_p _)) ?_ | refine t_w AS.w ?_) | ((with_reducible apply i_dg); first | refine t_n ?_ | refine t_m (hs := fun hg => AS.v) (k := ?_) | refine t_m (hs := fun hg => (by first | exact u_call (hP := operands_p _) | exact u_call (hP := sign_p _))) (k := ?_) | refine t_f ?_) | ((with_reducible apply i_ds); first | refine t_s AS.s ?_) | ((with_reducible refine i_aw ?_); first | refine v_yes ?_ | refine v_no ?_ | (refine v_cond (fun hc => ?_) (fun hc => ?_); all_goals (try (exfalso; simp [*] at hc; done)); all_goals (try (exfalso; revert hc; simp; omega)))) | ((with_reducible refine i_rt ?_); first | refine k_b ?_ | refine k_s ?_ | refine k_i ?_ | refine k_v ?_ | refine k_c ?_ | exact r_0 | exact r_0n | ((first | refine k_2 ?_ ?_ | refine k_2c ?_ ?_); all_goals (with_reducible (first | apply un_b | apply un_i | apply un_s | apply un_a)))) | ((with_reducible apply al_id); dsimp only [List.append]) | (refine q_bloX rfl ?_) | (refine ⟨by decide +kernel, ?_⟩) | fail)
  all_goals (simp only [decide_eq_true_eq, decide_eq_false_iff_not] at *; simp [strB, *])
def parT (st least : Int) (s : ByteArray) : ByteArray := if st < least then ⟨#[40]⟩ ++ s ++ ⟨#[41]⟩ else s
theorem parT_le (st least : Int) (s : ByteArray) : s.size ≤ (parT st least s).size := by
  unfold parT; split
  · simp only [ByteArray.size_append]; omega
  · omega
def btH (op : Int) (names ts : List ByteArray) (ops : List Int) : ByteArray :=
  if opnB op = 0 then names.getD 0 ⟨#[]⟩
  else if opnB op = 1 then ⟨#[33]⟩ ++ parT (strB (ops.getD 0 0)) 5 (ts.getD 0 ⟨#[]⟩)
  else parT (strB (ops.getD 0 0)) (signN op) (ts.getD 0 ⟨#[]⟩) ++ ⟨#[32]⟩ ++ signM op ++ ⟨#[32]⟩ ++ parT (strB (ops.getD 1 0)) (signN op + 1) (ts.getD 1 ⟨#[]⟩)
mutual
def btI : Ex → ByteArray
  | ⟨op, _, _, _, names, _, kids⟩ => btH op names (btIs kids) (kids.map (·.op))
def btIs : List Ex → List ByteArray
  | [] => []
  | x :: l => btI x :: btIs l
end
theorem btIs_map : ∀ l : List Ex, btIs l = l.map btI
  | [] => by rw [btIs]; rfl
  | x :: l => by rw [btIs, btIs_map l]; rfl
theorem btI_eq (e : Ex) : btI e = btH e.op e.names (e.kids.map btI) (e.kids.map (·.op)) := by
  cases e; rw [btI, btIs_map]
def btT (e : Ex) (least : Int) : ByteArray := parT (strB e.op) least (btI e)
theorem firstI_zero : ∀ {l : List Int}, firstI l = 0 → ∀ x ∈ l, x = 0
  | [], _, x, hx => by cases hx
  | y :: l, h, x, hx => by
    unfold firstI at h
    split at h
    · rename_i h0
      rcases List.mem_cons.1 hx with rfl | hx
      · exact h0
      · exact firstI_zero h x hx
    · rename_i h0; exact absurd h h0
theorem bchk_node {e : Ex} {level : Int} (h : bchkB level e = 0) : 0 ≤ opnB e.op ∧ (e.kids.length : Int) = opnB e.op ∧ (opnB e.op = 0 → e.names.length = 1) ∧ ∀ x ∈ e.kids, bchkB (level + 1) x = 0 := by
  rw [bchkB_eq] at h
  split at h
  · rename_i h0
    unfold bnodeB at h0
    by_cases p : 12 < level
    · rw [if_pos p] at h0; exact absurd h0 (by decide)
    rw [if_neg p] at h0
    by_cases q : opnB e.op < 0 ∨ e.a ≠ 0 ∨ e.b ≠ 0 ∨ e.rel ≠ 0 ∨ Se.eqB e.set Se.zero = false ∨ (e.kids.length : Int) ≠ opnB e.op ∨ (e.names.length : Int) ≠ (if opnB e.op = 0 then 1 else 0)
    · rw [if_pos q] at h0; exact absurd h0 (by decide)
    simp only [not_or] at q
    obtain ⟨q1, -, -, -, -, q2, q3⟩ := q
    refine ⟨by omega, by omega, fun e0 => ?_, fun x hx => firstI_zero h _ (List.mem_map_of_mem hx)⟩
    rw [if_pos e0] at q3
    omega
  · rename_i h0; exact absurd h h0
theorem btext_n : ∀ (n : Nat) (e : Ex) (level least : Int), SizeOf.sizeOf e < n → bchkB level e = 0 → (btT e least).size ≤ 4398046511000 → Pure Tryz.prog 137 [.agg (exC e), .c (sI least)] (.c (sS (btT e least)))
  | 0, _, _, _, h, _, _ => absurd h (Nat.not_lt_zero _)
  | n + 1, e, level, least, h, hn, hb => by
    obtain ⟨h0, h1, h2, h3⟩ := bchk_node hn
    have ih : ∀ x ∈ e.kids, ∀ least, (btT x least).size ≤ 4398046511000 → Pure Tryz.prog 137 [.agg (exC x), .c (sI least)] (.c (sS (btT x least))) := fun x hx least hs =>
      btext_n n x (level + 1) least (by have := kid_lt hx; omega) (h3 x hx) hs
    have hle := parT_le (strB e.op) least (btI e)
    have hpar := hb
    have hst := strength_p e
    unfold btT at hb hpar ⊢
    by_cases hs : strB e.op < least
    · have hb2 := hb
      unfold parT at hb2
      rw [if_pos hs] at hb2
      simp only [ByteArray.size_append, ba_size, List.size_toArray, List.length_cons, List.length_nil] at hb2
      have e0 : parT (strB e.op) least (btI e) = ⟨#[40]⟩ ++ btI e ++ ⟨#[41]⟩ := by unfold parT; rw [if_pos hs]
      rw [e0]
      clear hpar hb hle e0
      by_cases k0 : opnB e.op = 0
      · obtain ⟨x, hx⟩ := one_of (l := e.names) (by have := h2 k0; omega)
        have hx0 : e.names[0]? = some x := by rw [hx]; rfl
        have e1 : btI e = x := by rw [btI_eq]; simp [btH, k0, hx]
        rw [e1] at hb2 ⊢
        clear ih h1 h2 h3 hx h e1 hn h0
        refine fn2 (fn := Tryz.f137) Tryz.call137 Tryz.func137 rfl Tryz.ntmps137 Tryz.results137 rfl (by first | rfl | simp [V.ok, okL, C.ok, okA, okV]) ?_
        repeat' (first | (with_reducible first | apply AW.seq | apply AW.block | apply AW.scope | apply AW.skip | apply AW.ret | apply AW.exit | apply AW.label | apply q_then | apply q_thenR | apply q_thenE | apply q_bloN | apply q_bloR | apply q_bloE | apply q_strN | apply q_strR | apply q_strE | apply s_e | refine m_b rfl ?_ ?_ | refine m_g rfl ?_ | refine m_o rfl ?_ ?_ | refine v_reg ?_ | refine v_drw ?_ | refine v_rgl ?_ | refine v_drb ?_) | ((with_reducible apply i_dv); first | refine t_v AS.v ?_ | refine t_v (by first | exact u_call (hP := operands_p _) | exact u_call (hP := hst)) ?_ | refine t_w AS.w ?_) | ((with_reducible apply i_dg); first | refine t_n ?_ | refine t_m (hs := fun hg => AS.v) (k := ?_) | refine t_m (hs := fun hg => (by first | exact u_call (hP := operands_p _) | exact u_call (hP := hst))) (k := ?_) | refine t_f ?_) | ((with_reducible apply i_ds); first | refine t_s AS.s ?_) | ((with_reducible refine i_aw ?_); first | refine v_yes ?_ | refine v_no ?_ | (refine v_cond (fun hc => ?_) (fun hc => ?_); all_goals (try (exfalso; simp [*] at hc; done)); all_goals (try (exfalso; revert hc; simp; omega)))) | ((with_reducible refine i_rt ?_); first | refine k_b ?_ | refine k_s ?_ | refine k_i ?_ | refine k_v ?_ | refine k_c ?_ | exact r_0 | exact r_0n | ((first | refine k_2 ?_ ?_ | refine k_2c ?_ ?_); all_goals (with_reducible (first | apply un_b | apply un_i | apply un_s | apply un_a)))) | ((with_reducible apply al_id); dsimp only [List.append]) | (refine q_bloX rfl ?_) | (refine ⟨by decide +kernel, ?_⟩) | fail)
        rfl
      by_cases k1 : opnB e.op = 1
      · obtain ⟨k, hk⟩ := one_of (l := e.kids) (by omega)
        have hx0 : e.kids[0]? = some k := by rw [hk]; rfl
        have e1 : btI e = ⟨#[33]⟩ ++ btT k 5 := by rw [btI_eq]; simp [btH, k1, hk, btT]
        rw [e1] at hb2 ⊢
        simp only [ByteArray.size_append, ba_size, List.size_toArray, List.length_cons, List.length_nil] at hb2
        have hp := ih k (List.mem_of_getElem? hx0) 5 (by omega)
        clear ih h1 h2 h3 hk h e1 hn h0
        refine fn2 (fn := Tryz.f137) Tryz.call137 Tryz.func137 rfl Tryz.ntmps137 Tryz.results137 rfl (by first | rfl | simp [V.ok, okL, C.ok, okA, okV]) ?_
        repeat' (first | (with_reducible first | apply AW.seq | apply AW.block | apply AW.scope | apply AW.skip | apply AW.ret | apply AW.exit | apply AW.label | apply q_then | apply q_thenR | apply q_thenE | apply q_bloN | apply q_bloR | apply q_bloE | apply q_strN | apply q_strR | apply q_strE | apply s_e | refine m_b rfl ?_ ?_ | refine m_g rfl ?_ | refine m_o rfl ?_ ?_ | refine v_reg ?_ | refine v_drw ?_ | refine v_rgl ?_ | refine v_drb ?_) | ((with_reducible apply i_dv); first | refine t_v AS.v ?_ | refine t_v (by first | exact u_call (hP := operands_p _) | exact u_call (hP := hp) | exact u_call (hP := hst)) ?_ | refine t_w AS.w ?_) | ((with_reducible apply i_dg); first | refine t_n ?_ | refine t_m (hs := fun hg => AS.v) (k := ?_) | refine t_m (hs := fun hg => (by first | exact u_call (hP := operands_p _) | exact u_call (hP := hp) | exact u_call (hP := hst))) (k := ?_) | refine t_f ?_) | ((with_reducible apply i_ds); first | refine t_s AS.s ?_) | ((with_reducible refine i_aw ?_); first | refine v_yes ?_ | refine v_no ?_ | (refine v_cond (fun hc => ?_) (fun hc => ?_); all_goals (try (exfalso; simp [*] at hc; done)); all_goals (try (exfalso; revert hc; simp; omega)))) | ((with_reducible refine i_rt ?_); first | refine k_b ?_ | refine k_s ?_ | refine k_i ?_ | refine k_v ?_ | refine k_c ?_ | exact r_0 | exact r_0n | ((first | refine k_2 ?_ ?_ | refine k_2c ?_ ?_); all_goals (with_reducible (first | apply un_b | apply un_i | apply un_s | apply un_a)))) | ((with_reducible apply al_id); dsimp only [List.append]) | (refine q_bloX rfl ?_) | (refine ⟨by decide +kernel, ?_⟩) | fail)
        rfl
      · have k2 : opnB e.op = 2 := by
          have : opnB e.op = 0 ∨ opnB e.op = 1 ∨ opnB e.op = 2 ∨ opnB e.op = -1 := by unfold opnB; grind
          omega
        obtain ⟨k, m, hk⟩ := two_of (l := e.kids) (by omega)
        have hx0 : e.kids[0]? = some k := by rw [hk]; rfl
        have hy0 : e.kids[1]? = some m := by rw [hk]; rfl
        have e1 : btI e = btT k (signN e.op) ++ ⟨#[32]⟩ ++ signM e.op ++ ⟨#[32]⟩ ++ btT m (signN e.op + 1) := by rw [btI_eq]; simp [btH, k2, hk, btT]
        have hsn : 1 ≤ signN e.op ∧ signN e.op ≤ 4 := by unfold signN; grind
        rw [e1] at hb2 ⊢
        simp only [ByteArray.size_append, ba_size, List.size_toArray, List.length_cons, List.length_nil] at hb2
        have hp := ih k (List.mem_of_getElem? hx0) (signN e.op) (by omega)
        have hq := ih m (List.mem_of_getElem? hy0) (signN e.op + 1) (by omega)
        clear ih h1 h2 h3 hk h e1 hn h0
        refine fn2 (fn := Tryz.f137) Tryz.call137 Tryz.func137 rfl Tryz.ntmps137 Tryz.results137 rfl (by first | rfl | simp [V.ok, okL, C.ok, okA, okV]) ?_
        repeat' (first | (with_reducible first | apply AW.seq | apply AW.block | apply AW.scope | apply AW.skip | apply AW.ret | apply AW.exit | apply AW.label | apply q_then | apply q_thenR | apply q_thenE | apply q_bloN | apply q_bloR | apply q_bloE | apply q_strN | apply q_strR | apply q_strE | apply s_e | refine m_b rfl ?_ ?_ | refine m_g rfl ?_ | refine m_o rfl ?_ ?_ | refine v_reg ?_ | refine v_drw ?_ | refine v_rgl ?_ | refine v_drb ?_) | ((with_reducible apply i_dv); first | refine t_v AS.v ?_ | refine t_v (by first | exact u_call (hP := operands_p _) | exact u_call (hP := sign_p _) | exact u_call (hP := hp) | exact u_call (hP := hq) | exact u_call (hP := hst)) ?_ | refine t_w AS.w ?_) | ((with_reducible apply i_dg); first | refine t_n ?_ | refine t_m (hs := fun hg => AS.v) (k := ?_) | refine t_m (hs := fun hg => (by first | exact u_call (hP := operands_p _) | exact u_call (hP := sign_p _) | exact u_call (hP := hp) | exact u_call (hP := hq) | exact u_call (hP := hst))) (k := ?_) | refine t_f ?_) | ((with_reducible apply i_ds); first | refine t_s AS.s ?_) | ((with_reducible refine i_aw ?_); first | refine v_yes ?_ | refine v_no ?_ | (refine v_cond (fun hc => ?_) (fun hc => ?_); all_goals (try (exfalso; simp [*] at hc; done)); all_goals (try (exfalso; revert hc; simp; omega)))) | ((with_reducible refine i_rt ?_); first | refine k_b ?_ | refine k_s ?_ | refine k_i ?_ | refine k_v ?_ | refine k_c ?_ | exact r_0 | exact r_0n | ((first | refine k_2 ?_ ?_ | refine k_2c ?_ ?_); all_goals (with_reducible (first | apply un_b | apply un_i | apply un_s | apply un_a)))) | ((with_reducible apply al_id); dsimp only [List.append]) | (refine q_bloX rfl ?_) | (refine ⟨by decide +kernel, ?_⟩) | fail)
        rfl
    · have e0 : parT (strB e.op) least (btI e) = btI e := by unfold parT; rw [if_neg hs]
      rw [e0] at hb ⊢
      clear hpar hle e0
      by_cases k0 : opnB e.op = 0
      · obtain ⟨x, hx⟩ := one_of (l := e.names) (by have := h2 k0; omega)
        have hx0 : e.names[0]? = some x := by rw [hx]; rfl
        have e1 : btI e = x := by rw [btI_eq]; simp [btH, k0, hx]
        rw [e1] at hb ⊢
        clear ih h1 h2 h3 hx h e1 hn h0
        refine fn2 (fn := Tryz.f137) Tryz.call137 Tryz.func137 rfl Tryz.ntmps137 Tryz.results137 rfl (by first | rfl | simp [V.ok, okL, C.ok, okA, okV]) ?_
        repeat' (first | (with_reducible first | apply AW.seq | apply AW.block | apply AW.scope | apply AW.skip | apply AW.ret | apply AW.exit | apply AW.label | apply q_then | apply q_thenR | apply q_thenE | apply q_bloN | apply q_bloR | apply q_bloE | apply q_strN | apply q_strR | apply q_strE | apply s_e | refine m_b rfl ?_ ?_ | refine m_g rfl ?_ | refine m_o rfl ?_ ?_ | refine v_reg ?_ | refine v_drw ?_ | refine v_rgl ?_ | refine v_drb ?_) | ((with_reducible apply i_dv); first | refine t_v AS.v ?_ | refine t_v (by first | exact u_call (hP := operands_p _) | exact u_call (hP := hst)) ?_ | refine t_w AS.w ?_) | ((with_reducible apply i_dg); first | refine t_n ?_ | refine t_m (hs := fun hg => AS.v) (k := ?_) | refine t_m (hs := fun hg => (by first | exact u_call (hP := operands_p _) | exact u_call (hP := hst))) (k := ?_) | refine t_f ?_) | ((with_reducible apply i_ds); first | refine t_s AS.s ?_) | ((with_reducible refine i_aw ?_); first | refine v_yes ?_ | refine v_no ?_ | (refine v_cond (fun hc => ?_) (fun hc => ?_); all_goals (try (exfalso; simp [*] at hc; done)); all_goals (try (exfalso; revert hc; simp; omega)))) | ((with_reducible refine i_rt ?_); first | refine k_b ?_ | refine k_s ?_ | refine k_i ?_ | refine k_v ?_ | refine k_c ?_ | exact r_0 | exact r_0n | ((first | refine k_2 ?_ ?_ | refine k_2c ?_ ?_); all_goals (with_reducible (first | apply un_b | apply un_i | apply un_s | apply un_a)))) | ((with_reducible apply al_id); dsimp only [List.append]) | (refine q_bloX rfl ?_) | (refine ⟨by decide +kernel, ?_⟩) | fail)
        rfl
      by_cases k1 : opnB e.op = 1
      · obtain ⟨k, hk⟩ := one_of (l := e.kids) (by omega)
        have hx0 : e.kids[0]? = some k := by rw [hk]; rfl
        have e1 : btI e = ⟨#[33]⟩ ++ btT k 5 := by rw [btI_eq]; simp [btH, k1, hk, btT]
        rw [e1] at hb ⊢
        simp only [ByteArray.size_append, ba_size, List.size_toArray, List.length_cons, List.length_nil] at hb
        have hp := ih k (List.mem_of_getElem? hx0) 5 (by omega)
        clear ih h1 h2 h3 hk h e1 hn h0
        refine fn2 (fn := Tryz.f137) Tryz.call137 Tryz.func137 rfl Tryz.ntmps137 Tryz.results137 rfl (by first | rfl | simp [V.ok, okL, C.ok, okA, okV]) ?_
        repeat' (first | (with_reducible first | apply AW.seq | apply AW.block | apply AW.scope | apply AW.skip | apply AW.ret | apply AW.exit | apply AW.label | apply q_then | apply q_thenR | apply q_thenE | apply q_bloN | apply q_bloR | apply q_bloE | apply q_strN | apply q_strR | apply q_strE | apply s_e | refine m_b rfl ?_ ?_ | refine m_g rfl ?_ | refine m_o rfl ?_ ?_ | refine v_reg ?_ | refine v_drw ?_ | refine v_rgl ?_ | refine v_drb ?_) | ((with_reducible apply i_dv); first | refine t_v AS.v ?_ | refine t_v (by first | exact u_call (hP := operands_p _) | exact u_call (hP := hp) | exact u_call (hP := hst)) ?_ | refine t_w AS.w ?_) | ((with_reducible apply i_dg); first | refine t_n ?_ | refine t_m (hs := fun hg => AS.v) (k := ?_) | refine t_m (hs := fun hg => (by first | exact u_call (hP := operands_p _) | exact u_call (hP := hp) | exact u_call (hP := hst))) (k := ?_) | refine t_f ?_) | ((with_reducible apply i_ds); first | refine t_s AS.s ?_) | ((with_reducible refine i_aw ?_); first | refine v_yes ?_ | refine v_no ?_ | (refine v_cond (fun hc => ?_) (fun hc => ?_); all_goals (try (exfalso; simp [*] at hc; done)); all_goals (try (exfalso; revert hc; simp; omega)))) | ((with_reducible refine i_rt ?_); first | refine k_b ?_ | refine k_s ?_ | refine k_i ?_ | refine k_v ?_ | refine k_c ?_ | exact r_0 | exact r_0n | ((first | refine k_2 ?_ ?_ | refine k_2c ?_ ?_); all_goals (with_reducible (first | apply un_b | apply un_i | apply un_s | apply un_a)))) | ((with_reducible apply al_id); dsimp only [List.append]) | (refine q_bloX rfl ?_) | (refine ⟨by decide +kernel, ?_⟩) | fail)
        rfl
      · have k2 : opnB e.op = 2 := by
          have : opnB e.op = 0 ∨ opnB e.op = 1 ∨ opnB e.op = 2 ∨ opnB e.op = -1 := by unfold opnB; grind
          omega
        obtain ⟨k, m, hk⟩ := two_of (l := e.kids) (by omega)
        have hx0 : e.kids[0]? = some k := by rw [hk]; rfl
        have hy0 : e.kids[1]? = some m := by rw [hk]; rfl
        have e1 : btI e = btT k (signN e.op) ++ ⟨#[32]⟩ ++ signM e.op ++ ⟨#[32]⟩ ++ btT m (signN e.op + 1) := by rw [btI_eq]; simp [btH, k2, hk, btT]
        have hsn : 1 ≤ signN e.op ∧ signN e.op ≤ 4 := by unfold signN; grind
        rw [e1] at hb ⊢
        simp only [ByteArray.size_append, ba_size, List.size_toArray, List.length_cons, List.length_nil] at hb
        have hp := ih k (List.mem_of_getElem? hx0) (signN e.op) (by omega)
        have hq := ih m (List.mem_of_getElem? hy0) (signN e.op + 1) (by omega)
        clear ih h1 h2 h3 hk h e1 hn h0
        refine fn2 (fn := Tryz.f137) Tryz.call137 Tryz.func137 rfl Tryz.ntmps137 Tryz.results137 rfl (by first | rfl | simp [V.ok, okL, C.ok, okA, okV]) ?_
        repeat' (first | (with_reducible first | apply AW.seq | apply AW.block | apply AW.scope | apply AW.skip | apply AW.ret | apply AW.exit | apply AW.label | apply q_then | apply q_thenR | apply q_thenE | apply q_bloN | apply q_bloR | apply q_bloE | apply q_strN | apply q_strR | apply q_strE | apply s_e | refine m_b rfl ?_ ?_ | refine m_g rfl ?_ | refine m_o rfl ?_ ?_ | refine v_reg ?_ | refine v_drw ?_ | refine v_rgl ?_ | refine v_drb ?_) | ((with_reducible apply i_dv); first | refine t_v AS.v ?_ | refine t_v (by first | exact u_call (hP := operands_p _) | exact u_call (hP := sign_p _) | exact u_call (hP := hp) | exact u_call (hP := hq) | exact u_call (hP := hst)) ?_ | refine t_w AS.w ?_) | ((with_reducible apply i_dg); first | refine t_n ?_ | refine t_m (hs := fun hg => AS.v) (k := ?_) | refine t_m (hs := fun hg => (by first | exact u_call (hP := operands_p _) | exact u_call (hP := sign_p _) | exact u_call (hP := hp) | exact u_call (hP := hq) | exact u_call (hP := hst))) (k := ?_) | refine t_f ?_) | ((with_reducible apply i_ds); first | refine t_s AS.s ?_) | ((with_reducible refine i_aw ?_); first | refine v_yes ?_ | refine v_no ?_ | (refine v_cond (fun hc => ?_) (fun hc => ?_); all_goals (try (exfalso; simp [*] at hc; done)); all_goals (try (exfalso; revert hc; simp; omega)))) | ((with_reducible refine i_rt ?_); first | refine k_b ?_ | refine k_s ?_ | refine k_i ?_ | refine k_v ?_ | refine k_c ?_ | exact r_0 | exact r_0n | ((first | refine k_2 ?_ ?_ | refine k_2c ?_ ?_); all_goals (with_reducible (first | apply un_b | apply un_i | apply un_s | apply un_a)))) | ((with_reducible apply al_id); dsimp only [List.append]) | (refine q_bloX rfl ?_) | (refine ⟨by decide +kernel, ?_⟩) | fail)
        rfl
theorem bText_p {e : Ex} (h : bchkB 1 e = 0) (hb : (btT e 0).size ≤ 4398046511000) : Pure Tryz.prog 83 [.agg (exC e)] (.tup [.c (sS (btT e 0)), .c (sI 0)]) := by
  refine fn1 (fn := Tryz.f83) Tryz.call83 Tryz.func83 rfl Tryz.ntmps83 Tryz.results83 rfl (by first | rfl | simp [V.ok, okL, C.ok, okA, okV]) ?_
  repeat' (first | (with_reducible first | apply AW.seq | apply AW.block | apply AW.scope | apply AW.skip | apply AW.ret | apply AW.exit | apply AW.label | apply q_then | apply q_thenR | apply q_thenE | apply q_bloN | apply q_bloR | apply q_bloE | apply q_strN | apply q_strR | apply q_strE | apply s_e | refine m_b rfl ?_ ?_ | refine m_g rfl ?_ | refine m_o rfl ?_ ?_ | refine v_reg ?_ | refine v_drw ?_ | refine v_rgl ?_ | refine v_drb ?_) | ((with_reducible apply i_dv); first | refine t_v AS.v ?_ | refine t_v (by first | exact u_call (hP := check_p _) | exact u_call (hP := btext_n _ e 1 0 (Nat.lt_succ_self _) h hb)) ?_ | refine t_w AS.w ?_) | ((with_reducible apply i_dg); first | refine t_n ?_ | refine t_m (hs := fun hg => AS.v) (k := ?_) | refine t_m (hs := fun hg => (by first | exact u_call (hP := check_p _) | exact u_call (hP := btext_n _ e 1 0 (Nat.lt_succ_self _) h hb))) (k := ?_) | refine t_f ?_) | ((with_reducible apply i_ds); first | refine t_s AS.s ?_) | ((with_reducible refine i_aw ?_); first | refine v_yes ?_ | refine v_no ?_ | (refine v_cond (fun hc => ?_) (fun hc => ?_); all_goals (try (exfalso; simp [*] at hc; done)); all_goals (try (exfalso; revert hc; simp; omega)))) | ((with_reducible refine i_rt ?_); first | refine k_b ?_ | refine k_s ?_ | refine k_i ?_ | refine k_v ?_ | refine k_c ?_ | exact r_0 | exact r_0n | ((first | refine k_2 ?_ ?_ | refine k_2c ?_ ?_); all_goals (with_reducible (first | apply un_b | apply un_i | apply un_s | apply un_a)))) | ((with_reducible apply al_id); dsimp only [List.append]) | (refine q_bloX rfl ?_) | (refine ⟨by decide +kernel, ?_⟩) | fail)
  all_goals (first | rfl | (exfalso; simp [h] at hc))
end Am
namespace Am
set_option maxRecDepth 100000
set_option maxHeartbeats 4000000
def keptS (s : Stm) : Stm :=
  if s.kind = 1 ∨ s.kind = 4 then { Stm.zero with kind := s.kind, name := s.name, list := s.list }
  else if s.kind = 2 then { Stm.zero with kind := s.kind, name := s.name, aliases := s.aliases, list := s.list }
  else if s.kind = 3 ∨ s.kind = 10 ∨ s.kind = 11 then { Stm.zero with kind := s.kind, name := s.name }
  else if s.kind = 5 then { Stm.zero with kind := s.kind, name := s.name, source := s.source }
  else if s.kind = 6 then { Stm.zero with kind := s.kind, source := s.source, target := s.target }
  else if s.kind = 7 then { Stm.zero with kind := s.kind, source := s.source, target := s.target, cls := s.cls, result := s.result }
  else if s.kind = 8 then { Stm.zero with kind := s.kind, name := s.name, list := s.list, level := s.level, range := s.range }
  else if s.kind = 9 then { Stm.zero with kind := s.kind, name := s.name, value := s.value }
  else if s.kind = 12 then { Stm.zero with kind := s.kind, op := s.op, source := s.source, target := s.target, cls := s.cls, perms := s.perms }
  else if s.kind = 13 then { Stm.zero with kind := s.kind, op := s.op, source := s.source, target := s.target, cls := s.cls, result := s.result, text := s.text }
  else if s.kind = 14 then { Stm.zero with kind := s.kind, source := s.source, target := s.target, cls := s.cls, range := s.range }
  else if s.kind = 15 then { Stm.zero with kind := s.kind, cls := s.cls, perms := s.perms, cond := s.cond }
  else if s.kind = 16 then { Stm.zero with kind := s.kind, cls := s.cls, cond := s.cond }
  else if s.kind = 17 then { Stm.zero with kind := s.kind, cond := s.cond, thn := s.thn, els := s.els }
  else if s.kind = 18 then { Stm.zero with kind := s.kind, thn := s.thn, els := s.els }
  else if s.kind = 19 then { Stm.zero with kind := s.kind, op := s.op, name := s.name, list := s.list }
  else if s.kind = 20 then { Stm.zero with kind := s.kind, name := s.name, ctx := s.ctx }
  else if s.kind = 21 then { Stm.zero with kind := s.kind, text := s.text, op := s.op, ctx := s.ctx }
  else if s.kind = 22 then { Stm.zero with kind := s.kind, source := s.source }
  else if s.kind = 23 then { Stm.zero with kind := s.kind, name := s.name, op := s.op, source := s.source, target := s.target }
  else { Stm.zero with kind := s.kind }
def idsB (l : List ByteArray) (least : Int) : Bool := l.all idB && decide (least ≤ l.length)
def emptyB (n : NS) : Bool := !n.all && !n.nt && !n.self && decide (n.names.length = 0) && decide (n.except.length = 0)
def declQ (s : Stm) : Bool :=
  if s.kind = 1 ∨ s.kind = 4 then idB s.name && idsB s.list 1
  else if s.kind = 2 then idB s.name && idsB s.list 0 && idsB s.aliases 0
  else if s.kind = 5 then idB s.name && (emptyB s.source || namedB s.source false)
  else if s.kind = 8 then idB s.name && idsB s.list 1 && lvB s.level && rgB s.range
  else if s.kind = 19 then (if s.op = 1 then idB s.name && idsB s.list 1 else decide (s.name = ⟨#[]⟩) && decide (2 ≤ s.op) && decide (s.op ≤ 8) && idsB s.list 1)
  else if s.kind = 20 then idB s.name && cxB s.ctx
  else if s.kind = 23 then idB s.name && decide (1 ≤ s.op) && decide (s.op ≤ 3) && namedB s.source false && namedB s.target false
  else idB s.name
def titleB (s : Stm) : Bool := s.text.data.toList.all objC && (decide (s.text = ⟨#[]⟩) || (decide (s.op = 1) && decide (s.text.size ≤ 32)))
def ruleQ (s : Stm) : Bool :=
  if s.kind = 6 then pairB s
  else if s.kind = 7 then pairB s && namedB s.cls false && idB s.result
  else if s.kind = 12 then pairB s && namedB s.cls false && namedB s.perms false && decide (1 ≤ s.op) && decide (s.op ≤ 4)
  else if s.kind = 13 then pairB s && namedB s.cls false && idB s.result && decide (1 ≤ s.op) && decide (s.op ≤ 3) && titleB s
  else if s.kind = 14 then pairB s && namedB s.cls false && rgB s.range
  else if s.kind = 15 then namedB s.cls false && namedB s.perms false && consB s.cond false
  else if s.kind = 16 then namedB s.cls false && consB s.cond true
  else if s.kind = 22 then namedB s.source false
  else decide (s.text ≠ ⟨#[]⟩) && quoB s.text && decide (0 ≤ s.op) && decide (s.op ≤ 4) && cxB s.ctx
def wellH (tb eb : Bool) (s : Stm) : Bool :=
  (if s.kind = 1 ∨ s.kind = 2 ∨ s.kind = 3 ∨ s.kind = 4 ∨ s.kind = 5 ∨ s.kind = 8 ∨ s.kind = 9 ∨ s.kind = 10 ∨ s.kind = 11 ∨ s.kind = 19 ∨ s.kind = 20 ∨ s.kind = 23 then declQ s
   else if s.kind = 6 ∨ s.kind = 7 ∨ s.kind = 12 ∨ s.kind = 13 ∨ s.kind = 14 ∨ s.kind = 15 ∨ s.kind = 16 ∨ s.kind = 21 ∨ s.kind = 22 then ruleQ s
   else if s.kind = 17 then decide (bchkB 1 s.cond = 0) && decide (0 < s.thn.length) && tb && eb
   else if s.kind = 18 then decide (0 < s.thn.length) && tb && eb else false) && sameS (keptS s) s
theorem eqs_len (l : List ByteArray) : decide ([] = l) = decide (l = []) := by simp only [eq_comm]
theorem z_nil (x : ByteArray) : decide ((⟨#[]⟩ : ByteArray) = x) = decide (x = ⟨#[]⟩) := by simp only [eq_comm]
theorem z_int (x : Int) : decide (0 = x) = decide (x = 0) := by simp only [eq_comm]
theorem z_bool (x : Bool) : (false == x) = (x == false) := by cases x <;> rfl
theorem seqB_refl (a : Se) : Se.eqB a a = true := by simp [Se.eqB]
theorem seqB_comm (a b : Se) : Se.eqB a b = Se.eqB b a := by simp only [Se.eqB, eq_comm]
mutual
theorem sameX_refl : ∀ a : Ex, sameX a a = true
  | ⟨op, a, rel, b, names, set, kids⟩ => by rw [sameX, sameXs_refl kids]; simp [sameH, seqB_refl]
theorem sameXs_refl : ∀ l : List Ex, sameXs l l = true
  | [] => by rw [sameXs]
  | x :: l => by rw [sameXs, sameX_refl x, sameXs_refl l]; rfl
end
theorem all2_nil {α β : Type} {p : α → β → Bool} (l : List α) : all2 p l [] = decide (l.length = 0) := by cases l <;> rfl
theorem nil_all2 {α β : Type} {p : α → β → Bool} (l : List β) : all2 p [] l = decide (l.length = 0) := by cases l <;> rfl
theorem sameX_zero (x : Ex) : sameX Ex.zero x = sameX x Ex.zero := by
  rw [sameX_eq, sameX_eq]
  simp only [sameH, Ex.zero, all2_nil, nil_all2, seqB_comm ⟨0, 0, 0, 0⟩ x.set]
  rw [Bool.eq_iff_iff]
  simp only [Bool.and_eq_true, decide_eq_true_eq]
  grind
theorem sameNs_refl (a : NS) : sameNs a a = true := by simp [sameNs]
theorem sameNs_comm (a b : NS) : sameNs a b = sameNs b a := by
  unfold sameNs
  have h : ∀ p q : Bool, (p == q) = (q == p) := by decide
  rw [h a.all, h a.nt, h a.self]
  simp only [eq_comm]
theorem sameLv_refl (a : Lv) : sameLv a a = true := by simp [sameLv]
theorem sameLv_comm (a b : Lv) : sameLv a b = sameLv b a := by simp only [sameLv, eq_comm]
theorem sameRg_refl (a : Rg) : sameRg a a = true := by simp [sameRg, sameLv_refl]
theorem sameRg_comm (a b : Rg) : sameRg a b = sameRg b a := by unfold sameRg; rw [sameLv_comm a.lo, sameLv_comm a.hi]
mutual
theorem sameS_refl : ∀ a : Stm, sameS a a = true
  | ⟨a1, a2, a3, a4, a5, a6, a7, a8, a9, a10, a11, a12, a13, a14, a15, a16, a17, t, e⟩ => by rw [sameS, sameSs_refl t, sameSs_refl e]; simp [sameStH, sameX_refl, sameNs_refl, sameLv_refl, sameRg_refl]
theorem sameSs_refl : ∀ l : List Stm, sameSs l l = true
  | [] => by rw [sameSs]
  | x :: l => by rw [sameSs, sameS_refl x, sameSs_refl l]; rfl
end
theorem all2_refl (l : List Stm) : all2 sameS l l = true := by rw [← sameSs_all]; exact sameSs_refl l
def Z (s : Stm) : Nat → Bool
  | 0 => decide (s.op = 0)
  | 1 => decide (s.name = ⟨#[]⟩)
  | 2 => decide (s.result = ⟨#[]⟩)
  | 3 => decide (s.text = ⟨#[]⟩)
  | 4 => s.value == false
  | 5 => decide (s.list = [])
  | 6 => decide (s.aliases = [])
  | 7 => sameNs s.source NS.zero
  | 8 => sameNs s.target NS.zero
  | 9 => sameNs s.cls NS.zero
  | 10 => sameNs s.perms NS.zero
  | 11 => sameX s.cond Ex.zero
  | 12 => sameLv s.level Lv.zero
  | 13 => sameRg s.range Rg.zero
  | 14 => decide (s.ctx.user = ⟨#[]⟩) && decide (s.ctx.role = ⟨#[]⟩) && decide (s.ctx.type = ⟨#[]⟩) && sameRg s.ctx.rng Rg.zero
  | 15 => decide (s.thn.length = 0)
  | _ => decide (s.els.length = 0)
theorem restB_Z (r : Stm) : restB r = (Z r 0 && Z r 1 && Z r 2 && Z r 3 && Z r 4 && Z r 5 && Z r 6 && Z r 7 && Z r 8 && Z r 9 && Z r 10 && Z r 11 && Z r 12 && Z r 13 && Z r 14 && Z r 15 && Z r 16) := by
  unfold restB
  rw [sameS_eq]
  simp only [sameStH, Stm.zero, Z, all2_nil, Ct.zero]
  simp only [Bool.and_assoc, decide_true, Bool.true_and]
  rfl
theorem sameK_Z (k s : Stm) (hk : k.kind = s.kind) : sameS k s = ((decide (k.op = s.op) && decide (k.name = s.name) && decide (k.result = s.result) && decide (k.text = s.text) && (k.value == s.value) && decide (k.list = s.list) && decide (k.aliases = s.aliases) && sameNs k.source s.source && sameNs k.target s.target && sameNs k.cls s.cls && sameNs k.perms s.perms && sameX k.cond s.cond && sameLv k.level s.level && sameRg k.range s.range &&
    (decide (k.ctx.user = s.ctx.user) && decide (k.ctx.role = s.ctx.role) && decide (k.ctx.type = s.ctx.type) && sameRg k.ctx.rng s.ctx.rng) && all2 sameS k.thn s.thn && all2 sameS k.els s.els)) := by
  rw [sameS_eq]
  simp only [sameStH, hk, decide_true, Bool.true_and, Bool.and_assoc]
theorem ids_zero (l : List ByteArray) : idsB l 0 = l.all idB := by simp [idsB]
theorem ids_one (l : List ByteArray) : idsB l 1 = someB l := by
  simp only [idsB, someB]
  rw [Bool.and_comm]
  congr 1
  exact decide_eq_decide.2 (by omega)
theorem empty_same (n : NS) : emptyB n = sameNs n NS.zero := by
  obtain ⟨a, b, c, d, e⟩ := n
  cases a <;> cases b <;> cases c <;> cases d <;> cases e <;> simp [emptyB, sameNs, NS.zero]
theorem title_eq (s : Stm) : (decide (s.text = ⟨#[]⟩) || (decide (s.op = 1) && objB s.text)) = titleB s := by
  unfold titleB objB
  by_cases h : s.text = ⟨#[]⟩
  · rw [h]; simp
  · rw [decide_eq_false h]
    simp only [Bool.false_or, h, decide_true, ne_eq, not_false_eq_true, Bool.true_and]
    cases decide (s.op = 1) <;> simp
theorem nz (x : NS) : sameNs ⟨false, false, false, [], []⟩ x = sameNs x NS.zero := sameNs_comm _ _
theorem xz (x : Ex) : sameX ⟨0, 0, 0, 0, [], ⟨0, 0, 0, 0⟩, []⟩ x = sameX x Ex.zero := sameX_zero x
theorem lz (x : Lv) : sameLv ⟨⟨#[]⟩, []⟩ x = sameLv x Lv.zero := sameLv_comm _ _
theorem rz (x : Rg) : sameRg ⟨⟨⟨#[]⟩, []⟩, ⟨⟨#[]⟩, []⟩⟩ x = sameRg x Rg.zero := sameRg_comm _ _
theorem kept_kind (s : Stm) : (keptS s).kind = s.kind := by
  unfold keptS
  simp only [apply_ite Stm.kind, ite_self]
theorem well_fm (tb eb : Bool) (s : Stm) : wellH tb eb s = fmH tb eb s := by
  have hx : (s.kind = 1 ∨ s.kind = 2 ∨ s.kind = 3 ∨ s.kind = 4 ∨ s.kind = 5 ∨ s.kind = 6 ∨ s.kind = 7 ∨ s.kind = 8 ∨ s.kind = 9 ∨ s.kind = 10 ∨ s.kind = 11 ∨ s.kind = 12 ∨ s.kind = 13 ∨ s.kind = 14 ∨ s.kind = 15 ∨ s.kind = 16 ∨ s.kind = 17 ∨ s.kind = 18 ∨ s.kind = 19 ∨ s.kind = 20 ∨ s.kind = 21 ∨ s.kind = 22 ∨ s.kind = 23) ∨ ¬(s.kind = 1 ∨ s.kind = 2 ∨ s.kind = 3 ∨ s.kind = 4 ∨ s.kind = 5 ∨ s.kind = 6 ∨ s.kind = 7 ∨ s.kind = 8 ∨ s.kind = 9 ∨ s.kind = 10 ∨ s.kind = 11 ∨ s.kind = 12 ∨ s.kind = 13 ∨ s.kind = 14 ∨ s.kind = 15 ∨ s.kind = 16 ∨ s.kind = 17 ∨ s.kind = 18 ∨ s.kind = 19 ∨ s.kind = 20 ∨ s.kind = 21 ∨ s.kind = 22 ∨ s.kind = 23) := Decidable.em _
  rcases hx with hx | hx
  · unfold wellH
    rw [sameK_Z _ _ (kept_kind s)]
    unfold fmH
    simp only [restB_Z]
    rcases hx with k | k | k | k | k | k | k | k | k | k | k | k | k | k | k | k | k | k | k | k | k | k | k
    all_goals
      simp only [keptS, declQ, ruleQ, declR, regR, spcR, zeroN, pairB, opB, k, Int.reduceEq, or_true, true_or, or_self, or_false, false_or, if_true, if_false, ↓reduceIte, Z, Stm.zero, Ct.zero, sameNs_refl, sameX_refl, sameLv_refl, sameRg_refl, all2_refl, all2_nil, nil_all2, nz, xz, lz, rz, eqs_len, z_nil, z_int, z_bool, ids_zero, ids_one, empty_same, decide_true, beq_self_eq_true, Bool.and_true, Bool.true_and, Bool.false_and, Bool.false_eq_true, List.length_nil]
    all_goals
      rw [Bool.eq_iff_iff]
      simp only [Bool.and_eq_true, Bool.or_eq_true, decide_eq_true_eq, beq_iff_eq, ← title_eq]
      grind
  · simp only [not_or] at hx
    obtain ⟨h1, h2, h3, h4, h5, h6, h7, h8, h9, h10, h11, h12, h13, h14, h15, h16, h17, h18, h19, h20, h21, h22, h23⟩ := hx
    simp [wellH, fmH, declR, regR, spcR, *]
end Am
end Go.Proofs.YtkcojiopjkllgaaGreatDoor
