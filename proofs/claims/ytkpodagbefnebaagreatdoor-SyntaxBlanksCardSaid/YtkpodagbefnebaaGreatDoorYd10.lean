import Derived.Test.YtkpodagbefnebaaGreatDoorYd9
set_option linter.unusedSimpArgs false
set_option linter.unusedVariables false
set_option linter.unusedSectionVars false
namespace Go.Proofs.YtkpodagbefnebaaGreatDoor
namespace Am
open Tk Go.RowKit
set_option maxRecDepth 100000
set_option maxHeartbeats 1000000
section
variable {l : List Tok} {k : Ix l} {c d : Int}
theorem name_adv (hf : Fine l) {x : ByteArray} {k' : Ix l} (h : nameP k = .ok (x, k')) : k' = nx k ∧ k'.1 = k.1 + 1 := by
  unfold nameP at h
  split at h
  · rename_i hn
    injection h with h
    injection h with h1 h2
    subst h2
    refine ⟨rfl, nx_val hf ?_⟩
    simp [isNm] at hn
    rw [hn.1]; decide
  · cases h
theorem isM_adv (hf : Fine l) {s : ByteArray} (h : isM s k = true) : (nx k).1 = k.1 + 1 := nx_val hf (by simp [isM] at h; rw [h.1]; decide)
theorem isW_adv (hf : Fine l) {s : ByteArray} (h : isW s k = true) : (nx k).1 = k.1 + 1 := nx_val hf (by simp [isW] at h; rw [h.1]; decide)
theorem adv_le {b : Bool} : k.1 ≤ (adv b k).1 := by unfold adv; split; exact nx_le k; exact Nat.le_refl _
theorem braced_x (hf : Fine l) : MX Tryz.prog 249 [(0, psO k c d)] [.c (.ptr 0 0)] (bracedP k) (fun s => .c (strL s)) (fun k' => [(0, psO k' c d)]) pvS := by
  have hl := hf.le
  refine MX.of (fn := Tryz.f249) Tryz.call249 Tryz.func249 rfl Tryz.ntmps249 Tryz.results249 rfl rfl (by intro a; simp [V.ok, okL, C.ok, okA, okV]) (by intro b; exact ⟨rfl, by simp [HO.one, okL, C.ok, okA]⟩) ?_
  repeat' ((fail_if_success (with_reducible refine reg_at 2 ?_)); (first | (with_reducible first | apply AW.seq | apply q_then | apply q_thenP | apply y_e | refine v_rgl ?_) | ((with_reducible apply i_dv); first | refine t_v AS.v ?_ | refine t_c1 (hP := need_x hf _) (k1 := fun x k h => ?_) (k2 := fun e h σx => ?_)) | ((with_reducible refine i_rx ?_); (with_reducible refine x_pan ?_)) | fail))
  · repeat' ((fail_if_success (with_reducible first | refine reg_at 3 ?_ | refine reg_al 3 ?_)); (first | (with_reducible first | apply AW.seq | apply AW.block | apply q_then | apply q_thenP | apply y_e | refine v_rgl ?_) | ((with_reducible apply i_dv); first | refine t_w u_rowS ?_ | refine t_v AS.v ?_ | refine t_c1 (hP := name_x hf) (k1 := fun x k h => ?_) (k2 := fun e h σx => ?_)) | ((with_reducible refine i_rx ?_); (with_reducible refine x_pan ?_)) | fail))
    · rename_i k0 _ k1 h1
      have hlt := (name_adv hf h).2
      have e : bracedP k0 = bracedL (fuel l) [x] k := by simp only [bracedP, h1, h, ok_bind]
      rw [e]
      generalize hsp : bracedL (fuel l) [x] k = sp
      refine AW.loop (fun m σ => ∃ acc k', bracedL m acc k' = sp ∧ l.length < m + k'.1 ∧ acc.length ≤ k'.1 + 1 ∧ σ = mk [(3, .c (.lst (some 8) 1 (acc.map oneS))), (0, .c (.ptr 0 0))] [(8, .row 9 1 acc.length), (0, psO k' c d)]) (fuel l) ?_ ?_
      · exact ⟨_, wk_mk (by (repeat (first | exact all_nil | ((refine all_cons ⟨_, rfl, .inl rfl, ?_⟩ ?_); (· (rfl))))); done) (by (repeat (first | exact all_nil | ((refine all_cons ⟨_, rfl, .inl rfl, ?_⟩ ?_); (· (first | rfl | (simp [V.ok, okL, C.ok, okA, HO.ok]; done)))))); done) (by rfl), [x], k, hsp, by unfold fuel; omega, by simp, rfl⟩
      rintro m σ ⟨acc, k', hm, hm2, ha, rfl⟩
      subst hm
      have hk' := k'.2
      obtain ⟨m, rfl⟩ : ∃ n, m = n + 1 := ⟨m - 1, by omega⟩
      have a := (accept_x (k := k') (c := c) (d := d) hf ⟨#[125]⟩).ok _ _ rfl
      repeat' (first | (with_reducible first | apply AW.seq | apply AW.block | apply AW.skip | apply AW.ret | apply AW.exit | apply q_then | apply q_thenE | apply q_thenP | apply q_bloN | apply q_bloE | apply q_bloP | apply y_e | refine v_rgl ?_) | ((with_reducible apply i_dv); first | refine t_v AS.v ?_ | refine t_w AS.w ?_ | refine t_w (by exact u_m1 (hP := a)) ?_ | refine t_c1 (hP := name_x hf) (k1 := fun x k h => ?_) (k2 := fun e h σx => ?_)) | ((with_reducible refine i_aw ?_); ((refine v_cond (fun hc => ?_) (fun hc => ?_)))) | ((with_reducible refine i_rx ?_); first | (with_reducible refine x_pan ?_) | refine l_1 (k := ?_)) | fail)
      · have hb : isM ⟨#[125]⟩ k' = false := by simpa using hc
        rw [hb] at h
        have h : nameP k' = .ok (x, k) := h
        have hx := (name_adv hf h).2
        exact ⟨m, _, Nat.lt_succ_self m, wk_mk (by (repeat (first | exact all_nil | ((refine all_cons ⟨_, rfl, .inl rfl, ?_⟩ ?_); (· (first | rfl | exact okRow rfl))))); done) (by (repeat (first | exact all_nil | ((refine all_cons ⟨_, rfl, .inl rfl, ?_⟩ ?_); (· (first | rfl | (simp [V.ok, okL, C.ok, okA, HO.ok]; done)))))); done) (by rfl), acc ++ [x], k, by rw [bracedL, hb, h]; rfl, by omega, by simp; omega, rfl⟩
      all_goals (first | (refine ⟨_, _, ?_, (by exact ux_str _ _), (by exact le_id rfl)⟩; simp_all [bracedL, ok_bind, err_bind, adv, Lv.zero, Sp.zero, Rg.zero, Ct.zero]; done) | (simp_all [bracedL, ok_bind, err_bind, adv, Lv.zero, Sp.zero, Rg.zero, Ct.zero]; done) | fail "end")
    · (first | (simp_all [bracedP, ok_bind, err_bind, adv, Lv.zero, Sp.zero, Rg.zero, Ct.zero]; done) | fail "end")
  · (first | (simp_all [bracedP, ok_bind, err_bind, adv, Lv.zero, Sp.zero, Rg.zero, Ct.zero]; done) | fail "end")
theorem listed_x (hf : Fine l) : MX Tryz.prog 250 [(0, psO k c d)] [.c (.ptr 0 0)] (listedP k) (fun s => .c (strL s)) (fun k' => [(0, psO k' c d)]) pvS := by
  have hl := hf.le
  refine MX.of (fn := Tryz.f250) Tryz.call250 Tryz.func250 rfl Tryz.ntmps250 Tryz.results250 rfl rfl (by intro a; simp [V.ok, okL, C.ok, okA, okV]) (by intro b; exact ⟨rfl, by simp [HO.one, okL, C.ok, okA]⟩) ?_
  repeat' ((fail_if_success (with_reducible first | refine reg_at 2 ?_ | refine reg_al 2 ?_)); (first | (with_reducible first | apply AW.seq | apply AW.block | apply q_then | apply q_thenP | apply y_e | refine v_rgl ?_) | ((with_reducible apply i_dv); first | refine t_w u_rowS ?_ | refine t_v AS.v ?_ | refine t_c1 (hP := name_x hf) (k1 := fun x k h => ?_) (k2 := fun e h σx => ?_)) | ((with_reducible refine i_rx ?_); (with_reducible refine x_pan ?_)) | fail))
  · rename_i k0
    have hlt := (name_adv hf h).2
    have e : listedP k0 = listedL (fuel l) [x] k := by simp only [listedP, h, ok_bind]
    rw [e]
    generalize hsp : listedL (fuel l) [x] k = sp
    refine AW.loop (fun m σ => ∃ acc k', listedL m acc k' = sp ∧ l.length < m + k'.1 ∧ acc.length ≤ k'.1 + 1 ∧ σ = mk [(3, .c (.lst (some 6) 1 (acc.map oneS))), (0, .c (.ptr 0 0))] [(6, .row 9 1 acc.length), (0, psO k' c d)]) (fuel l) ?_ ?_
    · exact ⟨_, wk_mk (by (repeat (first | exact all_nil | ((refine all_cons ⟨_, rfl, .inl rfl, ?_⟩ ?_); (· (rfl))))); done) (by (repeat (first | exact all_nil | ((refine all_cons ⟨_, rfl, .inl rfl, ?_⟩ ?_); (· (first | rfl | (simp [V.ok, okL, C.ok, okA, HO.ok]; done)))))); done) (by rfl), [x], k, hsp, by unfold fuel; omega, by simp, rfl⟩
    rintro m σ ⟨acc, k', hm, hm2, ha, rfl⟩
    subst hm
    have hk' := k'.2
    obtain ⟨m, rfl⟩ : ∃ n, m = n + 1 := ⟨m - 1, by omega⟩
    have a := (accept_x (k := k') (c := c) (d := d) hf ⟨#[44]⟩).ok _ _ rfl
    repeat' (first | (with_reducible first | apply AW.seq | apply AW.block | apply AW.skip | apply AW.ret | apply AW.exit | apply q_then | apply q_thenE | apply q_thenP | apply q_bloN | apply q_bloE | apply q_bloP | apply y_e | refine v_rgl ?_) | ((with_reducible apply i_dv); first | refine t_v AS.v ?_ | refine t_w AS.w ?_ | refine t_w (by exact u_m1 (hP := a)) ?_ | refine t_c1 (hP := name_x hf) (k1 := fun x k h => ?_) (k2 := fun e h σx => ?_)) | ((with_reducible refine i_aw ?_); ((refine v_cond (fun hc => ?_) (fun hc => ?_)))) | ((with_reducible refine i_rx ?_); first | (with_reducible refine x_pan ?_) | refine l_1 (k := ?_)) | fail)
    · rw [hc] at h
      have h : nameP (nx k') = .ok (x, k) := h
      have hx := (name_adv hf h).2
      have hy := isM_adv hf hc
      exact ⟨m, _, Nat.lt_succ_self m, wk_mk (by (repeat (first | exact all_nil | ((refine all_cons ⟨_, rfl, .inl rfl, ?_⟩ ?_); (· (first | rfl | exact okRow rfl))))); done) (by (repeat (first | exact all_nil | ((refine all_cons ⟨_, rfl, .inl rfl, ?_⟩ ?_); (· (first | rfl | (simp [V.ok, okL, C.ok, okA, HO.ok]; done)))))); done) (by rfl), acc ++ [x], k, by rw [listedL, hc, if_pos rfl, h]; rfl, by omega, by simp; omega, rfl⟩
    all_goals (first | (refine ⟨_, _, ?_, (by exact ux_str _ _), (by exact le_id rfl)⟩; simp_all [listedL, ok_bind, err_bind, adv, Lv.zero, Sp.zero, Rg.zero, Ct.zero]; done) | (simp_all [listedL, ok_bind, err_bind, adv, Lv.zero, Sp.zero, Rg.zero, Ct.zero]; done) | fail "end")
  · (first | (simp_all [listedP, ok_bind, err_bind, adv, Lv.zero, Sp.zero, Rg.zero, Ct.zero]; done) | fail "end")
theorem element_x (hf : Fine l) (n : NS) (self minus : Bool) (b1 : n.names.length ≤ k.1) (b2 : n.except.length ≤ k.1) : MX0 Tryz.prog 152 ((0, psO k c d) :: elS 60 9 1001 1002 1003 n) [.c (.ptr 0 0), .c (.ptr 1001 0), .c (sB self), .c (sB minus)] (elemP self minus n k >>= fun x => .ok ((), x)) (fun _ => .tup []) (elO 60 9 fun k' => psO k' c d) pvS := by
  have hl := hf.le
  have hk := k.2
  have a1 := fun k => (accept_x (k := k) (c := c) (d := d) hf ⟨#[42]⟩).ok _ _ rfl
  have a2 := fun k => (accept_x (k := k) (c := c) (d := d) hf ⟨#[45]⟩).ok _ _ rfl
  have a3 := fun k => (acceptWord_x (k := k) (c := c) (d := d) hf ⟨#[115, 101, 108, 102]⟩).ok _ _ rfl
  refine MX0.of (fn := Tryz.f152) Tryz.call152 Tryz.func152 rfl Tryz.ntmps152 Tryz.results152 rfl rfl ?_
  repeat' (first | (with_reducible first | apply AW.seq | apply AW.block | apply q_then | apply q_bloN | apply q_bloP | apply y_e | refine v_rgl ?_ | refine v_drb ?_) | ((with_reducible apply i_dv); first | refine t_v AS.v ?_ | refine t_w AS.w ?_ | refine t_w (by exact u_m1 (hP := a1 _)) ?_ | refine t_c1 (hP := name_x hf) (k1 := fun x k h => ?_) (k2 := fun e h σx => ?_)) | ((with_reducible apply i_dg); first | refine t_m (hs := fun hg => AS.v) (k := ?_) | refine t_g (hs := fun hg => (by first | exact u_m1 (hP := a2 _) | exact u_m1 (hP := a3 _))) (k := fun hg => ?_) (k0 := fun hg => ?_)) | ((with_reducible apply i_ds); refine t_s AS.s ?_) | ((with_reducible refine i_aw ?_); first | refine v_no ?_ | (refine v_cond (fun hc => ?_) (fun hc => ?_))) | ((with_reducible refine i_rx ?_); first | (with_reducible refine x_pan ?_) | refine l_el (k := ?_)) | (refine ⟨by decide +kernel, fun (σx : St) => ?_⟩) | (refine ⟨by decide +kernel, ?_⟩) | fail)
  · exact ⟨{ n with all := true }, _, by simp [elemP, hc, adv], le_id rfl, rfl, rfl, rfl⟩
  · exact ⟨{ n with self := true }, _, by simp_all [elemP, adv], le_id rfl, rfl, rfl, rfl⟩
  all_goals first | exact ⟨{ n with except := n.except ++ [x] }, _, by simp_all [elemP, adv, ok_bind], le_id rfl, rfl, rfl, rfl⟩ | exact ⟨{ n with names := n.names ++ [x] }, _, by simp_all [elemP, adv, ok_bind], le_id rfl, rfl, rfl, rfl⟩ | (simp_all [elemP, adv, err_bind]; done)
theorem elem_bound (hf : Fine l) {self minus : Bool} {n m : NS} {k' : Ix l} (h : elemP self minus n k = .ok (m, k')) : k.1 < k'.1 ∧ m.names.length ≤ n.names.length + 1 ∧ m.except.length ≤ n.except.length + 1 := by
  unfold elemP at h
  split at h
  · rename_i h1
    injection h with h; injection h with h2 h3; subst h2 h3
    have := isM_adv hf h1
    exact ⟨by omega, by simp, by simp⟩
  · split at h
    · rename_i h1
      rw [Bool.and_eq_true] at h1
      injection h with h; injection h with h2 h3; subst h2 h3
      have := isW_adv hf h1.2
      exact ⟨by omega, by simp, by simp⟩
    · split at h
      · rename_i h1
        rw [Bool.and_eq_true] at h1
        have := isM_adv hf h1.2
        cases hn : nameP (nx k) with
        | error e => rw [hn] at h; cases h
        | ok p =>
          rw [hn] at h
          injection h with h; injection h with h2 h3; subst h2 h3
          have := (name_adv hf hn).2
          exact ⟨by omega, by simp, by simp⟩
      · cases hn : nameP k with
        | error e => rw [hn] at h; cases h
        | ok p =>
          rw [hn] at h
          injection h with h; injection h with h2 h3; subst h2 h3
          have := (name_adv hf hn).2
          exact ⟨by omega, by simp, by simp⟩
theorem set_x (hf : Fine l) (self : Bool) : MX Tryz.prog 80 [(0, psO k c d)] [.c (.ptr 0 0), .c (sB self)] (setP self k) (fun s => .agg (nsC s)) (fun k' => [(0, psO k' c d)]) pvS := by
  have hl := hf.le
  have hk := k.2
  have a1 := fun k => (accept_x (k := k) (c := c) (d := d) hf ⟨#[126]⟩).ok _ _ rfl
  have a2 := fun k => (accept_x (k := k) (c := c) (d := d) hf ⟨#[123]⟩).ok _ _ rfl
  have a3 := fun k => (accept_x (k := k) (c := c) (d := d) hf ⟨#[125]⟩).ok _ _ rfl
  refine MX.of (fn := Tryz.f80) Tryz.call80 Tryz.func80 rfl Tryz.ntmps80 Tryz.results80 rfl rfl (by intro a; simp [V.ok, okL, C.ok, okA, okV]) (by intro b; exact ⟨rfl, by simp [HO.one, okL, C.ok, okA]⟩) ?_
  repeat' ((fail_if_success (with_reducible refine reg_al 3 ?_)); (fail_if_success (with_reducible refine reg_at 5 ?_)); (fail_if_success (with_reducible refine reg_al 9 ?_)); (first | (with_reducible first | apply AW.seq | apply AW.block | apply q_then | apply y_e | refine v_rgl ?_) | ((with_reducible apply i_dv); first | refine t_w u_allocN ?_ | refine t_v AS.v ?_ | refine t_w (by first | exact u_m1 (hP := a1 _) | exact u_m1 (hP := a2 _)) ?_) | ((with_reducible apply i_ds); refine t_s AS.s ?_) | ((with_reducible refine i_aw ?_); ((refine v_cond (fun hc => ?_) (fun hc => ?_)))) | fail))
  · refine nilRowH 5 3 1002 9 1 (cs' := [sB false, sB (isM ⟨#[126]⟩ k), sB false, .lst (some 1002) 1 [], .nil]) rfl rfl rfl rfl ?_
    refine nilRowH 5 4 1003 9 1 (cs' := nsR 1002 1003 (ns0 (isM ⟨#[126]⟩ k))) rfl rfl rfl rfl ?_
    repeat' (first | (with_reducible first | apply AW.seq | apply AW.block | apply q_then | apply q_thenP | apply q_bloP | apply y_e | refine v_rgl ?_) | ((with_reducible apply i_dv); first | refine t_v AS.v ?_ | refine t_el (hP := element_x hf _ self true (Nat.zero_le _) (Nat.zero_le _)) (k1 := fun x k h => ?_) (k2 := fun e h σx => ?_)) | ((with_reducible refine i_rx ?_); (with_reducible refine x_pan ?_)) | fail)
    · rename_i k0
      rw [hc] at h
      have h : elemP self true (ns0 (isM ⟨#[126]⟩ k0)) (nx (adv (isM ⟨#[126]⟩ k0) k0)) = .ok (x, k) := h
      have hb := elem_bound hf h
      have e : setP self k0 = setL self (fuel l) x k := by rw [setP, if_pos hc, h]; rfl
      rw [e]
      generalize hsp : setL self (fuel l) x k = sp
      refine AW.loop (fun m σ => ∃ n k', setL self m n k' = sp ∧ l.length < m + k'.1 ∧ n.names.length ≤ k'.1 ∧ n.except.length ≤ k'.1 ∧ σ = mk [(0, .c (.ptr 0 0)), (1, .c (sB self)), (4, .c (.ptr 4 0)), (5, .c (.ptr 5 0))] [(1003, .row 9 1 n.except.length), (1002, .row 9 1 n.names.length), (5, .obj 60 (nsR 1002 1003 n)), (0, psO k' c d), (4, .obj 60 [sB false, sB false, sB false, .nil, .nil])]) (fuel l) ?_ ?_
      · exact ⟨_, wk_mk (by (repeat (first | exact all_nil | ((refine all_cons ⟨_, rfl, .inl rfl, ?_⟩ ?_); (· (rfl))))); done) (by (repeat (first | exact all_nil | ((refine all_cons ⟨_, rfl, .inl rfl, ?_⟩ ?_); (· (first | rfl | exact ok_nsR _ _ _ _ rfl rfl | (simp [V.ok, okL, C.ok, okA, HO.ok]; done)))))); done) (by rfl), x, k, hsp, by unfold fuel; omega, by have := hb.2.1; simp [ns0] at this; omega, by have := hb.2.2; simp [ns0] at this; omega, rfl⟩
      rintro m σ ⟨n, k', hm, hm2, hb1, hb2, rfl⟩
      subst hm
      have hk' := k'.2
      obtain ⟨m, rfl⟩ : ∃ n, m = n + 1 := ⟨m - 1, by omega⟩
      have a3 := (accept_x (k := k') (c := c) (d := d) hf ⟨#[125]⟩).ok _ _ rfl
      cases hb : isM ⟨#[125]⟩ k' with
      | true =>
        rw [hb] at a3
        repeat' (first | (with_reducible first | apply AW.seq | apply AW.ret | apply AW.exit | apply q_then | apply q_thenE | apply q_bloN | apply q_bloE | apply y_e | refine v_rgl ?_) | ((with_reducible apply i_dv); first | refine t_v AS.v ?_ | refine t_w (by exact u_m1 (hP := a3)) ?_) | ((with_reducible apply i_ds); refine t_s AS.s ?_) | ((with_reducible refine i_aw ?_); refine v_no ?_) | ((with_reducible refine i_rx ?_); refine l_1c (k := ?_)) | fail)
        exact ⟨n, nx k', by rw [setL, hb]; rfl, un_agg rfl, le_id rfl⟩
      | false =>
        rw [hb] at a3
        have a3 : MNL _ _ _ _ _ [(0, psO k' c d)] := a3
        repeat' (first | (with_reducible first | apply AW.seq | apply AW.block | apply AW.skip | apply q_then | apply q_thenP | apply q_bloN | apply q_bloP | apply y_e | refine v_rgl ?_) | ((with_reducible apply i_dv); first | refine t_v AS.v ?_ | refine t_w (by exact u_m1 (hP := a3)) ?_ | refine t_el (hP := element_x hf _ self true hb1 hb2) (k1 := fun x k h => ?_) (k2 := fun e h σx => ?_)) | ((with_reducible refine i_aw ?_); refine v_yes ?_) | ((with_reducible refine i_rx ?_); (with_reducible refine x_pan ?_)) | fail)
        · have hx := elem_bound hf h
          exact ⟨m, _, Nat.lt_succ_self m, wk_mk (by (repeat (first | exact all_nil | ((refine all_cons ⟨_, rfl, .inl rfl, ?_⟩ ?_); (· (rfl))))); done) (by (repeat (first | exact all_nil | ((refine all_cons ⟨_, rfl, .inl rfl, ?_⟩ ?_); (· (first | rfl | exact ok_nsR _ _ _ _ rfl rfl | (simp [V.ok, okL, C.ok, okA, HO.ok]; done)))))); done) (by rfl), x, k, by rw [setL, hb, h]; rfl, by omega, by omega, by omega, rfl⟩
        · (first | (simp_all [setL, ok_bind, err_bind, adv, Lv.zero, Sp.zero, Rg.zero, Ct.zero]; done) | fail "end")
    · (first | (simp_all [setP, ok_bind, err_bind, adv, Lv.zero, Sp.zero, Rg.zero, Ct.zero]; done) | fail "end")
  · refine nilRowH 5 4 1003 9 1 (cs' := [sB false, sB (isM ⟨#[126]⟩ k), sB false, .nil, .lst (some 1003) 1 []]) rfl rfl rfl rfl ?_
    repeat' (first | (with_reducible first | apply AW.seq | apply AW.ret | apply q_then | apply q_thenP | apply q_bloN | apply q_bloP | apply y_e | refine v_rgl ?_) | ((with_reducible apply i_dv); first | refine t_v AS.v ?_ | refine t_c1 (hP := name_x hf) (k1 := fun x k h => ?_) (k2 := fun e h σx => ?_)) | ((with_reducible apply i_ds); refine t_s AS.s ?_) | ((with_reducible refine i_rx ?_); first | (with_reducible refine x_pan ?_) | refine l_1c (k := ?_)) | fail)
    · exact ⟨⟨false, true, false, [x], []⟩, k, by simp_all [setP, adv, ok_bind], by simp_all [V.un, unL, unLL, C.un, unA]; rfl, le_id rfl⟩
    · (first | (simp_all [setP, ok_bind, err_bind, adv, Lv.zero, Sp.zero, Rg.zero, Ct.zero]; done) | fail "end")
  · refine nilRowH 5 3 1002 9 1 (cs' := [sB false, sB (isM ⟨#[126]⟩ k), sB false, .lst (some 1002) 1 [], .nil]) rfl rfl rfl rfl ?_
    refine nilRowH 5 4 1003 9 1 (cs' := nsR 1002 1003 (ns0 (isM ⟨#[126]⟩ k))) rfl rfl rfl rfl ?_
    repeat' (first | (with_reducible first | apply AW.seq | apply AW.ret | apply q_then | apply q_thenP | apply q_bloN | apply q_bloP | apply y_e | refine v_rgl ?_) | ((with_reducible apply i_dv); first | refine t_v AS.v ?_ | refine t_el (hP := element_x hf _ self false (Nat.zero_le _) (Nat.zero_le _)) (k1 := fun x k h => ?_) (k2 := fun e h σx => ?_)) | ((with_reducible apply i_ds); refine t_s AS.s ?_) | ((with_reducible refine i_rx ?_); first | (with_reducible refine x_pan ?_) | refine l_1c (k := ?_)) | fail)
    · exact ⟨x, _, by simp_all [setP, adv], un_agg rfl, le_id rfl⟩
    · (first | (simp_all [setP, ok_bind, err_bind, adv, Lv.zero, Sp.zero, Rg.zero, Ct.zero]; done) | fail "end")
end
end Am
end Go.Proofs.YtkpodagbefnebaaGreatDoor
