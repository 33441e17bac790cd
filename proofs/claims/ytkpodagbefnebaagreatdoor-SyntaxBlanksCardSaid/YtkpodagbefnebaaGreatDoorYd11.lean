import Derived.Test.YtkpodagbefnebaaGreatDoorYd10
set_option linter.unusedSimpArgs false
set_option linter.unusedVariables false
set_option linter.unusedSectionVars false
namespace Go.Proofs.YtkpodagbefnebaaGreatDoor
namespace Am
open Tk Go.RowKit
set_option maxRecDepth 100000
set_option maxHeartbeats 1000000
section
variable {l : List Tok} {k : Ix l} {c d : Int}
theorem level_x (hf : Fine l) : MX Tryz.prog 155 [(0, psO k c d)] [.c (.ptr 0 0)] (levelP k) (fun s => .agg (lvC s)) (fun k' => [(0, psO k' c d)]) pvS := by
  have hl := hf.le
  have a1 := fun k => (accept_x (k := k) (c := c) (d := d) hf ⟨#[58]⟩).ok _ _ rfl
  have a2 := fun k => (accept_x (k := k) (c := c) (d := d) hf ⟨#[46]⟩).ok _ _ rfl
  have a3 := fun k => (accept_x (k := k) (c := c) (d := d) hf ⟨#[44]⟩).ok _ _ rfl
  refine MX.of (fn := Tryz.f155) Tryz.call155 Tryz.func155 rfl Tryz.ntmps155 Tryz.results155 rfl rfl (by intro a; simp [V.ok, okL, C.ok, okA, okV]) (by intro b; exact ⟨rfl, by simp [HO.one, okL, C.ok, okA]⟩) ?_
  repeat' ((fail_if_success (with_reducible refine reg_at 2 ?_)); (first | (with_reducible first | apply AW.seq | apply q_then | apply q_thenP | apply y_e | refine v_rgl ?_) | ((with_reducible apply i_dv); first | refine t_v u_buildL ?_ | refine t_v AS.v ?_ | refine t_w AS.w ?_ | refine t_c1 (hP := name_x hf) (k1 := fun x k h => ?_) (k2 := fun e h σx => ?_)) | ((with_reducible apply i_ds); refine t_s AS.s ?_) | ((with_reducible refine i_rx ?_); (with_reducible refine x_pan ?_)) | fail))
  · rename_i k0
    have hk := (name_adv hf h).2
    refine nilRowH 3 1 1002 170 2 (cs' := lvR 1002 ⟨x, []⟩) rfl rfl rfl rfl ?_
    repeat' (first | (with_reducible first | apply AW.seq | apply AW.block | apply AW.skip | apply AW.ret | apply q_then | apply q_thenR | apply y_e | refine v_rgl ?_) | ((with_reducible apply i_dv); first | refine t_v AS.v ?_ | refine t_w (by exact u_m1 (hP := a1 _)) ?_) | ((with_reducible apply i_ds); refine t_s AS.s ?_) | ((with_reducible refine i_aw ?_); ((refine v_cond (fun hc => ?_) (fun hc => ?_)))) | ((with_reducible refine i_rx ?_); refine l_1c (k := ?_)) | fail)
    · exact ⟨⟨x, []⟩, _, by simp_all [levelP, adv, ok_bind], un_lvR _ _, le_id rfl⟩
    · have hb : isM ⟨#[58]⟩ k = true := by simpa using hc
      have e : levelP k0 = levelL (fuel l) ⟨x, []⟩ (adv (isM ⟨#[58]⟩ k) k) := by rw [levelP, h]; simp [ok_bind, hb, adv]
      rw [e]
      have hk2 : (adv (isM ⟨#[58]⟩ k) k).1 = k.1 + 1 := by rw [hb]; exact isM_adv hf hb
      generalize hsp : levelL (fuel l) ⟨x, []⟩ (adv (isM ⟨#[58]⟩ k) k) = sp
      refine AW.loop (fun m σ => ∃ v k', levelL m v k' = sp ∧ l.length < m + k'.1 ∧ v.cats.length ≤ k'.1 ∧ σ = mk [(0, .c (.ptr 0 0)), (2, .c (.ptr 2 0)), (3, .c (.ptr 3 0))] [(1002, .row 170 2 v.cats.length), (3, .obj 63 (lvR 1002 v)), (0, psO k' c d), (2, .obj 63 (lvC Lv.zero))]) (fuel l) ?_ ?_
      · exact ⟨_, wk_mk (by (repeat (first | exact all_nil | ((refine all_cons ⟨_, rfl, .inl rfl, ?_⟩ ?_); (· (rfl))))); done) (by (repeat (first | exact all_nil | ((refine all_cons ⟨_, rfl, .inl rfl, ?_⟩ ?_); (· (first | rfl | (simp [V.ok, okL, C.ok, okA, HO.ok]; done)))))); done) (by rfl), ⟨x, []⟩, _, hsp, by unfold fuel; omega, Nat.zero_le _, rfl⟩
      clear e hk2 hb hc h hk hsp
      rintro m σ ⟨v, k', hm, hm2, hb1, rfl⟩
      subst hm
      have hk' := k'.2
      obtain ⟨m, rfl⟩ : ∃ n, m = n + 1 := ⟨m - 1, by omega⟩
      repeat' (first | (with_reducible first | apply AW.seq | apply AW.block | apply AW.skip | apply AW.ret | apply q_then | apply q_thenR | apply q_thenP | apply q_bloN | apply q_bloR | apply q_bloP | apply y_e | refine v_rgl ?_) | ((with_reducible apply i_dv); first | refine t_v AS.v ?_ | refine t_w AS.w ?_ | refine t_w (by first | exact u_m1 (hP := a2 _) | exact u_m1 (hP := a3 _)) ?_ | refine t_c1 (hP := name_x hf) (k1 := fun x k h => ?_) (k2 := fun e h σx => ?_)) | ((with_reducible apply i_ds); refine t_s AS.s ?_) | ((with_reducible refine i_aw ?_); ((refine v_cond (fun hc => ?_) (fun hc => ?_)))) | ((with_reducible refine i_rx ?_); first | (with_reducible refine x_pan ?_) | refine l_1c (k := ?_)) | fail)
      · rename_i x1 k1 h1 hd
        exact ⟨⟨v.sens, v.cats ++ [⟨x1, x⟩]⟩, _, by simp_all [levelL, spanP1, adv, ok_bind], un_aggL (t := 1002) rfl, le_id rfl⟩
      · rename_i x1 k1 h1 hd
        have hb : isM ⟨#[44]⟩ k = true := by simpa using hc
        have e1 := (name_adv hf h1).2
        have e2 := (name_adv hf h).2
        have e3 := isM_adv hf hb
        have e4 := adv_le (k := k1) (b := isM ⟨#[46]⟩ k1)
        exact ⟨m, _, Nat.lt_succ_self m, wk_mk (by (repeat (first | exact all_nil | ((refine all_cons ⟨_, rfl, .inl rfl, ?_⟩ ?_); (· (rfl))))); done) (by (repeat (first | exact all_nil | ((refine all_cons ⟨_, rfl, .inl rfl, ?_⟩ ?_); (· (first | rfl | exact ok_lvR _ _ _ rfl | (simp [V.ok, okL, C.ok, okA, HO.ok]; done)))))); done) (by rfl), ⟨v.sens, v.cats ++ [⟨x1, x⟩]⟩, adv (isM ⟨#[44]⟩ k) k, by simp_all [levelL, spanP1, adv, ok_bind], by rw [hb]; simp only [adv, if_true]; omega, by rw [hb]; simp only [adv, if_true, List.length_append, List.length_cons, List.length_nil]; omega, rfl⟩
      · simp_all [levelL, spanP1, adv, ok_bind, err_bind]
      · exact ⟨⟨v.sens, v.cats ++ [⟨x, ⟨#[]⟩⟩]⟩, _, by simp_all [levelL, spanP1, adv, ok_bind], un_aggL (t := 1002) rfl, le_id rfl⟩
      · rename_i hd
        rw [hd] at hc
        have hb : isM ⟨#[44]⟩ k = true := by simpa [adv] using hc
        have e2 := (name_adv hf h).2
        have e3 := isM_adv hf hb
        exact ⟨m, _, Nat.lt_succ_self m, wk_mk (by (repeat (first | exact all_nil | ((refine all_cons ⟨_, rfl, .inl rfl, ?_⟩ ?_); (· (rfl))))); done) (by (repeat (first | exact all_nil | ((refine all_cons ⟨_, rfl, .inl rfl, ?_⟩ ?_); (· (first | rfl | exact ok_lvR _ _ _ rfl | (simp [V.ok, okL, C.ok, okA, HO.ok]; done)))))); done) (by rfl), ⟨v.sens, v.cats ++ [⟨x, ⟨#[]⟩⟩]⟩, adv (isM ⟨#[44]⟩ (adv (isM ⟨#[46]⟩ k) k)) (adv (isM ⟨#[46]⟩ k) k), by simp_all [levelL, spanP1, adv, ok_bind], by rw [hd]; simp only [adv, hb, if_true, Bool.false_eq_true, if_false]; omega, by rw [hd]; simp only [adv, hb, if_true, Bool.false_eq_true, if_false, List.length_append, List.length_cons, List.length_nil]; omega, rfl⟩
      · simp_all [levelL, spanP1, adv, ok_bind, err_bind]
  · (first | (simp_all [levelP, ok_bind, err_bind, adv, Lv.zero, Sp.zero, Rg.zero, Ct.zero]; done) | fail "end")
theorem span_x (hf : Fine l) : MX Tryz.prog 83 [(0, psO k c d)] [.c (.ptr 0 0)] (rangeP k) (fun s => .agg (rgC s)) (fun k' => [(0, psO k' c d)]) pvS := by
  have hl := hf.le
  have a1 := fun k => (accept_x (k := k) (c := c) (d := d) hf ⟨#[45]⟩).ok _ _ rfl
  refine MX.of (fn := Tryz.f83) Tryz.call83 Tryz.func83 rfl Tryz.ntmps83 Tryz.results83 rfl rfl (by intro a; simp [V.ok, okL, C.ok, okA, okV]) (by intro b; exact ⟨rfl, by simp [HO.one, okL, C.ok, okA]⟩) ?_
  repeat' (first | (with_reducible first | apply AW.seq | apply AW.skip | apply AW.ret | apply q_then | apply q_thenP | apply y_e | refine v_rgl ?_) | ((with_reducible apply i_dv); first | refine t_v AS.v ?_ | refine t_w AS.w ?_ | refine t_w (by exact u_m1 (hP := a1 _)) ?_ | refine t_c1 (hP := level_x hf) (k1 := fun x k h => ?_) (k2 := fun e h σx => ?_)) | ((with_reducible apply i_ds); refine t_s AS.s ?_) | ((with_reducible refine i_aw ?_); ((refine v_cond (fun hc => ?_) (fun hc => ?_)))) | ((with_reducible refine i_rx ?_); first | (with_reducible refine x_pan ?_) | refine l_1c (k := ?_)) | fail)
  all_goals (first | (refine ⟨_, _, ?_, (by exact ux_rgC _), (by exact le_id rfl)⟩; simp_all [rangeP, ok_bind, err_bind, adv, Lv.zero, Sp.zero, Rg.zero, Ct.zero]; done) | (simp_all [rangeP, ok_bind, err_bind, adv, Lv.zero, Sp.zero, Rg.zero, Ct.zero]; done) | fail "end")
theorem context_x (hf : Fine l) : MX Tryz.prog 87 [(0, psO k c d)] [.c (.ptr 0 0)] (contextP k) (fun s => .agg (cxC s)) (fun k' => [(0, psO k' c d)]) pvS := by
  have hl := hf.le
  refine MX.of (fn := Tryz.f87) Tryz.call87 Tryz.func87 rfl Tryz.ntmps87 Tryz.results87 rfl rfl (by intro a; simp [V.ok, okL, C.ok, okA, okV]) (by intro b; exact ⟨rfl, by simp [HO.one, okL, C.ok, okA]⟩) ?_
  repeat' (first | (with_reducible first | apply AW.seq | apply AW.ret | apply q_then | apply q_thenP | apply y_e | refine v_rgl ?_) | ((with_reducible apply i_dv); first | refine t_v AS.v ?_ | refine t_w AS.w ?_ | refine t_c1 (hP := need_x hf _) (k1 := fun x k h => ?_) (k2 := fun e h σx => ?_) | refine t_c1 (hP := name_x hf) (k1 := fun x k h => ?_) (k2 := fun e h σx => ?_) | refine t_c1 (hP := span_x hf) (k1 := fun x k h => ?_) (k2 := fun e h σx => ?_)) | ((with_reducible apply i_ds); refine t_s AS.s ?_) | ((with_reducible refine i_rx ?_); first | (with_reducible refine x_pan ?_) | refine l_1c (k := ?_)) | fail)
  all_goals (first | (refine ⟨_, _, ?_, (by exact ux_cxC _), (by exact le_id rfl)⟩; simp_all [contextP, ok_bind, err_bind, adv, Lv.zero, Sp.zero, Rg.zero, Ct.zero]; done) | (simp_all [contextP, ok_bind, err_bind, adv, Lv.zero, Sp.zero, Rg.zero, Ct.zero]; done) | fail "end")
theorem find_at {α : Type} {p : α → Bool} {ws : List α} {j : Nat} {w : α} (h : ws[j]? = some w) (ha : ∀ s ∈ ws.take j, p s = false) (hb : p w = true) : ws.findIdx? p = some j := by
  rw [List.findIdx?_eq_some_iff_getElem]
  obtain ⟨h1, h2⟩ := List.getElem?_eq_some_iff.1 h
  refine ⟨h1, by rw [h2]; exact hb, fun i hi => ?_⟩
  have : ws[i] ∈ ws.take j := List.mem_iff_getElem?.2 ⟨i, by rw [List.getElem?_take, if_pos hi, List.getElem?_eq_getElem (by omega)]⟩
  rw [ha _ this]; simp
theorem find_no {α : Type} {p : α → Bool} {ws : List α} {j : Nat} (hj : ws.length ≤ j) (ha : ∀ s ∈ ws.take j, p s = false) : ws.findIdx? p = none := by
  rw [List.take_of_length_le hj] at ha
  rw [List.findIdx?_eq_none_iff]
  exact ha
theorem take_step {α : Type} {P : α → Prop} {ws : List α} {j : Nat} {w : α} (h : ws[j]? = some w) (ha : ∀ s ∈ ws.take j, P s) (hb : P w) : ∀ s ∈ ws.take (j + 1), P s := by
  rw [List.take_add_one, h]
  intro s hs
  rcases List.mem_append.1 hs with hs | hs
  · exact ha s hs
  · simp at hs; rw [hs]; exact hb
theorem choose_x (hf : Fine l) (ws : List ByteArray) (hw : ws.length ≤ 100) : MX Tryz.prog 251 [(0, psO k c d)] [.c (.ptr 0 0), .c (strL ws)] (chooseP ws k) (fun n => .c (sI n)) (fun k' => [(0, psO k' c d)]) pvS := by
  have hl := hf.le
  have a1 := fun s => (acceptWord_x (k := k) (c := c) (d := d) hf s).ok _ _ rfl
  refine MX.of (fn := Tryz.f251) Tryz.call251 Tryz.func251 rfl Tryz.ntmps251 Tryz.results251 rfl rfl (by intro a; rfl) (by intro b; exact ⟨rfl, by simp [HO.one, okL, C.ok, okA]⟩) ?_
  repeat' (first | (with_reducible first | apply AW.seq | apply AW.block | apply q_then | apply y_e | refine v_rgl ?_) | ((with_reducible apply i_dv); refine t_v AS.v ?_) | fail)
  simp only [List.length_map]
  refine AW.loop (fun m σ => ∃ j, m = ws.length - j ∧ j ≤ ws.length ∧ (∀ s ∈ ws.take j, isW s k = false) ∧ σ = mk [(0, .c (.ptr 0 0)), (7, .c (strL ws)), (8, .c (sI ws.length)), (9, .c (sI j))] [(0, psO k c d)]) ws.length ?_ ?_
  · exact ⟨_, wk_mk (by (repeat (first | exact all_nil | ((refine all_cons ⟨_, rfl, .inl rfl, ?_⟩ ?_); (· (first | rfl | (simp [V.ok, okL, C.ok, okA, HO.ok]; done)))))); done) (by (repeat (first | exact all_nil | ((refine all_cons ⟨_, rfl, .inl rfl, ?_⟩ ?_); (· (((simp [V.ok, okL, C.ok, okA, HO.ok]; done))))))); done) (by rfl), 0, rfl, Nat.zero_le _, by simp, rfl⟩
  rintro m σ ⟨j, rfl, hj, ha, rfl⟩
  by_cases hlt : j < ws.length
  · obtain ⟨w, hw⟩ : ∃ w, ws[j]? = some w := ⟨_, List.getElem?_eq_getElem hlt⟩
    cases hb : isW w k with
    | true =>
      have a1 := a1 w
      rw [hb] at a1
      have a1 : MNL _ _ _ _ _ [(0, psO (nx k) c d)] := a1
      repeat' (first | (with_reducible first | apply AW.seq | apply AW.block | apply AW.skip | apply AW.ret | apply q_then | apply q_thenR | apply q_bloN | apply q_bloR | apply y_e | refine v_rgl ?_) | ((with_reducible apply i_dv); first | refine t_v AS.v ?_ | refine t_w (by exact u_m1 (hP := a1)) ?_) | ((with_reducible refine i_aw ?_); first | refine v_yes ?_ | refine v_no ?_ | (refine v_cond (fun hc => ?_) (fun hc => ?_); all_goals (try (exfalso; simp [*] at hc; done)))) | ((with_reducible refine i_rx ?_); refine l_1 (k := ?_)) | fail)
      exact ⟨_, _, by rw [chooseP, find_at hw ha hb], rfl, le_id rfl⟩
    | false =>
      have a1 := a1 w
      rw [hb] at a1
      have a1 : MNL _ _ _ _ _ [(0, psO k c d)] := a1
      repeat' (first | (with_reducible first | apply AW.seq | apply AW.block | apply AW.skip | apply AW.ret | apply q_then | apply q_thenR | apply q_bloN | apply q_bloR | apply y_e | refine v_rgl ?_) | ((with_reducible apply i_dv); first | refine t_v AS.v ?_ | refine t_w (by exact u_m1 (hP := a1)) ?_) | ((with_reducible refine i_aw ?_); first | refine v_yes ?_ | refine v_no ?_ | (refine v_cond (fun hc => ?_) (fun hc => ?_); all_goals (try (exfalso; simp [*] at hc; done)))) | ((with_reducible refine i_rx ?_); refine l_1 (k := ?_)) | fail)
      exact ⟨_, _, (show ws.length - (j + 1) < ws.length - j by omega), wk_mk (by (repeat (first | exact all_nil | ((refine all_cons ⟨_, rfl, .inl rfl, ?_⟩ ?_); (· (first | rfl | (simp [V.ok, okL, C.ok, okA, HO.ok]; done)))))); done) (by (repeat (first | exact all_nil | ((refine all_cons ⟨_, rfl, .inl rfl, ?_⟩ ?_); (· (((simp [V.ok, okL, C.ok, okA, HO.ok]; done))))))); done) (by rfl), j + 1, rfl, hlt, take_step hw ha hb, rfl⟩
  · repeat' (first | (with_reducible first | apply AW.seq | apply AW.exit | apply q_then | apply q_thenE | apply q_thenP | apply q_bloE | apply y_e | refine v_rgl ?_) | ((with_reducible apply i_dv); first | refine t_v AS.v ?_ | refine t_v (by exact u_eye (hP := next_p)) ?_ | refine t_q (hP := fail_q _ _) (k := fun σx => ?_)) | ((with_reducible refine i_aw ?_); ((refine v_cond (fun hc => ?_) (fun hc => ?_); all_goals (try (exfalso; simp [*] at hc; done))))) | ((with_reducible refine i_rx ?_); (with_reducible refine x_pan ?_)) | fail)
    rw [chooseP, find_no (by omega) ha]
end
end Am
namespace Am
open Tk Go.RowKit
theorem bind_ok {ε α β : Type} {x : Except ε α} {f : α → Except ε β} {b : β} : (x >>= f) = .ok b ↔ ∃ a, x = .ok a ∧ f a = .ok b := by
  cases x with
  | ok a => exact ⟨fun h => ⟨a, rfl, h⟩, fun ⟨a', h1, h2⟩ => (by injection h1 with h1; rw [h1]; exact h2)⟩
  | error e => exact ⟨fun h => (by cases h), fun ⟨a', h1, _⟩ => (by cases h1)⟩
section
variable {l : List Tok} {k k' : Ix l}
theorem need_adv (hf : Fine l) {s : ByteArray} {x : Unit} (h : needP s k = .ok (x, k')) : k' = nx k ∧ k'.1 = k.1 + 1 := by
  unfold needP at h
  split at h
  · rename_i hn
    injection h with h
    injection h with h1 h2
    subst h2
    exact ⟨rfl, isM_adv hf hn⟩
  · cases h
theorem needW_adv (hf : Fine l) {s : ByteArray} {x : Unit} (h : needWP s k = .ok (x, k')) : k' = nx k ∧ k'.1 = k.1 + 1 := by
  unfold needWP at h
  split at h
  · rename_i hn
    injection h with h
    injection h with h1 h2
    subst h2
    exact ⟨rfl, isW_adv hf hn⟩
  · cases h
theorem choose_ok (hf : Fine l) {ws : List ByteArray} {n : Int} (h : chooseP ws k = .ok (n, k')) : 0 ≤ n ∧ n < ws.length ∧ k' = nx k ∧ k'.1 = k.1 + 1 ∧ ∃ j : Nat, n = j ∧ ws.findIdx? (fun s => isW s k) = some j := by
  unfold chooseP at h
  cases hj : ws.findIdx? (fun s => isW s k) with
  | none => rw [hj] at h; cases h
  | some j =>
    rw [hj] at h
    injection h with h
    injection h with h1 h2
    subst h1 h2
    obtain ⟨h3, h4, _⟩ := List.findIdx?_eq_some_iff_getElem.1 hj
    exact ⟨by omega, by omega, rfl, isW_adv hf h4, j, rfl, rfl⟩
theorem bracedL_adv (hf : Fine l) {n : Nat} : ∀ {acc x : List ByteArray} {k k' : Ix l}, bracedL n acc k = .ok (x, k') → k.1 < k'.1 ∧ acc.length ≤ x.length ∧ x.length + k.1 ≤ acc.length + k'.1 := by
  induction n with
  | zero => intro acc x k k' h; cases h
  | succ n ih =>
    intro acc x k k' h
    rw [bracedL] at h
    split at h
    · rename_i hb
      injection h with h
      injection h with h1 h2
      subst h1 h2
      have := isM_adv hf hb
      exact ⟨by omega, Nat.le_refl _, by omega⟩
    · obtain ⟨⟨s, k1⟩, h1, h2⟩ := bind_ok.1 h; (try dsimp only at h2)
      have := (name_adv hf h1).2
      obtain ⟨i1, i2, i3⟩ := ih h2
      rw [List.length_append] at i2 i3
      simp only [List.length_cons, List.length_nil] at i2 i3
      exact ⟨by omega, by omega, by omega⟩
theorem braced_adv (hf : Fine l) {x : List ByteArray} (h : bracedP k = .ok (x, k')) : k.1 < k'.1 ∧ x.length ≤ k'.1 := by
  unfold bracedP at h
  obtain ⟨⟨_, k1⟩, h1, h2⟩ := bind_ok.1 h; (try dsimp only at h2)
  obtain ⟨⟨s, k2⟩, h3, h4⟩ := bind_ok.1 h2; (try dsimp only at h4)
  have e1 := (need_adv hf h1).2
  have e2 := (name_adv hf h3).2
  obtain ⟨i1, i2, i3⟩ := bracedL_adv hf h4
  simp only [List.length_cons, List.length_nil] at i2 i3
  exact ⟨by omega, by omega⟩
theorem listedL_adv (hf : Fine l) {n : Nat} : ∀ {acc x : List ByteArray} {k k' : Ix l}, listedL n acc k = .ok (x, k') → k.1 ≤ k'.1 ∧ acc.length ≤ x.length ∧ x.length + k.1 ≤ acc.length + k'.1 := by
  induction n with
  | zero => intro acc x k k' h; cases h
  | succ n ih =>
    intro acc x k k' h
    rw [listedL] at h
    split at h
    · rename_i hb
      obtain ⟨⟨s, k1⟩, h1, h2⟩ := bind_ok.1 h; (try dsimp only at h2)
      have e1 := isM_adv hf hb
      have := (name_adv hf h1).2
      obtain ⟨i1, i2, i3⟩ := ih h2
      rw [List.length_append] at i2 i3
      simp only [List.length_cons, List.length_nil] at i2 i3
      exact ⟨by omega, by omega, by omega⟩
    · injection h with h
      injection h with h1 h2
      subst h1 h2
      exact ⟨Nat.le_refl _, Nat.le_refl _, by omega⟩
theorem listed_adv (hf : Fine l) {x : List ByteArray} (h : listedP k = .ok (x, k')) : k.1 < k'.1 := by
  unfold listedP at h
  obtain ⟨⟨s, k2⟩, h3, h4⟩ := bind_ok.1 h; (try dsimp only at h4)
  have e2 := (name_adv hf h3).2
  have := (listedL_adv hf h4).1
  omega
theorem setL_adv (hf : Fine l) {self : Bool} {n : Nat} : ∀ {a x : NS} {k k' : Ix l}, setL self n a k = .ok (x, k') → k.1 < k'.1 := by
  induction n with
  | zero => intro acc x k k' h; cases h
  | succ n ih =>
    intro acc x k k' h
    rw [setL] at h
    split at h
    · rename_i hb
      injection h with h
      injection h with h1 h2
      subst h1 h2
      have := isM_adv hf hb
      omega
    · obtain ⟨⟨s, k1⟩, h1, h2⟩ := bind_ok.1 h; (try dsimp only at h2)
      have := (elem_bound hf h1).1
      have := ih h2
      omega
theorem set_adv (hf : Fine l) {self : Bool} {x : NS} (h : setP self k = .ok (x, k')) : k.1 < k'.1 := by
  unfold setP at h
  split at h
  · rename_i hb
    obtain ⟨⟨s, k1⟩, h1, h2⟩ := bind_ok.1 h; (try dsimp only at h2)
    have e0 : k.1 ≤ (adv (isM ⟨#[126]⟩ k) k).1 := adv_le
    have e1 := isM_adv hf hb
    have e2 := (elem_bound hf h1).1
    have e3 := setL_adv hf h2
    omega
  · split at h
    · rename_i hb
      obtain ⟨⟨s, k1⟩, h1, h2⟩ := bind_ok.1 h; (try dsimp only at h2)
      injection h2 with h2
      injection h2 with h2 h3
      subst h3
      have e1 := isM_adv hf hb
      have := (name_adv hf h1).2
      show k.1 < k1.1
      omega
    · exact (elem_bound hf h).1
theorem spanP1_adv (hf : Fine l) {x : Sp} (h : spanP1 k = .ok (x, k')) : k.1 < k'.1 := by
  unfold spanP1 at h
  obtain ⟨⟨s, k1⟩, h1, h2⟩ := bind_ok.1 h; (try dsimp only at h2)
  have e1 := (name_adv hf h1).2
  split at h2
  · rename_i hb
    obtain ⟨⟨t, k3⟩, h3, h4⟩ := bind_ok.1 h2; (try dsimp only at h4)
    injection h4 with h4
    injection h4 with h4 h5
    subst h5
    have e2 := isM_adv hf hb
    have e3 := (name_adv hf h3).2
    show k.1 < k3.1
    omega
  · injection h2 with h2
    injection h2 with h2 h3
    subst h3
    omega
theorem levelL_adv (hf : Fine l) {n : Nat} : ∀ {a x : Lv} {k k' : Ix l}, levelL n a k = .ok (x, k') → k.1 < k'.1 := by
  induction n with
  | zero => intro acc x k k' h; cases h
  | succ n ih =>
    intro acc x k k' h
    rw [levelL] at h
    obtain ⟨⟨s, k1⟩, h1, h2⟩ := bind_ok.1 h; (try dsimp only at h2)
    have e1 := spanP1_adv hf h1
    split at h2
    · rename_i hb
      have e2 := isM_adv hf hb
      have := ih h2
      omega
    · injection h2 with h2
      injection h2 with h2 h3
      subst h3
      exact e1
theorem level_adv (hf : Fine l) {x : Lv} (h : levelP k = .ok (x, k')) : k.1 < k'.1 := by
  unfold levelP at h
  obtain ⟨⟨s, k1⟩, h1, h2⟩ := bind_ok.1 h; (try dsimp only at h2)
  have e1 := (name_adv hf h1).2
  split at h2
  · rename_i hb
    have e2 := isM_adv hf hb
    have := levelL_adv hf h2
    omega
  · injection h2 with h2
    injection h2 with h2 h3
    subst h3
    omega
theorem range_adv (hf : Fine l) {x : Rg} (h : rangeP k = .ok (x, k')) : k.1 < k'.1 := by
  unfold rangeP at h
  obtain ⟨⟨s, k1⟩, h1, h2⟩ := bind_ok.1 h; (try dsimp only at h2)
  have e1 := level_adv hf h1
  split at h2
  · rename_i hb
    obtain ⟨⟨t, k3⟩, h3, h4⟩ := bind_ok.1 h2; (try dsimp only at h4)
    injection h4 with h4
    injection h4 with h4 h5
    subst h5
    have e2 := isM_adv hf hb
    have e3 := level_adv hf h3
    show k.1 < k3.1
    omega
  · injection h2 with h2
    injection h2 with h2 h3
    subst h3
    exact e1
theorem attr_adv (hf : Fine l) {v : Bool} {x : Int} (h : attrP v k = .ok (x, k')) : k'.1 = k.1 + 1 := by
  unfold attrP at h
  split at h
  · split at h
    · rename_i hk
      injection h with h
      injection h with h2 h3
      subst h3
      exact nx_val hf (by rw [hk]; decide)
    · cases h
  · cases h
theorem rel_adv (hf : Fine l) {x : Int} (h : relP k = .ok (x, k')) : k'.1 = k.1 + 1 := by
  unfold relP at h
  split at h
  · rename_i hb
    injection h with h
    injection h with h2 h3
    subst h3
    exact isM_adv hf hb
  · split at h
    · rename_i hb
      injection h with h
      injection h with h2 h3
      subst h3
      exact isM_adv hf hb
    · obtain ⟨⟨t, k3⟩, h3, h4⟩ := bind_ok.1 h; (try dsimp only at h4)
      injection h4 with h4
      injection h4 with h4 h5
      subst h5
      exact (choose_ok hf h3).2.2.2.1
theorem cmp_adv (hf : Fine l) {v : Bool} {x : Ex} (h : cmpP v k = .ok (x, k')) : k.1 < k'.1 := by
  unfold cmpP at h
  obtain ⟨⟨a, k1⟩, h1, h2⟩ := bind_ok.1 h; (try dsimp only at h2)
  have e1 := attr_adv hf h1
  split at h2
  · rename_i hb
    have e2 := isW_adv hf hb
    split at h2
    · obtain ⟨⟨t, k3⟩, h3, h4⟩ := bind_ok.1 h2; (try dsimp only at h4)
      injection h4 with h4
      injection h4 with h4 h5
      subst h5
      have := (braced_adv hf h3).1
      show k.1 < k3.1
      omega
    · obtain ⟨⟨t, k3⟩, h3, h4⟩ := bind_ok.1 h2; (try dsimp only at h4)
      injection h4 with h4
      injection h4 with h4 h5
      subst h5
      have := (name_adv hf h3).2
      show k.1 < k3.1
      omega
  · obtain ⟨⟨r, k2⟩, h3, h4⟩ := bind_ok.1 h2; (try dsimp only at h4)
    obtain ⟨⟨b, k3⟩, h5, h6⟩ := bind_ok.1 h4; (try dsimp only at h6)
    injection h6 with h6
    injection h6 with h6 h7
    subst h7
    have := rel_adv hf h3
    have := attr_adv hf h5
    show k.1 < k3.1
    omega
theorem comp_adv (hf : Fine l) (v : Bool) : ∀ n : Nat, (∀ {x : Ex} {k k' : Ix l}, compP v n k = .ok (x, k') → k.1 < k'.1) ∧ (∀ {x : Ex} {k k' : Ix l}, bothP v n k = .ok (x, k') → k.1 < k'.1) ∧ (∀ {e x : Ex} {k k' : Ix l}, bothL v n e k = .ok (x, k') → k.1 ≤ k'.1) ∧ (∀ {x : Ex} {k k' : Ix l}, eithP v n k = .ok (x, k') → k.1 < k'.1) ∧ (∀ {e x : Ex} {k k' : Ix l}, eithL v n e k = .ok (x, k') → k.1 ≤ k'.1)
  | 0 => ⟨fun h => (by cases h), fun h => (by cases h), fun h => (by cases h), fun h => (by cases h), fun h => (by cases h)⟩
  | n + 1 => by
    obtain ⟨i1, i2, i3, i4, i5⟩ := comp_adv hf v n
    refine ⟨fun {x k k'} h => ?_, fun {x k k'} h => ?_, fun {e x k k'} h => ?_, fun {x k k'} h => ?_, fun {e x k k'} h => ?_⟩
    · rw [compP] at h
      split at h
      · rename_i hb
        have e1 := isM_adv hf hb
        obtain ⟨⟨t, k3⟩, h3, h4⟩ := bind_ok.1 h; (try dsimp only at h4)
        injection h4 with h4
        injection h4 with h4 h5
        subst h5
        have := i1 h3
        show k.1 < k3.1
        omega
      · split at h
        · rename_i hb
          have e1 := isM_adv hf hb
          obtain ⟨⟨t, k3⟩, h3, h4⟩ := bind_ok.1 h; (try dsimp only at h4)
          obtain ⟨⟨u, k4⟩, h6, h7⟩ := bind_ok.1 h4; (try dsimp only at h7)
          injection h7 with h7
          injection h7 with h7 h5
          subst h5
          have := i4 h3
          have := (need_adv hf h6).2
          show k.1 < k4.1
          omega
        · exact cmp_adv hf h
    · rw [bothP] at h
      obtain ⟨⟨t, k3⟩, h3, h4⟩ := bind_ok.1 h; (try dsimp only at h4)
      have := i1 h3
      have := i3 h4
      omega
    · rw [bothL] at h
      split at h
      · rename_i hb
        have e1 := isM_adv hf hb
        obtain ⟨⟨t, k3⟩, h3, h4⟩ := bind_ok.1 h; (try dsimp only at h4)
        have := i1 h3
        have := i3 h4
        omega
      · injection h with h
        injection h with h1 h2
        subst h2
        exact Nat.le_refl _
    · rw [eithP] at h
      obtain ⟨⟨t, k3⟩, h3, h4⟩ := bind_ok.1 h; (try dsimp only at h4)
      have := i2 h3
      have := i5 h4
      omega
    · rw [eithL] at h
      split at h
      · rename_i hb
        have e1 := isM_adv hf hb
        obtain ⟨⟨t, k3⟩, h3, h4⟩ := bind_ok.1 h; (try dsimp only at h4)
        have := i2 h3
        have := i5 h4
        omega
      · injection h with h
        injection h with h1 h2
        subst h2
        exact Nat.le_refl _
end
end Am
end Go.Proofs.YtkpodagbefnebaaGreatDoor
