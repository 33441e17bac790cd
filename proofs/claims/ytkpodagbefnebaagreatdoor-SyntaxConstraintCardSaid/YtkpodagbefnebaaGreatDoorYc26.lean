import Derived.Test.YtkpodagbefnebaaGreatDoorYc20
import Derived.Test.YtkpodagbefnebaaGreatDoorYc25
set_option linter.unusedSimpArgs false
set_option linter.unusedVariables false
set_option linter.unusedSectionVars false
namespace Go.Proofs.YtkpodagbefnebaaGreatDoor
namespace Am
open Tk Go.RowKit
set_option maxRecDepth 100000
set_option maxHeartbeats 4000000
section
variable {ρ : Operand → Option V} {H : Nat → Option HO} {d : Option Nat} {ty : TypeId} {pos : String} {af : Array Edge} {gu : Option (Nat × Bool)} {x : Operand}
theorem u_by2 {x0 x1 : Operand} {c0 c1 : UInt8} {p : Int} (h0 : Ev ρ x0 (.c (.sc (.int .u8 c0.toNat))) := by exact .pl rfl) (h1 : Ev ρ x1 (.c (.sc (.int .u8 p))) := by exact .pl rfl) (he : p = ((c1.toNat : Nat) : Int) := by assumption) : AS Tryz.prog ρ H ⟨d, .buildSlice 117 2 #[(0, x0), (1, x1)], ty, pos, af, gu⟩ ⟨.c (.lst none 1 (u8L [c0, c1])), [], []⟩ := by
  subst he
  exact a_slice (e := 5) (zs := [.sc (.int .u8 0)]) (by kernel_rfl) (Zw.of (by decide +kernel)) rfl (by decide) (by decide) (show EvP ρ _ _ from .cons h0 rfl (.cons h1 rfl .nil)) rfl rfl
theorem u_byteC {p : Int} {e : UInt8} (hx : Ev ρ x (.c (.sc (.int .i64 p))) := by exact .pl rfl) (he : p = ((e.toNat : Nat) : Int) := by assumption) : AS Tryz.prog ρ H ⟨d, .convert 3 5 x, ty, pos, af, gu⟩ ⟨.c (.sc (.int .u8 e.toNat)), [], []⟩ := by
  subst he
  exact a_byte hx (by omega) (by have := e.toNat_lt; omega)
end
theorem atW_at (v : Bool) (j : Nat) (h : j < (atW v).length) : ∃ b1 b2 : UInt8, (⟨#[117, 114, 116, 108, 104]⟩ : ByteArray).data.toList[j % 5]? = some b1 ∧ 49 + (((j / 5 : Nat)) : Int) = ((b2.toNat : Nat) : Int) ∧ (atW v)[j]? = some ⟨#[b1, b2]⟩ := by
  cases v with
  | false =>
    have h : j < 10 := h
    match j, h with
    | 0, _ => exact ⟨117, 49, rfl, rfl, rfl⟩
    | 1, _ => exact ⟨114, 49, rfl, rfl, rfl⟩
    | 2, _ => exact ⟨116, 49, rfl, rfl, rfl⟩
    | 3, _ => exact ⟨108, 49, rfl, rfl, rfl⟩
    | 4, _ => exact ⟨104, 49, rfl, rfl, rfl⟩
    | 5, _ => exact ⟨117, 50, rfl, rfl, rfl⟩
    | 6, _ => exact ⟨114, 50, rfl, rfl, rfl⟩
    | 7, _ => exact ⟨116, 50, rfl, rfl, rfl⟩
    | 8, _ => exact ⟨108, 50, rfl, rfl, rfl⟩
    | 9, _ => exact ⟨104, 50, rfl, rfl, rfl⟩
    | j + 10, h => omega
  | true =>
    have h : j < 15 := h
    match j, h with
    | 0, _ => exact ⟨117, 49, rfl, rfl, rfl⟩
    | 1, _ => exact ⟨114, 49, rfl, rfl, rfl⟩
    | 2, _ => exact ⟨116, 49, rfl, rfl, rfl⟩
    | 3, _ => exact ⟨108, 49, rfl, rfl, rfl⟩
    | 4, _ => exact ⟨104, 49, rfl, rfl, rfl⟩
    | 5, _ => exact ⟨117, 50, rfl, rfl, rfl⟩
    | 6, _ => exact ⟨114, 50, rfl, rfl, rfl⟩
    | 7, _ => exact ⟨116, 50, rfl, rfl, rfl⟩
    | 8, _ => exact ⟨108, 50, rfl, rfl, rfl⟩
    | 9, _ => exact ⟨104, 50, rfl, rfl, rfl⟩
    | 10, _ => exact ⟨117, 51, rfl, rfl, rfl⟩
    | 11, _ => exact ⟨114, 51, rfl, rfl, rfl⟩
    | 12, _ => exact ⟨116, 51, rfl, rfl, rfl⟩
    | 13, _ => exact ⟨108, 51, rfl, rfl, rfl⟩
    | 14, _ => exact ⟨104, 51, rfl, rfl, rfl⟩
    | j + 15, h => omega
theorem q7levels_n : ∀ (n : Nat) (e : Ex), SizeOf.sizeOf e < n → levE e ≤ 1152921504606846976 → Pure Tryz.prog 135 [.agg (exC e)] (.c (sI (levE e)))
  | 0, _, h, _ => absurd h (Nat.not_lt_zero _)
  | n + 1, e, h, hb => by
    have ih : ∀ x ∈ e.kids, Pure Tryz.prog 135 [.agg (exC x)] (.c (sI (levE x))) := fun x hx =>
      q7levels_n n x (by have := kidLt hx; omega) (by have := levEs_mem hx; have := levE_eq e; omega)
    have he := levE_eq e
    refine fn1 (fn := Tryz.f135) Tryz.call135 Tryz.func135 rfl Tryz.ntmps135 Tryz.results135 rfl (by rfl) ?_
    refine AW.fact (t := 0) rfl (fun κ w x hr => agg_l6 hr (l := e.kids) (t := none) (k := 10) (f := exC) (by rw [exC, exC_kids_map]; simp)) fun hn => ?_
    repeat' (first | (with_reducible first | apply AW.seq | apply AW.block | apply AW.ret | apply AW.exit | apply q_then | apply q_thenE | apply q_bloE | apply y_e | refine v_rgl ?_) | ((with_reducible apply i_dv); first | refine t_v AS.v ?_ | refine t_w AS.w ?_) | ((with_reducible refine i_aw ?_); ((refine v_cond (fun hc => ?_) (fun hc => ?_); all_goals (try (exfalso; simp [*] at hc; done))))) | ((with_reducible refine i_rt ?_); refine k_i ?_) | fail)
    refine AW.loop (fun m σ => ∃ j, m = e.kids.length - j ∧ j ≤ e.kids.length ∧ σ = mk [(1, .c (.ptr 1 0)), (3, .c (sI (levEs (e.kids.take j)))), (4, .c (sI (j : Int)))] [(1, .obj 49 (exC e))]) e.kids.length ?_ ?_
    · exact ⟨_, wk_mk (by (repeat (first | exact all_nil | ((refine all_cons ⟨_, rfl, .inl rfl, ?_⟩ ?_); (· (rfl))))); done) (by (repeat (first | exact all_nil | ((refine all_cons ⟨_, rfl, .inl rfl, ?_⟩ ?_); (· (((simp [V.ok, okL, C.ok, okA, HO.ok]; done))))))); done) (by rfl), 0, rfl, Nat.zero_le _, rfl⟩
    rintro m σ ⟨j, rfl, hj, rfl⟩
    by_cases hlt : j < e.kids.length
    · obtain ⟨x, hx⟩ : ∃ x, e.kids[j]? = some x := ⟨_, List.getElem?_eq_getElem hlt⟩
      have ihx := ih x (List.mem_of_getElem? hx)
      have et : levEs (e.kids.take (j + 1)) = max (levEs (e.kids.take j)) (levE x) := by
        rw [List.take_add_one, hx]; exact levEs_app _ _
      have ei : (max ((levEs (e.kids.take j) : Nat) : Int) (levE x : Nat)) = ((levEs (e.kids.take (j + 1)) : Nat) : Int) := by rw [et]; omega
      repeat' (first | (with_reducible first | apply AW.seq | apply AW.block | apply AW.skip | apply q_then | apply q_bloN | apply y_e | refine v_rgl ?_) | ((with_reducible apply i_dv); first | refine t_v AS.v ?_ | refine t_v (by exact u_call (hP := ihx)) ?_) | ((with_reducible refine i_aw ?_); ((refine v_cond (fun hc => ?_) (fun hc => ?_); all_goals (try (exfalso; simp [*] at hc; done))))) | fail)
      exact ⟨_, _, (show e.kids.length - (j + 1) < e.kids.length - j by omega), by rw [ei]; exact wk_mk (by (repeat (first | exact all_nil | ((refine all_cons ⟨_, rfl, .inl rfl, ?_⟩ ?_); (· (rfl))))); done) (by (repeat (first | exact all_nil | ((refine all_cons ⟨_, rfl, .inl rfl, ?_⟩ ?_); (· (((simp [V.ok, okL, C.ok, okA, HO.ok]; done))))))); done) (by rfl), j + 1, rfl, hlt, rfl⟩
    · have e1 : e.kids.take j = e.kids := List.take_of_length_le (by omega)
      rw [e1]
      repeat' (first | (with_reducible first | apply AW.seq | apply AW.block | apply AW.ret | apply AW.exit | apply q_then | apply q_thenE | apply q_bloE | apply y_e | refine v_rgl ?_) | ((with_reducible apply i_dv); first | refine t_v AS.v ?_ | refine t_w AS.w ?_) | ((with_reducible refine i_aw ?_); ((refine v_cond (fun hc => ?_) (fun hc => ?_); all_goals (try (exfalso; simp [*] at hc; done))))) | ((with_reducible refine i_rt ?_); refine k_i ?_) | fail)
      rw [he]
      omega
theorem q7levels_p (e : Ex) (hb : levE e ≤ 1152921504606846976) : Pure Tryz.prog 135 [.agg (exC e)] (.c (sI (levE e))) := q7levels_n _ e (Nat.lt_succ_self _) hb
section
variable {l : List Tok} {c : Int}
theorem chooseQ_bd (ws : List ByteArray) (k : Ix l) (f : Fa) : 0 ≤ (chooseQ ws k f).1 ∧ (chooseQ ws k f).1 ≤ ws.length := by
  unfold chooseQ
  cases h : ws.findIdx? fun s => okW f s k with
  | none => exact ⟨Int.le_refl _, by simp⟩
  | some i =>
    have := (List.findIdx?_eq_some_iff_getElem.1 h).1
    dsimp only
    omega
theorem q7choice_x (hf : Fine l) (ws : List ByteArray) (hw : ws.length ≤ 100) (k : Ix l) (f : Fa) : MX Tryz.prog 261 [(0, qsO k f c)] [.c (.ptr 0 0), .c (strL ws)] (.ok (chooseQ ws k f) : Except Fa (Int × (Ix l × Fa))) (fun n => .c (sI n)) (fun b => [(0, qsO b.1 b.2 c)]) pvS := by
  have hl := hf.le
  have a1 := fun s => q7word_m (c := c) hf k f s
  refine MX.of (fn := Tryz.f261) Tryz.call261 Tryz.func261 rfl Tryz.ntmps261 Tryz.results261 rfl rfl (by intro a; rfl) (by intro b; exact ⟨rfl, by simp [HO.one, okL, C.ok, okA]⟩) ?_
  repeat' (first | (with_reducible first | apply AW.seq | apply AW.block | apply q_then | apply y_e | refine v_rgl ?_) | ((with_reducible apply i_dv); refine t_v AS.v ?_) | fail)
  refine AW.loop (fun m σ => ∃ j, m = ws.length - j ∧ j ≤ ws.length ∧ (∀ s ∈ ws.take j, okW f s k = false) ∧ σ = mk [(0, .c (.ptr 0 0)), (1, .c (strL ws)), (5, .c (sI (j : Int)))] [(0, qsO k f c)]) ws.length ?_ ?_
  · exact ⟨_, wk_mk (by (repeat (first | exact all_nil | ((refine all_cons ⟨_, rfl, .inl rfl, ?_⟩ ?_); (· (first | rfl | (simp [V.ok, okL, C.ok, okA, HO.ok]; done)))))); done) (by (repeat (first | exact all_nil | ((refine all_cons ⟨_, rfl, .inl rfl, ?_⟩ ?_); (· (((simp [V.ok, okL, C.ok, okA, HO.ok]; done))))))); done) (by rfl), 0, rfl, Nat.zero_le _, by simp, rfl⟩
  rintro m σ ⟨j, rfl, hj, ha, rfl⟩
  by_cases hlt : j < ws.length
  · obtain ⟨w, hw⟩ : ∃ w, ws[j]? = some w := ⟨_, List.getElem?_eq_getElem hlt⟩
    have a1 := a1 w
    cases hb : okW f w k with
    | true =>
      rw [hb] at a1
      have a1 : MNL _ _ _ _ _ [(0, qsO (nx k) f c)] := a1
      repeat' (first | (with_reducible first | apply AW.seq | apply AW.block | apply AW.skip | apply AW.ret | apply q_then | apply q_thenR | apply q_bloN | apply q_bloR | apply y_e | refine v_rgl ?_) | ((with_reducible apply i_dv); first | refine t_v AS.v ?_ | refine t_w (by exact u_m1 (hP := a1)) ?_) | ((with_reducible refine i_aw ?_); first | refine v_yes ?_ | refine v_no ?_ | (refine v_cond (fun hc => ?_) (fun hc => ?_); all_goals (try (exfalso; simp [*] at hc; done)))) | ((with_reducible refine i_rx ?_); refine l_1 (k := ?_)) | fail)
      exact ⟨(j : Int) + 1, (nx k, f), by rw [chooseQ, find_at hw ha hb], rfl, le_id rfl⟩
    | false =>
      rw [hb] at a1
      have a1 : MNL _ _ _ _ _ [(0, qsO k f c)] := a1
      repeat' (first | (with_reducible first | apply AW.seq | apply AW.block | apply AW.skip | apply AW.ret | apply q_then | apply q_thenR | apply q_bloN | apply q_bloR | apply y_e | refine v_rgl ?_) | ((with_reducible apply i_dv); first | refine t_v AS.v ?_ | refine t_w (by exact u_m1 (hP := a1)) ?_) | ((with_reducible refine i_aw ?_); first | refine v_yes ?_ | refine v_no ?_ | (refine v_cond (fun hc => ?_) (fun hc => ?_); all_goals (try (exfalso; simp [*] at hc; done)))) | ((with_reducible refine i_rx ?_); refine l_1 (k := ?_)) | fail)
      exact ⟨_, _, (show ws.length - (j + 1) < ws.length - j by omega), wk_mk (by (repeat (first | exact all_nil | ((refine all_cons ⟨_, rfl, .inl rfl, ?_⟩ ?_); (· (first | rfl | (simp [V.ok, okL, C.ok, okA, HO.ok]; done)))))); done) (by (repeat (first | exact all_nil | ((refine all_cons ⟨_, rfl, .inl rfl, ?_⟩ ?_); (· (((simp [V.ok, okL, C.ok, okA, HO.ok]; done))))))); done) (by rfl), j + 1, rfl, hlt, take_step hw ha hb, rfl⟩
  · have nw := q7now_p (l := l) (k := k) (f := f) (c := c)
    have fl := q7fail_m (c := c) k f 9 (tk k)
    repeat' (first | (with_reducible first | apply AW.seq | apply AW.ret | apply AW.exit | apply q_then | apply q_thenE | apply q_bloE | apply y_e | refine v_rgl ?_) | ((with_reducible apply i_dv); first | refine t_v AS.v ?_ | refine t_v (by exact u_eye (hP := nw)) ?_ | refine t_w (by exact u_m1 (hP := fl)) ?_) | ((with_reducible refine i_aw ?_); ((refine v_cond (fun hc => ?_) (fun hc => ?_); all_goals (try (exfalso; simp [*] at hc; done))))) | ((with_reducible refine i_rx ?_); refine l_1 (k := ?_)) | fail)
    exact ⟨0, (k, badF f 9 (tk k)), by rw [chooseQ, find_no (by omega) ha], rfl, le_id rfl⟩
theorem q7choice_m (hf : Fine l) (ws : List ByteArray) (hw : ws.length ≤ 100) (k : Ix l) (f : Fa) : MNL Tryz.prog 261 [(0, qsO k f c)] [.c (.ptr 0 0), .c (strL ws)] (.c (sI (chooseQ ws k f).1)) [(0, qsO (chooseQ ws k f).2.1 (chooseQ ws k f).2.2 c)] := (q7choice_x hf ws hw k f).ok (chooseQ ws k f).1 (chooseQ ws k f).2 rfl
theorem q7attr_x (hf : Fine l) (v : Bool) (k : Ix l) (f : Fa) : MX Tryz.prog 346 [(0, qsO k f c)] [.c (.ptr 0 0), .c (sI (if v then 3 else 2))] (.ok (attrQ v k f) : Except Fa (Int × (Ix l × Fa))) (fun n => .c (sI n)) (fun b => [(0, qsO b.1 b.2 c)]) pvS := by
  have hl := hf.le
  have a1 := fun s => q7word_m (c := c) hf k f s
  have hlen : ((atW v).length : Int) = (if v then 3 else 2) * 5 := by cases v <;> rfl
  have h23 : (2 : Int) ≤ (if v then 3 else 2) ∧ (if v then 3 else 2) ≤ (3 : Int) := by cases v <;> decide
  generalize (if v then 3 else 2 : Int) = vn at *
  have hw64 : IntKind.i64.wrap (vn * 5) = vn * 5 := wrap64 (by omega) (by omega)
  refine MX.of (fn := Tryz.f346) Tryz.call346 Tryz.func346 rfl Tryz.ntmps346 Tryz.results346 rfl rfl (by intro a; rfl) (by intro b; exact ⟨rfl, by simp [HO.one, okL, C.ok, okA]⟩) ?_
  repeat' (first | (with_reducible first | apply AW.seq | apply AW.block | apply q_then | apply y_e | refine v_rgl ?_) | ((with_reducible apply i_dv); refine t_v AS.v ?_) | fail)
  refine AW.loop (fun m σ => ∃ j, m = (atW v).length - j ∧ j ≤ (atW v).length ∧ (∀ s ∈ (atW v).take j, okW f s k = false) ∧ σ = mk [(0, .c (.ptr 0 0)), (1, .c (sI vn)), (5, .c (sI (j : Int)))] [(0, qsO k f c)]) (atW v).length ?_ ?_
  · exact ⟨_, wk_mk (by (repeat (first | exact all_nil | ((refine all_cons ⟨_, rfl, .inl rfl, ?_⟩ ?_); (· (rfl))))); done) (by (repeat (first | exact all_nil | ((refine all_cons ⟨_, rfl, .inl rfl, ?_⟩ ?_); (· (((simp [V.ok, okL, C.ok, okA, HO.ok]; done))))))); done) (by rfl), 0, rfl, Nat.zero_le _, by simp, rfl⟩
  rintro m σ ⟨j, rfl, hj, ha, rfl⟩
  by_cases hlt : j < (atW v).length
  · obtain ⟨b1, b2, g1, g2, hw⟩ := atW_at v j hlt
    have a1 := a1 ⟨#[b1, b2]⟩
    have hj15 : j < 15 := by omega
    have hr : Int.tmod (j : Int) 5 = ((j % 5 : Nat) : Int) := by
      have : ∀ i : Fin 15, Int.tmod (i.val : Int) 5 = ((i.val % 5 : Nat) : Int) := by decide +kernel
      exact this ⟨j, hj15⟩
    have hd : Int.tdiv (j : Int) 5 = ((j / 5 : Nat) : Int) := by
      have : ∀ i : Fin 15, Int.tdiv (i.val : Int) 5 = ((i.val / 5 : Nat) : Int) := by decide +kernel
      exact this ⟨j, hj15⟩
    cases hb : okW f ⟨#[b1, b2]⟩ k with
    | true =>
      rw [hb] at a1
      have a1 : MNL _ _ _ _ _ [(0, qsO (nx k) f c)] := a1
      repeat' (first | (with_reducible first | apply AW.seq | apply AW.block | apply AW.skip | apply AW.ret | apply q_then | apply q_thenR | apply q_bloN | apply q_bloR | apply y_e | refine v_rgl ?_) | ((with_reducible apply i_dv); first | refine t_v AS.v ?_ | refine t_v (by exact u_by2) ?_ | refine t_w (by exact u_m1 (hP := a1)) ?_) | ((with_reducible refine i_aw ?_); first | refine v_yes ?_ | refine v_no ?_ | (refine v_cond (fun hc => ?_) (fun hc => ?_); all_goals (try (exfalso; revert hc; simp; omega)))) | ((with_reducible refine i_rx ?_); refine l_1 (k := ?_)) | fail)
      all_goals first | (exfalso; rw [hw64] at hc; simp at hc; omega) | exact ⟨(j : Int), (nx k, f), by rw [attrQ, find_at hw ha hb], rfl, le_id rfl⟩ | trace_state
    | false =>
      rw [hb] at a1
      have a1 : MNL _ _ _ _ _ [(0, qsO k f c)] := a1
      repeat' (first | (with_reducible first | apply AW.seq | apply AW.block | apply AW.skip | apply AW.ret | apply q_then | apply q_thenR | apply q_bloN | apply q_bloR | apply y_e | refine v_rgl ?_) | ((with_reducible apply i_dv); first | refine t_v AS.v ?_ | refine t_v (by exact u_by2) ?_ | refine t_w (by exact u_m1 (hP := a1)) ?_) | ((with_reducible refine i_aw ?_); first | refine v_yes ?_ | refine v_no ?_ | (refine v_cond (fun hc => ?_) (fun hc => ?_); all_goals (try (exfalso; revert hc; simp; omega)))) | ((with_reducible refine i_rx ?_); refine l_1 (k := ?_)) | fail)
      all_goals (exact ⟨_, _, (show (atW v).length - (j + 1) < (atW v).length - j by omega), wk_mk (by (repeat (first | exact all_nil | ((refine all_cons ⟨_, rfl, .inl rfl, ?_⟩ ?_); (· (rfl))))); done) (by (repeat (first | exact all_nil | ((refine all_cons ⟨_, rfl, .inl rfl, ?_⟩ ?_); (· (((simp [V.ok, okL, C.ok, okA, HO.ok]; done))))))); done) (by rfl), j + 1, rfl, hlt, take_step hw ha hb, rfl⟩)
  · have nw := q7now_p (l := l) (k := k) (f := f) (c := c)
    have fl := q7fail_m (c := c) k f 9 (tk k)
    repeat' (first | (with_reducible first | apply AW.seq | apply AW.ret | apply AW.exit | apply q_then | apply q_thenE | apply q_bloE | apply y_e | refine v_rgl ?_) | ((with_reducible apply i_dv); first | refine t_v AS.v ?_ | refine t_v (by exact u_eye (hP := nw)) ?_ | refine t_w (by exact u_m1 (hP := fl)) ?_) | ((with_reducible refine i_aw ?_); ((refine v_cond (fun hc => ?_) (fun hc => ?_); all_goals (try (exfalso; revert hc; simp; omega))))) | ((with_reducible refine i_rx ?_); refine l_1 (k := ?_)) | fail)
    all_goals (exact ⟨0, (k, badF f 9 (tk k)), by rw [attrQ, find_no (by omega) ha], rfl, le_id rfl⟩)
theorem q7attr_m (hf : Fine l) (v : Bool) (k : Ix l) (f : Fa) : MNL Tryz.prog 346 [(0, qsO k f c)] [.c (.ptr 0 0), .c (sI (if v then 3 else 2))] (.c (sI (attrQ v k f).1)) [(0, qsO (attrQ v k f).2.1 (attrQ v k f).2.2 c)] := (q7attr_x hf v k f).ok (attrQ v k f).1 (attrQ v k f).2 rfl
end
end Am
end Go.Proofs.YtkpodagbefnebaaGreatDoor
