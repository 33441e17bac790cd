import Derived.Test.YtkcojiopjkllgaaGreatDoorYq8
import Derived.Test.YtkcojiopjkllgaaGreatDoorYq7
import Derived.Lib.AppendIntMem
import Derived.Lib.ItoaLen
set_option linter.unusedSimpArgs false
set_option linter.unusedVariables false
set_option linter.unusedSectionVars false
namespace Go.Proofs.YtkcojiopjkllgaaGreatDoor
namespace Am
set_option maxRecDepth 100000
set_option maxHeartbeats 1000000
def all2 {α β : Type} (p : α → β → Bool) : List α → List β → Bool
  | [], [] => true
  | x :: l, y :: m => p x y && all2 p l m
  | [], _ :: _ => false
  | _ :: _, [] => false
section
variable {α β : Type} {p : α → β → Bool}
theorem all2_len : ∀ {l : List α} {m : List β}, l.length ≠ m.length → all2 p l m = false
  | [], [], h => absurd rfl h
  | x :: l, y :: m, h => by rw [all2, all2_len (l := l) (m := m) (by simpa using h), Bool.and_false]
  | [], _ :: _, _ => rfl
  | _ :: _, [], _ => rfl
def pre2 (p : α → β → Bool) (l : List α) (m : List β) (j : Nat) : Prop := ∀ i x y, i < j → l[i]? = some x → m[i]? = some y → p x y = true
theorem pre2_zero {l : List α} {m : List β} : pre2 p l m 0 := fun i x y h => absurd h (Nat.not_lt_zero _)
theorem pre2_step {l : List α} {m : List β} {j : Nat} {x : α} {y : β} (h : pre2 p l m j) (hx : l[j]? = some x) (hy : m[j]? = some y) (e : p x y = true) : pre2 p l m (j + 1) := by
  intro i u v hi hu hv
  rcases Nat.lt_or_ge i j with h1 | h1
  · exact h i u v h1 hu hv
  · obtain rfl : i = j := by omega
    rw [hx] at hu; rw [hy] at hv; cases hu; cases hv; exact e
theorem all2_no : ∀ {l : List α} {m : List β} {j : Nat} {x : α} {y : β}, l[j]? = some x → m[j]? = some y → p x y = false → all2 p l m = false
  | [], _, _, _, _, h, _, _ => by simp at h
  | _ :: _, [], _, _, _, _, h, _ => by simp at h
  | a :: l, b :: m, 0, x, y, hx, hy, e => by
    obtain rfl : a = x := by simpa using hx
    obtain rfl : b = y := by simpa using hy
    rw [all2, e, Bool.false_and]
  | a :: l, b :: m, j + 1, x, y, hx, hy, e => by
    rw [all2, all2_no (j := j) (by simpa using hx) (by simpa using hy) e, Bool.and_false]
theorem all2_end : ∀ {l : List α} {m : List β} {j : Nat}, pre2 p l m j → l.length ≤ j → l.length = m.length → all2 p l m = true
  | [], [], _, _, _, _ => rfl
  | x :: l, y :: m, 0, _, h, _ => by simp at h
  | x :: l, y :: m, j + 1, h, h1, h2 => by
    rw [all2, h 0 x y (Nat.succ_pos _) rfl rfl, all2_end (l := l) (m := m) (j := j) (fun i u v hi hu hv => h (i + 1) u v (by omega) (by simpa using hu) (by simpa using hv)) (by simpa using h1) (by simpa using h2)]
    rfl
  | [], _ :: _, _, _, _, h => by simp at h
  | _ :: _, [], _, _, _, h => by simp at h
end
def sameH (a b : Ex) : Bool := decide (a.op = b.op) && decide (a.a = b.a) && decide (a.rel = b.rel) && decide (a.b = b.b) && Se.eqB a.set b.set && decide (a.names = b.names)
mutual
def sameX : Ex → Ex → Bool
  | ⟨op, a, rel, b, names, set, kids⟩, ⟨op', a', rel', b', names', set', kids'⟩ => sameH ⟨op, a, rel, b, names, set, kids⟩ ⟨op', a', rel', b', names', set', kids'⟩ && sameXs kids kids'
def sameXs : List Ex → List Ex → Bool
  | [], [] => true
  | x :: l, y :: m => sameX x y && sameXs l m
  | [], _ :: _ => false
  | _ :: _, [] => false
end
theorem sameXs_all : ∀ l m : List Ex, sameXs l m = all2 sameX l m
  | [], [] => by rw [sameXs]; rfl
  | x :: l, y :: m => by rw [sameXs, sameXs_all l m]; rfl
  | [], _ :: _ => by rw [sameXs]; rfl
  | _ :: _, [] => by rw [sameXs]; rfl
theorem sameX_eq (a b : Ex) : sameX a b = (sameH a b && all2 sameX a.kids b.kids) := by
  cases a; cases b; rw [sameX, sameXs_all]
theorem sameX_n : ∀ (n : Nat) (a b : Ex), SizeOf.sizeOf a < n → Pure Tryz.prog 99 [.agg (exC a), .agg (exC b)] (.c (sB (sameX a b)))
  | 0, _, _, h => absurd h (Nat.not_lt_zero _)
  | n + 1, a, b, h => by
    have ih : ∀ x ∈ a.kids, ∀ y, Pure Tryz.prog 99 [.agg (exC x), .agg (exC y)] (.c (sB (sameX x y))) := fun x hx y =>
      sameX_n n x y (by have := kid_lt hx; omega)
    rw [sameX_eq]
    refine fn2 (fn := Tryz.f99) Tryz.call99 Tryz.func99 rfl Tryz.ntmps99 Tryz.results99 rfl (by first | rfl | simp [V.ok, okL, C.ok, okA, okV]) ?_
    repeat' (first | (with_reducible first | apply AW.seq | apply AW.block | apply AW.scope | apply AW.skip | apply AW.ret | apply AW.exit | apply AW.label | apply q_then | apply q_thenR | apply q_thenE | apply q_bloN | apply q_bloR | apply q_bloE | apply q_strN | apply q_strR | apply q_strE | apply s_e | refine m_b rfl ?_ ?_ | refine m_g rfl ?_ | refine m_o rfl ?_ ?_ | refine v_reg ?_ | refine v_drw ?_ | refine v_rgl ?_ | refine v_drb ?_) | ((with_reducible apply i_dv); first | refine t_v AS.v ?_ | refine t_v (by first | exact u_call (hP := eqStr_p _ _)) ?_ | refine t_w AS.w ?_) | ((with_reducible apply i_dg); first | refine t_n ?_ | refine t_m (hs := fun hg => AS.v) (k := ?_) | refine t_m (hs := fun hg => (by first | exact u_call (hP := eqStr_p _ _))) (k := ?_) | refine t_f ?_) | ((with_reducible apply i_ds); first | refine t_s AS.s ?_) | ((with_reducible refine i_aw ?_); first | refine v_yes ?_ | refine v_no ?_ | (refine v_cond (fun hc => ?_) (fun hc => ?_); all_goals (try (exfalso; simp [*] at hc; done)); all_goals (try (exfalso; revert hc; simp; omega)))) | ((with_reducible refine i_rt ?_); first | refine k_b ?_ | refine k_s ?_ | refine k_i ?_ | refine k_v ?_ | refine k_c ?_ | exact r_0 | exact r_0n | ((first | refine k_2 ?_ ?_ | refine k_2c ?_ ?_); all_goals (with_reducible (first | apply un_b | apply un_i | apply un_s | apply un_a)))) | ((with_reducible apply al_id); dsimp only [List.append]) | (refine q_bloX rfl ?_) | (refine ⟨by decide +kernel, ?_⟩) | fail)
    · simp only [List.length_map] at hc
      rcases Nat.decEq a.kids.length b.kids.length with hn | hn
      · rw [all2_len hn, Bool.and_false]
      · unfold sameH
        rw [eq_comm, Bool.and_eq_false_iff]; left
        revert hc; simp [hn]
        grind
    have hlen : a.kids.length = b.kids.length ∧ sameH a b = true := by
      simp only [List.length_map] at hc
      unfold sameH
      grind
    rw [hlen.2, Bool.true_and]
    refine AW.fact (t := 57) rfl (fun κ w x hr => repV_l hr) fun hn => ?_
    refine AW.loop (fun n σ => ∃ j, n = a.kids.length - j ∧ j ≤ a.kids.length ∧ pre2 sameX a.kids b.kids j ∧ σ = mk [(2, .c (.ptr 2 0)), (3, .c (.ptr 3 0)), (58, .c (sI (a.kids.map exC).length)), (59, .c (sI j))] [(3, .obj 41 (exC b)), (2, .obj 41 (exC a))]) a.kids.length ?_ ?_
    · exact ⟨_, wk_mk (by (repeat (first | exact all_nil | ((refine all_cons ⟨_, rfl, .inl rfl, ?_⟩ ?_); (· (first | rfl | exact okRow rfl | (simp [V.ok, okL, C.ok, okA, HO.ok]; done) | (change okL _ _ = true; assumption)))))); done) (by (repeat (first | exact all_nil | ((refine all_cons ⟨_, rfl, .inl rfl, ?_⟩ ?_); (· (first | rfl | exact okRow rfl | (simp [V.ok, okL, C.ok, okA, HO.ok]; done) | (change okL _ _ = true; assumption)))))); done) (by exact fun h => h), 0, rfl, Nat.zero_le _, pre2_zero, rfl⟩
    rintro n σ ⟨j, rfl, hj, ha, rfl⟩
    by_cases hlt : j < a.kids.length
    · obtain ⟨x, hx⟩ : ∃ x, a.kids[j]? = some x := ⟨_, List.getElem?_eq_getElem hlt⟩
      obtain ⟨y, hy⟩ : ∃ y, b.kids[j]? = some y := ⟨_, List.getElem?_eq_getElem (by omega)⟩
      have hp := ih x (List.mem_of_getElem? hx) y
      repeat' (first | (with_reducible first | apply AW.seq | apply AW.block | apply AW.scope | apply AW.skip | apply AW.ret | apply AW.exit | apply AW.label | apply q_then | apply q_thenR | apply q_thenE | apply q_bloN | apply q_bloR | apply q_bloE | apply q_strN | apply q_strR | apply q_strE | apply s_e | refine m_b rfl ?_ ?_ | refine m_g rfl ?_ | refine m_o rfl ?_ ?_ | refine v_reg ?_ | refine v_drw ?_ | refine v_rgl ?_ | refine v_drb ?_) | ((with_reducible apply i_dv); first | refine t_v AS.v ?_ | refine t_v (by first | exact u_call (hP := hp)) ?_ | refine t_w AS.w ?_) | ((with_reducible apply i_dg); first | refine t_n ?_ | refine t_m (hs := fun hg => AS.v) (k := ?_) | refine t_m (hs := fun hg => (by first | exact u_call (hP := hp))) (k := ?_) | refine t_f ?_) | ((with_reducible apply i_ds); first | refine t_s AS.s ?_) | ((with_reducible refine i_aw ?_); first | refine v_yes ?_ | refine v_no ?_ | (refine v_cond (fun hc => ?_) (fun hc => ?_); all_goals (try (exfalso; simp [*] at hc; done)); all_goals (try (exfalso; revert hc; simp; omega)))) | ((with_reducible refine i_rt ?_); first | refine k_b ?_ | refine k_s ?_ | refine k_i ?_ | refine k_v ?_ | refine k_c ?_ | exact r_0 | exact r_0n | ((first | refine k_2 ?_ ?_ | refine k_2c ?_ ?_); all_goals (with_reducible (first | apply un_b | apply un_i | apply un_s | apply un_a)))) | ((with_reducible apply al_id); dsimp only [List.append]) | (refine q_bloX rfl ?_) | (refine ⟨by decide +kernel, ?_⟩) | fail)
      · rw [all2_no hx hy (by simpa using hc)]
      · exact ⟨_, _, (show a.kids.length - (j + 1) < a.kids.length - j by omega), wk_mk (by (repeat (first | exact all_nil | ((refine all_cons ⟨_, rfl, .inl rfl, ?_⟩ ?_); (· (first | rfl | exact okRow rfl | (simp [V.ok, okL, C.ok, okA, HO.ok]; done) | (change okL _ _ = true; assumption)))))); done) (by (repeat (first | exact all_nil | ((refine all_cons ⟨_, rfl, .inl rfl, ?_⟩ ?_); (· (first | rfl | exact okRow rfl | (simp [V.ok, okL, C.ok, okA, HO.ok]; done) | (change okL _ _ = true; assumption)))))); done) (by exact fun h => h), j + 1, rfl, hlt, pre2_step ha hx hy (by simpa using hc), rfl⟩
    · repeat' (first | (with_reducible first | apply AW.seq | apply AW.block | apply AW.scope | apply AW.skip | apply AW.ret | apply AW.exit | apply AW.label | apply q_then | apply q_thenR | apply q_thenE | apply q_bloN | apply q_bloR | apply q_bloE | apply q_strN | apply q_strR | apply q_strE | apply s_e | refine m_b rfl ?_ ?_ | refine m_g rfl ?_ | refine m_o rfl ?_ ?_ | refine v_reg ?_ | refine v_drw ?_ | refine v_rgl ?_ | refine v_drb ?_) | ((with_reducible apply i_dv); first | refine t_v AS.v ?_ | refine t_w AS.w ?_) | ((with_reducible apply i_dg); first | refine t_n ?_ | refine t_m (hs := fun hg => AS.v) (k := ?_) | refine t_f ?_) | ((with_reducible apply i_ds); first | refine t_s AS.s ?_) | ((with_reducible refine i_aw ?_); first | refine v_yes ?_ | refine v_no ?_ | (refine v_cond (fun hc => ?_) (fun hc => ?_); all_goals (try (exfalso; simp [*] at hc; done)); all_goals (try (exfalso; revert hc; simp; omega)))) | ((with_reducible refine i_rt ?_); first | refine k_b ?_ | refine k_s ?_ | refine k_i ?_ | refine k_v ?_ | refine k_c ?_ | exact r_0 | exact r_0n | ((first | refine k_2 ?_ ?_ | refine k_2c ?_ ?_); all_goals (with_reducible (first | apply un_b | apply un_i | apply un_s | apply un_a)))) | ((with_reducible apply al_id); dsimp only [List.append]) | (refine q_bloX rfl ?_) | (refine ⟨by decide +kernel, ?_⟩) | fail)
      rw [all2_end ha (by omega) hlen.1]
theorem sameX_p (a b : Ex) : Pure Tryz.prog 99 [.agg (exC a), .agg (exC b)] (.c (sB (sameX a b))) := sameX_n _ a b (Nat.lt_succ_self _)
end Am
namespace Am
set_option maxRecDepth 100000
set_option maxHeartbeats 1000000
theorem eqFun_p {l m : List Stm} {p : Stm → Stm → Bool} {f : Nat} (h : ∀ x ∈ l, ∀ y, Pure Tryz.prog f [.agg (stC x), .agg (stC y)] (.c (sB (p x y)))) : Pure Tryz.prog 50 [.c (.lst none 55 (l.map stC)), .c (.lst none 55 (m.map stC)), .c (.fn f [])] (.c (sB (all2 p l m))) := by
  refine fn3 (fn := Tryz.f50) Tryz.call50 Tryz.func50 rfl Tryz.ntmps50 Tryz.results50 rfl (by first | rfl | simp [V.ok, okL, C.ok, okA, okV]) ?_
  refine AW.fact (t := 0) rfl (fun κ w x hr => repV_l hr) fun hn => ?_
  repeat' (first | (with_reducible first | apply AW.seq | apply AW.block | apply AW.scope | apply AW.skip | apply AW.ret | apply AW.exit | apply AW.label | apply q_then | apply q_thenR | apply q_thenE | apply q_bloN | apply q_bloR | apply q_bloE | apply q_strN | apply q_strR | apply q_strE | apply s_e | refine m_b rfl ?_ ?_ | refine m_g rfl ?_ | refine m_o rfl ?_ ?_ | refine v_reg ?_ | refine v_drw ?_ | refine v_rgl ?_ | refine v_drb ?_) | ((with_reducible apply i_dv); first | refine t_v AS.v ?_ | refine t_w AS.w ?_) | ((with_reducible apply i_dg); first | refine t_n ?_ | refine t_m (hs := fun hg => AS.v) (k := ?_) | refine t_f ?_) | ((with_reducible apply i_ds); first | refine t_s AS.s ?_) | ((with_reducible refine i_aw ?_); first | refine v_yes ?_ | refine v_no ?_ | (refine v_cond (fun hc => ?_) (fun hc => ?_); all_goals (try (exfalso; simp [*] at hc; done)); all_goals (try (exfalso; revert hc; simp; omega)))) | ((with_reducible refine i_rt ?_); first | refine k_b ?_ | refine k_s ?_ | refine k_i ?_ | refine k_v ?_ | refine k_c ?_ | exact r_0 | exact r_0n | ((first | refine k_2 ?_ ?_ | refine k_2c ?_ ?_); all_goals (with_reducible (first | apply un_b | apply un_i | apply un_s | apply un_a)))) | ((with_reducible apply al_id); dsimp only [List.append]) | (refine q_bloX rfl ?_) | (refine ⟨by decide +kernel, ?_⟩) | fail)
  · rw [all2_len (by have h1 : ¬((l.length : Int) = m.length) := by simpa using hc
                     omega)]
  have hlen : l.length = m.length := by
    have : (l.length : Int) = m.length := by simpa using hc
    omega
  refine AW.loop (fun n σ => ∃ j, n = l.length - j ∧ j ≤ l.length ∧ pre2 p l m j ∧ σ = mk [(1, .c (.lst none 55 (m.map stC))), (2, .c (.fn f [])), (15, .c (.lst none 55 (l.map stC))), (16, .c (sI (l.map stC).length)), (17, .c (sI j))] []) l.length ?_ ?_
  · exact ⟨_, wk_mk (by (repeat (first | exact all_nil | ((refine all_cons ⟨_, rfl, .inl rfl, ?_⟩ ?_); (· (first | rfl | exact okRow rfl | (simp [V.ok, okL, C.ok, okA, HO.ok]; done) | (change okL _ _ = true; assumption)))))); done) (by (repeat (first | exact all_nil | ((refine all_cons ⟨_, rfl, .inl rfl, ?_⟩ ?_); (· (first | rfl | exact okRow rfl | (simp [V.ok, okL, C.ok, okA, HO.ok]; done) | (change okL _ _ = true; assumption)))))); done) (by exact fun h => h), 0, rfl, Nat.zero_le _, pre2_zero, rfl⟩
  rintro n σ ⟨j, rfl, hj, ha, rfl⟩
  by_cases hlt : j < l.length
  · obtain ⟨x, hx⟩ : ∃ x, l[j]? = some x := ⟨_, List.getElem?_eq_getElem hlt⟩
    obtain ⟨y, hy⟩ : ∃ y, m[j]? = some y := ⟨_, List.getElem?_eq_getElem (by omega)⟩
    have hp := h x (List.mem_of_getElem? hx) y
    repeat' (first | (with_reducible first | apply AW.seq | apply AW.block | apply AW.scope | apply AW.skip | apply AW.ret | apply AW.exit | apply AW.label | apply q_then | apply q_thenR | apply q_thenE | apply q_bloN | apply q_bloR | apply q_bloE | apply q_strN | apply q_strR | apply q_strE | apply s_e | refine m_b rfl ?_ ?_ | refine m_g rfl ?_ | refine m_o rfl ?_ ?_ | refine v_reg ?_ | refine v_drw ?_ | refine v_rgl ?_ | refine v_drb ?_) | ((with_reducible apply i_dv); first | refine t_v AS.v ?_ | refine t_v (by first | exact u_call (hP := hp)) ?_ | refine t_w AS.w ?_) | ((with_reducible apply i_dg); first | refine t_n ?_ | refine t_m (hs := fun hg => AS.v) (k := ?_) | refine t_m (hs := fun hg => (by first | exact u_call (hP := hp))) (k := ?_) | refine t_f ?_) | ((with_reducible apply i_ds); first | refine t_s AS.s ?_) | ((with_reducible refine i_aw ?_); first | refine v_yes ?_ | refine v_no ?_ | (refine v_cond (fun hc => ?_) (fun hc => ?_); all_goals (try (exfalso; simp [*] at hc; done)); all_goals (try (exfalso; revert hc; simp; omega)))) | ((with_reducible refine i_rt ?_); first | refine k_b ?_ | refine k_s ?_ | refine k_i ?_ | refine k_v ?_ | refine k_c ?_ | exact r_0 | exact r_0n | ((first | refine k_2 ?_ ?_ | refine k_2c ?_ ?_); all_goals (with_reducible (first | apply un_b | apply un_i | apply un_s | apply un_a)))) | ((with_reducible apply al_id); dsimp only [List.append]) | (refine q_bloX rfl ?_) | (refine ⟨by decide +kernel, ?_⟩) | fail)
    · rw [all2_no hx hy (by simpa using hc)]
    · exact ⟨_, _, (show l.length - (j + 1) < l.length - j by omega), wk_mk (by (repeat (first | exact all_nil | ((refine all_cons ⟨_, rfl, .inl rfl, ?_⟩ ?_); (· (first | rfl | exact okRow rfl | (simp [V.ok, okL, C.ok, okA, HO.ok]; done) | (change okL _ _ = true; assumption)))))); done) (by (repeat (first | exact all_nil | ((refine all_cons ⟨_, rfl, .inl rfl, ?_⟩ ?_); (· (first | rfl | exact okRow rfl | (simp [V.ok, okL, C.ok, okA, HO.ok]; done) | (change okL _ _ = true; assumption)))))); done) (by exact fun h => h), j + 1, rfl, hlt, pre2_step ha hx hy (by simpa using hc), rfl⟩
  · repeat' (first | (with_reducible first | apply AW.seq | apply AW.block | apply AW.scope | apply AW.skip | apply AW.ret | apply AW.exit | apply AW.label | apply q_then | apply q_thenR | apply q_thenE | apply q_bloN | apply q_bloR | apply q_bloE | apply q_strN | apply q_strR | apply q_strE | apply s_e | refine m_b rfl ?_ ?_ | refine m_g rfl ?_ | refine m_o rfl ?_ ?_ | refine v_reg ?_ | refine v_drw ?_ | refine v_rgl ?_ | refine v_drb ?_) | ((with_reducible apply i_dv); first | refine t_v AS.v ?_ | refine t_w AS.w ?_) | ((with_reducible apply i_dg); first | refine t_n ?_ | refine t_m (hs := fun hg => AS.v) (k := ?_) | refine t_f ?_) | ((with_reducible apply i_ds); first | refine t_s AS.s ?_) | ((with_reducible refine i_aw ?_); first | refine v_yes ?_ | refine v_no ?_ | (refine v_cond (fun hc => ?_) (fun hc => ?_); all_goals (try (exfalso; simp [*] at hc; done)); all_goals (try (exfalso; revert hc; simp; omega)))) | ((with_reducible refine i_rt ?_); first | refine k_b ?_ | refine k_s ?_ | refine k_i ?_ | refine k_v ?_ | refine k_c ?_ | exact r_0 | exact r_0n | ((first | refine k_2 ?_ ?_ | refine k_2c ?_ ?_); all_goals (with_reducible (first | apply un_b | apply un_i | apply un_s | apply un_a)))) | ((with_reducible apply al_id); dsimp only [List.append]) | (refine q_bloX rfl ?_) | (refine ⟨by decide +kernel, ?_⟩) | fail)
    rw [all2_end ha (by omega) hlen]
theorem thn_lt {s x : Stm} (h : x ∈ s.thn) : SizeOf.sizeOf x < SizeOf.sizeOf s := by
  cases s
  have := List.sizeOf_lt_of_mem h
  simp only [Stm.mk.sizeOf_spec] at this ⊢
  omega
theorem els_lt {s x : Stm} (h : x ∈ s.els) : SizeOf.sizeOf x < SizeOf.sizeOf s := by
  cases s
  have := List.sizeOf_lt_of_mem h
  simp only [Stm.mk.sizeOf_spec] at this ⊢
  omega
def sameStH (a b : Stm) : Bool := decide (a.kind = b.kind) && decide (a.op = b.op) && decide (a.name = b.name) && decide (a.result = b.result) && decide (a.text = b.text) && (a.value == b.value) && decide (a.list = b.list) && decide (a.aliases = b.aliases) && sameNs a.source b.source && sameNs a.target b.target && sameNs a.cls b.cls && sameNs a.perms b.perms && sameX a.cond b.cond && sameLv a.level b.level && sameRg a.range b.range && decide (a.ctx.user = b.ctx.user) && decide (a.ctx.role = b.ctx.role) && decide (a.ctx.type = b.ctx.type) && sameRg a.ctx.rng b.ctx.rng
mutual
def sameS : Stm → Stm → Bool
  | ⟨a1, a2, a3, a4, a5, a6, a7, a8, a9, a10, a11, a12, a13, a14, a15, a16, a17, t, e⟩, b => sameStH ⟨a1, a2, a3, a4, a5, a6, a7, a8, a9, a10, a11, a12, a13, a14, a15, a16, a17, t, e⟩ b && sameSs t b.thn && sameSs e b.els
def sameSs : List Stm → List Stm → Bool
  | [], [] => true
  | x :: l, y :: m => sameS x y && sameSs l m
  | [], _ :: _ => false
  | _ :: _, [] => false
end
theorem sameSs_all : ∀ l m : List Stm, sameSs l m = all2 sameS l m
  | [], [] => by rw [sameSs]; rfl
  | x :: l, y :: m => by rw [sameSs, sameSs_all l m]; rfl
  | [], _ :: _ => by rw [sameSs]; rfl
  | _ :: _, [] => by rw [sameSs]; rfl
theorem sameS_eq (a b : Stm) : sameS a b = (sameStH a b && all2 sameS a.thn b.thn && all2 sameS a.els b.els) := by
  cases a; rw [sameS, sameSs_all, sameSs_all]
theorem sameSt_p {l m : List Stm} (h : ∀ x ∈ l, ∀ y, Pure Tryz.prog 51 [.agg (stC x), .agg (stC y)] (.c (sB (sameS x y)))) : Pure Tryz.prog 20 [.c (.lst none 55 (l.map stC)), .c (.lst none 55 (m.map stC))] (.c (sB (all2 sameS l m))) := by
  refine fn2 (fn := Tryz.f20) Tryz.call20 Tryz.func20 rfl Tryz.ntmps20 Tryz.results20 rfl (by first | rfl | simp [V.ok, okL, C.ok, okA, okV]) ?_
  repeat' (first | (with_reducible first | apply AW.seq | apply AW.block | apply AW.scope | apply AW.skip | apply AW.ret | apply AW.exit | apply AW.label | apply q_then | apply q_thenR | apply q_thenE | apply q_bloN | apply q_bloR | apply q_bloE | apply q_strN | apply q_strR | apply q_strE | apply s_e | refine m_b rfl ?_ ?_ | refine m_g rfl ?_ | refine m_o rfl ?_ ?_ | refine v_reg ?_ | refine v_drw ?_ | refine v_rgl ?_ | refine v_drb ?_) | ((with_reducible apply i_dv); first | refine t_v AS.v ?_ | refine t_v (by first | exact u_call (hP := eqFun_p h)) ?_ | refine t_w AS.w ?_) | ((with_reducible apply i_dg); first | refine t_n ?_ | refine t_m (hs := fun hg => AS.v) (k := ?_) | refine t_m (hs := fun hg => (by first | exact u_call (hP := eqFun_p h))) (k := ?_) | refine t_f ?_) | ((with_reducible apply i_ds); first | refine t_s AS.s ?_) | ((with_reducible refine i_aw ?_); first | refine v_yes ?_ | refine v_no ?_ | (refine v_cond (fun hc => ?_) (fun hc => ?_); all_goals (try (exfalso; simp [*] at hc; done)); all_goals (try (exfalso; revert hc; simp; omega)))) | ((with_reducible refine i_rt ?_); first | refine k_b ?_ | refine k_s ?_ | refine k_i ?_ | refine k_v ?_ | refine k_c ?_ | exact r_0 | exact r_0n | ((first | refine k_2 ?_ ?_ | refine k_2c ?_ ?_); all_goals (with_reducible (first | apply un_b | apply un_i | apply un_s | apply un_a)))) | ((with_reducible apply al_id); dsimp only [List.append]) | (refine q_bloX rfl ?_) | (refine ⟨by decide +kernel, ?_⟩) | fail)
  rfl
theorem sameS_n : ∀ (n : Nat) (a b : Stm), SizeOf.sizeOf a < n → Pure Tryz.prog 51 [.agg (stC a), .agg (stC b)] (.c (sB (sameS a b)))
  | 0, _, _, h => absurd h (Nat.not_lt_zero _)
  | n + 1, a, b, h => by
    have i1 : ∀ x ∈ a.thn, ∀ y, Pure Tryz.prog 51 [.agg (stC x), .agg (stC y)] (.c (sB (sameS x y))) := fun x hx y =>
      sameS_n n x y (by have := thn_lt hx; omega)
    have i2 : ∀ x ∈ a.els, ∀ y, Pure Tryz.prog 51 [.agg (stC x), .agg (stC y)] (.c (sB (sameS x y))) := fun x hx y =>
      sameS_n n x y (by have := els_lt hx; omega)
    rw [sameS_eq]
    refine fn2 (fn := Tryz.f51) Tryz.call51 Tryz.func51 rfl Tryz.ntmps51 Tryz.results51 rfl (by first | rfl | simp [V.ok, okL, C.ok, okA, okV]) ?_
    repeat' (first | (with_reducible first | apply AW.seq | apply AW.block | apply AW.scope | apply AW.skip | apply AW.ret | apply AW.exit | apply AW.label | apply q_then | apply q_thenR | apply q_thenE | apply q_bloN | apply q_bloR | apply q_bloE | apply q_strN | apply q_strR | apply q_strE | apply s_e | refine m_b rfl ?_ ?_ | refine m_g rfl ?_ | refine m_o rfl ?_ ?_ | refine v_reg ?_ | refine v_drw ?_ | refine v_rgl ?_ | refine v_drb ?_) | ((with_reducible apply i_dv); first | refine t_v AS.v ?_ | refine t_v (by first | exact u_call (hP := eqStr_p _ _) | exact u_call (hP := sameNs_p _ _) | exact u_call (hP := sameX_p _ _) | exact u_call (hP := sameLv_p _ _) | exact u_call (hP := sameRg_p _ _) | exact u_call (hP := sameSt_p i1) | exact u_call (hP := sameSt_p i2)) ?_ | refine t_w AS.w ?_) | ((with_reducible apply i_dg); first | refine t_n ?_ | refine t_m (hs := fun hg => AS.v) (k := ?_) | refine t_m (hs := fun hg => (by first | exact u_call (hP := eqStr_p _ _) | exact u_call (hP := sameNs_p _ _) | exact u_call (hP := sameX_p _ _) | exact u_call (hP := sameLv_p _ _) | exact u_call (hP := sameRg_p _ _) | exact u_call (hP := sameSt_p i1) | exact u_call (hP := sameSt_p i2))) (k := ?_) | refine t_f ?_) | ((with_reducible apply i_ds); first | refine t_s AS.s ?_) | ((with_reducible refine i_aw ?_); first | refine v_yes ?_ | refine v_no ?_ | (refine v_cond (fun hc => ?_) (fun hc => ?_); all_goals (try (exfalso; simp [*] at hc; done)); all_goals (try (exfalso; revert hc; simp; omega)))) | ((with_reducible refine i_rt ?_); first | refine k_b ?_ | refine k_s ?_ | refine k_i ?_ | refine k_v ?_ | refine k_c ?_ | exact r_0 | exact r_0n | ((first | refine k_2 ?_ ?_ | refine k_2c ?_ ?_); all_goals (with_reducible (first | apply un_b | apply un_i | apply un_s | apply un_a)))) | ((with_reducible apply al_id); dsimp only [List.append]) | (refine q_bloX rfl ?_) | (refine ⟨by decide +kernel, ?_⟩) | fail)
    rfl
theorem sameS_p (a b : Stm) : Pure Tryz.prog 51 [.agg (stC a), .agg (stC b)] (.c (sB (sameS a b))) := sameS_n _ a b (Nat.lt_succ_self _)
theorem sameSs_p (l m : List Stm) : Pure Tryz.prog 20 [.c (.lst none 55 (l.map stC)), .c (.lst none 55 (m.map stC))] (.c (sB (all2 sameS l m))) := sameSt_p fun x _ y => sameS_p x y
theorem same_p (a b : Mo) : Pure Tryz.prog 18 [.agg (moC a), .agg (moC b)] (.c (sB (decide (a.name = b.name) && decide (a.version = b.version) && all2 sameS a.stmts b.stmts))) := by
  refine fn2 (fn := Tryz.f18) Tryz.call18 Tryz.func18 rfl Tryz.ntmps18 Tryz.results18 rfl (by first | rfl | simp [V.ok, okL, C.ok, okA, okV]) ?_
  repeat' (first | (with_reducible first | apply AW.seq | apply AW.block | apply AW.scope | apply AW.skip | apply AW.ret | apply AW.exit | apply AW.label | apply q_then | apply q_thenR | apply q_thenE | apply q_bloN | apply q_bloR | apply q_bloE | apply q_strN | apply q_strR | apply q_strE | apply s_e | refine m_b rfl ?_ ?_ | refine m_g rfl ?_ | refine m_o rfl ?_ ?_ | refine v_reg ?_ | refine v_drw ?_ | refine v_rgl ?_ | refine v_drb ?_) | ((with_reducible apply i_dv); first | refine t_v AS.v ?_ | refine t_v (by first | exact u_call (hP := sameSs_p _ _)) ?_ | refine t_w AS.w ?_) | ((with_reducible apply i_dg); first | refine t_n ?_ | refine t_m (hs := fun hg => AS.v) (k := ?_) | refine t_m (hs := fun hg => (by first | exact u_call (hP := sameSs_p _ _))) (k := ?_) | refine t_f ?_) | ((with_reducible apply i_ds); first | refine t_s AS.s ?_) | ((with_reducible refine i_aw ?_); first | refine v_yes ?_ | refine v_no ?_ | (refine v_cond (fun hc => ?_) (fun hc => ?_); all_goals (try (exfalso; simp [*] at hc; done)); all_goals (try (exfalso; revert hc; simp; omega)))) | ((with_reducible refine i_rt ?_); first | refine k_b ?_ | refine k_s ?_ | refine k_i ?_ | refine k_v ?_ | refine k_c ?_ | exact r_0 | exact r_0n | ((first | refine k_2 ?_ ?_ | refine k_2c ?_ ?_); all_goals (with_reducible (first | apply un_b | apply un_i | apply un_s | apply un_a)))) | ((with_reducible apply al_id); dsimp only [List.append]) | (refine q_bloX rfl ?_) | (refine ⟨by decide +kernel, ?_⟩) | fail)
  rfl
end Am
namespace Am
set_option maxRecDepth 100000
set_option maxHeartbeats 1000000
def declR (s : Stm) : Bool × Stm :=
  if s.kind = 1 ∨ s.kind = 4 then (idB s.name && someB s.list, { s with name := ⟨#[]⟩, list := [] })
  else if s.kind = 2 then (idB s.name && s.list.all idB && s.aliases.all idB, { s with name := ⟨#[]⟩, list := [], aliases := [] })
  else if s.kind = 3 ∨ s.kind = 10 ∨ s.kind = 11 then (idB s.name, { s with name := ⟨#[]⟩ })
  else if s.kind = 5 then (idB s.name && (sameNs s.source NS.zero || namedB s.source false), { s with name := ⟨#[]⟩, source := NS.zero })
  else if s.kind = 8 then (idB s.name && someB s.list && lvB s.level && rgB s.range, { s with name := ⟨#[]⟩, list := [], level := Lv.zero, range := Rg.zero })
  else if s.kind = 9 then (idB s.name, { s with name := ⟨#[]⟩, value := false })
  else (false, { s with name := ⟨#[]⟩ })
theorem declared_p (s : Stm) : Pure Tryz.prog 78 [.agg (stC s)] (.tup [.c (sB (declR s).1), .agg (stC (declR s).2)]) := by
  refine fn1 (fn := Tryz.f78) Tryz.call78 Tryz.func78 rfl Tryz.ntmps78 Tryz.results78 rfl (by first | rfl | simp [V.ok, okL, C.ok, okA, okV]) ?_
  repeat' (first | (with_reducible first | apply AW.seq | apply AW.block | apply AW.scope | apply AW.skip | apply AW.ret | apply AW.exit | apply AW.label | apply q_then | apply q_thenR | apply q_thenE | apply q_bloN | apply q_bloR | apply q_bloE | apply q_strN | apply q_strR | apply q_strE | apply s_e | refine m_b rfl ?_ ?_ | refine m_g rfl ?_ | refine m_o rfl ?_ ?_ | refine v_reg ?_ | refine v_drw ?_ | refine v_rgl ?_ | refine v_drb ?_) | ((with_reducible apply i_dv); first | refine t_v AS.v ?_ | refine t_v (by first | exact u_call (hP := ident_p _) | exact u_call (hP := some_p _) | exact u_call (hP := all_string_p (fun x _ => ident_p x)) | exact u_call (hP := unnamed_p _) | exact u_call (hP := named_p _ _) | exact u_call (hP := leveled_p _) | exact u_call (hP := ranged_p _)) ?_ | refine t_w AS.w ?_) | ((with_reducible apply i_dg); first | refine t_n ?_ | refine t_m (hs := fun hg => AS.v) (k := ?_) | refine t_m (hs := fun hg => (by first | exact u_call (hP := ident_p _) | exact u_call (hP := some_p _) | exact u_call (hP := all_string_p (fun x _ => ident_p x)) | exact u_call (hP := unnamed_p _) | exact u_call (hP := named_p _ _) | exact u_call (hP := leveled_p _) | exact u_call (hP := ranged_p _))) (k := ?_) | refine t_f ?_) | ((with_reducible apply i_ds); first | refine t_s AS.s ?_) | ((with_reducible refine i_aw ?_); first | refine v_yes ?_ | refine v_no ?_ | (refine v_cond (fun hc => ?_) (fun hc => ?_); all_goals (try (exfalso; simp [*] at hc; done)); all_goals (try (exfalso; revert hc; simp; omega)))) | ((with_reducible refine i_rt ?_); first | refine k_b ?_ | refine k_s ?_ | refine k_i ?_ | refine k_v ?_ | refine k_c ?_ | exact r_0 | exact r_0n | ((first | refine k_2 ?_ ?_ | refine k_2c ?_ ?_); all_goals (with_reducible (first | apply un_b | apply un_i | apply un_s | apply un_a)))) | ((with_reducible apply al_id); dsimp only [List.append]) | (refine q_bloX rfl ?_) | (refine ⟨by decide +kernel, ?_⟩) | fail)
  all_goals
    simp only [decide_eq_true_eq, decide_eq_false_iff_not] at *
    simp [declR, unA, *]
def opB (n m : Int) : Bool := decide (1 ≤ n) && decide (n ≤ m)
def objC (c : UInt8) : Bool := !(decide (c.toNat < 33) || decide (126 < c.toNat) || decide (c.toNat = 47) || decide (c.toNat = 34))
def objB (s : ByteArray) : Bool := s.data.toList.all objC && (decide (s ≠ ⟨#[]⟩) && decide (s.size ≤ 32))
theorem sz_len (s : ByteArray) : s.size = s.data.toList.length := by cases s; simp [ByteArray.size]
theorem objectName_p (s : ByteArray) : Pure Tryz.prog 130 [.c (sS s)] (.c (sB (objB s))) := by
  refine fn1 (fn := Tryz.f130) Tryz.call130 Tryz.func130 rfl Tryz.ntmps130 Tryz.results130 rfl (by first | rfl | simp [V.ok, okL, C.ok, okA, okV]) ?_
  refine AW.fact (t := 0) rfl (fun κ w x hr => repV_s hr) fun hn => ?_
  repeat' (first | (with_reducible first | apply AW.seq | apply AW.block | apply AW.scope | apply AW.skip | apply AW.ret | apply AW.exit | apply AW.label | apply q_then | apply q_thenR | apply q_thenE | apply q_bloN | apply q_bloR | apply q_bloE | apply q_strN | apply q_strR | apply q_strE | apply s_e | refine m_b rfl ?_ ?_ | refine m_g rfl ?_ | refine m_o rfl ?_ ?_ | refine v_reg ?_ | refine v_drw ?_ | refine v_rgl ?_ | refine v_drb ?_) | ((with_reducible apply i_dv); first | refine t_v AS.v ?_ | refine t_w AS.w ?_) | ((with_reducible apply i_dg); first | refine t_n ?_ | refine t_m (hs := fun hg => AS.v) (k := ?_) | refine t_f ?_) | ((with_reducible apply i_ds); first | refine t_s AS.s ?_) | ((with_reducible refine i_aw ?_); first | refine v_yes ?_ | refine v_no ?_ | (refine v_cond (fun hc => ?_) (fun hc => ?_); all_goals (try (exfalso; simp [*] at hc; done)); all_goals (try (exfalso; revert hc; simp; omega)))) | ((with_reducible refine i_rt ?_); first | refine k_b ?_ | refine k_s ?_ | refine k_i ?_ | refine k_v ?_ | refine k_c ?_ | exact r_0 | exact r_0n | ((first | refine k_2 ?_ ?_ | refine k_2c ?_ ?_); all_goals (with_reducible (first | apply un_b | apply un_i | apply un_s | apply un_a)))) | ((with_reducible apply al_id); dsimp only [List.append]) | (refine q_bloX rfl ?_) | (refine ⟨by decide +kernel, ?_⟩) | fail)
  refine AW.loop (fun n σ => ∃ j, n = s.size - j ∧ j ≤ s.size ∧ (s.data.toList.take j).all objC = true ∧ σ = mk [(0, .c (sS s)), (5, .c (sI s.size)), (6, .c (sI j))] []) s.size ?_ ?_
  · exact ⟨_, wk_mk (by (repeat (first | exact all_nil | ((refine all_cons ⟨_, rfl, .inl rfl, ?_⟩ ?_); (· (first | rfl | exact okRow rfl | (simp [V.ok, okL, C.ok, okA, HO.ok]; done) | (change okL _ _ = true; assumption)))))); done) (by (repeat (first | exact all_nil | ((refine all_cons ⟨_, rfl, .inl rfl, ?_⟩ ?_); (· (first | rfl | exact okRow rfl | (simp [V.ok, okL, C.ok, okA, HO.ok]; done) | (change okL _ _ = true; assumption)))))); done) (by exact fun h => h), 0, rfl, Nat.zero_le _, rfl, rfl⟩
  rintro n σ ⟨j, rfl, hj, ha, rfl⟩
  by_cases hlt : j < s.size
  · obtain ⟨x, hx⟩ : ∃ x, s.data.toList[j]? = some x := ⟨_, List.getElem?_eq_getElem (by have := sz_len s; omega)⟩
    repeat' (first | (with_reducible first | apply AW.seq | apply AW.block | apply AW.scope | apply AW.skip | apply AW.ret | apply AW.exit | apply AW.label | apply q_then | apply q_thenR | apply q_thenE | apply q_bloN | apply q_bloR | apply q_bloE | apply q_strN | apply q_strR | apply q_strE | apply s_e | refine m_b rfl ?_ ?_ | refine m_g rfl ?_ | refine m_o rfl ?_ ?_ | refine v_reg ?_ | refine v_drw ?_ | refine v_rgl ?_ | refine v_drb ?_) | ((with_reducible apply i_dv); first | refine t_v AS.v ?_ | refine t_w AS.w ?_) | ((with_reducible apply i_dg); first | refine t_n ?_ | refine t_m (hs := fun hg => AS.v) (k := ?_) | refine t_f ?_) | ((with_reducible apply i_ds); first | refine t_s AS.s ?_) | ((with_reducible refine i_aw ?_); first | refine v_yes ?_ | refine v_no ?_ | (refine v_cond (fun hc => ?_) (fun hc => ?_); all_goals (try (exfalso; simp [*] at hc; done)); all_goals (try (exfalso; revert hc; simp; omega)))) | ((with_reducible refine i_rt ?_); first | refine k_b ?_ | refine k_s ?_ | refine k_i ?_ | refine k_v ?_ | refine k_c ?_ | exact r_0 | exact r_0n | ((first | refine k_2 ?_ ?_ | refine k_2c ?_ ?_); all_goals (with_reducible (first | apply un_b | apply un_i | apply un_s | apply un_a)))) | ((with_reducible apply al_id); dsimp only [List.append]) | (refine q_bloX rfl ?_) | (refine ⟨by decide +kernel, ?_⟩) | fail)
    · have e : objC x = false := by simp only [objC]; simp at hc ⊢; omega
      rw [objB, all_no hx e, Bool.false_and]
    · have e : objC x = true := by simp only [objC]; simp at hc ⊢; omega
      exact ⟨_, _, (show s.size - (j + 1) < s.size - j by omega), wk_mk (by (repeat (first | exact all_nil | ((refine all_cons ⟨_, rfl, .inl rfl, ?_⟩ ?_); (· (first | rfl | exact okRow rfl | (simp [V.ok, okL, C.ok, okA, HO.ok]; done) | (change okL _ _ = true; assumption)))))); done) (by (repeat (first | exact all_nil | ((refine all_cons ⟨_, rfl, .inl rfl, ?_⟩ ?_); (· (first | rfl | exact okRow rfl | (simp [V.ok, okL, C.ok, okA, HO.ok]; done) | (change okL _ _ = true; assumption)))))); done) (by exact fun h => h), j + 1, rfl, hlt, all_step hx ha e, rfl⟩
  · have e := all_end ha (by have := sz_len s; omega)
    repeat' (first | (with_reducible first | apply AW.seq | apply AW.block | apply AW.scope | apply AW.skip | apply AW.ret | apply AW.exit | apply AW.label | apply q_then | apply q_thenR | apply q_thenE | apply q_bloN | apply q_bloR | apply q_bloE | apply q_strN | apply q_strR | apply q_strE | apply s_e | refine m_b rfl ?_ ?_ | refine m_g rfl ?_ | refine m_o rfl ?_ ?_ | refine v_reg ?_ | refine v_drw ?_ | refine v_rgl ?_ | refine v_drb ?_) | ((with_reducible apply i_dv); first | refine t_v AS.v ?_ | refine t_w AS.w ?_) | ((with_reducible apply i_dg); first | refine t_n ?_ | refine t_m (hs := fun hg => AS.v) (k := ?_) | refine t_f ?_) | ((with_reducible apply i_ds); first | refine t_s AS.s ?_) | ((with_reducible refine i_aw ?_); first | refine v_yes ?_ | refine v_no ?_ | (refine v_cond (fun hc => ?_) (fun hc => ?_); all_goals (try (exfalso; simp [*] at hc; done)); all_goals (try (exfalso; revert hc; simp; omega)))) | ((with_reducible refine i_rt ?_); first | refine k_b ?_ | refine k_s ?_ | refine k_i ?_ | refine k_v ?_ | refine k_c ?_ | exact r_0 | exact r_0n | ((first | refine k_2 ?_ ?_ | refine k_2c ?_ ?_); all_goals (with_reducible (first | apply un_b | apply un_i | apply un_s | apply un_a)))) | ((with_reducible apply al_id); dsimp only [List.append]) | (refine q_bloX rfl ?_) | (refine ⟨by decide +kernel, ?_⟩) | fail)
    rw [objB, e, Bool.true_and, show decide ((s.size : Int) ≤ 32) = decide (s.size ≤ 32) from decide_eq_decide.2 (by omega)]
    simp
end Am
namespace Am
set_option maxRecDepth 100000
set_option maxHeartbeats 4000000
def zeroN (s : Stm) : Stm := { s with source := NS.zero, target := NS.zero, cls := NS.zero }
def pairB (s : Stm) : Bool := namedB s.source false && namedB s.target (decide (s.kind = 12))
def regR (s : Stm) : Bool × Stm :=
  if s.kind = 6 then (pairB s, { zeroN s with cls := s.cls })
  else if s.kind = 7 then (pairB s && namedB s.cls false && idB s.result, { zeroN s with result := ⟨#[]⟩ })
  else if s.kind = 12 then (pairB s && namedB s.cls false && namedB s.perms false && opB s.op 4, { zeroN s with op := 0, perms := NS.zero })
  else if s.kind = 13 then (pairB s && namedB s.cls false && idB s.result && (decide (s.text = ⟨#[]⟩) || (decide (s.op = 1) && objB s.text)) && opB s.op 3, { zeroN s with op := 0, result := ⟨#[]⟩, text := ⟨#[]⟩ })
  else if s.kind = 14 then (pairB s && namedB s.cls false && rgB s.range, { zeroN s with range := Rg.zero })
  else if s.kind = 23 then (pairB s && idB s.name && opB s.op 3, { zeroN s with cls := s.cls, op := 0, name := ⟨#[]⟩ })
  else (false, zeroN s)
theorem regular_p (s : Stm) : Pure Tryz.prog 79 [.agg (stC s)] (.tup [.c (sB (regR s).1), .agg (stC (regR s).2)]) := by
  refine fn1 (fn := Tryz.f79) Tryz.call79 Tryz.func79 rfl Tryz.ntmps79 Tryz.results79 rfl (by first | rfl | simp [V.ok, okL, C.ok, okA, okV]) ?_
  repeat' (first | (with_reducible first | apply AW.seq | apply AW.block | apply AW.scope | apply AW.skip | apply AW.ret | apply AW.exit | apply AW.label | apply q_then | apply q_thenR | apply q_thenE | apply q_bloN | apply q_bloR | apply q_bloE | apply q_strN | apply q_strR | apply q_strE | apply s_e | refine m_b rfl ?_ ?_ | refine m_g rfl ?_ | refine m_o rfl ?_ ?_ | refine v_reg ?_ | refine v_drw ?_ | refine v_rgl ?_ | refine v_drb ?_) | ((with_reducible apply i_dv); first | refine t_v AS.v ?_ | refine t_v (by first | exact u_call (hP := ident_p _) | exact u_call (hP := named_p _ _) | exact u_call (hP := ranged_p _) | exact u_call (hP := op_p _ _) | exact u_call (hP := objectName_p _)) ?_ | refine t_w AS.w ?_) | ((with_reducible apply i_dg); first | refine t_n ?_ | refine t_m (hs := fun hg => AS.v) (k := ?_) | refine t_m (hs := fun hg => (by first | exact u_call (hP := ident_p _) | exact u_call (hP := named_p _ _) | exact u_call (hP := ranged_p _) | exact u_call (hP := op_p _ _) | exact u_call (hP := objectName_p _))) (k := ?_) | refine t_f ?_) | ((with_reducible apply i_ds); first | refine t_s AS.s ?_) | ((with_reducible refine i_aw ?_); first | refine v_yes ?_ | refine v_no ?_ | (refine v_cond (fun hc => ?_) (fun hc => ?_); all_goals (try (exfalso; simp [*] at hc; done)); all_goals (try (exfalso; revert hc; simp; omega)))) | ((with_reducible refine i_rt ?_); first | refine k_b ?_ | refine k_s ?_ | refine k_i ?_ | refine k_v ?_ | refine k_c ?_ | exact r_0 | exact r_0n | ((first | refine k_2 ?_ ?_ | refine k_2c ?_ ?_); all_goals (with_reducible (first | apply un_b | apply un_i | apply un_s | apply un_a)))) | ((with_reducible apply al_id); dsimp only [List.append]) | (refine q_bloX rfl ?_) | (refine ⟨by decide +kernel, ?_⟩) | fail)
  all_goals
    simp only [decide_eq_true_eq, decide_eq_false_iff_not] at *
    simp [regR, zeroN, pairB, opB, unA, *]
end Am
namespace Am
set_option maxRecDepth 100000
set_option maxHeartbeats 4000000
def prtC (c : UInt8) : Bool := decide (32 ≤ c.toNat) && decide (c.toNat ≤ 126) && decide (c.toNat ≠ 34)
theorem printable_p (c : UInt8) : Pure Tryz.prog 187 [.c (.sc (.int .i32 c.toNat))] (.c (sB (prtC c))) := by
  refine fn1 (fn := Tryz.f187) Tryz.call187 Tryz.func187 rfl Tryz.ntmps187 Tryz.results187 rfl (by first | rfl | simp [V.ok, okL, C.ok, okA, okV]) ?_
  repeat' (first | (with_reducible first | apply AW.seq | apply AW.block | apply AW.scope | apply AW.skip | apply AW.ret | apply AW.exit | apply AW.label | apply q_then | apply q_thenR | apply q_thenE | apply q_bloN | apply q_bloR | apply q_bloE | apply q_strN | apply q_strR | apply q_strE | apply s_e | refine m_b rfl ?_ ?_ | refine m_g rfl ?_ | refine m_o rfl ?_ ?_ | refine v_reg ?_ | refine v_drw ?_ | refine v_rgl ?_ | refine v_drb ?_) | ((with_reducible apply i_dv); first | refine t_v AS.v ?_ | refine t_w AS.w ?_) | ((with_reducible apply i_dg); first | refine t_n ?_ | refine t_m (hs := fun hg => AS.v) (k := ?_) | refine t_f ?_) | ((with_reducible apply i_ds); first | refine t_s AS.s ?_) | ((with_reducible refine i_aw ?_); first | refine v_yes ?_ | refine v_no ?_ | (refine v_cond (fun hc => ?_) (fun hc => ?_); all_goals (try (exfalso; simp [*] at hc; done)); all_goals (try (exfalso; revert hc; simp; omega)))) | ((with_reducible refine i_rt ?_); first | refine k_b ?_ | refine k_s ?_ | refine k_i ?_ | refine k_v ?_ | refine k_c ?_ | exact r_0 | exact r_0n | ((first | refine k_2 ?_ ?_ | refine k_2c ?_ ?_); all_goals (with_reducible (first | apply un_b | apply un_i | apply un_s | apply un_a)))) | ((with_reducible apply al_id); dsimp only [List.append]) | (refine q_bloX rfl ?_) | (refine ⟨by decide +kernel, ?_⟩) | fail)
  rw [prtC, show decide ((32 : Int) ≤ c.toNat) = decide (32 ≤ c.toNat) from decide_eq_decide.2 (by omega), show decide ((c.toNat : Int) ≤ 126) = decide (c.toNat ≤ 126) from decide_eq_decide.2 (by omega), show decide ((c.toNat : Int) = 34) = decide (c.toNat = 34) from decide_eq_decide.2 (by omega)]
  simp
def quoB (s : ByteArray) : Bool := decide (s.size ≤ 256) && s.data.toList.all prtC
theorem quotable_p (s : ByteArray) : Pure Tryz.prog 167 [.c (sS s)] (.c (sB (quoB s))) := by
  refine fn1 (fn := Tryz.f167) Tryz.call167 Tryz.func167 rfl Tryz.ntmps167 Tryz.results167 rfl (by first | rfl | simp [V.ok, okL, C.ok, okA, okV]) ?_
  refine AW.fact (t := 0) rfl (fun κ w x hr => repV_s hr) fun hn => ?_
  repeat' (first | (with_reducible first | apply AW.seq | apply AW.block | apply AW.scope | apply AW.skip | apply AW.ret | apply AW.exit | apply AW.label | apply q_then | apply q_thenR | apply q_thenE | apply q_bloN | apply q_bloR | apply q_bloE | apply q_strN | apply q_strR | apply q_strE | apply s_e | refine m_b rfl ?_ ?_ | refine m_g rfl ?_ | refine m_o rfl ?_ ?_ | refine v_reg ?_ | refine v_drw ?_ | refine v_rgl ?_ | refine v_drb ?_) | ((with_reducible apply i_dv); first | refine t_v AS.v ?_ | refine t_w AS.w ?_) | ((with_reducible apply i_dg); first | refine t_n ?_ | refine t_m (hs := fun hg => AS.v) (k := ?_) | refine t_f ?_) | ((with_reducible apply i_ds); first | refine t_s AS.s ?_) | ((with_reducible refine i_aw ?_); first | refine v_yes ?_ | refine v_no ?_ | (refine v_cond (fun hc => ?_) (fun hc => ?_); all_goals (try (exfalso; simp [*] at hc; done)); all_goals (try (exfalso; revert hc; simp; omega)))) | ((with_reducible refine i_rt ?_); first | refine k_b ?_ | refine k_s ?_ | refine k_i ?_ | refine k_v ?_ | refine k_c ?_ | exact r_0 | exact r_0n | ((first | refine k_2 ?_ ?_ | refine k_2c ?_ ?_); all_goals (with_reducible (first | apply un_b | apply un_i | apply un_s | apply un_a)))) | ((with_reducible apply al_id); dsimp only [List.append]) | (refine q_bloX rfl ?_) | (refine ⟨by decide +kernel, ?_⟩) | fail)
  · rw [quoB, decide_eq_false (by simp at hc; omega), Bool.false_and]
  rw [quoB, decide_eq_true (by simp at hc; omega), Bool.true_and]
  clear hc
  refine AW.loop (fun n σ => ∃ j, n = s.size - j ∧ j ≤ s.size ∧ (s.data.toList.take j).all prtC = true ∧ σ = mk [(0, .c (sS s)), (8, .c (sI s.size)), (9, .c (sI j))] []) s.size ?_ ?_
  · exact ⟨_, wk_mk (by (repeat (first | exact all_nil | ((refine all_cons ⟨_, rfl, .inl rfl, ?_⟩ ?_); (· (first | rfl | exact okRow rfl | (simp [V.ok, okL, C.ok, okA, HO.ok]; done) | (change okL _ _ = true; assumption)))))); done) (by (repeat (first | exact all_nil | ((refine all_cons ⟨_, rfl, .inl rfl, ?_⟩ ?_); (· (first | rfl | exact okRow rfl | (simp [V.ok, okL, C.ok, okA, HO.ok]; done) | (change okL _ _ = true; assumption)))))); done) (by exact fun h => h), 0, rfl, Nat.zero_le _, rfl, rfl⟩
  rintro n σ ⟨j, rfl, hj, ha, rfl⟩
  by_cases hlt : j < s.size
  · obtain ⟨x, hx⟩ : ∃ x, s.data.toList[j]? = some x := ⟨_, List.getElem?_eq_getElem (by have := sz_len s; omega)⟩
    repeat' (first | (with_reducible first | apply AW.seq | apply AW.block | apply AW.scope | apply AW.skip | apply AW.ret | apply AW.exit | apply AW.label | apply q_then | apply q_thenR | apply q_thenE | apply q_bloN | apply q_bloR | apply q_bloE | apply q_strN | apply q_strR | apply q_strE | apply s_e | refine m_b rfl ?_ ?_ | refine m_g rfl ?_ | refine m_o rfl ?_ ?_ | refine v_reg ?_ | refine v_drw ?_ | refine v_rgl ?_ | refine v_drb ?_) | ((with_reducible apply i_dv); first | refine t_v AS.v ?_ | refine t_v (by first | exact u_call (hP := printable_p x)) ?_ | refine t_w AS.w ?_) | ((with_reducible apply i_dg); first | refine t_n ?_ | refine t_m (hs := fun hg => AS.v) (k := ?_) | refine t_m (hs := fun hg => (by first | exact u_call (hP := printable_p x))) (k := ?_) | refine t_f ?_) | ((with_reducible apply i_ds); first | refine t_s AS.s ?_) | ((with_reducible refine i_aw ?_); first | refine v_yes ?_ | refine v_no ?_ | (refine v_cond (fun hc => ?_) (fun hc => ?_); all_goals (try (exfalso; simp [*] at hc; done)); all_goals (try (exfalso; revert hc; simp; omega)))) | ((with_reducible refine i_rt ?_); first | refine k_b ?_ | refine k_s ?_ | refine k_i ?_ | refine k_v ?_ | refine k_c ?_ | exact r_0 | exact r_0n | ((first | refine k_2 ?_ ?_ | refine k_2c ?_ ?_); all_goals (with_reducible (first | apply un_b | apply un_i | apply un_s | apply un_a)))) | ((with_reducible apply al_id); dsimp only [List.append]) | (refine q_bloX rfl ?_) | (refine ⟨by decide +kernel, ?_⟩) | fail)
    · rw [all_no hx (by simpa using hc)]
    · exact ⟨_, _, (show s.size - (j + 1) < s.size - j by omega), wk_mk (by (repeat (first | exact all_nil | ((refine all_cons ⟨_, rfl, .inl rfl, ?_⟩ ?_); (· (first | rfl | exact okRow rfl | (simp [V.ok, okL, C.ok, okA, HO.ok]; done) | (change okL _ _ = true; assumption)))))); done) (by (repeat (first | exact all_nil | ((refine all_cons ⟨_, rfl, .inl rfl, ?_⟩ ?_); (· (first | rfl | exact okRow rfl | (simp [V.ok, okL, C.ok, okA, HO.ok]; done) | (change okL _ _ = true; assumption)))))); done) (by exact fun h => h), j + 1, rfl, hlt, all_step hx ha (by simpa using hc), rfl⟩
  · have e := all_end ha (by have := sz_len s; omega)
    rw [e]
    repeat' (first | (with_reducible first | apply AW.seq | apply AW.block | apply AW.scope | apply AW.skip | apply AW.ret | apply AW.exit | apply AW.label | apply q_then | apply q_thenR | apply q_thenE | apply q_bloN | apply q_bloR | apply q_bloE | apply q_strN | apply q_strR | apply q_strE | apply s_e | refine m_b rfl ?_ ?_ | refine m_g rfl ?_ | refine m_o rfl ?_ ?_ | refine v_reg ?_ | refine v_drw ?_ | refine v_rgl ?_ | refine v_drb ?_) | ((with_reducible apply i_dv); first | refine t_v AS.v ?_ | refine t_w AS.w ?_) | ((with_reducible apply i_dg); first | refine t_n ?_ | refine t_m (hs := fun hg => AS.v) (k := ?_) | refine t_f ?_) | ((with_reducible apply i_ds); first | refine t_s AS.s ?_) | ((with_reducible refine i_aw ?_); first | refine v_yes ?_ | refine v_no ?_ | (refine v_cond (fun hc => ?_) (fun hc => ?_); all_goals (try (exfalso; simp [*] at hc; done)); all_goals (try (exfalso; revert hc; simp; omega)))) | ((with_reducible refine i_rt ?_); first | refine k_b ?_ | refine k_s ?_ | refine k_i ?_ | refine k_v ?_ | refine k_c ?_ | exact r_0 | exact r_0n | ((first | refine k_2 ?_ ?_ | refine k_2c ?_ ?_); all_goals (with_reducible (first | apply un_b | apply un_i | apply un_s | apply un_a)))) | ((with_reducible apply al_id); dsimp only [List.append]) | (refine q_bloX rfl ?_) | (refine ⟨by decide +kernel, ?_⟩) | fail)
    rfl
theorem quoted_p (s : ByteArray) : Pure Tryz.prog 132 [.agg (tkC ⟨3, s, Po.zero⟩)] (.c (sB (quoB s))) := by
  refine fn1 (fn := Tryz.f132) Tryz.call132 Tryz.func132 rfl Tryz.ntmps132 Tryz.results132 rfl (by first | rfl | simp [V.ok, okL, C.ok, okA, okV]) ?_
  repeat' (first | (with_reducible first | apply AW.seq | apply AW.block | apply AW.scope | apply AW.skip | apply AW.ret | apply AW.exit | apply AW.label | apply q_then | apply q_thenR | apply q_thenE | apply q_bloN | apply q_bloR | apply q_bloE | apply q_strN | apply q_strR | apply q_strE | apply s_e | refine m_b rfl ?_ ?_ | refine m_g rfl ?_ | refine m_o rfl ?_ ?_ | refine v_reg ?_ | refine v_drw ?_ | refine v_rgl ?_ | refine v_drb ?_) | ((with_reducible apply i_dv); first | refine t_v AS.v ?_ | refine t_v (by first | exact u_call (hP := quotable_p s)) ?_ | refine t_w AS.w ?_) | ((with_reducible apply i_dg); first | refine t_n ?_ | refine t_m (hs := fun hg => AS.v) (k := ?_) | refine t_m (hs := fun hg => (by first | exact u_call (hP := quotable_p s))) (k := ?_) | refine t_f ?_) | ((with_reducible apply i_ds); first | refine t_s AS.s ?_) | ((with_reducible refine i_aw ?_); first | refine v_yes ?_ | refine v_no ?_ | (refine v_cond (fun hc => ?_) (fun hc => ?_); all_goals (try (exfalso; simp [*] at hc; done)); all_goals (try (exfalso; revert hc; simp; omega)))) | ((with_reducible refine i_rt ?_); first | refine k_b ?_ | refine k_s ?_ | refine k_i ?_ | refine k_v ?_ | refine k_c ?_ | exact r_0 | exact r_0n | ((first | refine k_2 ?_ ?_ | refine k_2c ?_ ?_); all_goals (with_reducible (first | apply un_b | apply un_i | apply un_s | apply un_a)))) | ((with_reducible apply al_id); dsimp only [List.append]) | (refine q_bloX rfl ?_) | (refine ⟨by decide +kernel, ?_⟩) | fail)
  rfl
end Am
namespace Am
set_option maxRecDepth 100000
set_option maxHeartbeats 4000000
theorem all_stmt_p {l : List Stm} {p : Stm → Bool} {f : Nat} (h : ∀ s ∈ l, Pure Tryz.prog f [.agg (stC s)] (.c (sB (p s)))) : Pure Tryz.prog 47 [.c (.lst none 55 (l.map stC)), .c (.fn f [])] (.c (sB (l.all p))) := by
  refine fn2 (fn := Tryz.f47) Tryz.call47 Tryz.func47 rfl Tryz.ntmps47 Tryz.results47 rfl (by first | rfl | simp [V.ok, okL, C.ok, okA, okV]) ?_
  refine AW.fact (t := 0) rfl (fun κ w x hr => repV_l hr) fun hn => ?_
  repeat' (first | (with_reducible first | apply AW.seq | apply AW.block | apply AW.scope | apply AW.skip | apply AW.ret | apply AW.exit | apply AW.label | apply q_then | apply q_thenR | apply q_thenE | apply q_bloN | apply q_bloR | apply q_bloE | apply q_strN | apply q_strR | apply q_strE | apply s_e | refine m_b rfl ?_ ?_ | refine m_g rfl ?_ | refine m_o rfl ?_ ?_ | refine v_reg ?_ | refine v_drw ?_ | refine v_rgl ?_ | refine v_drb ?_) | ((with_reducible apply i_dv); first | refine t_v AS.v ?_ | refine t_w AS.w ?_) | ((with_reducible apply i_dg); first | refine t_n ?_ | refine t_m (hs := fun hg => AS.v) (k := ?_) | refine t_f ?_) | ((with_reducible apply i_ds); first | refine t_s AS.s ?_) | ((with_reducible refine i_aw ?_); first | refine v_yes ?_ | refine v_no ?_ | (refine v_cond (fun hc => ?_) (fun hc => ?_); all_goals (try (exfalso; simp [*] at hc; done)); all_goals (try (exfalso; revert hc; simp; omega)))) | ((with_reducible refine i_rt ?_); first | refine k_b ?_ | refine k_s ?_ | refine k_i ?_ | refine k_v ?_ | refine k_c ?_ | exact r_0 | exact r_0n | ((first | refine k_2 ?_ ?_ | refine k_2c ?_ ?_); all_goals (with_reducible (first | apply un_b | apply un_i | apply un_s | apply un_a)))) | ((with_reducible apply al_id); dsimp only [List.append]) | (refine q_bloX rfl ?_) | (refine ⟨by decide +kernel, ?_⟩) | fail)
  refine AW.loop (fun n σ => ∃ j, n = l.length - j ∧ j ≤ l.length ∧ (l.take j).all p = true ∧ σ = mk [(1, .c (.fn f [])), (7, .c (.lst none 55 (l.map stC))), (8, .c (sI (l.map stC).length)), (9, .c (sI j))] []) l.length ?_ ?_
  · exact ⟨_, wk_mk (by (repeat (first | exact all_nil | ((refine all_cons ⟨_, rfl, .inl rfl, ?_⟩ ?_); (· (first | rfl | exact okRow rfl | (simp [V.ok, okL, C.ok, okA, HO.ok]; done) | (change okL _ _ = true; assumption)))))); done) (by (repeat (first | exact all_nil | ((refine all_cons ⟨_, rfl, .inl rfl, ?_⟩ ?_); (· (first | rfl | exact okRow rfl | (simp [V.ok, okL, C.ok, okA, HO.ok]; done) | (change okL _ _ = true; assumption)))))); done) (by exact fun h => h), 0, rfl, Nat.zero_le _, rfl, rfl⟩
  rintro n σ ⟨j, rfl, hj, ha, rfl⟩
  by_cases hlt : j < l.length
  · obtain ⟨x, hx⟩ : ∃ x, l[j]? = some x := ⟨_, List.getElem?_eq_getElem hlt⟩
    have hp := h x (List.mem_of_getElem? hx)
    repeat' (first | (with_reducible first | apply AW.seq | apply AW.block | apply AW.scope | apply AW.skip | apply AW.ret | apply AW.exit | apply AW.label | apply q_then | apply q_thenR | apply q_thenE | apply q_bloN | apply q_bloR | apply q_bloE | apply q_strN | apply q_strR | apply q_strE | apply s_e | refine m_b rfl ?_ ?_ | refine m_g rfl ?_ | refine m_o rfl ?_ ?_ | refine v_reg ?_ | refine v_drw ?_ | refine v_rgl ?_ | refine v_drb ?_) | ((with_reducible apply i_dv); first | refine t_v AS.v ?_ | refine t_v (by first | exact u_call (hP := hp)) ?_ | refine t_w AS.w ?_) | ((with_reducible apply i_dg); first | refine t_n ?_ | refine t_m (hs := fun hg => AS.v) (k := ?_) | refine t_m (hs := fun hg => (by first | exact u_call (hP := hp))) (k := ?_) | refine t_f ?_) | ((with_reducible apply i_ds); first | refine t_s AS.s ?_) | ((with_reducible refine i_aw ?_); first | refine v_yes ?_ | refine v_no ?_ | (refine v_cond (fun hc => ?_) (fun hc => ?_); all_goals (try (exfalso; simp [*] at hc; done)); all_goals (try (exfalso; revert hc; simp; omega)))) | ((with_reducible refine i_rt ?_); first | refine k_b ?_ | refine k_s ?_ | refine k_i ?_ | refine k_v ?_ | refine k_c ?_ | exact r_0 | exact r_0n | ((first | refine k_2 ?_ ?_ | refine k_2c ?_ ?_); all_goals (with_reducible (first | apply un_b | apply un_i | apply un_s | apply un_a)))) | ((with_reducible apply al_id); dsimp only [List.append]) | (refine q_bloX rfl ?_) | (refine ⟨by decide +kernel, ?_⟩) | fail)
    · rw [all_no hx (by simpa using hc)]
    · exact ⟨_, _, (show l.length - (j + 1) < l.length - j by omega), wk_mk (by (repeat (first | exact all_nil | ((refine all_cons ⟨_, rfl, .inl rfl, ?_⟩ ?_); (· (first | rfl | exact okRow rfl | (simp [V.ok, okL, C.ok, okA, HO.ok]; done) | (change okL _ _ = true; assumption)))))); done) (by (repeat (first | exact all_nil | ((refine all_cons ⟨_, rfl, .inl rfl, ?_⟩ ?_); (· (first | rfl | exact okRow rfl | (simp [V.ok, okL, C.ok, okA, HO.ok]; done) | (change okL _ _ = true; assumption)))))); done) (by exact fun h => h), j + 1, rfl, hlt, all_step hx ha (by simpa using hc), rfl⟩
  · repeat' (first | (with_reducible first | apply AW.seq | apply AW.block | apply AW.scope | apply AW.skip | apply AW.ret | apply AW.exit | apply AW.label | apply q_then | apply q_thenR | apply q_thenE | apply q_bloN | apply q_bloR | apply q_bloE | apply q_strN | apply q_strR | apply q_strE | apply s_e | refine m_b rfl ?_ ?_ | refine m_g rfl ?_ | refine m_o rfl ?_ ?_ | refine v_reg ?_ | refine v_drw ?_ | refine v_rgl ?_ | refine v_drb ?_) | ((with_reducible apply i_dv); first | refine t_v AS.v ?_ | refine t_w AS.w ?_) | ((with_reducible apply i_dg); first | refine t_n ?_ | refine t_m (hs := fun hg => AS.v) (k := ?_) | refine t_f ?_) | ((with_reducible apply i_ds); first | refine t_s AS.s ?_) | ((with_reducible refine i_aw ?_); first | refine v_yes ?_ | refine v_no ?_ | (refine v_cond (fun hc => ?_) (fun hc => ?_); all_goals (try (exfalso; simp [*] at hc; done)); all_goals (try (exfalso; revert hc; simp; omega)))) | ((with_reducible refine i_rt ?_); first | refine k_b ?_ | refine k_s ?_ | refine k_i ?_ | refine k_v ?_ | refine k_c ?_ | exact r_0 | exact r_0n | ((first | refine k_2 ?_ ?_ | refine k_2c ?_ ?_); all_goals (with_reducible (first | apply un_b | apply un_i | apply un_s | apply un_a)))) | ((with_reducible apply al_id); dsimp only [List.append]) | (refine q_bloX rfl ?_) | (refine ⟨by decide +kernel, ?_⟩) | fail)
    rw [all_end ha (by omega)]
def spcR (tb eb : Bool) (s : Stm) : Bool × Stm :=
  if s.kind = 15 then (namedB s.cls false && namedB s.perms false && consB s.cond false, { s with cls := NS.zero, perms := NS.zero, cond := Ex.zero })
  else if s.kind = 16 then (namedB s.cls false && consB s.cond true, { s with cls := NS.zero, cond := Ex.zero })
  else if s.kind = 17 then (decide (bchkB 1 s.cond = 0) && decide (0 < s.thn.length) && tb && eb, { s with cond := Ex.zero, thn := [], els := [] })
  else if s.kind = 18 then (decide (0 < s.thn.length) && tb && eb, { s with thn := [], els := [] })
  else if s.kind = 19 then (if s.op = 1 then (idB s.name && someB s.list, { s with op := 0, list := [], name := ⟨#[]⟩ }) else (someB s.list && opB s.op 8, { s with op := 0, list := [] }))
  else if s.kind = 20 then (idB s.name && cxB s.ctx, { s with name := ⟨#[]⟩, ctx := Ct.zero })
  else if s.kind = 21 then (decide (s.text ≠ ⟨#[]⟩) && quoB s.text && decide (0 ≤ s.op) && decide (s.op ≤ 4) && cxB s.ctx, { s with text := ⟨#[]⟩, op := 0, ctx := Ct.zero })
  else if s.kind = 22 then (namedB s.source false, { s with source := NS.zero })
  else (false, s)
theorem special_p {s : Stm} {p : Stm → Bool} (h1 : ∀ x ∈ s.thn, Pure Tryz.prog 41 [.agg (stC x)] (.c (sB (p x)))) (h2 : ∀ x ∈ s.els, Pure Tryz.prog 41 [.agg (stC x)] (.c (sB (p x)))) : Pure Tryz.prog 80 [.agg (stC s)] (.tup [.c (sB (spcR (s.thn.all p) (s.els.all p) s).1), .agg (stC (spcR (s.thn.all p) (s.els.all p) s).2)]) := by
  refine fn1 (fn := Tryz.f80) Tryz.call80 Tryz.func80 rfl Tryz.ntmps80 Tryz.results80 rfl (by first | rfl | simp [V.ok, okL, C.ok, okA, okV]) ?_
  repeat' (first | (with_reducible first | apply AW.seq | apply AW.block | apply AW.scope | apply AW.skip | apply AW.ret | apply AW.exit | apply AW.label | apply q_then | apply q_thenR | apply q_thenE | apply q_bloN | apply q_bloR | apply q_bloE | apply q_strN | apply q_strR | apply q_strE | apply s_e | refine m_b rfl ?_ ?_ | refine m_g rfl ?_ | refine m_o rfl ?_ ?_ | refine v_reg ?_ | refine v_drw ?_ | refine v_rgl ?_ | refine v_drb ?_) | ((with_reducible apply i_dv); first | refine t_v AS.v ?_ | refine t_v (by first | exact u_call (hP := ident_p _) | exact u_call (hP := named_p _ _) | exact u_call (hP := some_p _) | exact u_call (hP := op_p _ _) | exact u_call (hP := contextual_p _) | exact u_call (hP := constrained_p _ _) | exact u_call (hP := check_p _) | exact u_call (hP := quoted_p _) | exact u_call (hP := all_stmt_p h1) | exact u_call (hP := all_stmt_p h2)) ?_ | refine t_w AS.w ?_) | ((with_reducible apply i_dg); first | refine t_n ?_ | refine t_m (hs := fun hg => AS.v) (k := ?_) | refine t_m (hs := fun hg => (by first | exact u_call (hP := ident_p _) | exact u_call (hP := named_p _ _) | exact u_call (hP := some_p _) | exact u_call (hP := op_p _ _) | exact u_call (hP := contextual_p _) | exact u_call (hP := constrained_p _ _) | exact u_call (hP := check_p _) | exact u_call (hP := quoted_p _) | exact u_call (hP := all_stmt_p h1) | exact u_call (hP := all_stmt_p h2))) (k := ?_) | refine t_f ?_) | ((with_reducible apply i_ds); first | refine t_s AS.s ?_) | ((with_reducible refine i_aw ?_); first | refine v_yes ?_ | refine v_no ?_ | (refine v_cond (fun hc => ?_) (fun hc => ?_); all_goals (try (exfalso; simp [*] at hc; done)); all_goals (try (exfalso; revert hc; simp; omega)))) | ((with_reducible refine i_rt ?_); first | refine k_b ?_ | refine k_s ?_ | refine k_i ?_ | refine k_v ?_ | refine k_c ?_ | exact r_0 | exact r_0n | ((first | refine k_2 ?_ ?_ | refine k_2c ?_ ?_); all_goals (with_reducible (first | apply un_b | apply un_i | apply un_s | apply un_a)))) | ((with_reducible apply al_id); dsimp only [List.append]) | (refine q_bloX rfl ?_) | (refine ⟨by decide +kernel, ?_⟩) | fail)
  all_goals
    simp only [decide_eq_true_eq, decide_eq_false_iff_not] at *
    simp [spcR, opB, unA, *]
end Am
namespace Am
set_option maxRecDepth 100000
set_option maxHeartbeats 4000000
def restB (r : Stm) : Bool := sameS { r with kind := 0, pos := Po.zero } Stm.zero
def fmH (tb eb : Bool) (s : Stm) : Bool :=
  if (declR s).1 then restB (declR s).2 else if (regR s).1 then restB (regR s).2 else if (spcR tb eb s).1 then restB (spcR tb eb s).2 else false
mutual
def fmB : Stm → Bool
  | ⟨a1, a2, a3, a4, a5, a6, a7, a8, a9, a10, a11, a12, a13, a14, a15, a16, a17, t, e⟩ => fmH (fmBs t) (fmBs e) ⟨a1, a2, a3, a4, a5, a6, a7, a8, a9, a10, a11, a12, a13, a14, a15, a16, a17, t, e⟩
def fmBs : List Stm → Bool
  | [] => true
  | x :: l => fmB x && fmBs l
end
theorem fmBs_all : ∀ l : List Stm, fmBs l = l.all fmB
  | [] => by rw [fmBs]; rfl
  | x :: l => by rw [fmBs, fmBs_all l]; rfl
theorem fmB_eq (s : Stm) : fmB s = fmH (s.thn.all fmB) (s.els.all fmB) s := by
  cases s; rw [fmB, fmBs_all, fmBs_all]
theorem formed_n : ∀ (n : Nat) (s : Stm), SizeOf.sizeOf s < n → Pure Tryz.prog 41 [.agg (stC s)] (.c (sB (fmB s)))
  | 0, _, h => absurd h (Nat.not_lt_zero _)
  | n + 1, s, h => by
    have i1 : ∀ x ∈ s.thn, Pure Tryz.prog 41 [.agg (stC x)] (.c (sB (fmB x))) := fun x hx => formed_n n x (by have := thn_lt hx; omega)
    have i2 : ∀ x ∈ s.els, Pure Tryz.prog 41 [.agg (stC x)] (.c (sB (fmB x))) := fun x hx => formed_n n x (by have := els_lt hx; omega)
    rw [fmB_eq]
    refine fn1 (fn := Tryz.f41) Tryz.call41 Tryz.func41 rfl Tryz.ntmps41 Tryz.results41 rfl (by first | rfl | simp [V.ok, okL, C.ok, okA, okV]) ?_
    repeat' (first | (with_reducible first | apply AW.seq | apply AW.block | apply AW.scope | apply AW.skip | apply AW.ret | apply AW.exit | apply AW.label | apply q_then | apply q_thenR | apply q_thenE | apply q_bloN | apply q_bloR | apply q_bloE | apply q_strN | apply q_strR | apply q_strE | apply s_e | refine m_b rfl ?_ ?_ | refine m_g rfl ?_ | refine m_o rfl ?_ ?_ | refine v_reg ?_ | refine v_drw ?_ | refine v_rgl ?_ | refine v_drb ?_) | ((with_reducible apply i_dv); first | refine t_v AS.v ?_ | refine t_v (by first | exact u_call (hP := declared_p _) | exact u_call (hP := regular_p _) | exact u_call (hP := special_p i1 i2) | exact u_call (hP := sameS_p _ _)) ?_ | refine t_w AS.w ?_) | ((with_reducible apply i_dg); first | refine t_n ?_ | refine t_m (hs := fun hg => AS.v) (k := ?_) | refine t_m (hs := fun hg => (by first | exact u_call (hP := declared_p _) | exact u_call (hP := regular_p _) | exact u_call (hP := special_p i1 i2) | exact u_call (hP := sameS_p _ _))) (k := ?_) | refine t_f ?_) | ((with_reducible apply i_ds); first | refine t_s AS.s ?_) | ((with_reducible refine i_aw ?_); first | refine v_yes ?_ | refine v_no ?_ | (refine v_cond (fun hc => ?_) (fun hc => ?_); all_goals (try (exfalso; simp [*] at hc; done)); all_goals (try (exfalso; revert hc; simp; omega)))) | ((with_reducible refine i_rt ?_); first | refine k_b ?_ | refine k_s ?_ | refine k_i ?_ | refine k_v ?_ | refine k_c ?_ | exact r_0 | exact r_0n | ((first | refine k_2 ?_ ?_ | refine k_2c ?_ ?_); all_goals (with_reducible (first | apply un_b | apply un_i | apply un_s | apply un_a)))) | ((with_reducible apply al_id); dsimp only [List.append]) | (refine q_bloX rfl ?_) | (refine ⟨by decide +kernel, ?_⟩) | fail)
    all_goals
      simp only [Bool.not_eq_true', Bool.not_eq_false'] at *
      simp [fmH, restB, *]
theorem formed_p (s : Stm) : Pure Tryz.prog 41 [.agg (stC s)] (.c (sB (fmB s))) := formed_n _ s (Nat.lt_succ_self _)
end Am
namespace Am
set_option maxRecDepth 100000
set_option maxHeartbeats 4000000
mutual
def cntS : Stm → Nat
  | ⟨_, _, _, _, _, _, _, _, _, _, _, _, _, _, _, _, _, t, e⟩ => cntL t + cntL e
def cntL : List Stm → Nat
  | [] => 0
  | x :: l => 1 + cntS x + cntL l
end
theorem cntS_eq (s : Stm) : cntS s = cntL s.thn + cntL s.els := by cases s; rw [cntS]
theorem cntL_eq : ∀ l : List Stm, cntL l = l.length + (l.map cntS).sum
  | [] => by rw [cntL]; rfl
  | x :: l => by rw [cntL, cntL_eq l]; simp only [List.length_cons, List.map_cons, List.sum_cons]; omega
theorem sum_step {α : Type} {f : α → Nat} {l : List α} {j : Nat} {x : α} (h : l[j]? = some x) : ((l.take (j + 1)).map f).sum = ((l.take j).map f).sum + f x := by
  rw [map_take h, List.sum_append]; simp
theorem lthn_lt (s : Stm) : SizeOf.sizeOf s.thn < SizeOf.sizeOf s := by
  cases s; simp only [Stm.mk.sizeOf_spec]; omega
theorem lels_lt (s : Stm) : SizeOf.sizeOf s.els < SizeOf.sizeOf s := by
  cases s; simp only [Stm.mk.sizeOf_spec]; omega
def cntW (l : List Stm) : Int := IntKind.i64.wrap (cntL l : Int)
theorem wrap_step (a b c : Int) : IntKind.i64.wrap (IntKind.i64.wrap a + IntKind.i64.wrap (IntKind.i64.wrap b + IntKind.i64.wrap c)) = IntKind.i64.wrap (a + (b + c)) := by
  simp only [IntKind.wrap_i64]; omega
theorem count_n : ∀ (n : Nat) (l : List Stm), SizeOf.sizeOf l < n → Pure Tryz.prog 74 [.c (.lst none 55 (l.map stC))] (.c (sI (cntW l)))
  | 0, _, h => absurd h (Nat.not_lt_zero _)
  | n + 1, l, h => by
    have ht : ∀ x ∈ l, Pure Tryz.prog 74 [.c (.lst none 55 (x.thn.map stC))] (.c (sI (cntW x.thn))) := fun x hx => count_n n x.thn (by have := List.sizeOf_lt_of_mem hx; have := lthn_lt x; omega)
    have he : ∀ x ∈ l, Pure Tryz.prog 74 [.c (.lst none 55 (x.els.map stC))] (.c (sI (cntW x.els))) := fun x hx => count_n n x.els (by have := List.sizeOf_lt_of_mem hx; have := lels_lt x; omega)
    have hq := cntL_eq l
    unfold cntW
    rw [hq]
    clear hq
    refine fn1 (fn := Tryz.f74) Tryz.call74 Tryz.func74 rfl Tryz.ntmps74 Tryz.results74 rfl (by first | rfl | simp [V.ok, okL, C.ok, okA, okV]) ?_
    refine AW.fact (t := 0) rfl (fun κ w x hr => repV_l hr) fun hn => ?_
    repeat' (first | (with_reducible first | apply AW.seq | apply AW.block | apply AW.scope | apply AW.skip | apply AW.ret | apply AW.exit | apply AW.label | apply q_then | apply q_thenR | apply q_thenE | apply q_bloN | apply q_bloR | apply q_bloE | apply q_strN | apply q_strR | apply q_strE | apply s_e | refine m_b rfl ?_ ?_ | refine m_g rfl ?_ | refine m_o rfl ?_ ?_ | refine v_reg ?_ | refine v_drw ?_ | refine v_rgl ?_ | refine v_drb ?_) | ((with_reducible apply i_dv); first | refine t_v AS.v ?_ | refine t_w AS.w ?_) | ((with_reducible apply i_dg); first | refine t_n ?_ | refine t_m (hs := fun hg => AS.v) (k := ?_) | refine t_f ?_) | ((with_reducible apply i_ds); first | refine t_s AS.s ?_) | ((with_reducible refine i_aw ?_); first | refine v_yes ?_ | refine v_no ?_ | (refine v_cond (fun hc => ?_) (fun hc => ?_); all_goals (try (exfalso; simp [*] at hc; done)); all_goals (try (exfalso; revert hc; simp; omega)))) | ((with_reducible refine i_rt ?_); first | refine k_b ?_ | refine k_s ?_ | refine k_i ?_ | refine k_v ?_ | refine k_c ?_ | exact r_0 | exact r_0n | ((first | refine k_2 ?_ ?_ | refine k_2c ?_ ?_); all_goals (with_reducible (first | apply un_b | apply un_i | apply un_s | apply un_a)))) | ((with_reducible apply al_id); dsimp only [List.append]) | (refine q_bloX rfl ?_) | (refine ⟨by decide +kernel, ?_⟩) | fail)
    refine AW.loop (fun n σ => ∃ j, n = l.length - j ∧ j ≤ l.length ∧ σ = mk [(3, .c (sI (IntKind.i64.wrap ((l.length + ((l.take j).map cntS).sum : Nat) : Int)))), (8, .c (.lst none 55 (l.map stC))), (9, .c (sI (l.map stC).length)), (10, .c (sI j))] []) l.length ?_ ?_
    · have e : ((l.map stC).length : Int) = IntKind.i64.wrap ((l.length + ((l.take 0).map cntS).sum : Nat) : Int) := by
        simp only [List.length_map, List.take_zero, List.map_nil, List.sum_nil, Nat.add_zero]
        rw [wrap64 (by omega) (by omega)]
      rw [e]
      refine ⟨_, ?_, 0, rfl, Nat.zero_le _, rfl⟩
      rw [← e]
      exact wk_mk (by (repeat (first | exact all_nil | ((refine all_cons ⟨_, rfl, .inl rfl, ?_⟩ ?_); (· (first | rfl | exact okRow rfl | (simp [V.ok, okL, C.ok, okA, HO.ok]; done) | (change okL _ _ = true; assumption)))))); done) (by (repeat (first | exact all_nil | ((refine all_cons ⟨_, rfl, .inl rfl, ?_⟩ ?_); (· (first | rfl | exact okRow rfl | (simp [V.ok, okL, C.ok, okA, HO.ok]; done) | (change okL _ _ = true; assumption)))))); done) (by exact fun h => h)
    rintro m σ ⟨j, rfl, hj, rfl⟩
    by_cases hlt : j < l.length
    · obtain ⟨x, hx⟩ : ∃ x, l[j]? = some x := ⟨_, List.getElem?_eq_getElem hlt⟩
      have hm := List.mem_of_getElem? hx
      have hs := sum_step (f := cntS) hx
      have hx2 := cntS_eq x
      have ht := ht x hm
      have he := he x hm
      generalize hS : ((l.take j).map cntS).sum = S at *
      repeat' (first | (with_reducible first | apply AW.seq | apply AW.block | apply AW.scope | apply AW.skip | apply AW.ret | apply AW.exit | apply AW.label | apply q_then | apply q_thenR | apply q_thenE | apply q_bloN | apply q_bloR | apply q_bloE | apply q_strN | apply q_strR | apply q_strE | apply s_e | refine m_b rfl ?_ ?_ | refine m_g rfl ?_ | refine m_o rfl ?_ ?_ | refine v_reg ?_ | refine v_drw ?_ | refine v_rgl ?_ | refine v_drb ?_) | ((with_reducible apply i_dv); first | refine t_v AS.v ?_ | refine t_v (by first | exact u_call (hP := ht) | exact u_call (hP := he)) ?_ | refine t_w AS.w ?_) | ((with_reducible apply i_dg); first | refine t_n ?_ | refine t_m (hs := fun hg => AS.v) (k := ?_) | refine t_m (hs := fun hg => (by first | exact u_call (hP := ht) | exact u_call (hP := he))) (k := ?_) | refine t_f ?_) | ((with_reducible apply i_ds); first | refine t_s AS.s ?_) | ((with_reducible refine i_aw ?_); first | refine v_yes ?_ | refine v_no ?_ | (refine v_cond (fun hc => ?_) (fun hc => ?_); all_goals (try (exfalso; simp [*] at hc; done)); all_goals (try (exfalso; revert hc; simp; omega)))) | ((with_reducible refine i_rt ?_); first | refine k_b ?_ | refine k_s ?_ | refine k_i ?_ | refine k_v ?_ | refine k_c ?_ | exact r_0 | exact r_0n | ((first | refine k_2 ?_ ?_ | refine k_2c ?_ ?_); all_goals (with_reducible (first | apply un_b | apply un_i | apply un_s | apply un_a)))) | ((with_reducible apply al_id); dsimp only [List.append]) | (refine q_bloX rfl ?_) | (refine ⟨by decide +kernel, ?_⟩) | fail)
      have e : IntKind.i64.wrap (IntKind.i64.wrap ((l.length + S : Nat) : Int) + IntKind.i64.wrap (cntW x.thn + cntW x.els)) = IntKind.i64.wrap ((l.length + ((l.take (j + 1)).map cntS).sum : Nat) : Int) := by
        unfold cntW
        rw [wrap_step, hs]; congr 1; omega
      rw [e]
      exact ⟨_, _, (show l.length - (j + 1) < l.length - j by omega), wk_mk (by (repeat (first | exact all_nil | ((refine all_cons ⟨_, rfl, .inl rfl, ?_⟩ ?_); (· (first | rfl | exact okRow rfl | (simp [V.ok, okL, C.ok, okA, HO.ok]; done) | (change okL _ _ = true; assumption)))))); done) (by (repeat (first | exact all_nil | ((refine all_cons ⟨_, rfl, .inl rfl, ?_⟩ ?_); (· (first | rfl | exact okRow rfl | (simp [V.ok, okL, C.ok, okA, HO.ok]; done) | (change okL _ _ = true; assumption)))))); done) (by exact fun h => h), j + 1, rfl, hlt, rfl⟩
    · rw [List.take_of_length_le (by omega)]
      repeat' (first | (with_reducible first | apply AW.seq | apply AW.block | apply AW.scope | apply AW.skip | apply AW.ret | apply AW.exit | apply AW.label | apply q_then | apply q_thenR | apply q_thenE | apply q_bloN | apply q_bloR | apply q_bloE | apply q_strN | apply q_strR | apply q_strE | apply s_e | refine m_b rfl ?_ ?_ | refine m_g rfl ?_ | refine m_o rfl ?_ ?_ | refine v_reg ?_ | refine v_drw ?_ | refine v_rgl ?_ | refine v_drb ?_) | ((with_reducible apply i_dv); first | refine t_v AS.v ?_ | refine t_w AS.w ?_) | ((with_reducible apply i_dg); first | refine t_n ?_ | refine t_m (hs := fun hg => AS.v) (k := ?_) | refine t_f ?_) | ((with_reducible apply i_ds); first | refine t_s AS.s ?_) | ((with_reducible refine i_aw ?_); first | refine v_yes ?_ | refine v_no ?_ | (refine v_cond (fun hc => ?_) (fun hc => ?_); all_goals (try (exfalso; simp [*] at hc; done)); all_goals (try (exfalso; revert hc; simp; omega)))) | ((with_reducible refine i_rt ?_); first | refine k_b ?_ | refine k_s ?_ | refine k_i ?_ | refine k_v ?_ | refine k_c ?_ | exact r_0 | exact r_0n | ((first | refine k_2 ?_ ?_ | refine k_2c ?_ ?_); all_goals (with_reducible (first | apply un_b | apply un_i | apply un_s | apply un_a)))) | ((with_reducible apply al_id); dsimp only [List.append]) | (refine q_bloX rfl ?_) | (refine ⟨by decide +kernel, ?_⟩) | fail)
      rfl
theorem count_p (l : List Stm) : Pure Tryz.prog 74 [.c (.lst none 55 (l.map stC))] (.c (sI (cntW l))) := count_n _ l (Nat.lt_succ_self _)
theorem Count_p (m : Mo) : Pure Tryz.prog 32 [.agg (moC m)] (.c (sI (cntW m.stmts))) := by
  refine fn1 (fn := Tryz.f32) Tryz.call32 Tryz.func32 rfl Tryz.ntmps32 Tryz.results32 rfl (by first | rfl | simp [V.ok, okL, C.ok, okA, okV]) ?_
  repeat' (first | (with_reducible first | apply AW.seq | apply AW.block | apply AW.scope | apply AW.skip | apply AW.ret | apply AW.exit | apply AW.label | apply q_then | apply q_thenR | apply q_thenE | apply q_bloN | apply q_bloR | apply q_bloE | apply q_strN | apply q_strR | apply q_strE | apply s_e | refine m_b rfl ?_ ?_ | refine m_g rfl ?_ | refine m_o rfl ?_ ?_ | refine v_reg ?_ | refine v_drw ?_ | refine v_rgl ?_ | refine v_drb ?_) | ((with_reducible apply i_dv); first | refine t_v AS.v ?_ | refine t_v (by first | exact u_call (hP := count_p _)) ?_ | refine t_w AS.w ?_) | ((with_reducible apply i_dg); first | refine t_n ?_ | refine t_m (hs := fun hg => AS.v) (k := ?_) | refine t_m (hs := fun hg => (by first | exact u_call (hP := count_p _))) (k := ?_) | refine t_f ?_) | ((with_reducible apply i_ds); first | refine t_s AS.s ?_) | ((with_reducible refine i_aw ?_); first | refine v_yes ?_ | refine v_no ?_ | (refine v_cond (fun hc => ?_) (fun hc => ?_); all_goals (try (exfalso; simp [*] at hc; done)); all_goals (try (exfalso; revert hc; simp; omega)))) | ((with_reducible refine i_rt ?_); first | refine k_b ?_ | refine k_s ?_ | refine k_i ?_ | refine k_v ?_ | refine k_c ?_ | exact r_0 | exact r_0n | ((first | refine k_2 ?_ ?_ | refine k_2c ?_ ?_); all_goals (with_reducible (first | apply un_b | apply un_i | apply un_s | apply un_a)))) | ((with_reducible apply al_id); dsimp only [List.append]) | (refine q_bloX rfl ?_) | (refine ⟨by decide +kernel, ?_⟩) | fail)
  rfl
end Am
namespace Am
set_option maxRecDepth 100000
set_option maxHeartbeats 4000000
mutual
def dpS : Stm → Nat
  | ⟨_, _, _, _, _, _, _, _, _, _, _, _, _, _, _, _, _, t, e⟩ => if 0 < t.length ∨ 0 < e.length then max (1 + dpL t) (1 + dpL e) else 0
def dpL : List Stm → Nat
  | [] => 0
  | x :: l => max (dpS x) (dpL l)
end
theorem dpS_eq (s : Stm) : dpS s = if 0 < s.thn.length ∨ 0 < s.els.length then max (1 + dpL s.thn) (1 + dpL s.els) else 0 := by cases s; rw [dpS]
theorem dp_step : ∀ {l : List Stm} {j : Nat} {x : Stm}, l[j]? = some x → dpL (l.take (j + 1)) = max (dpL (l.take j)) (dpS x)
  | [], j, x, h => by simp at h
  | y :: l, 0, x, h => by
    obtain rfl : y = x := by simpa using h
    simp [dpL]
  | y :: l, j + 1, x, h => by
    simp only [List.take_succ_cons, dpL]
    rw [dp_step (l := l) (j := j) (x := x) (by simpa using h)]
    omega
theorem dp_le : ∀ (l : List Stm) (j : Nat), dpL (l.take j) ≤ dpL l
  | [], j => by simp
  | x :: l, 0 => by simp [dpL]
  | x :: l, j + 1 => by
    have := dp_le l j
    simp only [List.take_succ_cons, dpL]
    omega
theorem depth_n : ∀ (n : Nat) (l : List Stm), SizeOf.sizeOf l < n → dpL l ≤ 4611686018427387904 → Pure Tryz.prog 40 [.c (.lst none 55 (l.map stC))] (.c (sI (dpL l)))
  | 0, _, h, _ => absurd h (Nat.not_lt_zero _)
  | n + 1, l, h, hb => by
    have ht : ∀ x ∈ l, dpL x.thn ≤ 4611686018427387904 → Pure Tryz.prog 40 [.c (.lst none 55 (x.thn.map stC))] (.c (sI (dpL x.thn))) := fun x hx => depth_n n x.thn (by have := List.sizeOf_lt_of_mem hx; have := lthn_lt x; omega)
    have he : ∀ x ∈ l, dpL x.els ≤ 4611686018427387904 → Pure Tryz.prog 40 [.c (.lst none 55 (x.els.map stC))] (.c (sI (dpL x.els))) := fun x hx => depth_n n x.els (by have := List.sizeOf_lt_of_mem hx; have := lels_lt x; omega)
    refine fn1 (fn := Tryz.f40) Tryz.call40 Tryz.func40 rfl Tryz.ntmps40 Tryz.results40 rfl (by first | rfl | simp [V.ok, okL, C.ok, okA, okV]) ?_
    refine AW.fact (t := 0) rfl (fun κ w x hr => repV_l hr) fun hn => ?_
    repeat' (first | (with_reducible first | apply AW.seq | apply AW.block | apply AW.scope | apply AW.skip | apply AW.ret | apply AW.exit | apply AW.label | apply q_then | apply q_thenR | apply q_thenE | apply q_bloN | apply q_bloR | apply q_bloE | apply q_strN | apply q_strR | apply q_strE | apply s_e | refine m_b rfl ?_ ?_ | refine m_g rfl ?_ | refine m_o rfl ?_ ?_ | refine v_reg ?_ | refine v_drw ?_ | refine v_rgl ?_ | refine v_drb ?_) | ((with_reducible apply i_dv); first | refine t_v AS.v ?_ | refine t_w AS.w ?_) | ((with_reducible apply i_dg); first | refine t_n ?_ | refine t_m (hs := fun hg => AS.v) (k := ?_) | refine t_f ?_) | ((with_reducible apply i_ds); first | refine t_s AS.s ?_) | ((with_reducible refine i_aw ?_); first | refine v_yes ?_ | refine v_no ?_ | (refine v_cond (fun hc => ?_) (fun hc => ?_); all_goals (try (exfalso; simp [*] at hc; done)); all_goals (try (exfalso; revert hc; simp; omega)))) | ((with_reducible refine i_rt ?_); first | refine k_b ?_ | refine k_s ?_ | refine k_i ?_ | refine k_v ?_ | refine k_c ?_ | exact r_0 | exact r_0n | ((first | refine k_2 ?_ ?_ | refine k_2c ?_ ?_); all_goals (with_reducible (first | apply un_b | apply un_i | apply un_s | apply un_a)))) | ((with_reducible apply al_id); dsimp only [List.append]) | (refine q_bloX rfl ?_) | (refine ⟨by decide +kernel, ?_⟩) | fail)
    refine AW.loop (fun n σ => ∃ j, n = l.length - j ∧ j ≤ l.length ∧ σ = mk [(3, .c (sI (dpL (l.take j) : Nat))), (6, .c (.lst none 55 (l.map stC))), (7, .c (sI (l.map stC).length)), (8, .c (sI j))] []) l.length ?_ ?_
    · exact ⟨_, wk_mk (by (repeat (first | exact all_nil | ((refine all_cons ⟨_, rfl, .inl rfl, ?_⟩ ?_); (· (first | rfl | exact okRow rfl | (simp [V.ok, okL, C.ok, okA, HO.ok]; done) | (change okL _ _ = true; assumption)))))); done) (by (repeat (first | exact all_nil | ((refine all_cons ⟨_, rfl, .inl rfl, ?_⟩ ?_); (· (first | rfl | exact okRow rfl | (simp [V.ok, okL, C.ok, okA, HO.ok]; done) | (change okL _ _ = true; assumption)))))); done) (by exact fun h => h), 0, rfl, Nat.zero_le _, rfl⟩
    rintro m σ ⟨j, rfl, hj, rfl⟩
    by_cases hlt : j < l.length
    · obtain ⟨x, hx⟩ : ∃ x, l[j]? = some x := ⟨_, List.getElem?_eq_getElem hlt⟩
      have hm := List.mem_of_getElem? hx
      have hs := dp_step hx
      have hle := dp_le l (j + 1)
      have hx2 := dpS_eq x
      by_cases hk : 0 < x.thn.length ∨ 0 < x.els.length
      · rw [if_pos hk] at hx2
        have b1 : dpL x.thn ≤ 4611686018427387904 := by omega
        have b2 : dpL x.els ≤ 4611686018427387904 := by omega
        have ht := ht x hm b1
        have he := he x hm b2
        have e : max (max ((dpL (l.take j) : Nat) : Int) (1 + (dpL x.thn : Int))) (1 + (dpL x.els : Int)) = (dpL (l.take (j + 1)) : Nat) := by omega
        clear hs hx2 hle
        repeat' (first | (with_reducible first | apply AW.seq | apply AW.block | apply AW.scope | apply AW.skip | apply AW.ret | apply AW.exit | apply AW.label | apply q_then | apply q_thenR | apply q_thenE | apply q_bloN | apply q_bloR | apply q_bloE | apply q_strN | apply q_strR | apply q_strE | apply s_e | refine m_b rfl ?_ ?_ | refine m_g rfl ?_ | refine m_o rfl ?_ ?_ | refine v_reg ?_ | refine v_drw ?_ | refine v_rgl ?_ | refine v_drb ?_) | ((with_reducible apply i_dv); first | refine t_v AS.v ?_ | refine t_v (by first | exact u_call (hP := ht) | exact u_call (hP := he)) ?_ | refine t_w AS.w ?_) | ((with_reducible apply i_dg); first | refine t_n ?_ | refine t_m (hs := fun hg => AS.v) (k := ?_) | refine t_m (hs := fun hg => (by first | exact u_call (hP := ht) | exact u_call (hP := he))) (k := ?_) | refine t_f ?_) | ((with_reducible apply i_ds); first | refine t_s AS.s ?_) | ((with_reducible refine i_aw ?_); first | refine v_yes ?_ | refine v_no ?_ | (refine v_cond (fun hc => ?_) (fun hc => ?_); all_goals (try (exfalso; simp [*] at hc; done)); all_goals (try (exfalso; revert hc; simp; omega)))) | ((with_reducible refine i_rt ?_); first | refine k_b ?_ | refine k_s ?_ | refine k_i ?_ | refine k_v ?_ | refine k_c ?_ | exact r_0 | exact r_0n | ((first | refine k_2 ?_ ?_ | refine k_2c ?_ ?_); all_goals (with_reducible (first | apply un_b | apply un_i | apply un_s | apply un_a)))) | ((with_reducible apply al_id); dsimp only [List.append]) | (refine q_bloX rfl ?_) | (refine ⟨by decide +kernel, ?_⟩) | fail)
        · exact ⟨_, _, (show l.length - (j + 1) < l.length - j by omega), wk_mk (by (repeat (first | exact all_nil | ((refine all_cons ⟨_, rfl, .inl rfl, ?_⟩ ?_); (· (first | rfl | exact okRow rfl | (simp [V.ok, okL, C.ok, okA, HO.ok]; done) | (change okL _ _ = true; assumption)))))); done) (by (repeat (first | exact all_nil | ((refine all_cons ⟨_, rfl, .inl rfl, ?_⟩ ?_); (· (first | rfl | exact okRow rfl | (simp [V.ok, okL, C.ok, okA, HO.ok]; done) | (change okL _ _ = true; assumption)))))); done) (by exact fun h => h), j + 1, rfl, hlt, rfl⟩
        · exfalso; simp only [List.length_map, Bool.or_eq_false_iff, decide_eq_false_iff_not] at hc; omega
      · rw [if_neg hk] at hx2
        have e : dpL (l.take (j + 1)) = dpL (l.take j) := by omega
        clear hs hx2 hle
        have h1 : x.thn.length = 0 := by omega
        have h2 : x.els.length = 0 := by omega
        repeat' (first | (with_reducible first | apply AW.seq | apply AW.block | apply AW.scope | apply AW.skip | apply AW.ret | apply AW.exit | apply AW.label | apply q_then | apply q_thenR | apply q_thenE | apply q_bloN | apply q_bloR | apply q_bloE | apply q_strN | apply q_strR | apply q_strE | apply s_e | refine m_b rfl ?_ ?_ | refine m_g rfl ?_ | refine m_o rfl ?_ ?_ | refine v_reg ?_ | refine v_drw ?_ | refine v_rgl ?_ | refine v_drb ?_) | ((with_reducible apply i_dv); first | refine t_v AS.v ?_ | refine t_w AS.w ?_) | ((with_reducible apply i_dg); first | refine t_n ?_ | refine t_m (hs := fun hg => AS.v) (k := ?_) | refine t_f ?_) | ((with_reducible apply i_ds); first | refine t_s AS.s ?_) | ((with_reducible refine i_aw ?_); first | refine v_yes ?_ | refine v_no ?_ | (refine v_cond (fun hc => ?_) (fun hc => ?_); all_goals (try (exfalso; simp [*] at hc; done)); all_goals (try (exfalso; revert hc; simp; omega)))) | ((with_reducible refine i_rt ?_); first | refine k_b ?_ | refine k_s ?_ | refine k_i ?_ | refine k_v ?_ | refine k_c ?_ | exact r_0 | exact r_0n | ((first | refine k_2 ?_ ?_ | refine k_2c ?_ ?_); all_goals (with_reducible (first | apply un_b | apply un_i | apply un_s | apply un_a)))) | ((with_reducible apply al_id); dsimp only [List.append]) | (refine q_bloX rfl ?_) | (refine ⟨by decide +kernel, ?_⟩) | fail)
        · rw [← e]
          exact ⟨_, _, (show l.length - (j + 1) < l.length - j by omega), wk_mk (by (repeat (first | exact all_nil | ((refine all_cons ⟨_, rfl, .inl rfl, ?_⟩ ?_); (· (first | rfl | exact okRow rfl | (simp [V.ok, okL, C.ok, okA, HO.ok]; done) | (change okL _ _ = true; assumption)))))); done) (by (repeat (first | exact all_nil | ((refine all_cons ⟨_, rfl, .inl rfl, ?_⟩ ?_); (· (first | rfl | exact okRow rfl | (simp [V.ok, okL, C.ok, okA, HO.ok]; done) | (change okL _ _ = true; assumption)))))); done) (by exact fun h => h), j + 1, rfl, hlt, rfl⟩
    · rw [List.take_of_length_le (by omega)]
      repeat' (first | (with_reducible first | apply AW.seq | apply AW.block | apply AW.scope | apply AW.skip | apply AW.ret | apply AW.exit | apply AW.label | apply q_then | apply q_thenR | apply q_thenE | apply q_bloN | apply q_bloR | apply q_bloE | apply q_strN | apply q_strR | apply q_strE | apply s_e | refine m_b rfl ?_ ?_ | refine m_g rfl ?_ | refine m_o rfl ?_ ?_ | refine v_reg ?_ | refine v_drw ?_ | refine v_rgl ?_ | refine v_drb ?_) | ((with_reducible apply i_dv); first | refine t_v AS.v ?_ | refine t_w AS.w ?_) | ((with_reducible apply i_dg); first | refine t_n ?_ | refine t_m (hs := fun hg => AS.v) (k := ?_) | refine t_f ?_) | ((with_reducible apply i_ds); first | refine t_s AS.s ?_) | ((with_reducible refine i_aw ?_); first | refine v_yes ?_ | refine v_no ?_ | (refine v_cond (fun hc => ?_) (fun hc => ?_); all_goals (try (exfalso; simp [*] at hc; done)); all_goals (try (exfalso; revert hc; simp; omega)))) | ((with_reducible refine i_rt ?_); first | refine k_b ?_ | refine k_s ?_ | refine k_i ?_ | refine k_v ?_ | refine k_c ?_ | exact r_0 | exact r_0n | ((first | refine k_2 ?_ ?_ | refine k_2c ?_ ?_); all_goals (with_reducible (first | apply un_b | apply un_i | apply un_s | apply un_a)))) | ((with_reducible apply al_id); dsimp only [List.append]) | (refine q_bloX rfl ?_) | (refine ⟨by decide +kernel, ?_⟩) | fail)
      rfl
theorem depth_p {l : List Stm} (hb : dpL l ≤ 4611686018427387904) : Pure Tryz.prog 40 [.c (.lst none 55 (l.map stC))] (.c (sI (dpL l))) := depth_n _ l (Nat.lt_succ_self _) hb
def checkB (m : Mo) : Int :=
  if idB m.name = false then 10
  else if m.version < 0 ∨ 9999 < m.version then 3
  else if 1024 < cntW m.stmts ∨ 12 < dpL m.stmts then 4
  else if m.stmts.all fmB = false then 2 else 0
theorem Check_p {m : Mo} (h2 : dpL m.stmts ≤ 4611686018427387904) : Pure Tryz.prog 16 [.agg (moC m)] (.c (sI (checkB m))) := by
  refine fn1 (fn := Tryz.f16) Tryz.call16 Tryz.func16 rfl Tryz.ntmps16 Tryz.results16 rfl (by first | rfl | simp [V.ok, okL, C.ok, okA, okV]) ?_
  repeat' (first | (with_reducible first | apply AW.seq | apply AW.block | apply AW.scope | apply AW.skip | apply AW.ret | apply AW.exit | apply AW.label | apply q_then | apply q_thenR | apply q_thenE | apply q_bloN | apply q_bloR | apply q_bloE | apply q_strN | apply q_strR | apply q_strE | apply s_e | refine m_b rfl ?_ ?_ | refine m_g rfl ?_ | refine m_o rfl ?_ ?_ | refine v_reg ?_ | refine v_drw ?_ | refine v_rgl ?_ | refine v_drb ?_) | ((with_reducible apply i_dv); first | refine t_v AS.v ?_ | refine t_v (by first | exact u_call (hP := ident_p _) | exact u_call (hP := Count_p _) | exact u_call (hP := depth_p h2) | exact u_call (hP := all_stmt_p fun x _ => formed_p x)) ?_ | refine t_w AS.w ?_) | ((with_reducible apply i_dg); first | refine t_n ?_ | refine t_m (hs := fun hg => AS.v) (k := ?_) | refine t_m (hs := fun hg => (by first | exact u_call (hP := ident_p _) | exact u_call (hP := Count_p _) | exact u_call (hP := depth_p h2) | exact u_call (hP := all_stmt_p fun x _ => formed_p x))) (k := ?_) | refine t_f ?_) | ((with_reducible apply i_ds); first | refine t_s AS.s ?_) | ((with_reducible refine i_aw ?_); first | refine v_yes ?_ | refine v_no ?_ | (refine v_cond (fun hc => ?_) (fun hc => ?_); all_goals (try (exfalso; simp [*] at hc; done)); all_goals (try (exfalso; revert hc; simp; omega)))) | ((with_reducible refine i_rt ?_); first | refine k_b ?_ | refine k_s ?_ | refine k_i ?_ | refine k_v ?_ | refine k_c ?_ | exact r_0 | exact r_0n | ((first | refine k_2 ?_ ?_ | refine k_2c ?_ ?_); all_goals (with_reducible (first | apply un_b | apply un_i | apply un_s | apply un_a)))) | ((with_reducible apply al_id); dsimp only [List.append]) | (refine q_bloX rfl ?_) | (refine ⟨by decide +kernel, ?_⟩) | fail)
  all_goals
    unfold checkB
    grind
end Am
namespace Am
set_option maxRecDepth 100000
set_option maxHeartbeats 1000000
theorem itoa_p (n : Int) (h0 : -9223372036854775808 ≤ n) (h1 : n ≤ 9223372036854775807) : Pure Tryz.prog 34 [.c (sI n)] (.c (sS ⟨(Lib.itoa n).toArray⟩)) := by
  refine ⟨Tryz.call34, fun w S vs hT hS hv => ?_⟩
  rw [args1 hv]
  refine (Tryz.strconv_Itoa n h0 h1 w hT).mono ?_
  rintro e w' ⟨rfl, k, os, rfl⟩
  refine ⟨_, rfl, Keep.of_below (Lib.below_grow w.heap.size w (Nat.le_refl _) k os), .c (.sc (decide_eq_true ?_))⟩
  have := Lib.itoa_length_le n h0 h1
  show (Lib.itoa n).toArray.size ≤ _
  rw [List.size_toArray]
  omega
theorem args2 {S : Nat → Nat → Prop} {w : World} {v u : Value} {vs : Array Value} (h : RepVs (bareK S) w [.c (.sc v), .c (.sc u)] vs.toList) : vs = #[v, u] := by
  apply Array.ext'
  match hl : vs.toList, h with
  | [x, y], h =>
    have h0 := h.2 0 _ x rfl rfl
    have h1 := h.2 1 _ y rfl rfl
    cases h0 with | c h0 => cases h0; cases h1 with | c h1 => cases h1; rfl
  | [], h => exact absurd h.1 (by simp)
  | [_], h => exact absurd h.1 (by simp)
  | _ :: _ :: _ :: _, h => exact absurd h.1 (by simp)
def repT (s : ByteArray) (c : Nat) : ByteArray := ⟨(Lib.repeatL s.data.toList c).toArray⟩
theorem repT_size (s : ByteArray) (c : Nat) : (repT s c).size = c * s.size := by
  show (Lib.repeatL s.data.toList c).toArray.size = _
  rw [List.size_toArray, Lib.repeatL_length, sz_len]
theorem repeat_p {s : ByteArray} {c : Nat} (h0 : c ≤ 9223372036854775807) (h : s.size * c ≤ 140737488355328) : Pure Tryz.prog 133 [.c (sS s), .c (sI c)] (.c (sS (repT s c))) := by
  refine ⟨Tryz.call133, fun w S vs hT hS hv => ?_⟩
  rw [args2 hv]
  refine (Tryz.strings_Repeat s c w h0 h).mono ?_
  rintro e w' ⟨rfl, hb⟩
  exact ⟨_, rfl, Keep.of_below hb, .c (.sc (decide_eq_true (by have := repT_size s c; rw [Nat.mul_comm] at this; omega)))⟩
def indT (n : Nat) : ByteArray := repT ⟨#[32, 32]⟩ n
theorem indT_size (n : Nat) : (indT n).size = n * 2 := repT_size _ n
theorem indent_m {s : ByteArray} {n : Nat} (h : s.size + (indT n).size ≤ 140737488355328) : MC Tryz.prog 81 (bldS s) [.c (sI n)] (.tup []) (bldS (s ++ indT n)) := by
  have h2 := indT_size n
  have h3 : ByteArray.size ⟨#[32, 32]⟩ = 2 := rfl
  have hr : Pure Tryz.prog 133 [.c (sS ⟨#[32, 32]⟩), .c (sI n)] (.c (sS (indT n))) := repeat_p (by omega) (by rw [h3]; omega)
  clear h3 h2
  refine fm2 (fn := Tryz.f81) Tryz.call81 Tryz.func81 rfl Tryz.ntmps81 Tryz.results81 rfl (by first | rfl | simp [V.ok, okL, C.ok, okA, okV]) rfl rfl ?_
  repeat' (first | (with_reducible first | apply AW.seq | apply AW.block | apply AW.scope | apply AW.skip | apply AW.ret | apply AW.exit | apply AW.label | apply q_then | apply q_thenR | apply q_thenE | apply q_bloN | apply q_bloR | apply q_bloE | apply q_strN | apply q_strR | apply q_strE | apply s_e | refine m_b rfl ?_ ?_ | refine m_g rfl ?_ | refine m_o rfl ?_ ?_ | refine v_reg ?_ | refine v_drw ?_ | refine v_rgl ?_ | refine v_drb ?_) | ((with_reducible apply i_dv); first | refine t_v AS.v ?_ | refine t_v (by first | exact u_call (hP := hr) | exact u_call (hP := wStr_m h)) ?_ | refine t_w AS.w ?_ | refine t_w (by first | exact u_mut (hP := hr) | exact u_mut (hP := wStr_m h)) ?_) | ((with_reducible apply i_dg); first | refine t_n ?_ | refine t_m (hs := fun hg => AS.v) (k := ?_) | refine t_m (hs := fun hg => (by first | exact u_call (hP := hr) | exact u_call (hP := wStr_m h))) (k := ?_) | refine t_f ?_) | ((with_reducible apply i_ds); first | refine t_s AS.s ?_ | refine t_s (by first | exact u_mut (hP := hr) | exact u_mut (hP := wStr_m h)) ?_) | ((with_reducible refine i_aw ?_); first | refine v_yes ?_ | refine v_no ?_ | (refine v_cond (fun hc => ?_) (fun hc => ?_); all_goals (try (exfalso; simp [*] at hc; done)); all_goals (try (exfalso; revert hc; simp; omega)))) | ((with_reducible refine i_rt ?_); first | refine k_b ?_ | refine k_s ?_ | refine k_i ?_ | refine k_v ?_ | refine k_c ?_ | exact r_0 | exact r_0n | ((first | refine k_2 ?_ ?_ | refine k_2c ?_ ?_); all_goals (with_reducible (first | apply un_b | apply un_i | apply un_s | apply un_a)))) | ((with_reducible apply al_id); dsimp only [List.append]) | (refine q_bloX rfl ?_) | (refine ⟨by decide +kernel, ?_⟩) | fail)
  rfl
end Am
namespace Am
set_option maxRecDepth 100000
set_option maxHeartbeats 1000000
theorem cast1 (n : Nat) : (n : Int) + 1 = ((n + 1 : Nat) : Int) := rfl
def attT (n : Nat) : ByteArray := (⟨#[117, 114, 116, 108, 104]⟩ : ByteArray).extract (n % 5) (n % 5 + 1) ++ ⟨(Lib.decDigits (n / 5 + 1)).toArray⟩
theorem attribute_p {n : Nat} (hn : n < 15) : Pure Tryz.prog 114 [.c (sI n)] (.c (sS (attT n))) := by
  have hr : Int.tmod (n : Int) 5 = ((n % 5 : Nat) : Int) := by
    have : ∀ i : Fin 15, Int.tmod (i.val : Int) 5 = ((i.val % 5 : Nat) : Int) := by decide +kernel
    exact this ⟨n, hn⟩
  have hd : Int.tdiv (n : Int) 5 = ((n / 5 : Nat) : Int) := by
    have : ∀ i : Fin 15, Int.tdiv (i.val : Int) 5 = ((i.val / 5 : Nat) : Int) := by decide +kernel
    exact this ⟨n, hn⟩
  have hi : Pure Tryz.prog 34 [.c (sI (((n / 5 : Nat) : Int) + 1))] (.c (sS ⟨(Lib.decDigits (n / 5 + 1)).toArray⟩)) := itoaS_p (n / 5 + 1) (by omega)
  have hs : (Lib.decDigits (n / 5 + 1)).length ≤ 21 := by
    have : ∀ i : Fin 100, (Lib.decDigits i.val).length ≤ 21 := by decide +kernel
    exact this ⟨n / 5 + 1, by omega⟩
  have he : ((⟨#[117, 114, 116, 108, 104]⟩ : ByteArray).extract (n % 5) (n % 5 + 1)).size ≤ 5 := by
    have h5 : ByteArray.size ⟨#[117, 114, 116, 108, 104]⟩ = 5 := rfl
    rw [ByteArray.size_extract, h5]; omega
  refine fn1 (fn := Tryz.f114) Tryz.call114 Tryz.func114 rfl Tryz.ntmps114 Tryz.results114 rfl (by first | rfl | simp [V.ok, okL, C.ok, okA, okV]) ?_
  repeat' (first | (with_reducible first | apply AW.seq | apply AW.block | apply AW.scope | apply AW.skip | apply AW.ret | apply AW.exit | apply AW.label | apply q_then | apply q_thenR | apply q_thenE | apply q_bloN | apply q_bloR | apply q_bloE | apply q_strN | apply q_strR | apply q_strE | apply s_e | refine m_b rfl ?_ ?_ | refine m_g rfl ?_ | refine m_o rfl ?_ ?_ | refine v_reg ?_ | refine v_drw ?_ | refine v_rgl ?_ | refine v_drb ?_) | ((with_reducible apply i_dv); first | refine t_v AS.v ?_ | refine t_v (by first | exact u_call (hP := hi)) ?_ | refine t_w AS.w ?_) | ((with_reducible apply i_dg); first | refine t_n ?_ | refine t_m (hs := fun hg => AS.v) (k := ?_) | refine t_m (hs := fun hg => (by first | exact u_call (hP := hi))) (k := ?_) | refine t_f ?_) | ((with_reducible apply i_ds); first | refine t_s AS.s ?_) | ((with_reducible refine i_aw ?_); first | refine v_yes ?_ | refine v_no ?_ | (refine v_cond (fun hc => ?_) (fun hc => ?_); all_goals (try (exfalso; simp [*] at hc; done)); all_goals (try (exfalso; revert hc; simp; omega)))) | ((with_reducible refine i_rt ?_); first | refine k_b ?_ | refine k_s ?_ | refine k_i ?_ | refine k_v ?_ | refine k_c ?_ | exact r_0 | exact r_0n | ((first | refine k_2 ?_ ?_ | refine k_2c ?_ ?_); all_goals (with_reducible (first | apply un_b | apply un_i | apply un_s | apply un_a)))) | ((with_reducible apply al_id); dsimp only [List.append]) | (refine q_bloX rfl ?_) | (refine ⟨by decide +kernel, ?_⟩) | fail)
  rfl
end Am
end Go.Proofs.YtkcojiopjkllgaaGreatDoor
