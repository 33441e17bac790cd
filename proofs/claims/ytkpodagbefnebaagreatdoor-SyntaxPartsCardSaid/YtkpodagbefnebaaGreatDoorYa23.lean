import Derived.Test.YtkpodagbefnebaaGreatDoorYa22
import Derived.Laws.StructEq
import Derived.Test.YtkpodagbefnebaaGreatDoorYa8
import Derived.Test.YtkpodagbefnebaaGreatDoorYa17
import Derived.Test.YtkpodagbefnebaaGreatDoorYa18
import Derived.Test.YtkpodagbefnebaaGreatDoorYa20
set_option linter.unusedSimpArgs false
set_option linter.unusedVariables false
set_option linter.unusedSectionVars false
namespace Go.Proofs.YtkpodagbefnebaaGreatDoor
namespace Am
open Tk Go.RowKit
set_option maxRecDepth 100000
set_option maxHeartbeats 4000000
theorem Po.ext' {a b : Po} (h1 : a.line = b.line) (h2 : a.col = b.col) : a = b := by cases a; cases b; simp_all
instance : DecidableEq Po := fun a b => if h : a.line = b.line ∧ a.col = b.col then isTrue (Po.ext' h.1 h.2) else isFalse fun e => h (e ▸ ⟨rfl, rfl⟩)
theorem Fa.ext' {a b : Fa} (h1 : a.code = b.code) (h2 : a.pos = b.pos) (h3 : a.name = b.name) : a = b := by cases a; cases b; simp_all
instance : DecidableEq Fa := fun a b => if h : a.code = b.code ∧ a.pos = b.pos ∧ a.name = b.name then isTrue (Fa.ext' h.1 h.2.1 h.2.2) else isFalse fun e => h (e ▸ ⟨rfl, rfl, rfl⟩)
theorem pos_in (d : Nat) (a b c e : Int) (w : World) : (Op.equalIn (d + 2) 28 (.agg #[.int .i64 a, .int .i64 b]) (.agg #[.int .i64 c, .int .i64 e])).run Tryz.prog w = .ok ((a == c) && (b == e)) w := by
  have hS : Tryz.prog.underlying 28 = some (.struct (Tryz.prog.fieldsOf 28)) := by kernel_rfl
  have hp : Tryz.prog.stoodInHeld 28 = false := by kernel_rfl
  rw [run_equalIn_agg w (d + 1) 28 _ _ hS hp]
  simp only [Program.fieldsOf, Tryz.underlying28]
  go_simp
  by_cases h1 : a = c <;> by_cases h2 : b = e <;> simp [h1, h2]
theorem fault_in (d : Nat) (a b c i e f : Int) (s t : ByteArray) (w : World) : (Op.equalIn (d + 3) 30 (.agg #[.int .i64 a, .int .i64 b, .int .i64 c, .string s]) (.agg #[.int .i64 i, .int .i64 e, .int .i64 f, .string t])).run Tryz.prog w = .ok ((a == i) && ((b == e) && (c == f)) && (s.toList == t.toList)) w := by
  have hS : Tryz.prog.underlying 30 = some (.struct (Tryz.prog.fieldsOf 30)) := by kernel_rfl
  have hp : Tryz.prog.stoodInHeld 30 = false := by kernel_rfl
  have hq := pos_in d b c e f w
  rw [run_equalIn_agg w (d + 2) 30 _ _ hS hp]
  simp only [Program.fieldsOf, Tryz.underlying30]
  go_simp
  by_cases h1 : a = i
  · by_cases h2 : b = e
    · by_cases h3 : c = f
      · by_cases h4 : s.toList = t.toList
        · simp [h1, h2, h3, h4]
        · simp [h1, h2, h3, h4]
      · simp [h1, h2, h3]
    · simp [h1, h2]
  · simp [h1]
theorem posB (a b : Po) : ((a.line == b.line) && (a.col == b.col)) = decide (a = b) := by
  rw [Bool.eq_iff_iff]
  simp only [Bool.and_eq_true, beq_iff_eq, decide_eq_true_eq]
  exact ⟨fun h => Po.ext' h.1 h.2, fun h => by rw [h]; exact ⟨rfl, rfl⟩⟩
theorem faultB (a b : Fa) : ((a.code == b.code) && ((a.pos.line == b.pos.line) && (a.pos.col == b.pos.col)) && (a.name.toList == b.name.toList)) = decide (a = b) := by
  rw [Bool.eq_iff_iff]
  simp only [Bool.and_eq_true, beq_iff_eq, decide_eq_true_eq, ba_toList]
  exact ⟨fun h => Fa.ext' h.1.1 (Po.ext' h.1.2.1 h.1.2.2) h.2, fun h => by rw [h]; exact ⟨⟨rfl, rfl, rfl⟩, rfl⟩⟩
section
variable {ρ : Operand → Option V} {H : Nat → Option HO} {d : Option Nat} {ty t2 : TypeId} {pos : String} {af : Array Edge} {gu : Option (Nat × Bool)} {x y : Operand}
theorem u_eqlPo {a b : Po} (hx : Ev ρ x (.agg (poC a)) := by (first | (refine .wh rfl ?_; first | assumption | (rw [hp]; rfl) | (simp_all; done)) | exact .pl rfl)) (hy : Ev ρ y (.agg (poC b)) := by (first | (refine .wh rfl ?_; first | assumption | (rw [hp]; rfl) | (simp_all; done)) | exact .pl rfl)) : AS Tryz.prog ρ H ⟨d, .binOp .eql 28 x y t2, ty, pos, af, gu⟩ ⟨.c (sB (decide (a = b))), [], []⟩ := by
  refine .still (x := .bool (decide (a = b))) (fun q hq w => ?_) fun _ => .sc rfl
  have h1 := hq x (by simp [Op.operands]) _ _ hx (Cq.agg (vs := [.int .i64 a.line, .int .i64 a.col]))
  have h2 := hq y (by simp [Op.operands]) _ _ hy (Cq.agg (vs := [.int .i64 b.line, .int .i64 b.col]))
  have h3 : (do eqGuard .eql 28 x y (.agg #[.int .i64 a.line, .int .i64 a.col]) (.agg #[.int .i64 b.line, .int .i64 b.col]); binOp .eql 28 (.agg #[.int .i64 a.line, .int .i64 a.col]) (.agg #[.int .i64 b.line, .int .i64 b.col]) : Sem Value).run Tryz.prog w = .ok (.bool (decide (a = b))) w := by
    have hz : (binOp .eql 28 (.agg #[.int .i64 a.line, .int .i64 a.col]) (.agg #[.int .i64 b.line, .int .i64 b.col])).run Tryz.prog w = .ok (.bool (decide (a = b))) w := by
      rw [run_eql_struct, show (10000 : Nat) = 9998 + 2 from rfl, pos_in 9998, ← posB]; rfl
    have hg : (eqGuard .eql 28 x y (.agg #[.int .i64 a.line, .int .i64 a.col]) (.agg #[.int .i64 b.line, .int .i64 b.col])).run Tryz.prog w = .ok () w := by simp [go_sem]
    rw [Sem.run_bind, hg, Result.andThen_ok, hz]
  unfold execOp
  simp only [h1, h2]
  simp only [Sem.run_bind] at h3 ⊢
  rw [h3]
  simp
theorem u_neqPo {a b : Po} (hx : Ev ρ x (.agg (poC a)) := by (first | (refine .wh rfl ?_; first | assumption | (rw [hp]; rfl) | (simp_all; done)) | exact .pl rfl)) (hy : Ev ρ y (.agg (poC b)) := by (first | (refine .wh rfl ?_; first | assumption | (rw [hp]; rfl) | (simp_all; done)) | exact .pl rfl)) : AS Tryz.prog ρ H ⟨d, .binOp .neq 28 x y t2, ty, pos, af, gu⟩ ⟨.c (sB (!decide (a = b))), [], []⟩ := by
  refine .still (x := .bool (!decide (a = b))) (fun q hq w => ?_) fun _ => .sc rfl
  have h1 := hq x (by simp [Op.operands]) _ _ hx (Cq.agg (vs := [.int .i64 a.line, .int .i64 a.col]))
  have h2 := hq y (by simp [Op.operands]) _ _ hy (Cq.agg (vs := [.int .i64 b.line, .int .i64 b.col]))
  have h3 : (do eqGuard .neq 28 x y (.agg #[.int .i64 a.line, .int .i64 a.col]) (.agg #[.int .i64 b.line, .int .i64 b.col]); binOp .neq 28 (.agg #[.int .i64 a.line, .int .i64 a.col]) (.agg #[.int .i64 b.line, .int .i64 b.col]) : Sem Value).run Tryz.prog w = .ok (.bool (!decide (a = b))) w := by
    have hz : (binOp .neq 28 (.agg #[.int .i64 a.line, .int .i64 a.col]) (.agg #[.int .i64 b.line, .int .i64 b.col])).run Tryz.prog w = .ok (.bool (!decide (a = b))) w := by
      rw [run_neq_struct, show (10000 : Nat) = 9998 + 2 from rfl, pos_in 9998, ← posB]; rfl
    have hg : (eqGuard .neq 28 x y (.agg #[.int .i64 a.line, .int .i64 a.col]) (.agg #[.int .i64 b.line, .int .i64 b.col])).run Tryz.prog w = .ok () w := by simp [go_sem]
    rw [Sem.run_bind, hg, Result.andThen_ok, hz]
  unfold execOp
  simp only [h1, h2]
  simp only [Sem.run_bind] at h3 ⊢
  rw [h3]
  simp
theorem u_eqlFa {a b : Fa} (hx : Ev ρ x (.agg (faC a)) := by (first | (refine .wh rfl ?_; first | assumption | (rw [hp]; rfl) | (simp_all; done)) | exact .pl rfl)) (hy : Ev ρ y (.agg (faC b)) := by (first | (refine .wh rfl ?_; first | assumption | (rw [hp]; rfl) | (simp_all; done)) | exact .pl rfl)) : AS Tryz.prog ρ H ⟨d, .binOp .eql 30 x y t2, ty, pos, af, gu⟩ ⟨.c (sB (decide (a = b))), [], []⟩ := by
  refine .still (x := .bool (decide (a = b))) (fun q hq w => ?_) fun _ => .sc rfl
  have h1 := hq x (by simp [Op.operands]) _ _ hx (Cq.agg (vs := [.int .i64 a.code, .int .i64 a.pos.line, .int .i64 a.pos.col, .string a.name]))
  have h2 := hq y (by simp [Op.operands]) _ _ hy (Cq.agg (vs := [.int .i64 b.code, .int .i64 b.pos.line, .int .i64 b.pos.col, .string b.name]))
  have h3 : (do eqGuard .eql 30 x y (.agg #[.int .i64 a.code, .int .i64 a.pos.line, .int .i64 a.pos.col, .string a.name]) (.agg #[.int .i64 b.code, .int .i64 b.pos.line, .int .i64 b.pos.col, .string b.name]); binOp .eql 30 (.agg #[.int .i64 a.code, .int .i64 a.pos.line, .int .i64 a.pos.col, .string a.name]) (.agg #[.int .i64 b.code, .int .i64 b.pos.line, .int .i64 b.pos.col, .string b.name]) : Sem Value).run Tryz.prog w = .ok (.bool (decide (a = b))) w := by
    have hz : (binOp .eql 30 (.agg #[.int .i64 a.code, .int .i64 a.pos.line, .int .i64 a.pos.col, .string a.name]) (.agg #[.int .i64 b.code, .int .i64 b.pos.line, .int .i64 b.pos.col, .string b.name])).run Tryz.prog w = .ok (.bool (decide (a = b))) w := by
      rw [run_eql_struct, show (10000 : Nat) = 9997 + 3 from rfl, fault_in 9997, ← faultB]; rfl
    have hg : (eqGuard .eql 30 x y (.agg #[.int .i64 a.code, .int .i64 a.pos.line, .int .i64 a.pos.col, .string a.name]) (.agg #[.int .i64 b.code, .int .i64 b.pos.line, .int .i64 b.pos.col, .string b.name])).run Tryz.prog w = .ok () w := by simp [go_sem]
    rw [Sem.run_bind, hg, Result.andThen_ok, hz]
  unfold execOp
  simp only [h1, h2]
  simp only [Sem.run_bind] at h3 ⊢
  rw [h3]
  simp
theorem u_neqFa {a b : Fa} (hx : Ev ρ x (.agg (faC a)) := by (first | (refine .wh rfl ?_; first | assumption | (rw [hp]; rfl) | (simp_all; done)) | exact .pl rfl)) (hy : Ev ρ y (.agg (faC b)) := by (first | (refine .wh rfl ?_; first | assumption | (rw [hp]; rfl) | (simp_all; done)) | exact .pl rfl)) : AS Tryz.prog ρ H ⟨d, .binOp .neq 30 x y t2, ty, pos, af, gu⟩ ⟨.c (sB (!decide (a = b))), [], []⟩ := by
  refine .still (x := .bool (!decide (a = b))) (fun q hq w => ?_) fun _ => .sc rfl
  have h1 := hq x (by simp [Op.operands]) _ _ hx (Cq.agg (vs := [.int .i64 a.code, .int .i64 a.pos.line, .int .i64 a.pos.col, .string a.name]))
  have h2 := hq y (by simp [Op.operands]) _ _ hy (Cq.agg (vs := [.int .i64 b.code, .int .i64 b.pos.line, .int .i64 b.pos.col, .string b.name]))
  have h3 : (do eqGuard .neq 30 x y (.agg #[.int .i64 a.code, .int .i64 a.pos.line, .int .i64 a.pos.col, .string a.name]) (.agg #[.int .i64 b.code, .int .i64 b.pos.line, .int .i64 b.pos.col, .string b.name]); binOp .neq 30 (.agg #[.int .i64 a.code, .int .i64 a.pos.line, .int .i64 a.pos.col, .string a.name]) (.agg #[.int .i64 b.code, .int .i64 b.pos.line, .int .i64 b.pos.col, .string b.name]) : Sem Value).run Tryz.prog w = .ok (.bool (!decide (a = b))) w := by
    have hz : (binOp .neq 30 (.agg #[.int .i64 a.code, .int .i64 a.pos.line, .int .i64 a.pos.col, .string a.name]) (.agg #[.int .i64 b.code, .int .i64 b.pos.line, .int .i64 b.pos.col, .string b.name])).run Tryz.prog w = .ok (.bool (!decide (a = b))) w := by
      rw [run_neq_struct, show (10000 : Nat) = 9997 + 3 from rfl, fault_in 9997, ← faultB]; rfl
    have hg : (eqGuard .neq 30 x y (.agg #[.int .i64 a.code, .int .i64 a.pos.line, .int .i64 a.pos.col, .string a.name]) (.agg #[.int .i64 b.code, .int .i64 b.pos.line, .int .i64 b.pos.col, .string b.name])).run Tryz.prog w = .ok () w := by simp [go_sem]
    rw [Sem.run_bind, hg, Result.andThen_ok, hz]
  unfold execOp
  simp only [h1, h2]
  simp only [Sem.run_bind] at h3 ⊢
  rw [h3]
  simp
end
end Am
namespace Am
set_option maxRecDepth 100000
set_option maxHeartbeats 4000000
end Am
namespace Am
set_option maxRecDepth 100000
set_option maxHeartbeats 4000000
theorem rep_n6 {κ : K} {w : World} {t : Option Nat} {k : Nat} {xs : List (List C)} {v : Value} (h : Rep κ w (.lst t k xs) v) : xs.length ≤ 9223372036854775807 := by
  cases h with
  | lst cv hn _ hc hm _ _ _ => unfold maxLen at hm; omega
theorem agg_l6 {κ : K} {w : World} {x : Value} {cs : List C} {t : Option Nat} {k : Nat} {α : Type} {f : α → List C} {l : List α} (hr : RepV κ w (.agg cs) x) (hm : (.lst t k (l.map f) : C) ∈ cs) : l.length ≤ 9223372036854775807 := by
  obtain ⟨i, hi, e⟩ := List.mem_iff_getElem.1 hm
  cases hr with
  | agg h =>
    rename_i vs
    have hv : i < vs.toList.length := by rw [← h.1]; exact hi
    have := rep_n6 (h.2 i _ _ (List.getElem?_eq_some_iff.2 ⟨hi, e⟩) (List.getElem?_eq_getElem hv))
    rwa [List.length_map] at this
end Am
namespace Am
open Tk Go.RowKit
set_option maxRecDepth 100000
set_option maxHeartbeats 4000000
theorem texts_r (l : List ByteArray) : Pure Tryz.prog 36 [.c (strL l), .c (strL l)] (.c (sB true)) := by
  refine fn2 (fn := Tryz.f36) Tryz.call36 Tryz.func36 rfl Tryz.ntmps36 Tryz.results36 rfl (by rfl) ?_
  refine AW.fact (t := 0) rfl (fun κ w x hr => repV_l hr) fun hn => ?_
  repeat' (first | (with_reducible first | apply AW.seq | apply AW.block | apply AW.skip | apply q_then | apply q_bloN | apply y_e | refine v_rgl ?_ | refine v_drb ?_) | ((with_reducible apply i_dv); refine t_v AS.v ?_) | ((with_reducible refine i_aw ?_); ((refine v_cond (fun hc => ?_) (fun hc => ?_); all_goals (try (exfalso; simp [*] at hc; done))))) | (refine ⟨by decide +kernel, ?_⟩) | fail)
  refine AW.loop (fun n σ => ∃ j, n = l.length - j ∧ j ≤ l.length ∧ σ = mk [(0, .c (strL l)), (1, .c (strL l)), (5, .c (sI (j : Int)))] []) l.length ?_ ?_
  · exact ⟨_, wk_mk (by (repeat (first | exact all_nil | ((refine all_cons ⟨_, rfl, .inl rfl, ?_⟩ ?_); (· (first | rfl | (simp [V.ok, okL, C.ok, okA, HO.ok]; done)))))); done) (by (repeat (exact all_nil)); done) (by rfl), 0, rfl, Nat.zero_le _, rfl⟩
  rintro n σ ⟨j, rfl, hj, rfl⟩
  by_cases hlt : j < l.length
  · obtain ⟨x, hx⟩ : ∃ x, l[j]? = some x := ⟨_, List.getElem?_eq_getElem hlt⟩
    repeat' (first | (with_reducible first | apply AW.seq | apply AW.block | apply AW.skip | apply q_then | apply q_bloN | apply y_e | refine v_rgl ?_ | refine v_drb ?_) | ((with_reducible apply i_dv); refine t_v AS.v ?_) | ((with_reducible refine i_aw ?_); ((refine v_cond (fun hc => ?_) (fun hc => ?_); all_goals (try (exfalso; simp [*] at hc; done))))) | (refine ⟨by decide +kernel, ?_⟩) | fail)
    exact ⟨_, _, (show l.length - (j + 1) < l.length - j by omega), wk_mk (by (repeat (first | exact all_nil | ((refine all_cons ⟨_, rfl, .inl rfl, ?_⟩ ?_); (· (first | rfl | (simp [V.ok, okL, C.ok, okA, HO.ok]; done)))))); done) (by (repeat (exact all_nil)); done) (by rfl), j + 1, rfl, hlt, rfl⟩
  · repeat' (first | (with_reducible first | apply AW.seq | apply AW.ret | apply AW.exit | apply q_then | apply q_thenE | apply q_bloE | apply y_e | refine v_rgl ?_) | ((with_reducible apply i_dv); refine t_v AS.v ?_) | ((with_reducible refine i_aw ?_); ((refine v_cond (fun hc => ?_) (fun hc => ?_); all_goals (try (exfalso; simp [*] at hc; done))))) | ((with_reducible refine i_rt ?_); refine k_b ?_) | fail)
    rfl
theorem agg_lv {κ : K} {w : World} {x : Value} {v : Lv} (hr : RepV κ w (.agg (lvC v)) x) : v.cats.length ≤ 9223372036854775807 := agg_l6 hr (t := none) (k := 2) (f := spC) (by rw [lvC]; simp)
theorem slev_r (v : Lv) : Pure Tryz.prog 85 [.agg (lvC v), .agg (lvC v)] (.c (sB true)) := by
  refine fn2 (fn := Tryz.f85) Tryz.call85 Tryz.func85 rfl Tryz.ntmps85 Tryz.results85 rfl (by rfl) ?_
  refine AW.fact (t := 0) rfl (fun κ w x hr => agg_lv hr) fun hn => ?_
  repeat' (first | (with_reducible first | apply AW.seq | apply AW.block | apply AW.skip | apply q_then | apply q_bloN | apply y_e | refine v_rgl ?_ | refine v_drb ?_) | ((with_reducible apply i_dv); first | refine t_v AS.v ?_ | refine t_w AS.w ?_) | ((with_reducible apply i_dg); refine t_m (hs := fun hg => AS.v) (k := ?_)) | ((with_reducible refine i_aw ?_); ((refine v_cond (fun hc => ?_) (fun hc => ?_); all_goals (try (exfalso; simp [*] at hc; done))))) | (refine ⟨by decide +kernel, ?_⟩) | fail)
  all_goals skip
  refine AW.loop (fun n σ => ∃ j, n = v.cats.length - j ∧ j ≤ v.cats.length ∧ σ = mk [(2, .c (.ptr 2 0)), (3, .c (.ptr 3 0)), (5, .c (sI (j : Int)))] [(3, .obj 63 (lvC v)), (2, .obj 63 (lvC v))]) v.cats.length ?_ ?_
  · exact ⟨_, wk_mk (by (repeat (first | exact all_nil | ((refine all_cons ⟨_, rfl, .inl rfl, ?_⟩ ?_); (· (rfl))))); done) (by (repeat (first | exact all_nil | ((refine all_cons ⟨_, rfl, .inl rfl, ?_⟩ ?_); (· (((simp [V.ok, okL, C.ok, okA, HO.ok]; done))))))); done) (by rfl), 0, rfl, Nat.zero_le _, rfl⟩
  rintro n σ ⟨j, rfl, hj, rfl⟩
  by_cases hlt : j < v.cats.length
  · obtain ⟨x, hx⟩ : ∃ x, v.cats[j]? = some x := ⟨_, List.getElem?_eq_getElem hlt⟩
    repeat' (first | (with_reducible first | apply AW.seq | apply AW.block | apply AW.skip | apply q_then | apply q_bloN | apply y_e | refine v_rgl ?_ | refine v_drb ?_) | ((with_reducible apply i_dv); first | refine t_v AS.v ?_ | refine t_w AS.w ?_) | ((with_reducible apply i_dg); refine t_m (hs := fun hg => AS.v) (k := ?_)) | ((with_reducible refine i_aw ?_); ((refine v_cond (fun hc => ?_) (fun hc => ?_); all_goals (try (exfalso; simp [*] at hc; done))))) | (refine ⟨by decide +kernel, ?_⟩) | fail)
    all_goals ((exact ⟨_, _, (show v.cats.length - (j + 1) < v.cats.length - j by omega), wk_mk (by (repeat (first | exact all_nil | ((refine all_cons ⟨_, rfl, .inl rfl, ?_⟩ ?_); (· (rfl))))); done) (by (repeat (first | exact all_nil | ((refine all_cons ⟨_, rfl, .inl rfl, ?_⟩ ?_); (· (((simp [V.ok, okL, C.ok, okA, HO.ok]; done))))))); done) (by rfl), j + 1, rfl, hlt, rfl⟩))
  · repeat' (first | (with_reducible first | apply AW.seq | apply AW.ret | apply AW.exit | apply q_then | apply q_thenE | apply q_bloE | apply y_e | refine v_rgl ?_) | ((with_reducible apply i_dv); refine t_v AS.v ?_) | ((with_reducible refine i_aw ?_); ((refine v_cond (fun hc => ?_) (fun hc => ?_); all_goals (try (exfalso; simp [*] at hc; done))))) | ((with_reducible refine i_rt ?_); refine k_b ?_) | fail)
    rfl
theorem srng_r (g : Rg) : Pure Tryz.prog 39 [.agg (rgC g), .agg (rgC g)] (.c (sB true)) := by
  refine fn2 (fn := Tryz.f39) Tryz.call39 Tryz.func39 rfl Tryz.ntmps39 Tryz.results39 rfl (by rfl) ?_
  repeat' (first | (with_reducible first | apply AW.seq | apply AW.ret | apply q_then | apply y_e | refine v_rgl ?_) | ((with_reducible apply i_dv); first | refine t_v AS.v ?_ | refine t_v (by exact u_call (hP := slev_r _)) ?_ | refine t_w AS.w ?_) | ((with_reducible apply i_dg); first | refine t_m (hs := fun hg => AS.v) (k := ?_) | refine t_m (hs := fun hg => (by exact u_call (hP := slev_r _))) (k := ?_)) | ((with_reducible refine i_rt ?_); refine k_b ?_) | fail)
  all_goals rfl
end Am
namespace Am
open Tk Go.RowKit
set_option maxRecDepth 100000
set_option maxHeartbeats 4000000
abbrev qsO {l : List Tok} (k : Ix l) (f : Fa) (c : Int) : HO := .obj 139 (qsC ⟨l, ((k.1 : Nat) : Int), f, c⟩)
section
variable {l : List Tok} {k : Ix l} {f : Fa} {c : Int}
def badF (f : Fa) (e : Int) (t : Tok) : Fa := if f.code = 0 then flt e t else f
theorem q7failed_p : Pure Tryz.prog 115 [.c (.ep (qsC ⟨l, ((k.1 : Nat) : Int), f, c⟩))] (.c (sB (!decide (f.code = 0)))) := by
  refine fn1 (fn := Tryz.f115) Tryz.call115 Tryz.func115 rfl Tryz.ntmps115 Tryz.results115 rfl (by rfl) ?_
  repeat' (first | (with_reducible first | apply AW.seq | apply AW.ret | apply q_then | apply y_e | refine v_rgl ?_) | ((with_reducible apply i_dv); refine t_v AS.v ?_) | ((with_reducible refine i_rt ?_); refine k_b ?_) | fail)
  all_goals rfl
theorem q7now_p : Pure Tryz.prog 112 [.c (.ep (qsC ⟨l, ((k.1 : Nat) : Int), f, c⟩))] (.agg (tkC (tk k))) := by
  have hk := tk_some k
  refine fn1 (fn := Tryz.f112) Tryz.call112 Tryz.func112 rfl Tryz.ntmps112 Tryz.results112 rfl (by rfl) ?_
  repeat' (first | (with_reducible first | apply AW.seq | apply AW.ret | apply q_then | apply y_e | refine v_rgl ?_ | refine v_drb ?_) | ((with_reducible apply i_dv); first | refine t_v AS.v ?_ | refine t_w AS.w ?_) | ((with_reducible apply i_ds); refine t_s AS.s ?_) | ((with_reducible refine i_rt ?_); refine k_c ?_) | (refine ⟨by decide +kernel, ?_⟩) | fail)
  simp only [unA]
theorem q7skip_x (hf : Fine l) : MX Tryz.prog 114 [(0, qsO k f c)] [.c (.ptr 0 0)] (.ok ((), nx k) : Except Fa (Unit × Ix l)) (fun _ => .tup []) (fun k' => [(0, qsO k' f c)]) pvS := by
  have hl := hf.le
  have hk := k.2
  by_cases h : k.1 + 1 < l.length
  · have e : nx k = ⟨k.1 + 1, h⟩ := by unfold nx; rw [dif_pos h]
    rw [e]
    refine MX.of (fn := Tryz.f114) Tryz.call114 Tryz.func114 rfl Tryz.ntmps114 Tryz.results114 rfl rfl (by intro a; rfl) (by intro b; exact ⟨rfl, by simp [HO.one, okL, C.ok, okA]⟩) ?_
    repeat' (first | (with_reducible first | apply AW.seq | apply AW.skip | apply q_then | apply y_e | refine v_rgl ?_ | refine v_drb ?_) | ((with_reducible apply i_dv); refine t_v AS.v ?_) | ((with_reducible apply i_ds); refine t_s AS.s ?_) | ((with_reducible refine i_aw ?_); ((refine v_cond (fun hc => ?_) (fun hc => ?_); all_goals (try (exfalso; revert hc; simp; omega))))) | ((with_reducible refine i_rx ?_); refine l_0 (k := ?_)) | (refine ⟨by decide +kernel, ?_⟩) | fail)
    exact ⟨(), _, rfl, rfl, le_id rfl⟩
  · have e : nx k = k := by unfold nx; rw [dif_neg h]
    rw [e]
    refine MX.of (fn := Tryz.f114) Tryz.call114 Tryz.func114 rfl Tryz.ntmps114 Tryz.results114 rfl rfl (by intro a; rfl) (by intro b; exact ⟨rfl, by simp [HO.one, okL, C.ok, okA]⟩) ?_
    repeat' (first | (with_reducible first | apply AW.seq | apply AW.skip | apply q_then | apply y_e | refine v_rgl ?_ | refine v_drb ?_) | ((with_reducible apply i_dv); refine t_v AS.v ?_) | ((with_reducible apply i_ds); refine t_s AS.s ?_) | ((with_reducible refine i_aw ?_); ((refine v_cond (fun hc => ?_) (fun hc => ?_); all_goals (try (exfalso; revert hc; simp; omega))))) | ((with_reducible refine i_rx ?_); refine l_0 (k := ?_)) | (refine ⟨by decide +kernel, ?_⟩) | fail)
    exact ⟨(), _, rfl, rfl, le_id rfl⟩
theorem q7fail_x (e : Int) (t : Tok) : MX Tryz.prog 111 [(0, qsO k f c)] [.c (.ptr 0 0), .c (sI e), .agg (tkC t)] (.ok ((), badF f e t) : Except Fa (Unit × Fa)) (fun _ => .tup []) (fun g => [(0, qsO k g c)]) pvS := by
  have fl := q7failed_p (l := l) (k := k) (f := f) (c := c)
  by_cases h : f.code = 0
  · have e : badF f e t = flt e t := if_pos h
    rw [e]
    refine MX.of (fn := Tryz.f111) Tryz.call111 Tryz.func111 rfl Tryz.ntmps111 Tryz.results111 rfl rfl (by intro a; rfl) (by intro b; exact ⟨rfl, by simp [HO.one, okL, C.ok, okA]⟩) ?_
    repeat' (first | (with_reducible first | apply AW.seq | apply AW.skip | apply q_then | apply y_e | refine v_rgl ?_) | ((with_reducible apply i_dv); first | refine t_v AS.v ?_ | refine t_v (by exact u_eye (hP := fl)) ?_ | refine t_w AS.w ?_) | ((with_reducible apply i_ds); refine t_s AS.s ?_) | ((with_reducible refine i_aw ?_); ((refine v_cond (fun hc => ?_) (fun hc => ?_); all_goals (try (exfalso; simp [*] at hc; done))))) | ((with_reducible refine i_rx ?_); refine l_0 (k := ?_)) | fail)
    exact ⟨(), _, rfl, rfl, le_id rfl⟩
  · have e : badF f e t = f := if_neg h
    rw [e]
    refine MX.of (fn := Tryz.f111) Tryz.call111 Tryz.func111 rfl Tryz.ntmps111 Tryz.results111 rfl rfl (by intro a; rfl) (by intro b; exact ⟨rfl, by simp [HO.one, okL, C.ok, okA]⟩) ?_
    repeat' (first | (with_reducible first | apply AW.seq | apply AW.skip | apply q_then | apply y_e | refine v_rgl ?_) | ((with_reducible apply i_dv); first | refine t_v AS.v ?_ | refine t_v (by exact u_eye (hP := fl)) ?_ | refine t_w AS.w ?_) | ((with_reducible apply i_ds); refine t_s AS.s ?_) | ((with_reducible refine i_aw ?_); ((refine v_cond (fun hc => ?_) (fun hc => ?_); all_goals (try (exfalso; simp [*] at hc; done))))) | ((with_reducible refine i_rx ?_); refine l_0 (k := ?_)) | fail)
    exact ⟨(), _, rfl, rfl, le_id rfl⟩
theorem q7is_p (kd : Int) (s : ByteArray) : Pure Tryz.prog 154 [.c (.ep (qsC ⟨l, ((k.1 : Nat) : Int), f, c⟩)), .c (sI kd), .c (sS s)] (.c (sB (decide (f.code = 0) && decide ((tk k).kind = kd) && decide ((tk k).text = s)))) := by
  refine fn3 (fn := Tryz.f154) Tryz.call154 Tryz.func154 rfl Tryz.ntmps154 Tryz.results154 rfl (by rfl) ?_
  repeat' (first | (with_reducible first | apply AW.seq | apply AW.ret | apply q_then | apply y_e | refine v_rgl ?_) | ((with_reducible apply i_dv); first | refine t_v AS.v ?_ | refine t_v (by exact u_call (hP := q7failed_p)) ?_) | ((with_reducible apply i_dg); first | refine t_m (hs := fun hg => AS.v) (k := ?_) | refine t_m (hs := fun hg => (by exact u_call (hP := q7now_p))) (k := ?_)) | ((with_reducible refine i_rt ?_); refine k_b ?_) | fail)
  all_goals simp
theorem q7mark_x (hf : Fine l) (s : ByteArray) : MX Tryz.prog 116 [(0, qsO k f c)] [.c (.ptr 0 0), .c (sS s)] (.ok (decide (f.code = 0) && isM s k, adv (decide (f.code = 0) && isM s k) k) : Except Fa (Bool × Ix l)) (fun b => .c (sB b)) (fun k' => [(0, qsO k' f c)]) pvS := by
  have ip := q7is_p (l := l) (k := k) (f := f) (c := c) 4 s
  have sk := (q7skip_x (k := k) (f := f) (c := c) hf).ok _ _ rfl
  have e : (decide (f.code = 0) && isM s k) = (decide (f.code = 0) && decide ((tk k).kind = 4) && decide ((tk k).text = s)) := by unfold isM; rw [Bool.and_assoc]
  rw [e]
  clear e
  generalize (decide (f.code = 0) && decide ((tk k).kind = 4) && decide ((tk k).text = s)) = b at *
  cases b with
  | true =>
    refine MX.of (fn := Tryz.f116) Tryz.call116 Tryz.func116 rfl Tryz.ntmps116 Tryz.results116 rfl rfl (by intro a; rfl) (by intro b; exact ⟨rfl, by simp [HO.one, okL, C.ok, okA]⟩) ?_
    repeat' (first | (with_reducible first | apply AW.seq | apply AW.ret | apply q_then | apply q_thenR | apply y_e | refine v_rgl ?_) | ((with_reducible apply i_dv); first | refine t_v AS.v ?_ | refine t_v (by exact u_eye (hP := ip)) ?_ | refine t_w (by exact u_m1 (hP := sk)) ?_) | ((with_reducible refine i_aw ?_); refine v_yes ?_) | ((with_reducible refine i_rx ?_); refine l_1 (k := ?_)) | fail)
    exact ⟨_, _, rfl, rfl, le_id rfl⟩
  | false =>
    refine MX.of (fn := Tryz.f116) Tryz.call116 Tryz.func116 rfl Tryz.ntmps116 Tryz.results116 rfl rfl (by intro a; rfl) (by intro b; exact ⟨rfl, by simp [HO.one, okL, C.ok, okA]⟩) ?_
    repeat' (first | (with_reducible first | apply AW.seq | apply AW.skip | apply AW.ret | apply q_then | apply y_e | refine v_rgl ?_) | ((with_reducible apply i_dv); first | refine t_v AS.v ?_ | refine t_v (by exact u_eye (hP := ip)) ?_) | ((with_reducible refine i_aw ?_); refine v_no ?_) | ((with_reducible refine i_rx ?_); refine l_1 (k := ?_)) | fail)
    exact ⟨_, _, rfl, rfl, le_id rfl⟩
theorem q7word_x (hf : Fine l) (s : ByteArray) : MX Tryz.prog 110 [(0, qsO k f c)] [.c (.ptr 0 0), .c (sS s)] (.ok (decide (f.code = 0) && isW s k, adv (decide (f.code = 0) && isW s k) k) : Except Fa (Bool × Ix l)) (fun b => .c (sB b)) (fun k' => [(0, qsO k' f c)]) pvS := by
  have ip := q7is_p (l := l) (k := k) (f := f) (c := c) 1 s
  have sk := (q7skip_x (k := k) (f := f) (c := c) hf).ok _ _ rfl
  have e : (decide (f.code = 0) && isW s k) = (decide (f.code = 0) && decide ((tk k).kind = 1) && decide ((tk k).text = s)) := by unfold isW; rw [Bool.and_assoc]
  rw [e]
  clear e
  generalize (decide (f.code = 0) && decide ((tk k).kind = 1) && decide ((tk k).text = s)) = b at *
  cases b with
  | true =>
    refine MX.of (fn := Tryz.f110) Tryz.call110 Tryz.func110 rfl Tryz.ntmps110 Tryz.results110 rfl rfl (by intro a; rfl) (by intro b; exact ⟨rfl, by simp [HO.one, okL, C.ok, okA]⟩) ?_
    repeat' (first | (with_reducible first | apply AW.seq | apply AW.ret | apply q_then | apply q_thenR | apply y_e | refine v_rgl ?_) | ((with_reducible apply i_dv); first | refine t_v AS.v ?_ | refine t_v (by exact u_eye (hP := ip)) ?_ | refine t_w (by exact u_m1 (hP := sk)) ?_) | ((with_reducible refine i_aw ?_); refine v_yes ?_) | ((with_reducible refine i_rx ?_); refine l_1 (k := ?_)) | fail)
    exact ⟨_, _, rfl, rfl, le_id rfl⟩
  | false =>
    refine MX.of (fn := Tryz.f110) Tryz.call110 Tryz.func110 rfl Tryz.ntmps110 Tryz.results110 rfl rfl (by intro a; rfl) (by intro b; exact ⟨rfl, by simp [HO.one, okL, C.ok, okA]⟩) ?_
    repeat' (first | (with_reducible first | apply AW.seq | apply AW.skip | apply AW.ret | apply q_then | apply y_e | refine v_rgl ?_) | ((with_reducible apply i_dv); first | refine t_v AS.v ?_ | refine t_v (by exact u_eye (hP := ip)) ?_) | ((with_reducible refine i_aw ?_); refine v_no ?_) | ((with_reducible refine i_rx ?_); refine l_1 (k := ?_)) | fail)
    exact ⟨_, _, rfl, rfl, le_id rfl⟩
theorem q7need_x (hf : Fine l) (s : ByteArray) : MX Tryz.prog 56 [(0, qsO k f c)] [.c (.ptr 0 0), .c (sS s)] (.ok ((), (adv (decide (f.code = 0) && isM s k) k, if (decide (f.code = 0) && isM s k) = true then f else badF f 9 (tk k))) : Except Fa (Unit × (Ix l × Fa))) (fun _ => .tup []) (fun b => [(0, qsO b.1 b.2 c)]) pvS := by
  have m := (q7mark_x (k := k) (f := f) (c := c) hf s).ok _ _ rfl
  have nw := q7now_p (l := l) (k := k) (f := f) (c := c)
  have fl := (q7fail_x (l := l) (k := k) (f := f) (c := c) 9 (tk k)).ok _ _ rfl
  generalize (decide (f.code = 0) && isM s k) = b at *
  cases b with
  | true =>
    clear fl nw
    refine MX.of (fn := Tryz.f56) Tryz.call56 Tryz.func56 rfl Tryz.ntmps56 Tryz.results56 rfl rfl (by intro a; rfl) (by intro b; exact ⟨rfl, by simp [HO.one, okL, C.ok, okA]⟩) ?_
    repeat' (first | (with_reducible first | apply AW.seq | apply AW.skip | apply q_then | apply y_e | refine v_rgl ?_) | ((with_reducible apply i_dv); first | refine t_v AS.v ?_ | refine t_w (by exact u_m1 (hP := m)) ?_) | ((with_reducible refine i_aw ?_); refine v_no ?_) | ((with_reducible refine i_rx ?_); refine l_0 (k := ?_)) | fail)
    exact ⟨(), (_, _), rfl, rfl, le_id rfl⟩
  | false =>
    have m : MNL _ _ _ _ _ [(0, qsO k f c)] := m
    refine MX.of (fn := Tryz.f56) Tryz.call56 Tryz.func56 rfl Tryz.ntmps56 Tryz.results56 rfl rfl (by intro a; rfl) (by intro b; exact ⟨rfl, by simp [HO.one, okL, C.ok, okA]⟩) ?_
    repeat' (first | (with_reducible first | apply AW.seq | apply q_then | apply y_e | refine v_rgl ?_) | ((with_reducible apply i_dv); first | refine t_v AS.v ?_ | refine t_v (by exact u_eye (hP := nw)) ?_ | refine t_w (by first | exact u_m1 (hP := m) | exact u_m1 (hP := fl)) ?_) | ((with_reducible refine i_aw ?_); refine v_yes ?_) | ((with_reducible refine i_rx ?_); refine l_0 (k := ?_)) | fail)
    exact ⟨(), (_, _), rfl, rfl, le_id rfl⟩
theorem q7ident_p (s : ByteArray) : Pure Tryz.prog 69 [.c (sS s)] (.c (sB (idB s))) :=
  Pure.of_calls (vs := [.string s]) Tryz.call69 (.sc rfl) fun hs w => rIdentifier_any s (of_decide_eq_true (hs _ (.head _))) w
theorem q7named_p : Pure Tryz.prog 113 [.c (.ep (qsC ⟨l, ((k.1 : Nat) : Int), f, c⟩))] (.c (sB (decide (f.code = 0) && isNm k))) := by
  have id := q7ident_p (tk k).text
  refine fn1 (fn := Tryz.f113) Tryz.call113 Tryz.func113 rfl Tryz.ntmps113 Tryz.results113 rfl (by rfl) ?_
  repeat' (first | (with_reducible first | apply AW.seq | apply AW.ret | apply q_then | apply y_e | refine v_rgl ?_) | ((with_reducible apply i_dv); first | refine t_v AS.v ?_ | refine t_v (by exact u_call (hP := q7failed_p)) ?_) | ((with_reducible apply i_dg); first | refine t_m (hs := fun hg => AS.v) (k := ?_) | refine t_m (hs := fun hg => (by first | exact u_call (hP := q7now_p) | exact u_call (hP := id))) (k := ?_)) | ((with_reducible refine i_rt ?_); refine k_b ?_) | fail)
  unfold isNm
  simp [Bool.and_assoc]
def nameQ (k : Ix l) (f : Fa) : ByteArray × (Ix l × Fa) := if (decide (f.code = 0) && isNm k) = true then ((tk k).text, (nx k, f)) else (⟨#[]⟩, (k, badF f 9 (tk k)))
theorem q7name_x (hf : Fine l) : MX Tryz.prog 54 [(0, qsO k f c)] [.c (.ptr 0 0)] (.ok (nameQ k f) : Except Fa (ByteArray × (Ix l × Fa))) (fun s => .c (sS s)) (fun b => [(0, qsO b.1 b.2 c)]) pvS := by
  have nm := q7named_p (l := l) (k := k) (f := f) (c := c)
  have nw := q7now_p (l := l) (k := k) (f := f) (c := c)
  have sk := (q7skip_x (k := k) (f := f) (c := c) hf).ok _ _ rfl
  have fl := (q7fail_x (l := l) (k := k) (f := f) (c := c) 9 (tk k)).ok _ _ rfl
  unfold nameQ
  generalize (decide (f.code = 0) && isNm k) = b at *
  cases b with
  | true =>
    rw [if_pos rfl]
    clear fl
    refine MX.of (fn := Tryz.f54) Tryz.call54 Tryz.func54 rfl Tryz.ntmps54 Tryz.results54 rfl rfl (by intro a; rfl) (by intro b; exact ⟨rfl, by simp [HO.one, okL, C.ok, okA]⟩) ?_
    repeat' (first | (with_reducible first | apply AW.seq | apply AW.skip | apply AW.ret | apply q_then | apply y_e | refine v_rgl ?_) | ((with_reducible apply i_dv); first | refine t_v AS.v ?_ | refine t_v (by first | exact u_eye (hP := nm) | exact u_eye (hP := nw)) ?_ | refine t_w (by exact u_m1 (hP := sk)) ?_) | ((with_reducible refine i_aw ?_); refine v_no ?_) | ((with_reducible refine i_rx ?_); refine l_1 (k := ?_)) | fail)
    exact ⟨_, (_, _), rfl, rfl, le_id rfl⟩
  | false =>
    rw [if_neg (by decide)]
    clear sk
    refine MX.of (fn := Tryz.f54) Tryz.call54 Tryz.func54 rfl Tryz.ntmps54 Tryz.results54 rfl rfl (by intro a; rfl) (by intro b; exact ⟨rfl, by simp [HO.one, okL, C.ok, okA]⟩) ?_
    repeat' (first | (with_reducible first | apply AW.seq | apply AW.ret | apply q_then | apply q_thenR | apply y_e | refine v_rgl ?_) | ((with_reducible apply i_dv); first | refine t_v AS.v ?_ | refine t_v (by first | exact u_eye (hP := nm) | exact u_eye (hP := nw)) ?_ | refine t_w (by exact u_m1 (hP := fl)) ?_) | ((with_reducible refine i_aw ?_); refine v_yes ?_) | ((with_reducible refine i_rx ?_); refine l_1 (k := ?_)) | fail)
    exact ⟨_, (_, _), rfl, rfl, le_id rfl⟩
end
end Am
namespace Am
open Tk
section
variable {l : List Tok}
def okM (f : Fa) (s : ByteArray) (k : Ix l) : Bool := decide (f.code = 0) && isM s k
def okW (f : Fa) (s : ByteArray) (k : Ix l) : Bool := decide (f.code = 0) && isW s k
def okN (f : Fa) (k : Ix l) : Bool := decide (f.code = 0) && isNm k
def needQ (s : ByteArray) (k : Ix l) (f : Fa) : Ix l × Fa := (adv (okM f s k) k, if okM f s k = true then f else badF f 9 (tk k))
def elemQ (self : Bool) (n : NS) (k : Ix l) (f : Fa) : NS × (Ix l × Fa) :=
  if okM f ⟨#[42]⟩ k = true then ({ n with all := true }, (nx k, f))
  else if okM f ⟨#[45]⟩ k = true then ({ n with except := n.except ++ [(nameQ (nx k) f).1] }, (nameQ (nx k) f).2)
  else if (self && okW f ⟨#[115, 101, 108, 102]⟩ k) = true then ({ n with self := true }, (nx k, f))
  else ({ n with names := n.names ++ [(nameQ k f).1] }, (nameQ k f).2)
def setLQ (self : Bool) : Nat → NS → Ix l → Fa → NS × (Ix l × Fa)
  | 0, n, k, f => (n, (k, f))
  | m + 1, n, k, f => if (decide (f.code = 0) && !okM f ⟨#[125]⟩ k) = true then setLQ self m (elemQ self n k f).1 (elemQ self n k f).2.1 (elemQ self n k f).2.2 else (n, (k, f))
def braceQ2 (self : Bool) (n : NS) (k : Ix l) (f : Fa) : NS × (Ix l × Fa) := setLQ self (fuel l) (elemQ self n k f).1 (elemQ self n k f).2.1 (elemQ self n k f).2.2
def braceQ (self : Bool) (n : NS) (k : Ix l) (f : Fa) : NS × (Ix l × Fa) := ((braceQ2 self n k f).1, needQ ⟨#[125]⟩ (braceQ2 self n k f).2.1 (braceQ2 self n k f).2.2)
def setQ (self : Bool) (k : Ix l) (f : Fa) : NS × (Ix l × Fa) :=
  if okM f ⟨#[126]⟩ k = true then
    if okN f (nx k) = true then (⟨false, true, false, [(nameQ (nx k) f).1], []⟩, (nameQ (nx k) f).2)
    else if okM f ⟨#[123]⟩ (nx k) = true then braceQ self (ns0 true) (nx (nx k)) f
    else (ns0 true, (nx k, badF f 9 (tk (nx k))))
  else if okM f ⟨#[123]⟩ k = true then braceQ self (ns0 false) (nx k) f
  else if okM f ⟨#[45]⟩ k = true then (ns0 false, (k, badF f 9 (tk k)))
  else elemQ self (ns0 false) k f
def spanQ1 (k : Ix l) (f : Fa) : Sp × (Ix l × Fa) :=
  if okM (nameQ k f).2.2 ⟨#[46]⟩ (nameQ k f).2.1 = true then (⟨(nameQ k f).1, (nameQ (nx (nameQ k f).2.1) (nameQ k f).2.2).1⟩, (nameQ (nx (nameQ k f).2.1) (nameQ k f).2.2).2) else (⟨(nameQ k f).1, ⟨#[]⟩⟩, (nameQ k f).2)
def levelLQ : Nat → Lv → Ix l → Fa → Lv × (Ix l × Fa)
  | 0, v, k, f => (v, (k, f))
  | n + 1, v, k, f => if okM (spanQ1 k f).2.2 ⟨#[44]⟩ (spanQ1 k f).2.1 = true then levelLQ n { v with cats := v.cats ++ [(spanQ1 k f).1] } (nx (spanQ1 k f).2.1) (spanQ1 k f).2.2 else ({ v with cats := v.cats ++ [(spanQ1 k f).1] }, (spanQ1 k f).2)
def levelQ (k : Ix l) (f : Fa) : Lv × (Ix l × Fa) := if okM (nameQ k f).2.2 ⟨#[58]⟩ (nameQ k f).2.1 = true then levelLQ (fuel l) ⟨(nameQ k f).1, []⟩ (nx (nameQ k f).2.1) (nameQ k f).2.2 else (⟨(nameQ k f).1, []⟩, (nameQ k f).2)
def rangeQ2 (a : Lv) (k : Ix l) (f : Fa) : Rg × (Ix l × Fa) := if okM f ⟨#[45]⟩ k = true then (⟨a, (levelQ (nx k) f).1⟩, (levelQ (nx k) f).2) else (⟨a, Lv.zero⟩, (k, f))
def rangeQ (k : Ix l) (f : Fa) : Rg × (Ix l × Fa) := rangeQ2 (levelQ k f).1 (levelQ k f).2.1 (levelQ k f).2.2
def ctxQ4 (u r t : ByteArray) (k : Ix l) (f : Fa) : Ct × (Ix l × Fa) := (⟨u, r, t, (rangeQ k f).1⟩, (rangeQ k f).2)
def ctxQ3 (u r t : ByteArray) (k : Ix l) (f : Fa) : Ct × (Ix l × Fa) := ctxQ4 u r t (needQ ⟨#[58]⟩ k f).1 (needQ ⟨#[58]⟩ k f).2
def ctxQ2 (u r : ByteArray) (k : Ix l) (f : Fa) : Ct × (Ix l × Fa) := ctxQ3 u r (nameQ (needQ ⟨#[58]⟩ k f).1 (needQ ⟨#[58]⟩ k f).2).1 (nameQ (needQ ⟨#[58]⟩ k f).1 (needQ ⟨#[58]⟩ k f).2).2.1 (nameQ (needQ ⟨#[58]⟩ k f).1 (needQ ⟨#[58]⟩ k f).2).2.2
def ctxQ1 (u : ByteArray) (k : Ix l) (f : Fa) : Ct × (Ix l × Fa) := ctxQ2 u (nameQ (needQ ⟨#[58]⟩ k f).1 (needQ ⟨#[58]⟩ k f).2).1 (nameQ (needQ ⟨#[58]⟩ k f).1 (needQ ⟨#[58]⟩ k f).2).2.1 (nameQ (needQ ⟨#[58]⟩ k f).1 (needQ ⟨#[58]⟩ k f).2).2.2
def contextQ (k : Ix l) (f : Fa) : Ct × (Ix l × Fa) := ctxQ1 (nameQ k f).1 (nameQ k f).2.1 (nameQ k f).2.2
def RQ {α : Type} (f : Fa) (sp : Except Fa (α × Ix l)) (t : α × (Ix l × Fa)) : Prop := (f.code ≠ 0 → t.2.2 = f) ∧ (f.code = 0 → match sp with | .ok x => t = (x.1, (x.2, f)) | .error g => t.2.2 = g)
section
variable {α β : Type} {f : Fa} {k : Ix l}
theorem ff : ¬ (false = true) := by decide
theorem bad_0 {e : Int} {t : Tok} (h : f.code = 0) : badF f e t = flt e t := if_pos h
theorem bad_1 {e : Int} {t : Tok} (h : f.code ≠ 0) : badF f e t = f := if_neg h
theorem bad_nz {e : Int} {t : Tok} (h : e ≠ 0) : (badF f e t).code ≠ 0 := by
  unfold badF
  split
  · exact h
  · assumption
theorem okM_0 (h : f.code = 0) (s : ByteArray) (k : Ix l) : okM f s k = isM s k := by simp [okM, h]
theorem okM_1 (h : f.code ≠ 0) (s : ByteArray) (k : Ix l) : okM f s k = false := by simp [okM, h]
theorem okW_0 (h : f.code = 0) (s : ByteArray) (k : Ix l) : okW f s k = isW s k := by simp [okW, h]
theorem okW_1 (h : f.code ≠ 0) (s : ByteArray) (k : Ix l) : okW f s k = false := by simp [okW, h]
theorem okN_0 (h : f.code = 0) (k : Ix l) : okN f k = isNm k := by simp [okN, h]
theorem RQ.ok (v : α) (k : Ix l) : RQ f (.ok (v, k)) (v, (k, f)) := ⟨fun _ => rfl, fun _ => rfl⟩
theorem RQ.err (v : α) (k k' : Ix l) {e : Int} {t : Tok} : RQ f (.error (flt e t)) (v, (k', badF f e t)) := ⟨fun h => bad_1 h, fun h => bad_0 h⟩
theorem RQ.bind {sp : Except Fa (α × Ix l)} {t : α × (Ix l × Fa)} {g : α × Ix l → Except Fa (β × Ix l)} {u : α → Ix l → Fa → β × (Ix l × Fa)} (h : RQ f sp t) (hz : NZ l sp) (hk : ∀ v k f, RQ f (g (v, k)) (u v k f)) : RQ f (sp >>= g) (u t.1 t.2.1 t.2.2) := by
  refine ⟨fun hf => ?_, fun hf => ?_⟩
  · rw [h.1 hf]
    exact (hk _ _ f).1 hf
  · have h2 := h.2 hf
    cases sp with
    | ok x =>
      have h2 : t = (x.1, (x.2, f)) := h2
      rw [h2]
      exact (hk x.1 x.2 f).2 hf
    | error e =>
      have h2 : t.2.2 = e := h2
      show (u t.1 t.2.1 t.2.2).2.2 = e
      rw [h2]
      exact (hk _ _ e).1 (hz e rfl).1
theorem RQ.iteM {s : ByteArray} {A B : Except Fa (α × Ix l)} {A' B' : α × (Ix l × Fa)} (hA : RQ f A A') (hB : RQ f B B') : RQ f (if isM s k then A else B) (if okM f s k = true then A' else B') := by
  by_cases hf : f.code = 0
  · rw [okM_0 hf]
    by_cases h : isM s k = true
    · rw [if_pos h, if_pos h]; exact hA
    · rw [if_neg h, if_neg h]; exact hB
  · rw [okM_1 hf, if_neg ff]
    exact ⟨hB.1, fun h => absurd h hf⟩
theorem RQ.iteW {s : ByteArray} {A B : Except Fa (α × Ix l)} {A' B' : α × (Ix l × Fa)} (hA : RQ f A A') (hB : RQ f B B') : RQ f (if isW s k then A else B) (if okW f s k = true then A' else B') := by
  by_cases hf : f.code = 0
  · rw [okW_0 hf]
    by_cases h : isW s k = true
    · rw [if_pos h, if_pos h]; exact hA
    · rw [if_neg h, if_neg h]; exact hB
  · rw [okW_1 hf, if_neg ff]
    exact ⟨hB.1, fun h => absurd h hf⟩
theorem name_rq (k : Ix l) (f : Fa) : RQ f (nameP k) (nameQ k f) := by
  unfold nameP nameQ
  by_cases hf : f.code = 0
  · by_cases h : isNm k = true
    · have e : (decide (f.code = 0) && isNm k) = true := by simp [hf, h]
      rw [if_pos h, if_pos e]; exact .ok _ _
    · have e : ¬ (decide (f.code = 0) && isNm k) = true := by simp [h]
      rw [if_neg h, if_neg e]; exact .err _ k _
  · have e : ¬ (decide (f.code = 0) && isNm k) = true := by simp [hf]
    rw [if_neg e]; exact ⟨fun h => bad_1 h, fun h => absurd h hf⟩
theorem need_rq (s : ByteArray) (k : Ix l) (f : Fa) : RQ f (needP s k) ((), needQ s k f) := by
  unfold needP needQ
  by_cases hf : f.code = 0
  · rw [okM_0 hf]
    by_cases h : isM s k = true
    · rw [if_pos h, if_pos h, h]; exact .ok _ _
    · rw [if_neg h, if_neg h]; exact .err _ k _
  · rw [okM_1 hf, if_neg ff]; exact ⟨fun h => bad_1 h, fun h => absurd h hf⟩
theorem nameQ_adv (hl : Fine l) (k : Ix l) (f : Fa) : (f.code = 0 ∧ (nameQ k f).2.2 = f ∧ (nameQ k f).2.1.1 = k.1 + 1) ∨ ((nameQ k f).2.1 = k ∧ (nameQ k f).2.2.code ≠ 0) := by
  unfold nameQ
  by_cases h : (decide (f.code = 0) && isNm k) = true
  · rw [if_pos h]
    rw [Bool.and_eq_true] at h
    refine .inl ⟨of_decide_eq_true h.1, rfl, nx_val hl ?_⟩
    have := h.2
    simp [isNm] at this
    rw [this.1]; decide
  · rw [if_neg h]
    exact .inr ⟨rfl, bad_nz (by decide)⟩
theorem needQ_bad (s : ByteArray) (h : f.code ≠ 0) : (needQ s k f).2 = f := by
  unfold needQ
  rw [okM_1 h, if_neg ff]; exact bad_1 h
theorem RQ.bindK {sp : Except Fa (α × Ix l)} {t : α × (Ix l × Fa)} {g : α × Ix l → Except Fa (β × Ix l)} {u : α → Ix l → Fa → β × (Ix l × Fa)} (h : RQ f sp t) (hz : NZ l sp) (hk : ∀ v k, sp = .ok (v, k) → RQ f (g (v, k)) (u v k f)) (hb : ∀ v k f, f.code ≠ 0 → (u v k f).2.2 = f) : RQ f (sp >>= g) (u t.1 t.2.1 t.2.2) := by
  refine ⟨fun hf => ?_, fun hf => ?_⟩
  · rw [h.1 hf]
    exact hb _ _ f hf
  · have h2 := h.2 hf
    cases sp with
    | ok x =>
      have h2 : t = (x.1, (x.2, f)) := h2
      rw [h2]
      exact (hk x.1 x.2 rfl).2 hf
    | error e =>
      have h2 : t.2.2 = e := h2
      show (u t.1 t.2.1 t.2.2).2.2 = e
      rw [h2]
      exact hb _ _ e (hz e rfl).1
theorem isM_W {s t : ByteArray} (h : isM s k = true) : isW t k = false := by
  simp only [isM, isW, Bool.and_eq_true, decide_eq_true_eq] at h ⊢
  rw [h.1]; rfl
theorem isM_N {s : ByteArray} (h : isM s k = true) : isNm k = false := by
  simp only [isM, isNm, Bool.and_eq_true, decide_eq_true_eq] at h ⊢
  rw [h.1]; rfl
theorem isM_ne {s t : ByteArray} (h : isM s k = true) (hn : s ≠ t) : isM t k = false := by
  simp only [isM, Bool.and_eq_true, decide_eq_true_eq] at h ⊢
  rw [h.1, h.2, decide_eq_false hn]; rfl
theorem elem_rq (self : Bool) (n : NS) (k : Ix l) (f : Fa) : RQ f (elemP self true n k) (elemQ self n k f) := by
  unfold elemP elemQ
  refine RQ.iteM (.ok _ _) ?_
  by_cases hm : isM ⟨#[45]⟩ k = true
  · rw [isM_W hm, Bool.and_false, if_neg ff]
    simp only [Bool.true_and]
    by_cases hf : f.code = 0
    · rw [okM_0 hf, if_pos hm, if_pos hm]
      refine RQ.bind (t := nameQ (nx k) f) (u := fun v k f => ({ n with except := n.except ++ [v] }, (k, f))) (name_rq _ f) (name_nz _) fun v k f => ?_
      exact .ok _ _
    · rw [okM_1 hf, okW_1 hf, Bool.and_false]
      exact ⟨fun h => (name_rq k f).1 h, fun h => absurd h hf⟩
  · have hm2 : okM f ⟨#[45]⟩ k = false := by unfold okM; rw [Bool.eq_false_iff.2 hm]; simp
    simp only [Bool.true_and]
    rw [hm2, if_neg (show ¬ (false = true) by decide), if_neg hm]
    have hk : RQ f (nameP k >>= fun x => .ok ({ n with names := n.names ++ [x.1] }, x.2)) ({ n with names := n.names ++ [(nameQ k f).1] }, (nameQ k f).2) := by
      refine RQ.bind (t := nameQ k f) (u := fun v k f => ({ n with names := n.names ++ [v] }, (k, f))) (name_rq k f) (name_nz k) fun v k f => ?_
      exact .ok _ _
    cases self with
    | true => simp only [Bool.true_and]; exact RQ.iteW (.ok _ _) hk
    | false => simp only [Bool.false_and]; rw [if_neg ff, if_neg ff]; exact hk
theorem elemQ_adv (hl : Fine l) (self : Bool) (n : NS) (k : Ix l) (f : Fa) : ((f.code = 0 ∧ (elemQ self n k f).2.2 = f ∧ k.1 < (elemQ self n k f).2.1.1) ∨ (k.1 ≤ (elemQ self n k f).2.1.1 ∧ (elemQ self n k f).2.2.code ≠ 0)) ∧ (elemQ self n k f).1.names.length ≤ n.names.length + 1 ∧ (elemQ self n k f).1.except.length ≤ n.except.length + 1 := by
  unfold elemQ
  have hM : ∀ {s : ByteArray}, okM f s k = true → f.code = 0 ∧ (nx k).1 = k.1 + 1 := fun {s} h => by
    unfold okM at h
    rw [Bool.and_eq_true] at h
    exact ⟨of_decide_eq_true h.1, isM_adv hl h.2⟩
  split
  · rename_i h
    obtain ⟨h1, h2⟩ := hM h
    exact ⟨.inl ⟨h1, rfl, by dsimp only; omega⟩, by simp, by simp⟩
  · split
    · rename_i h
      obtain ⟨h1, h2⟩ := hM h
      refine ⟨?_, by simp, by simp⟩
      rcases nameQ_adv hl (nx k) f with ⟨a, b, c⟩ | ⟨a, b⟩
      · exact .inl ⟨h1, b, by dsimp only; omega⟩
      · exact .inr ⟨by dsimp only; rw [a]; omega, b⟩
    · split
      · rename_i h
        rw [Bool.and_eq_true] at h
        have h := h.2
        unfold okW at h
        rw [Bool.and_eq_true] at h
        have h2 := isW_adv hl h.2
        exact ⟨.inl ⟨of_decide_eq_true h.1, rfl, by dsimp only; omega⟩, by simp, by simp⟩
      · refine ⟨?_, by simp, by simp⟩
        rcases nameQ_adv hl k f with ⟨a, b, c⟩ | ⟨a, b⟩
        · exact .inl ⟨a, b, by dsimp only; omega⟩
        · exact .inr ⟨by dsimp only; rw [a]; exact Nat.le_refl _, b⟩
theorem setLQ_bad {self : Bool} {n : Nat} {s : NS} (h : f.code ≠ 0) : setLQ self n s k f = (s, (k, f)) := by
  cases n with
  | zero => rfl
  | succ n => rw [setLQ, if_neg (by simp [h])]
theorem setLQ_rq (hl : Fine l) (self : Bool) : ∀ (n : Nat) (s : NS) (k : Ix l) (f : Fa), l.length < n + k.1 → RQ f (setL self n s k) ((setLQ self n s k f).1, needQ ⟨#[125]⟩ (setLQ self n s k f).2.1 (setLQ self n s k f).2.2)
  | 0, _, k, _, h => absurd k.2 (by omega)
  | n + 1, s, k, f, h => by
    by_cases hf : f.code = 0
    · rw [setL, setLQ, okM_0 hf]
      by_cases hm : isM ⟨#[125]⟩ k = true
      · rw [if_pos hm, if_neg (by simp [hm])]
        have e : needQ ⟨#[125]⟩ k f = (nx k, f) := by unfold needQ; rw [okM_0 hf, hm, if_pos rfl]; rfl
        show RQ f _ (s, needQ _ k f)
        rw [e]; exact .ok _ _
      · rw [if_neg hm, if_pos (by simp [hf, hm])]
        have hn2 := (elem_rq self s k f).2 hf
        cases hp : elemP self true s k with
        | ok x =>
          rw [hp] at hn2
          have hn2 : elemQ self s k f = (x.1, (x.2, f)) := hn2
          rw [hn2]
          exact setLQ_rq hl self n _ x.2 f (by have := (elem_bound hl hp).1; omega)
        | error e =>
          rw [hp] at hn2
          have hn2 : (elemQ self s k f).2.2 = e := hn2
          have hz := (elem_nz self true s k e hp).1
          rw [hn2, setLQ_bad hz]
          refine ⟨fun h => absurd hf h, fun _ => ?_⟩
          exact needQ_bad _ hz
    · rw [setLQ_bad hf]
      exact ⟨fun _ => needQ_bad _ hf, fun h => absurd h hf⟩
theorem brace_rq (hl : Fine l) (self : Bool) (n : NS) (k : Ix l) (f : Fa) : RQ f (elemP self true n k >>= fun x => setL self (fuel l) x.1 x.2) (braceQ self n k f) := by
  have hn : l.length < fuel l := by unfold fuel; omega
  unfold braceQ braceQ2
  generalize fuel l = m at *
  refine RQ.bindK (t := elemQ self n k f) (u := fun v k f => ((setLQ self m v k f).1, needQ ⟨#[125]⟩ (setLQ self m v k f).2.1 (setLQ self m v k f).2.2)) (elem_rq self n k f) (elem_nz self true n k) (fun v k' _ => ?_) fun v k' f' h => ?_
  · exact setLQ_rq hl self _ _ _ _ (by omega)
  · show (needQ _ _ _).2 = f'
    rw [setLQ_bad h]; exact needQ_bad _ h
theorem elemQ_bad {self : Bool} {n : NS} (h : f.code ≠ 0) : (elemQ self n k f).2.2 = f := (elem_rq self n k f).1 h
theorem set_rq (hl : Fine l) (self : Bool) (k : Ix l) (f : Fa) : RQ f (setP self k) (setQ self k f) := by
  by_cases hf : f.code = 0
  · unfold setP setQ
    simp only [okM_0 hf, okN_0 hf]
    by_cases h1 : isM ⟨#[126]⟩ k = true
    · simp only [h1, adv, if_true]
      by_cases h2 : isNm (nx k) = true
      · have h3 : isM ⟨#[123]⟩ (nx k) = false := by
          cases h : isM ⟨#[123]⟩ (nx k) with
          | false => rfl
          | true => rw [isM_N h] at h2; cases h2
        simp only [h2, h3, if_true, Bool.false_eq_true, if_false]
        refine RQ.bind (t := nameQ (nx k) f) (u := fun v k f => ((⟨false, true, false, [v], []⟩ : NS), (k, f))) (name_rq (nx k) f) (name_nz _) fun v k f => ?_
        exact .ok _ _
      · rw [if_neg h2]
        by_cases h3 : isM ⟨#[123]⟩ (nx k) = true
        · simp only [h3, if_true]
          exact brace_rq hl self _ _ f
        · rw [if_neg h3, if_neg h3]
          have e : nameP (nx k) = .error (flt 9 (tk (nx k))) := by unfold nameP; rw [if_neg h2]
          rw [e]
          exact .err _ k _
    · have h1' : isM ⟨#[126]⟩ k = false := Bool.eq_false_iff.2 h1
      simp only [h1', adv, Bool.false_eq_true, if_false]
      by_cases h3 : isM ⟨#[123]⟩ k = true
      · simp only [h3, if_true]
        exact brace_rq hl self _ _ f
      · rw [if_neg h3, if_neg h3]
        by_cases h4 : isM ⟨#[45]⟩ k = true
        · rw [if_pos h4]
          have e : elemP self false (ns0 false) k = .error (flt 9 (tk k)) := by
            unfold elemP
            rw [isM_ne h4 (by decide), if_neg ff, isM_W h4, Bool.and_false, if_neg ff, Bool.false_and, if_neg ff]
            unfold nameP
            rw [isM_N h4, if_neg ff]; rfl
          rw [e]
          exact .err _ k _
        · rw [if_neg h4]
          have e : elemP self false (ns0 false) k = elemP self true (ns0 false) k := by
            unfold elemP
            rw [Bool.eq_false_iff.2 h4]; rfl
          rw [e]
          exact elem_rq self _ k f
  · refine ⟨fun _ => ?_, fun h => absurd h hf⟩
    unfold setQ
    simp only [okM_1 hf, Bool.false_eq_true, if_false]
    exact elemQ_bad hf
theorem span1_rq (k : Ix l) (f : Fa) : RQ f (spanP1 k) (spanQ1 k f) := by
  unfold spanP1 spanQ1
  refine RQ.bind (t := nameQ k f) (u := fun v k f => if okM f ⟨#[46]⟩ k = true then ((⟨v, (nameQ (nx k) f).1⟩ : Sp), (nameQ (nx k) f).2) else (⟨v, ⟨#[]⟩⟩, (k, f))) (name_rq k f) (name_nz k) fun v k f => ?_
  refine RQ.iteM ?_ ?_
  · refine RQ.bind (t := nameQ (nx k) f) (u := fun w k f => ((⟨v, w⟩ : Sp), (k, f))) (name_rq (nx k) f) (name_nz _) fun w k f => ?_
    exact .ok _ _
  · exact .ok _ _
theorem span1_adv (hl : Fine l) {k : Ix l} {x : Sp} {k' : Ix l} (h : spanP1 k = .ok (x, k')) : k.1 < k'.1 := by
  unfold spanP1 at h
  rcases hn : nameP k with e | ⟨s, k1⟩
  · rw [hn] at h; cases h
  · rw [hn] at h
    have h1 := (name_adv hl hn).2
    simp only [ok_bind] at h
    split at h
    · rename_i hd
      have h2 := isM_adv hl hd
      rcases hn2 : nameP (nx k1) with e | ⟨s2, k2⟩
      · rw [hn2] at h; cases h
      · rw [hn2] at h
        have h3 := (name_adv hl hn2).2
        injection h with h; injection h with _ h; subst h
        show k.1 < k2.1
        omega
    · injection h with h; injection h with _ h; subst h
      show k.1 < k1.1
      omega
theorem spanQ1_adv (hl : Fine l) (k : Ix l) (f : Fa) : k.1 ≤ (spanQ1 k f).2.1.1 := by
  have hn : ∀ (k : Ix l) (f : Fa), k.1 ≤ (nameQ k f).2.1.1 := fun k f => by
    rcases nameQ_adv hl k f with ⟨_, _, c⟩ | ⟨a, _⟩
    · omega
    · rw [a]; exact Nat.le_refl _
  unfold spanQ1
  split
  · exact Nat.le_trans (hn k f) (Nat.le_trans (nx_le _) (hn _ _))
  · exact hn k f
theorem levelLQ_rq (hl : Fine l) : ∀ (n : Nat) (v : Lv) (k : Ix l) (f : Fa), l.length < n + k.1 → RQ f (levelL n v k) (levelLQ n v k f)
  | 0, _, k, _, h => absurd k.2 (by omega)
  | n + 1, v, k, f, h => by
    rw [levelL, levelLQ]
    refine RQ.bindK (u := fun x k f => if okM f ⟨#[44]⟩ k = true then levelLQ n { v with cats := v.cats ++ [x] } (nx k) f else ({ v with cats := v.cats ++ [x] }, (k, f))) (span1_rq k f) (spanP1_nz k) (fun x k' hk => ?_) fun x k' f' h => ?_
    · have h1 := span1_adv hl hk
      refine RQ.iteM (levelLQ_rq hl n _ (nx k') f (by have := nx_le k'; omega)) (.ok _ _)
    · simp only [okM_1 h, Bool.false_eq_true, if_false]
theorem level_rq (hl : Fine l) (k : Ix l) (f : Fa) : RQ f (levelP k) (levelQ k f) := by
  have hn : l.length < fuel l := by unfold fuel; omega
  unfold levelP levelQ
  generalize fuel l = n at *
  refine RQ.bind (t := nameQ k f) (u := fun x k f => if okM f ⟨#[58]⟩ k = true then levelLQ n ⟨x, []⟩ (nx k) f else (⟨x, []⟩, (k, f))) (name_rq k f) (name_nz k) fun x k f => ?_
  exact RQ.iteM (levelLQ_rq hl _ _ _ _ (by omega)) (.ok _ _)
theorem range_rq (hl : Fine l) (k : Ix l) (f : Fa) : RQ f (rangeP k) (rangeQ k f) := by
  unfold rangeP rangeQ
  refine RQ.bind (t := levelQ k f) (u := fun x k f => rangeQ2 x k f) (level_rq hl k f) (level_nz k) fun x k f => ?_
  unfold rangeQ2
  refine RQ.iteM ?_ (.ok _ _)
  refine RQ.bind (t := levelQ (nx k) f) (u := fun y k f => ((⟨x, y⟩ : Rg), (k, f))) (level_rq hl (nx k) f) (level_nz _) fun y k f => ?_
  exact .ok _ _
theorem ctx4_rq (hl : Fine l) (u r t : ByteArray) (k : Ix l) (f : Fa) : RQ f (rangeP k >>= fun g => .ok (⟨u, r, t, g.1⟩, g.2)) (ctxQ4 u r t k f) := by
  unfold ctxQ4
  refine RQ.bind (t := rangeQ k f) (u := fun g k f => ((⟨u, r, t, g⟩ : Ct), (k, f))) (range_rq hl k f) (range_nz k) fun g k f => ?_
  exact .ok _ _
theorem ctx3_rq (hl : Fine l) (u r t : ByteArray) (k : Ix l) (f : Fa) : RQ f (needP ⟨#[58]⟩ k >>= fun c => rangeP c.2 >>= fun g => .ok (⟨u, r, t, g.1⟩, g.2)) (ctxQ3 u r t k f) := by
  unfold ctxQ3
  refine RQ.bind (t := ((), needQ ⟨#[58]⟩ k f)) (u := fun _ k f => ctxQ4 u r t k f) (need_rq _ k f) (need_nz _ k) fun _ k f => ?_
  exact ctx4_rq hl u r t k f
theorem ctx2_rq (hl : Fine l) (u r : ByteArray) (k : Ix l) (f : Fa) : RQ f (needP ⟨#[58]⟩ k >>= fun b => nameP b.2 >>= fun t => needP ⟨#[58]⟩ t.2 >>= fun c => rangeP c.2 >>= fun g => .ok (⟨u, r, t.1, g.1⟩, g.2)) (ctxQ2 u r k f) := by
  unfold ctxQ2
  refine RQ.bind (t := ((), needQ ⟨#[58]⟩ k f)) (u := fun _ k f => ctxQ3 u r (nameQ k f).1 (nameQ k f).2.1 (nameQ k f).2.2) (need_rq _ k f) (need_nz _ k) fun _ k f => ?_
  refine RQ.bind (t := nameQ k f) (u := fun t k f => ctxQ3 u r t k f) (name_rq k f) (name_nz k) fun t k f => ?_
  exact ctx3_rq hl u r t k f
theorem ctx1_rq (hl : Fine l) (u : ByteArray) (k : Ix l) (f : Fa) : RQ f (needP ⟨#[58]⟩ k >>= fun a => nameP a.2 >>= fun r => needP ⟨#[58]⟩ r.2 >>= fun b => nameP b.2 >>= fun t => needP ⟨#[58]⟩ t.2 >>= fun c => rangeP c.2 >>= fun g => .ok (⟨u, r.1, t.1, g.1⟩, g.2)) (ctxQ1 u k f) := by
  unfold ctxQ1
  refine RQ.bind (t := ((), needQ ⟨#[58]⟩ k f)) (u := fun _ k f => ctxQ2 u (nameQ k f).1 (nameQ k f).2.1 (nameQ k f).2.2) (need_rq _ k f) (need_nz _ k) fun _ k f => ?_
  refine RQ.bind (t := nameQ k f) (u := fun r k f => ctxQ2 u r k f) (name_rq k f) (name_nz k) fun r k f => ?_
  exact ctx2_rq hl u r k f
theorem context_rq (hl : Fine l) (k : Ix l) (f : Fa) : RQ f (contextP k) (contextQ k f) := by
  unfold contextP contextQ
  refine RQ.bind (t := nameQ k f) (u := fun u k f => ctxQ1 u k f) (name_rq k f) (name_nz k) fun u k f => ?_
  exact ctx1_rq hl u k f
end
end
end Am
end Go.Proofs.YtkpodagbefnebaaGreatDoor
