import Derived.Test.YtkpodagbefnebaaGreatDoorYd21
import Derived.Test.YtkpodagbefnebaaGreatDoorYd17
import Derived.Test.YtkpodagbefnebaaGreatDoorYd19
set_option linter.unusedSimpArgs false
set_option linter.unusedVariables false
set_option linter.unusedSectionVars false
namespace Go.Proofs.YtkpodagbefnebaaGreatDoor
namespace Am
open Tk Go.RowKit
set_option maxRecDepth 100000
set_option maxHeartbeats 1000000
def mkL : List (List UInt8) := [[123], [125], [40], [41], [59], [58], [44], [46], [45], [126], [42], [33], [61, 61], [33, 61], [38, 38], [124, 124], [94]]
theorem mkL_two (a b : UInt8) : mkL.contains [a, b] = marks2.contains [a, b] := by simp [mkL, marks2]
theorem mkL_one (a : UInt8) : mkL.contains [a] = marks1.contains a := by simp [mkL, marks1]
theorem inW_mk (l ws : List UInt8) (h : words [] ws = mkL) : inWords l ws = mkL.contains l := by
  unfold inWords
  rw [h]
  cases l with
  | nil => decide
  | cons => simp
abbrev mkS : ByteArray := ⟨#[123, 32, 125, 32, 40, 32, 41, 32, 59, 32, 58, 32, 44, 32, 46, 32, 45, 32, 126, 32, 42, 32, 33, 32, 61, 61, 32, 33, 61, 32, 38, 38, 32, 124, 124, 32, 94, 32]⟩
theorem within_p (s : ByteArray) : Pure Tryz.prog 123 [.c (sS s), .c (sS mkS)] (.c (sB (mkL.contains s.data.toList))) :=
  Pure.of_calls (vs := [.string s, .string mkS]) Tryz.call123 (.sc rfl) fun hs w => (within_any s mkS (by decide) w).mono fun e w' h => ⟨by rw [h.1, inW_mk _ _ (by kernel_rfl)], h.2⟩
section
variable {src : ByteArray} {k : Nat}
theorem numB_tw {l : List UInt8} {c : UInt8} (h0 : l.getD 0 0 = c) (hd : dgB c = true) (h9 : ¬ 9 < tw dgB l) : numB (l.take (tw dgB l)) = !(decide (1 < tw dgB l) && decide (bi c = 48)) := by
  have ht : l.take (tw dgB l) = l.takeWhile dgB := (List.prefix_iff_eq_take.1 (List.takeWhile_prefix dgB)).symm
  have ha : (l.takeWhile dgB).all dgB = true := List.all_takeWhile
  cases l with
  | nil => exfalso; have : c = 0 := h0.symm; subst this; exact absurd hd (by decide)
  | cons b l =>
    have : b = c := h0
    subst this
    rw [ht]
    have e : (b :: l).takeWhile dgB = b :: l.takeWhile dgB := by rw [List.takeWhile_cons, if_pos hd]
    have hn : tw dgB (b :: l) = (l.takeWhile dgB).length + 1 := by unfold tw; rw [e]; rfl
    unfold numB
    rw [ha, e]
    rw [hn] at h9 ⊢
    simp only [List.isEmpty_cons, Bool.not_false, Bool.true_and, Bool.and_true, List.length_cons, List.getD_cons_zero]
    rw [decide_eq_true (show (l.takeWhile dgB).length + 1 ≤ 9 by omega), Bool.true_and, Bool.not_and]
    congr 1
    rw [← decide_not, decide_eq_decide]; omega
def qonV (src : ByteArray) (k : Nat) (x y : Int) : V := match oneR (src.data.toList.drop k) with
  | .err c off => .tup [.c (sI x), .c (sI y), .c (sI c), .c (sI ((k + off : Nat) : Int))]
  | .ok kd n => .tup [.c (sI kd), .c (sI ((k + n : Nat) : Int)), .c (sI 0), .c (sI 0)]
theorem one_name (hs : src.size ≤ 65536) {c : UInt8} (hc : src.data.toList[k]? = some c) (hL : letB (bi c) = true) : ∃ x y, Pure Tryz.prog 60 [.c (sS src), .c (sI (k : Int))] (qonV src k x y) := by
  have p1 := qletter_p c
  have e1 : oneR (src.data.toList.drop k) = nameR (src.data.toList.drop k) := by unfold oneR; rw [getD_at hc, if_pos hL]
  have en := qend_p (q := nmB) hs hc (.inl ⟨hL, rfl⟩)
  have hk := at_size hc
  have ht := tw_in (k := k) nmB (Nat.le_of_lt hk)
  rw [hL] at p1
  refine ⟨0, 0, ?_⟩
  unfold qonV
  rw [e1]
  unfold nameR
  clear e1
  generalize tw nmB (src.data.toList.drop k) = n at *
  have HC := Lib.hid hc
  by_cases h32 : 32 < n
  · rw [if_pos h32]
    dsimp only
    refine fn2 (fn := Tryz.f60) Tryz.call60 Tryz.func60 rfl Tryz.ntmps60 Tryz.results60 rfl (by rfl) ?_
    repeat' (first | (with_reducible first | apply AW.seq | apply AW.block | apply AW.skip | apply AW.ret | apply q_then | apply q_thenR | apply q_bloR | apply y_e | refine v_rgl ?_) | ((with_reducible apply i_dv); first | refine t_v AS.v ?_ | refine t_v (by first | exact u_call (hP := p1) | exact u_call (hP := en)) ?_) | ((with_reducible refine i_aw ?_); first | refine v_yes ?_ | (refine v_cond (fun hc => ?_) (fun hc => ?_); all_goals (try (exfalso; revert hc; simp; omega)))) | ((with_reducible refine i_rt ?_); (((refine k_4 ?_ ?_ ?_ ?_); all_goals (with_reducible (apply un_i))))) | fail)
    all_goals rfl
  · rw [if_neg h32]
    dsimp only
    refine fn2 (fn := Tryz.f60) Tryz.call60 Tryz.func60 rfl Tryz.ntmps60 Tryz.results60 rfl (by rfl) ?_
    repeat' (first | (with_reducible first | apply AW.seq | apply AW.block | apply AW.skip | apply AW.ret | apply q_then | apply q_thenR | apply q_bloR | apply y_e | refine v_rgl ?_) | ((with_reducible apply i_dv); first | refine t_v AS.v ?_ | refine t_v (by first | exact u_call (hP := p1) | exact u_call (hP := en)) ?_) | ((with_reducible refine i_aw ?_); first | refine v_yes ?_ | (refine v_cond (fun hc => ?_) (fun hc => ?_); all_goals (try (exfalso; revert hc; simp; omega)))) | ((with_reducible refine i_rt ?_); (((refine k_4 ?_ ?_ ?_ ?_); all_goals (with_reducible (apply un_i))))) | fail)
    all_goals rfl
theorem one_num (hs : src.size ≤ 65536) {c : UInt8} (hc : src.data.toList[k]? = some c) (hL : letB (bi c) = false) (hD : dgB c = true) : ∃ x y, Pure Tryz.prog 60 [.c (sS src), .c (sI (k : Int))] (qonV src k x y) := by
  have p1 := qletter_p c
  have p2 := qdigit_p c
  have e1 : oneR (src.data.toList.drop k) = numR (src.data.toList.drop k) := by unfold oneR; rw [getD_at hc, if_neg (by rw [hL]; decide), if_pos (show digB (bi c) = true from hD)]
  have en := qend_p (q := dgB) hs hc (.inr ⟨hL, rfl⟩)
  have hk := at_size hc
  have ht := tw_in (k := k) dgB (Nat.le_of_lt hk)
  have nb := fun h => numB_tw (l := src.data.toList.drop k) (getD_at hc) hD h
  have nu := qnumber_p (src.extract k (k + tw dgB (src.data.toList.drop k))) (by rw [ByteArray.size_extract]; omega)
  rw [extract_list _ _ _ ht, Nat.add_sub_cancel_left] at nu
  rw [hL] at p1
  rw [hD] at p2
  refine ⟨0, 0, ?_⟩
  unfold qonV
  rw [e1]
  unfold numR
  rw [getD_at hc]
  clear e1
  generalize numB ((src.data.toList.drop k).take (tw dgB (src.data.toList.drop k))) = v at *
  generalize tw dgB (src.data.toList.drop k) = n at *
  by_cases h9 : 9 < n
  · rw [if_pos h9]
    dsimp only
    clear nb
    refine fn2 (fn := Tryz.f60) Tryz.call60 Tryz.func60 rfl Tryz.ntmps60 Tryz.results60 rfl (by rfl) ?_
    repeat' (first | (with_reducible first | apply AW.seq | apply AW.block | apply AW.ret | apply q_then | apply q_thenR | apply q_bloR | apply y_e | refine v_rgl ?_) | ((with_reducible apply i_dv); first | refine t_v AS.v ?_ | refine t_v (by first | exact u_call (hP := p1) | exact u_call (hP := p2) | exact u_call (hP := en)) ?_) | ((with_reducible refine i_aw ?_); first | refine v_yes ?_ | refine v_no ?_ | (refine v_cond (fun hc => ?_) (fun hc => ?_); all_goals (try (exfalso; revert hc; simp; omega)))) | ((with_reducible refine i_rt ?_); (((refine k_4 ?_ ?_ ?_ ?_); all_goals (with_reducible (apply un_i))))) | fail)
    all_goals rfl
  · rw [if_neg h9]
    have nb := nb h9
    subst nb
    by_cases h1 : 1 < n ∧ bi c = 48
    · rw [if_pos h1]
      rw [decide_eq_true h1.1, decide_eq_true h1.2] at nu
      dsimp only
      refine fn2 (fn := Tryz.f60) Tryz.call60 Tryz.func60 rfl Tryz.ntmps60 Tryz.results60 rfl (by rfl) ?_
      repeat' (first | (with_reducible first | apply AW.seq | apply AW.block | apply AW.skip | apply AW.ret | apply q_then | apply q_thenR | apply q_bloR | apply y_e | refine v_rgl ?_) | ((with_reducible apply i_dv); first | refine t_v AS.v ?_ | refine t_v (by first | exact u_call (hP := p1) | exact u_call (hP := p2) | exact u_call (hP := en) | exact u_call (hP := nu)) ?_) | ((with_reducible refine i_aw ?_); first | refine v_yes ?_ | refine v_no ?_ | (refine v_cond (fun hc => ?_) (fun hc => ?_); all_goals (try (exfalso; revert hc; simp; omega)))) | ((with_reducible refine i_rt ?_); (((refine k_4 ?_ ?_ ?_ ?_); all_goals (with_reducible (apply un_i))))) | fail)
      all_goals rfl
    · rw [if_neg h1]
      rw [← Bool.decide_and, decide_eq_false h1] at nu
      dsimp only
      refine fn2 (fn := Tryz.f60) Tryz.call60 Tryz.func60 rfl Tryz.ntmps60 Tryz.results60 rfl (by rfl) ?_
      repeat' (first | (with_reducible first | apply AW.seq | apply AW.block | apply AW.skip | apply AW.ret | apply q_then | apply q_thenR | apply q_bloR | apply y_e | refine v_rgl ?_) | ((with_reducible apply i_dv); first | refine t_v AS.v ?_ | refine t_v (by first | exact u_call (hP := p1) | exact u_call (hP := p2) | exact u_call (hP := en) | exact u_call (hP := nu)) ?_) | ((with_reducible refine i_aw ?_); first | refine v_yes ?_ | refine v_no ?_ | (refine v_cond (fun hc => ?_) (fun hc => ?_); all_goals (try (exfalso; revert hc; simp; omega)))) | ((with_reducible refine i_rt ?_); (((refine k_4 ?_ ?_ ?_ ?_); all_goals (with_reducible (apply un_i))))) | fail)
      all_goals rfl
theorem one_text (hs : src.size ≤ 65536) {c : UInt8} (hc : src.data.toList[k]? = some c) (hL : letB (bi c) = false) (hD : dgB c = false) (hq : bi c = 34) : ∃ x y, Pure Tryz.prog 60 [.c (sS src), .c (sI (k : Int))] (qonV src k x y) := by
  have p1 := qletter_p c
  have p2 := qdigit_p c
  have e1 : oneR (src.data.toList.drop k) = textR (src.data.toList.drop k) := by unfold oneR; rw [getD_at hc, if_neg (by rw [hL]; decide), if_neg (by show ¬ dgB c = true; rw [hD]; decide), if_pos hq]
  have tx := qtext_p hs (at_size hc)
  rw [hL] at p1
  rw [hD] at p2
  refine ⟨3, 0, ?_⟩
  unfold qonV
  rw [e1]
  unfold qtxV at tx
  have hk3 : ∀ kd n, textR (src.data.toList.drop k) = .ok kd n → kd = 3 := fun kd n h => by
    unfold textR at h
    split at h
    · cases h
    · split at h
      · cases h
      · split at h
        · cases h
        · injection h with h _; exact h.symm
  have hq : (c.toNat : Int) = 34 := hq
  cases hT : textR (src.data.toList.drop k) with
  | err e off =>
    rw [hT] at tx
    dsimp only at tx ⊢
    clear hT e1 hk3
    refine fn2 (fn := Tryz.f60) Tryz.call60 Tryz.func60 rfl Tryz.ntmps60 Tryz.results60 rfl (by rfl) ?_
    repeat' (first | (with_reducible first | apply AW.seq | apply AW.block | apply AW.ret | apply q_then | apply q_thenR | apply q_bloR | apply y_e | refine v_rgl ?_) | ((with_reducible apply i_dv); first | refine t_v AS.v ?_ | refine t_v (by first | exact u_call (hP := p1) | exact u_call (hP := p2) | exact u_call (hP := tx)) ?_) | ((with_reducible refine i_aw ?_); first | refine v_no ?_ | (refine v_cond (fun hc => ?_) (fun hc => ?_); all_goals (try (exfalso; simp [*] at hc; done)))) | ((with_reducible refine i_rt ?_); (((refine k_4 ?_ ?_ ?_ ?_); all_goals (with_reducible (apply un_i))))) | fail)
    all_goals first | rfl | omega
  | ok kd n =>
    rw [hT] at tx
    obtain rfl := hk3 kd n hT
    dsimp only at tx ⊢
    clear hT e1 hk3
    refine fn2 (fn := Tryz.f60) Tryz.call60 Tryz.func60 rfl Tryz.ntmps60 Tryz.results60 rfl (by rfl) ?_
    repeat' (first | (with_reducible first | apply AW.seq | apply AW.block | apply AW.ret | apply q_then | apply q_thenR | apply q_bloR | apply y_e | refine v_rgl ?_) | ((with_reducible apply i_dv); first | refine t_v AS.v ?_ | refine t_v (by first | exact u_call (hP := p1) | exact u_call (hP := p2) | exact u_call (hP := tx)) ?_) | ((with_reducible refine i_aw ?_); first | refine v_no ?_ | (refine v_cond (fun hc => ?_) (fun hc => ?_); all_goals (try (exfalso; simp [*] at hc; done)))) | ((with_reducible refine i_rt ?_); (((refine k_4 ?_ ?_ ?_ ?_); all_goals (with_reducible (apply un_i))))) | fail)
    all_goals rfl
theorem m2_short (h : ¬ k + 2 ≤ src.size) : marks2.contains ((src.data.toList.drop k).take 2) = false := by
  have hl : ((src.data.toList.drop k).take 2).length ≤ 1 := by rw [List.length_take, List.length_drop, ← sz_len]; omega
  generalize (src.data.toList.drop k).take 2 = l at hl
  match l, hl with
  | [], _ => rfl
  | [a], _ => simp [marks2]
theorem one_mark (hs : src.size ≤ 65536) {c : UInt8} (hc : src.data.toList[k]? = some c) (hL : letB (bi c) = false) (hD : dgB c = false) (hq : ¬ bi c = 34) : ∃ x y, Pure Tryz.prog 60 [.c (sS src), .c (sI (k : Int))] (qonV src k x y) := by
  have p1 := qletter_p c
  have p2 := qdigit_p c
  have hk := at_size hc
  have e1 : oneR (src.data.toList.drop k) = markR (src.data.toList.drop k) := by unfold oneR; rw [getD_at hc, if_neg (by rw [hL]; decide), if_neg (by show ¬ dgB c = true; rw [hD]; decide), if_neg hq]
  obtain ⟨h1, h2⟩ := List.getElem?_eq_some_iff.1 hc
  have hdr : src.data.toList.drop k = c :: src.data.toList.drop (k + 1) := by rw [List.drop_eq_getElem_cons h1, h2]
  have w1 := within_p (src.extract k (k + 1))
  rw [extract_list _ _ _ (show k + 1 ≤ src.size from hk), Nat.add_sub_cancel_left, hdr, show (c :: src.data.toList.drop (k + 1)).take 1 = [c] from rfl, mkL_one] at w1
  have w2 : k + 2 ≤ src.size → Pure Tryz.prog 123 [.c (sS (src.extract k (k + 2))), .c (sS mkS)] (.c (sB (marks2.contains ((src.data.toList.drop k).take 2)))) := fun h => by
    have w := within_p (src.extract k (k + 2))
    rw [extract_list _ _ _ h, Nat.add_sub_cancel_left] at w
    have hk1 : k + 1 < src.data.toList.length := by rw [← sz_len]; omega
    rw [hdr, List.drop_eq_getElem_cons hk1] at w ⊢
    rw [show ∀ a b (l : List UInt8), (a :: b :: l).take 2 = [a, b] from fun _ _ _ => rfl] at w ⊢
    rwa [mkL_two] at w
  have hm : markN (src.data.toList.drop k) = if marks2.contains ((src.data.toList.drop k).take 2) = true then 2 else if marks1.contains c = true then 1 else 0 := by unfold markN; rw [hdr]
  have sh := m2_short (src := src) (k := k)
  rw [hL] at p1
  rw [hD] at p2
  refine ⟨0, 0, ?_⟩
  unfold qonV
  rw [e1]
  unfold markR
  rw [hm]
  clear e1 hm hdr h1 h2
  generalize marks2.contains ((src.data.toList.drop k).take 2) = b2 at *
  generalize marks1.contains c = b1 at *
  have hq : ¬ (c.toNat : Int) = 34 := hq
  obtain ⟨r, hr⟩ : ∃ r : V, r = if b2 = true then .tup [.c (sI 4), .c (sI ((k + 2 : Nat) : Int)), .c (sI 0), .c (sI 0)] else if b1 = true then .tup [.c (sI 4), .c (sI ((k + 1 : Nat) : Int)), .c (sI 0), .c (sI 0)] else .tup [.c (sI 0), .c (sI 0), .c (sI 9), .c (sI (k : Int))] := ⟨_, rfl⟩
  have hR : V.ok noN r = true := by rw [hr]; split <;> (try split) <;> rfl
  have e : (match (if (if b2 = true then 2 else if b1 = true then 1 else 0) = 0 then Res.err 9 0 else Res.ok 4 (if b2 = true then 2 else if b1 = true then 1 else 0)) with
    | .err c off => (.tup [.c (sI 0), .c (sI 0), .c (sI c), .c (sI ((k + off : Nat) : Int))] : V)
    | .ok kd n => .tup [.c (sI kd), .c (sI ((k + n : Nat) : Int)), .c (sI 0), .c (sI 0)]) = r := by
    rw [hr]
    cases b2 <;> cases b1 <;> rfl
  rw [e]
  clear e
  refine fn2 (fn := Tryz.f60) Tryz.call60 Tryz.func60 rfl Tryz.ntmps60 Tryz.results60 rfl hR ?_
  repeat' (first | (with_reducible first | apply AW.seq | apply AW.block | apply AW.skip | apply q_then | apply q_bloN | apply y_e | refine v_rgl ?_) | ((with_reducible apply i_dv); first | refine t_v AS.v ?_ | refine t_v (by first | exact u_call (hP := p1) | exact u_call (hP := p2)) ?_) | ((with_reducible refine i_aw ?_); first | refine v_no ?_ | (refine v_cond (fun hc => ?_) (fun hc => ?_); all_goals (try (exfalso; simp [*] at hc; done)))) | fail)
  refine AW.loop (fun z σ => ∃ m : Nat, z = m ∧ m ≤ 2 ∧ (m < 2 → b2 = false) ∧ (m < 1 → b1 = false) ∧ σ = mk [(0, .c (sS src)), (1, .c (sI (k : Int))), (14, .c (sI (m : Int)))] []) 2 ?_ ?_
  · exact ⟨_, wk_mk (by (repeat (first | exact all_nil | ((refine all_cons ⟨_, rfl, .inl rfl, ?_⟩ ?_); (· (rfl))))); done) (by (repeat (exact all_nil)); done) (by rfl), 2, rfl, Nat.le_refl _, fun h => absurd h (by decide), fun h => absurd h (by decide), rfl⟩
  rintro z σ ⟨m, rfl, hm2, hb2, hb1, rfl⟩
  clear hc p1 p2
  rcases (by omega : z = 0 ∨ z = 1 ∨ z = 2) with rfl | rfl | rfl
  · have hb2 := hb2 (by decide)
    have hb1 := hb1 (by decide)
    subst hb2 hb1
    repeat' (first | (with_reducible first | apply AW.seq | apply AW.block | apply AW.skip | apply AW.ret | apply AW.exit | apply q_then | apply q_thenE | apply q_bloN | apply q_bloE | apply y_e | refine v_rgl ?_) | ((with_reducible apply i_dv); refine t_v AS.v ?_) | ((with_reducible apply i_dg); refine t_f ?_) | ((with_reducible refine i_aw ?_); first | refine v_yes ?_ | refine v_no ?_) | fail)
    rw [hr, if_neg (by decide), if_neg (by decide)]
    exact k_4 rfl rfl rfl rfl
  · have hb2 := hb2 (by decide)
    subst hb2
    clear w2
    repeat' (first | (with_reducible first | apply AW.seq | apply AW.block | apply AW.skip | apply AW.ret | apply q_then | apply q_thenR | apply q_bloN | apply q_bloR | apply y_e | refine v_rgl ?_) | ((with_reducible apply i_dv); refine t_v AS.v ?_) | ((with_reducible apply i_dg); first | refine t_m (hs := fun hg => AS.v) (k := ?_) | refine t_m (hs := fun hg => (by exact u_call (hP := w1))) (k := ?_)) | ((with_reducible refine i_aw ?_); first | refine v_yes ?_ | (refine v_cond (fun hc => ?_) (fun hc => ?_))) | fail)
    · have h := ((Bool.and_eq_true _ _).mp hc).2
      rw [hr, if_neg (by decide), if_pos h]
      exact k_4 rfl rfl rfl rfl
    · rw [decide_eq_true (show (k : Int) + ((1 : Nat) : Int) ≤ src.size by omega), Bool.true_and] at hc
      exact ⟨0, _, by decide, wk_mk (by (repeat (first | exact all_nil | ((refine all_cons ⟨_, rfl, .inl rfl, ?_⟩ ?_); (· (rfl))))); done) (by (repeat (exact all_nil)); done) (by rfl), 0, rfl, by decide, fun _ => rfl, fun _ => hc, rfl⟩
  · by_cases h2 : k + 2 ≤ src.size
    · have w2 := w2 h2
      repeat' (first | (with_reducible first | apply AW.seq | apply AW.block | apply AW.skip | apply AW.ret | apply q_then | apply q_thenR | apply q_bloN | apply q_bloR | apply y_e | refine v_rgl ?_) | ((with_reducible apply i_dv); refine t_v AS.v ?_) | ((with_reducible apply i_dg); first | refine t_m (hs := fun hg => AS.v) (k := ?_) | refine t_m (hs := fun hg => (by exact u_call (hP := w2))) (k := ?_)) | ((with_reducible refine i_aw ?_); first | refine v_yes ?_ | (refine v_cond (fun hc => ?_) (fun hc => ?_))) | fail)
      · have h := ((Bool.and_eq_true _ _).mp hc).2
        rw [hr, if_pos h]
        exact k_4 rfl rfl rfl rfl
      · rw [decide_eq_true (show (k : Int) + ((2 : Nat) : Int) ≤ src.size by omega), Bool.true_and] at hc
        exact ⟨1, _, by decide, wk_mk (by (repeat (first | exact all_nil | ((refine all_cons ⟨_, rfl, .inl rfl, ?_⟩ ?_); (· (rfl))))); done) (by (repeat (exact all_nil)); done) (by rfl), 1, rfl, by decide, fun _ => hc, fun h => absurd h (by decide), rfl⟩
    · have hb := sh h2
      subst hb
      have hI : ¬ ((k : Int) + 2 ≤ src.size) := by omega
      repeat' (first | (with_reducible first | apply AW.seq | apply AW.block | apply AW.skip | apply AW.ret | apply AW.exit | apply q_then | apply q_thenE | apply q_bloN | apply q_bloE | apply y_e | refine v_rgl ?_) | ((with_reducible apply i_dv); refine t_v AS.v ?_) | ((with_reducible apply i_dg); refine t_f ?_) | ((with_reducible refine i_aw ?_); first | refine v_yes ?_ | refine v_no ?_) | fail)
      exact ⟨1, _, by decide, wk_mk (by (repeat (first | exact all_nil | ((refine all_cons ⟨_, rfl, .inl rfl, ?_⟩ ?_); (· (rfl))))); done) (by (repeat (exact all_nil)); done) (by rfl), 1, rfl, by decide, fun _ => rfl, fun h => absurd h (by decide), rfl⟩
theorem qone_p (hs : src.size ≤ 65536) (hk : k < src.size) : ∃ x y, Pure Tryz.prog 60 [.c (sS src), .c (sI (k : Int))] (qonV src k x y) := by
  obtain ⟨c, hc⟩ := get_at hk
  cases hL : letB (bi c) with
  | true => exact one_name hs hc hL
  | false =>
    cases hD : dgB c with
    | true => exact one_num hs hc hL hD
    | false =>
      by_cases hq : bi c = 34
      · exact one_text hs hc hL hD hq
      · exact one_mark hs hc hL hD hq
end
end Am
namespace Am
open Tk Go.RowKit
set_option maxRecDepth 100000
set_option maxHeartbeats 2000000
section
variable {ρ : Operand → Option V} {H : Nat → Option HO} {d : Option Nat} {ty : TypeId} {pos : String} {af : Array Edge} {gu : Option (Nat × Bool)} {x lo hi : Operand}
theorem u_subq {s : ByteArray} {j n : Nat} (hx : Ev ρ x (.c (.sc (.string s))) := by exact .pl rfl) (hlo : Ev ρ lo (.c (.sc (.int .i64 ((j : Int) + 1)))) := by exact .pl rfl) (hhi : Ev ρ hi (.c (.sc (.int .i64 (((j + n : Nat) : Int) - 1)))) := by exact .pl rfl) (h2 : 2 ≤ n := by assumption) (hn : n ≤ s.size - j := by assumption) (hs : s.size ≤ 65536 := by assumption) : AS Tryz.prog ρ H ⟨d, .slice 9 x (some lo) (some hi) none, ty, pos, af, gu⟩ ⟨.c (.sc (.string (s.extract (j + 1) (j + n - 1)))), [], []⟩ :=
  a_substr (i := j + 1) (j := j + n - 1) hx hlo hhi rfl (by omega) (by omega) (by omega) (by omega)
end
theorem qoneR_off {l : List UInt8} {c : Int} {off : Nat} (h : oneR l = .err c off) : off ≤ l.length := by
  unfold oneR at h
  split at h
  · unfold nameR at h; split at h
    · injection h with _ h; omega
    · cases h
  · split at h
    · unfold numR at h; split at h
      · injection h with _ h; omega
      · split at h
        · injection h with _ h; omega
        · cases h
    · split at h
      · unfold textR at h; split at h
        · injection h with _ h; omega
        · rename_i h1
          rw [List.length_drop] at h1
          split at h
          · injection h with _ h; omega
          · split at h
            · injection h with _ h; omega
            · cases h
      · unfold markR at h; split at h
        · injection h with _ h; omega
        · cases h
theorem oneR_q {l : List UInt8} {n : Nat} (h : oneR l = .ok 3 n) : 2 ≤ n := by
  unfold oneR at h
  split at h
  · unfold nameR at h; split at h
    · cases h
    · injection h with h _; exact absurd h (by decide)
  · split at h
    · unfold numR at h; split at h
      · cases h
      · split at h
        · cases h
        · injection h with h _; exact absurd h (by decide)
    · split at h
      · unfold textR at h; split at h
        · cases h
        · split at h
          · cases h
          · split at h
            · cases h
            · injection h with _ h; omega
      · unfold markR at h; split at h
        · cases h
        · injection h with h _; exact absurd h (by decide)
theorem qscan_p (src : ByteArray) : Pure Tryz.prog 18 [.c (sS src)] (scnV (scanP src)) := by
  by_cases hs : 65536 < src.size
  · have e : scanP src = .error (fl0 4 ⟨0, 0⟩) := if_pos hs
    rw [e]
    clear e
    show Pure _ _ _ (.tup [.c .nil, .agg (faC (fl0 4 ⟨0, 0⟩))])
    refine fn1 (fn := Tryz.f18) Tryz.call18 Tryz.func18 rfl Tryz.ntmps18 Tryz.results18 rfl (by rfl) ?_
    refine AW.fact (t := 0) rfl (fun κ w x hr => repV_s hr) fun hn => ?_
    have hI : (65536 : Int) < src.size := by omega
    repeat' (first | (with_reducible first | apply AW.seq | apply AW.ret | apply q_then | apply q_thenR | apply y_e | refine v_rgl ?_) | ((with_reducible apply i_dv); first | refine t_v AS.v ?_ | refine t_w AS.w ?_) | ((with_reducible apply i_ds); refine t_s AS.s ?_) | ((with_reducible refine i_aw ?_); ((refine v_cond (fun hc => ?_) (fun hc => ?_); all_goals (try (exfalso; simp [*] at hc; done))))) | fail)
    exact k_2c rfl (un_af _)
  · have e : scanP src = scanF src (src.size + 1) 0 := if_neg hs
    rw [e]
    clear e
    have hs : src.size ≤ 65536 := by omega
    generalize hsp : scanF src (src.size + 1) 0 = sp
    have hR : V.ok noN (scnV sp) = true := by cases sp <;> simp [scnV, V.ok, okV, okA, C.ok]
    have HSP := Lib.hid hsp
    clear hsp
    have sk0 := qskip_p (k := 0) hs (Nat.zero_le _)
    refine fn1 (fn := Tryz.f18) Tryz.call18 Tryz.func18 rfl Tryz.ntmps18 Tryz.results18 rfl hR ?_
    have hI : ¬ (65536 : Int) < src.size := by omega
    repeat' (first | (with_reducible first | apply AW.seq | apply AW.block | apply AW.skip | apply q_then | apply y_e | refine v_rgl ?_) | ((with_reducible apply i_dv); first | refine t_v AS.v ?_ | refine t_v (by exact u_call (hP := sk0)) ?_ | refine t_w AS.w ?_) | ((with_reducible refine i_aw ?_); ((refine v_cond (fun hc => ?_) (fun hc => ?_); all_goals (try (exfalso; simp [*] at hc; done))))) | fail)
    refine nilRowG tkC 4 1002 99 4 rfl rfl ?_
    refine AW.loop (fun m σ => ∃ (k : Nat) (acc : List Tok), k ≤ src.size ∧ acc.length ≤ k ∧ src.size < k + m ∧ Hid ((scanF src m k >>= fun ts => .ok (acc ++ ts)) = sp) ∧ σ = mk [(4, .c (.lst (some 1002) 4 (acc.map tkC))), (5, .c (sI ((k + skipL false (src.data.toList.drop k) : Nat) : Int))), (3, .c (.ptr 3 0)), (2, .c .nil), (0, .c (sS src))] [(1002, .row 99 4 acc.length), (3, .obj 30 (faC Fa.zero))]) (src.size + 1) ?_ ?_
    · exact ⟨_, wk_mk (by (repeat (first | exact all_nil | ((refine all_cons ⟨_, rfl, .inl rfl, ?_⟩ ?_); (· (rfl))))); done) (by (repeat (first | exact all_nil | ((refine all_cons ⟨_, rfl, .inl rfl, ?_⟩ ?_); (· (rfl))))); done) (by rfl), 0, [], Nat.zero_le _, Nat.zero_le _, by omega, Lib.hid (by rw [HSP.out]; cases sp <;> rfl), rfl⟩
    clear HSP sk0
    rintro m σ ⟨k, acc, hk, ha, hm, HS, rfl⟩
    have hSK := Tk.skipL_le false (src.data.toList.drop k)
    rw [List.length_drop, ← sz_len] at hSK
    obtain ⟨m, rfl⟩ : ∃ n, m = n + 1 := ⟨m - 1, by omega⟩
    have hsp := HS.out
    clear HS
    rw [scanF] at hsp
    generalize hj : k + skipL false (src.data.toList.drop k) = j at *
    have hj2 : k ≤ j ∧ j ≤ src.size := by omega
    clear hSK hj
    by_cases hlt : src.size ≤ j
    · have ej : j = src.size := by omega
      subst ej
      rw [if_pos (Nat.le_refl _), ok_bind] at hsp
      subst hsp
      have lo := qloc_p (k := src.size) hs (Nat.le_refl _)
      repeat' (first | (with_reducible first | apply AW.seq | apply AW.ret | apply AW.exit | apply q_then | apply q_thenE | apply q_bloE | apply y_e | refine v_rgl ?_) | ((with_reducible apply i_dv); first | refine t_v AS.v ?_ | refine t_v (by exact u_call (hP := lo)) ?_ | refine t_w AS.w ?_) | ((with_reducible apply i_ds); refine t_s AS.s ?_) | ((with_reducible refine i_aw ?_); ((refine v_cond (fun hc => ?_) (fun hc => ?_); all_goals (try (exfalso; simp [*] at hc; done))))) | fail)
      exact k_2c (un_lt _ _) (un_af _)
    · rw [if_neg hlt] at hsp
      obtain ⟨x, y, one⟩ := qone_p (k := j) hs (by omega)
      unfold qonV at one
      cases ho : oneR (src.data.toList.drop j) with
      | err c off =>
        rw [ho] at hsp one
        have hsp : (.error (fl0 c (locP src.data.toList (j + off))) : Except Fa (List Tok)) = sp := hsp
        subst hsp
        dsimp only at one
        have h0 := oneR_err0 ho
        have lo := qloc_p (k := j + off) hs (by have := qoneR_off ho; rw [List.length_drop, ← sz_len] at this; omega)
        clear ho
        repeat' (first | (with_reducible first | apply AW.seq | apply AW.block | apply AW.skip | apply AW.ret | apply q_then | apply q_thenR | apply q_bloR | apply y_e | refine v_rgl ?_) | ((with_reducible apply i_dv); first | refine t_v AS.v ?_ | refine t_v (by first | exact u_call (hP := one) | exact u_call (hP := lo)) ?_) | ((with_reducible apply i_ds); refine t_s AS.s ?_) | ((with_reducible refine i_aw ?_); ((refine v_cond (fun hc => ?_) (fun hc => ?_); all_goals (try (exfalso; simp [*] at hc; done))))) | fail)
        exact k_2c rfl (un_af _)
      | ok kd n =>
        rw [ho] at hsp one
        simp only [app_sp] at hsp
        dsimp only at one
        obtain ⟨h1, h2⟩ := oneR_ok _ _ _ (by rw [List.length_drop, ← sz_len]; omega) ho
        rw [List.length_drop, ← sz_len] at h2
        have lo := qloc_p (k := j) hs (by omega)
        have sk := qskip_p (k := j + n) hs (by omega)
        by_cases hk3 : kd = 3
        · subst hk3
          have hq := oneR_q ho
          rw [show tokT src j 3 n = src.extract (j + 1) (j + n - 1) from if_pos rfl] at hsp
          have HS := Lib.hid hsp
          clear ho hsp
          repeat' (first | (with_reducible first | apply AW.seq | apply AW.block | apply AW.skip | apply q_then | apply q_bloN | apply y_e | refine v_rgl ?_ | refine v_drb ?_) | ((with_reducible apply i_dv); first | refine t_v AS.v ?_ | refine t_v (by first | exact u_call (hP := one) | exact u_call (hP := lo) | exact u_call (hP := sk) | exact u_subq) ?_ | refine t_w AS.w ?_) | ((with_reducible apply i_ds); refine t_s AS.s ?_) | ((with_reducible refine i_aw ?_); first | refine v_yes ?_ | refine v_no ?_ | (refine v_cond (fun hc => ?_) (fun hc => ?_); all_goals (try (exfalso; simp [*] at hc; done)))) | (refine ⟨by decide +kernel, ?_⟩) | fail)
          exact ⟨m, _, Nat.lt_succ_self m, wk_mk (by (repeat (first | exact all_nil | ((refine all_cons ⟨_, rfl, .inl rfl, ?_⟩ ?_); (· (first | rfl | exact ok_tks _ _ rfl))))); done) (by (repeat (first | exact all_nil | ((refine all_cons ⟨_, rfl, .inl rfl, ?_⟩ ?_); (· (rfl))))); done) (by rfl), j + n, acc ++ [⟨3, src.extract (j + 1) (j + n - 1), locP src.data.toList j⟩], by omega, by simp; omega, by omega, HS, rfl⟩
        · rw [show tokT src j kd n = src.extract j (j + n) from if_neg hk3] at hsp
          have HS := Lib.hid hsp
          clear ho hsp
          repeat' (first | (with_reducible first | apply AW.seq | apply AW.block | apply AW.skip | apply q_then | apply q_bloN | apply y_e | refine v_rgl ?_ | refine v_drb ?_) | ((with_reducible apply i_dv); first | refine t_v AS.v ?_ | refine t_v (by first | exact u_call (hP := one) | exact u_call (hP := lo) | exact u_call (hP := sk) | exact u_subq) ?_ | refine t_w AS.w ?_) | ((with_reducible apply i_ds); refine t_s AS.s ?_) | ((with_reducible refine i_aw ?_); first | refine v_yes ?_ | refine v_no ?_ | (refine v_cond (fun hc => ?_) (fun hc => ?_); all_goals (try (exfalso; simp [*] at hc; done)))) | (refine ⟨by decide +kernel, ?_⟩) | fail)
          exact ⟨m, _, Nat.lt_succ_self m, wk_mk (by (repeat (first | exact all_nil | ((refine all_cons ⟨_, rfl, .inl rfl, ?_⟩ ?_); (· (first | rfl | exact ok_tks _ _ rfl))))); done) (by (repeat (first | exact all_nil | ((refine all_cons ⟨_, rfl, .inl rfl, ?_⟩ ?_); (· (rfl))))); done) (by rfl), j + n, acc ++ [⟨kd, src.extract j (j + n), locP src.data.toList j⟩], by omega, by simp; omega, by omega, HS, rfl⟩
end Am
namespace Am
open Tk
theorem flK_nm {c : Int} {ts : List Tok} {i : Nat} {α : Type} {g : Fa} (h : (Except.error (flK c ts i) : Except Fa α) = .error g) : g.name = ⟨#[]⟩ := by
  injection h with h; subst h; rfl
theorem bin_nm (ts : List Tok) : ∀ f : Nat, (∀ {i d : Nat} {g : Fa}, notK ts f i d = .error g → g.name = ⟨#[]⟩) ∧ (∀ {n i d : Nat} {g : Fa}, binK ts f n i d = .error g → g.name = ⟨#[]⟩) ∧ (∀ {n i d : Nat} {e : Ex} {g : Fa}, bilK ts f n e i d = .error g → g.name = ⟨#[]⟩)
  | 0 => ⟨fun h => (by rw [notK] at h; exact flK_nm h), fun h => (by rw [binK] at h; exact flK_nm h), fun h => (by rw [bilK] at h; exact flK_nm h)⟩
  | f + 1 => by
    obtain ⟨i1, i2, i3⟩ := bin_nm ts f
    refine ⟨fun {i d g} h => ?_, fun {n i d g} h => ?_, fun {n i d e g} h => ?_⟩
    · rw [notK] at h
      split at h
      · split at h
        · exact flK_nm h
        · rcases bind_err h with h | ⟨a, _, h⟩
          · exact i1 h
          · cases h
      · split at h
        · split at h
          · exact flK_nm h
          · rcases bind_err h with h | ⟨a, _, h⟩
            · exact i2 h
            · try dsimp only at h
              split at h
              · cases h
              · exact flK_nm h
        · split at h
          · cases h
          · exact flK_nm h
    · rw [binK] at h
      split at h
      · exact i1 h
      · rcases bind_err h with h | ⟨a, _, h⟩
        · exact i2 h
        · exact i3 h
    · rw [bilK] at h
      split at h
      · cases h
      · rcases bind_err h with h | ⟨a, _, h⟩
        · exact i2 h
        · exact i3 h
theorem tksK_nm {ts : List Tok} {g : Fa} (h : tksK ts = .error g) : g.name = ⟨#[]⟩ := by
  unfold tksK at h
  rcases bind_err h with h | ⟨a, _, h⟩
  · exact (bin_nm ts _).2.1 h
  · try dsimp only at h
    split at h
    · exact flK_nm h
    · cases h
def NZ (l : List Tok) {β : Type} (x : Except Fa β) : Prop := ∀ g, x = .error g → g.code ≠ 0 ∧ (g.name = ⟨#[]⟩ ∨ ∃ t ∈ l, g.name = t.text)
section
variable {l : List Tok}
theorem NZ.ok {β : Type} (b : β) : NZ l (.ok b : Except Fa β) := fun g h => (by cases h)
theorem NZ.fl {β : Type} {c : Int} {k : Ix l} (hc : c ≠ 0) : NZ l (.error (flt c (tk k)) : Except Fa β) := fun g h => (by injection h with h; subst h; exact ⟨hc, .inr ⟨tk k, List.getElem_mem _, rfl⟩⟩)
theorem NZ.f0 {β : Type} {c : Int} {p : Po} (hc : c ≠ 0) : NZ l (.error (fl0 c p) : Except Fa β) := fun g h => (by injection h with h; subst h; exact ⟨hc, .inl rfl⟩)
theorem NZ.ite {β : Type} {p : Prop} [Decidable p] {x y : Except Fa β} (h1 : NZ l x) (h2 : NZ l y) : NZ l (if p then x else y) := by
  by_cases hp : p
  · rw [if_pos hp]; exact h1
  · rw [if_neg hp]; exact h2
theorem NZ.bind {α β : Type} {x : Except Fa α} {f : α → Except Fa β} (h : NZ l x) (k : ∀ a, NZ l (f a)) : NZ l (x >>= f) := fun g e => by
  rcases bind_err e with e | ⟨a, _, e⟩
  · exact h g e
  · exact k a g e
theorem need_nz (s : ByteArray) (k : Ix l) : NZ l (needP s k) := by
  unfold needP
  repeat' (first | exact NZ.ok _ | exact NZ.fl (by decide) | (with_reducible refine NZ.ite ?_ ?_))
theorem needW_nz (s : ByteArray) (k : Ix l) : NZ l (needWP s k) := by
  unfold needWP
  repeat' (first | exact NZ.ok _ | exact NZ.fl (by decide) | (with_reducible refine NZ.ite ?_ ?_))
theorem name_nz (k : Ix l) : NZ l (nameP k) := by
  unfold nameP
  repeat' (first | exact NZ.ok _ | exact NZ.fl (by decide) | (with_reducible refine NZ.ite ?_ ?_))
theorem bracedL_nz : ∀ (n : Nat) (acc : List ByteArray) (k : Ix l), NZ l (bracedL n acc k)
  | 0, _, _ => by rw [bracedL]; exact NZ.fl (by decide)
  | n + 1, _, _ => by
    rw [bracedL]
    repeat' (first | exact NZ.ok _ | exact name_nz _ | exact bracedL_nz n _ _ | (with_reducible refine NZ.bind ?_ fun x => ?_) | (with_reducible refine NZ.ite ?_ ?_))
theorem braced_nz (k : Ix l) : NZ l (bracedP k) := by
  unfold bracedP
  repeat' (first | exact need_nz _ _ | exact name_nz _ | exact bracedL_nz _ _ _ | (with_reducible refine NZ.bind ?_ fun x => ?_))
theorem listedL_nz : ∀ (n : Nat) (acc : List ByteArray) (k : Ix l), NZ l (listedL n acc k)
  | 0, _, _ => by rw [listedL]; exact NZ.fl (by decide)
  | n + 1, _, _ => by
    rw [listedL]
    repeat' (first | exact NZ.ok _ | exact name_nz _ | exact listedL_nz n _ _ | (with_reducible refine NZ.bind ?_ fun x => ?_) | (with_reducible refine NZ.ite ?_ ?_))
theorem listed_nz (k : Ix l) : NZ l (listedP k) := by
  unfold listedP
  repeat' (first | exact name_nz _ | exact listedL_nz _ _ _ | (with_reducible refine NZ.bind ?_ fun x => ?_))
theorem elem_nz (a b : Bool) (s : NS) (k : Ix l) : NZ l (elemP a b s k) := by
  unfold elemP
  repeat' (first | exact NZ.ok _ | exact name_nz _ | (with_reducible refine NZ.bind ?_ fun x => ?_) | (with_reducible refine NZ.ite ?_ ?_))
theorem setL_nz (a : Bool) : ∀ (n : Nat) (s : NS) (k : Ix l), NZ l (setL a n s k)
  | 0, _, _ => by rw [setL]; exact NZ.fl (by decide)
  | n + 1, _, _ => by
    rw [setL]
    repeat' (first | exact NZ.ok _ | exact elem_nz _ _ _ _ | exact setL_nz a n _ _ | (with_reducible refine NZ.bind ?_ fun x => ?_) | (with_reducible refine NZ.ite ?_ ?_))
theorem set_nz (a : Bool) (k : Ix l) : NZ l (setP a k) := by
  unfold setP
  repeat' (first | exact NZ.ok _ | exact name_nz _ | exact elem_nz _ _ _ _ | exact setL_nz _ _ _ _ | (with_reducible refine NZ.bind ?_ fun x => ?_) | (with_reducible refine NZ.ite ?_ ?_))
theorem spanP1_nz (k : Ix l) : NZ l (spanP1 k) := by
  unfold spanP1
  repeat' (first | exact NZ.ok _ | exact name_nz _ | (with_reducible refine NZ.bind ?_ fun x => ?_) | (with_reducible refine NZ.ite ?_ ?_))
theorem levelL_nz : ∀ (n : Nat) (v : Lv) (k : Ix l), NZ l (levelL n v k)
  | 0, _, _ => by rw [levelL]; exact NZ.fl (by decide)
  | n + 1, _, _ => by
    rw [levelL]
    repeat' (first | exact NZ.ok _ | exact spanP1_nz _ | exact levelL_nz n _ _ | (with_reducible refine NZ.bind ?_ fun x => ?_) | (with_reducible refine NZ.ite ?_ ?_))
theorem level_nz (k : Ix l) : NZ l (levelP k) := by
  unfold levelP
  repeat' (first | exact NZ.ok _ | exact name_nz _ | exact levelL_nz _ _ _ | (with_reducible refine NZ.bind ?_ fun x => ?_) | (with_reducible refine NZ.ite ?_ ?_))
theorem range_nz (k : Ix l) : NZ l (rangeP k) := by
  unfold rangeP
  repeat' (first | exact NZ.ok _ | exact level_nz _ | (with_reducible refine NZ.bind ?_ fun x => ?_) | (with_reducible refine NZ.ite ?_ ?_))
theorem context_nz (k : Ix l) : NZ l (contextP k) := by
  unfold contextP
  repeat' (first | exact NZ.ok _ | exact need_nz _ _ | exact name_nz _ | exact range_nz _ | (with_reducible refine NZ.bind ?_ fun x => ?_))
theorem choose_nz (ws : List ByteArray) (k : Ix l) : NZ l (chooseP ws k) := by
  unfold chooseP
  repeat' (first | exact NZ.ok _ | exact NZ.fl (by decide) | split)
theorem attr_nz (v : Bool) (k : Ix l) : NZ l (attrP v k) := by
  unfold attrP
  repeat' (first | exact NZ.ok _ | exact NZ.fl (by decide) | (with_reducible refine NZ.ite ?_ ?_) | split)
theorem rel_nz (k : Ix l) : NZ l (relP k) := by
  unfold relP
  repeat' (first | exact NZ.ok _ | exact choose_nz _ _ | (with_reducible refine NZ.bind ?_ fun x => ?_) | (with_reducible refine NZ.ite ?_ ?_))
theorem cmp_nz (v : Bool) (k : Ix l) : NZ l (cmpP v k) := by
  unfold cmpP
  repeat' (first | exact NZ.ok _ | exact name_nz _ | exact braced_nz _ | exact attr_nz _ _ | exact rel_nz _ | (with_reducible refine NZ.bind ?_ fun x => ?_) | (with_reducible refine NZ.ite ?_ ?_))
theorem comp_nz (v : Bool) : ∀ n : Nat, (∀ k : Ix l, NZ l (compP v n k)) ∧ (∀ k : Ix l, NZ l (bothP v n k)) ∧ (∀ (e : Ex) (k : Ix l), NZ l (bothL v n e k)) ∧ (∀ k : Ix l, NZ l (eithP v n k)) ∧ (∀ (e : Ex) (k : Ix l), NZ l (eithL v n e k))
  | 0 => ⟨fun k => (by rw [compP]; exact NZ.fl (by decide)), fun k => (by rw [bothP]; exact NZ.fl (by decide)), fun e k => (by rw [bothL]; exact NZ.fl (by decide)), fun k => (by rw [eithP]; exact NZ.fl (by decide)), fun e k => (by rw [eithL]; exact NZ.fl (by decide))⟩
  | n + 1 => by
    obtain ⟨i1, i2, i3, i4, i5⟩ := comp_nz v n
    refine ⟨fun k => ?_, fun k => ?_, fun e k => ?_, fun k => ?_, fun e k => ?_⟩
    · rw [compP]
      repeat' (first | exact NZ.ok _ | exact need_nz _ _ | exact cmp_nz _ _ | exact i1 _ | exact i2 _ | exact i3 _ _ | exact i4 _ | exact i5 _ _ | (with_reducible refine NZ.bind ?_ fun x => ?_) | (with_reducible refine NZ.ite ?_ ?_))
    · rw [bothP]
      repeat' (first | exact NZ.ok _ | exact need_nz _ _ | exact cmp_nz _ _ | exact i1 _ | exact i2 _ | exact i3 _ _ | exact i4 _ | exact i5 _ _ | (with_reducible refine NZ.bind ?_ fun x => ?_) | (with_reducible refine NZ.ite ?_ ?_))
    · rw [bothL]
      repeat' (first | exact NZ.ok _ | exact need_nz _ _ | exact cmp_nz _ _ | exact i1 _ | exact i2 _ | exact i3 _ _ | exact i4 _ | exact i5 _ _ | (with_reducible refine NZ.bind ?_ fun x => ?_) | (with_reducible refine NZ.ite ?_ ?_))
    · rw [eithP]
      repeat' (first | exact NZ.ok _ | exact need_nz _ _ | exact cmp_nz _ _ | exact i1 _ | exact i2 _ | exact i3 _ _ | exact i4 _ | exact i5 _ _ | (with_reducible refine NZ.bind ?_ fun x => ?_) | (with_reducible refine NZ.ite ?_ ?_))
    · rw [eithL]
      repeat' (first | exact NZ.ok _ | exact need_nz _ _ | exact cmp_nz _ _ | exact i1 _ | exact i2 _ | exact i3 _ _ | exact i4 _ | exact i5 _ _ | (with_reducible refine NZ.bind ?_ fun x => ?_) | (with_reducible refine NZ.ite ?_ ?_))
theorem constr_nz (v : Bool) (k : Ix l) : NZ l (constrP v k) := by
  unfold constrP
  repeat' (first | exact NZ.ok _ | exact NZ.fl (by decide) | exact (comp_nz _ _).2.2.2.1 _ | (with_reducible refine NZ.bind ?_ fun x => ?_) | (with_reducible refine NZ.ite ?_ ?_))
theorem text_nz (k : Ix l) : NZ l (textP k) := by
  unfold textP
  repeat' (first | exact NZ.ok _ | exact NZ.fl (by decide) | (with_reducible refine NZ.ite ?_ ?_))
theorem decl_nz (w : ByteArray) (s : Stm) (k : Ix l) : NZ l (declP w s k) := by
  unfold declP
  repeat' (first | exact NZ.ok _ | exact needW_nz _ _ | exact name_nz _ | exact braced_nz _ | exact listedL_nz _ _ _ | exact listed_nz _ | exact set_nz _ _ | exact level_nz _ | exact range_nz _ | exact choose_nz _ _ | (with_reducible refine NZ.bind ?_ fun x => ?_) | (with_reducible refine NZ.ite ?_ ?_))
theorem pair_nz (b : Bool) (s : Stm) (k : Ix l) : NZ l (pairP b s k) := by
  unfold pairP
  repeat' (first | exact NZ.ok _ | exact need_nz _ _ | exact set_nz _ _ | (with_reducible refine NZ.bind ?_ fun x => ?_))
theorem rule_nz (w : ByteArray) (s : Stm) (k : Ix l) : NZ l (ruleP w s k) := by
  unfold ruleP
  repeat' (first | exact NZ.ok _ | exact NZ.fl (by decide) | exact name_nz _ | exact set_nz _ _ | exact range_nz _ | exact constr_nz _ _ | exact pair_nz _ _ _ | (with_reducible refine NZ.bind ?_ fun x => ?_) | (with_reducible refine NZ.ite ?_ ?_))
theorem other_nz (w : ByteArray) (s : Stm) (k : Ix l) : NZ l (otherP w s k) := by
  unfold otherP
  repeat' (first | exact NZ.ok _ | exact name_nz _ | exact braced_nz _ | exact listed_nz _ | exact set_nz _ _ | exact context_nz _ | exact choose_nz _ _ | exact text_nz _ | (with_reducible refine NZ.bind ?_ fun x => ?_) | (with_reducible refine NZ.ite ?_ ?_))
theorem plain_nz (w : ByteArray) (s : Stm) (k : Ix l) : NZ l (plainP w s k) := by
  unfold plainP
  repeat' (first | exact NZ.ok _ | exact need_nz _ _ | exact decl_nz _ _ _ | exact rule_nz _ _ _ | exact other_nz _ _ _ | (with_reducible refine NZ.bind ?_ fun x => ?_) | (with_reducible refine NZ.ite ?_ ?_))
theorem head_nz (k : Ix l) : NZ l (headP k) := by
  unfold headP
  repeat' (first | exact NZ.ok _ | exact NZ.fl (by decide) | exact need_nz _ _ | exact needW_nz _ _ | exact name_nz _ | (with_reducible refine NZ.bind ?_ fun x => ?_) | (with_reducible refine NZ.ite ?_ ?_))
theorem cond_nz (k : Ix l) : NZ l (condP tksK k) := by
  unfold condP
  exact NZ.bind (fun g h => ⟨tksK_err h, .inl (tksK_nm h)⟩) fun x => NZ.ok _
theorem stmts_nz : ∀ n : Nat, (∀ (d : Nat) (k : Ix l) (c : Nat), NZ l (stmtP tksK n d k c)) ∧ (∀ (d : Nat) (b : Bool) (s : Stm) (k : Ix l) (c : Nat), NZ l (blocksP tksK n d b s k c)) ∧ (∀ (d : Nat) (k : Ix l) (c : Nat), NZ l (blockP tksK n d k c)) ∧ (∀ (d : Nat) (a : List Stm) (k : Ix l) (c : Nat), NZ l (stmtsP tksK n d a k c))
  | 0 => ⟨fun d k c => (by rw [stmtP]; exact NZ.fl (by decide)), fun d b s k c => (by rw [blocksP]; exact NZ.fl (by decide)), fun d k c => (by rw [blockP]; exact NZ.fl (by decide)), fun d a k c => (by rw [stmtsP]; exact NZ.fl (by decide))⟩
  | n + 1 => by
    obtain ⟨i1, i2, i3, i4⟩ := stmts_nz n
    refine ⟨fun d k c => ?_, fun d b s k c => ?_, fun d k c => ?_, fun d a k c => ?_⟩
    · rw [stmtP]
      repeat' (first | exact NZ.ok _ | exact NZ.fl (by decide) | exact need_nz _ _ | exact plain_nz _ _ _ | exact cond_nz _ | exact i1 _ _ _ | exact i2 _ _ _ _ _ | exact i3 _ _ _ | exact i4 _ _ _ _ | (with_reducible refine NZ.bind ?_ fun x => ?_) | (with_reducible refine NZ.ite ?_ ?_))
    · rw [blocksP]
      repeat' (first | exact NZ.ok _ | exact NZ.fl (by decide) | exact need_nz _ _ | exact plain_nz _ _ _ | exact cond_nz _ | exact i1 _ _ _ | exact i2 _ _ _ _ _ | exact i3 _ _ _ | exact i4 _ _ _ _ | (with_reducible refine NZ.bind ?_ fun x => ?_) | (with_reducible refine NZ.ite ?_ ?_))
    · rw [blockP]
      repeat' (first | exact NZ.ok _ | exact NZ.fl (by decide) | exact need_nz _ _ | exact plain_nz _ _ _ | exact cond_nz _ | exact i1 _ _ _ | exact i2 _ _ _ _ _ | exact i3 _ _ _ | exact i4 _ _ _ _ | (with_reducible refine NZ.bind ?_ fun x => ?_) | (with_reducible refine NZ.ite ?_ ?_))
    · rw [stmtsP]
      repeat' (first | exact NZ.ok _ | exact NZ.fl (by decide) | exact need_nz _ _ | exact plain_nz _ _ _ | exact cond_nz _ | exact i1 _ _ _ | exact i2 _ _ _ _ _ | exact i3 _ _ _ | exact i4 _ _ _ _ | (with_reducible refine NZ.bind ?_ fun x => ?_) | (with_reducible refine NZ.ite ?_ ?_))
def modQ (k : Ix l) : Except Fa (Mo × (Ix l × Nat)) := headP k >>= fun x => stmtsP tksK (fuel l) 0 [] x.2 0 >>= fun y => .ok ({ x.1 with stmts := y.1 }, y.2)
def zQ {α : Type} (x : Except Fa (α × Ix l)) : Except Fa (α × (Ix l × Nat)) := x >>= fun y => .ok (y.1, (y.2, 0))
theorem modQ_nz (k : Ix l) : NZ l (modQ k) := by
  unfold modQ
  repeat' (first | exact NZ.ok _ | exact head_nz _ | exact (stmts_nz _).2.2.2 _ _ _ _ | (with_reducible refine NZ.bind ?_ fun x => ?_))
theorem zQ_nz {α : Type} {x : Except Fa (α × Ix l)} (h : NZ l x) : NZ l (zQ x) := NZ.bind h fun _ => NZ.ok _
end
def runP {α : Type} (src : ByteArray) (sp : ∀ l : List Tok, Ix l → Except Fa (α × (Ix l × Nat))) : Except Fa α :=
  scanP src >>= fun l => if h : 0 < l.length then sp l ⟨0, h⟩ >>= fun x => if (tk x.2.1).kind = 0 then .ok x.1 else .error (flt 9 (tk x.2.1)) else .error (fl0 9 ⟨0, 0⟩)
theorem scanF_nz (src : ByteArray) : ∀ n k : Nat, NZ [] (scanF src n k)
  | 0, _ => NZ.ok _
  | n + 1, k => by
    rw [scanF]
    split
    · exact NZ.ok _
    · split
      · rename_i c off ho
        exact NZ.f0 (oneR_err0 ho)
      · exact NZ.bind (scanF_nz src n _) fun _ => NZ.ok _
theorem scanP_nz (src : ByteArray) : NZ [] (scanP src) := by
  unfold scanP
  split
  · exact NZ.f0 (by decide)
  · exact scanF_nz _ _ _
def NZs {α : Type} (sp : ∀ l : List Tok, Ix l → Except Fa (α × (Ix l × Nat))) : Prop := ∀ (l : List Tok) (k : Ix l), NZ l (sp l k)
theorem runP_nz {α : Type} (src : ByteArray) {sp : ∀ l : List Tok, Ix l → Except Fa (α × (Ix l × Nat))} (h : NZs sp) {f : Fa} (hf : runP src sp = .error f) : f.code ≠ 0 := by
  unfold runP at hf
  rcases bind_err hf with hf | ⟨l, _, hf⟩
  · exact (scanP_nz _ f hf).1
  · split at hf
    · rename_i hl
      refine (NZ.bind (h l ⟨0, hl⟩) (fun x => ?_) f hf).1
      split
      · exact NZ.ok _
      · exact NZ.fl (by decide)
    · injection hf with hf; subst hf; exact (by decide : (9 : Int) ≠ 0)
def parseP (src : ByteArray) : Except Fa Mo := runP src fun _ k => modQ k
def namesT (src : ByteArray) : Except Fa NS := runP src fun _ k => zQ (setP true k)
end Am
end Go.Proofs.YtkpodagbefnebaaGreatDoor
