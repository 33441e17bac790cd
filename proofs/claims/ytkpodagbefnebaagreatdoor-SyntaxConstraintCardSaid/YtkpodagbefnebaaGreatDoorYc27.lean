import Derived.Test.YtkpodagbefnebaaGreatDoorYc26
import Derived.Test.YtkpodagbefnebaaGreatDoorYc24
import Derived.Laws.StructEq
import Derived.Test.YtkpodagbefnebaaGreatDoorYc25
set_option linter.unusedSimpArgs false
set_option linter.unusedVariables false
set_option linter.unusedSectionVars false
namespace Go.Proofs.YtkpodagbefnebaaGreatDoor
namespace Am
open Tk Go.RowKit
set_option maxRecDepth 100000
set_option maxHeartbeats 4000000
section
variable {l : List Tok}
theorem name_le (hl : Fine l) (k : Ix l) (f : Fa) : k.1 ≤ (nameQ k f).2.1.1 := by
  rcases nameQ_adv hl k f with ⟨_, _, h⟩ | ⟨h, _⟩
  · omega
  · rw [h]; exact Nat.le_refl _
theorem need_le (s : ByteArray) (k : Ix l) (f : Fa) : k.1 ≤ (needQ s k f).1.1 := adv_le
theorem namesL_le (hl : Fine l) : ∀ (n : Nat) (acc : List ByteArray) (k : Ix l) (f : Fa), k.1 ≤ (namesL n acc k f).2.1.1
  | 0, _, _, _ => Nat.le_refl _
  | n + 1, acc, k, f => by
    rw [namesL]
    split
    · exact Nat.le_trans (name_le hl k f) (namesL_le hl n _ _ _)
    · exact Nat.le_refl _
theorem names_le (hl : Fine l) (k : Ix l) (f : Fa) : k.1 ≤ (namesQ k f).2.1.1 :=
  Nat.le_trans (need_le _ k f) (Nat.le_trans (name_le hl _ _) (Nat.le_trans (namesL_le hl _ _ _ _) (need_le _ _ _)))
theorem choose_le (ws : List ByteArray) (k : Ix l) (f : Fa) : k.1 ≤ (chooseQ ws k f).2.1.1 := by
  unfold chooseQ
  split
  · exact nx_le k
  · exact Nat.le_refl _
theorem attr_le (v : Bool) (k : Ix l) (f : Fa) : k.1 ≤ (attrQ v k f).2.1.1 := by
  unfold attrQ
  split
  · exact nx_le k
  · exact Nat.le_refl _
theorem rel_le (k : Ix l) (f : Fa) : k.1 ≤ (relQ k f).2.1.1 := by
  unfold relQ
  split
  · exact nx_le k
  · split
    · exact nx_le k
    · exact choose_le _ k f
theorem cmp_le (hl : Fine l) (v : Bool) (k : Ix l) (f : Fa) : k.1 ≤ (cmpQ v k f).2.1.1 := by
  unfold cmpQ
  refine Nat.le_trans (attr_le v k f) ?_
  unfold cmpQ2
  split
  · split
    · exact Nat.le_trans (nx_le _) (names_le hl _ _)
    · exact Nat.le_trans (nx_le _) (name_le hl _ _)
  · exact Nat.le_trans (rel_le _ _) (attr_le v _ _)
theorem fac_le (hl : Fine l) (v : Bool) : ∀ n : Nat, (∀ (k : Ix l) (f : Fa), k.1 ≤ (facQ v n k f).2.1.1) ∧ (∀ (k : Ix l) (f : Fa), k.1 ≤ (andQ v n k f).2.1.1) ∧ (∀ (e : Ex) (k : Ix l) (f : Fa), k.1 ≤ (andLQ v n e k f).2.1.1) ∧
    (∀ (k : Ix l) (f : Fa), k.1 ≤ (orQ v n k f).2.1.1) ∧ (∀ (e : Ex) (k : Ix l) (f : Fa), k.1 ≤ (orLQ v n e k f).2.1.1)
  | 0 => ⟨fun k f => (by rw [facQ]; exact Nat.le_refl _), fun k f => (by rw [andQ]; exact Nat.le_refl _), fun e k f => (by rw [andLQ]; exact Nat.le_refl _), fun k f => (by rw [orQ]; exact Nat.le_refl _), fun e k f => (by rw [orLQ]; exact Nat.le_refl _)⟩
  | n + 1 => by
    obtain ⟨i1, i2, i3, i4, i5⟩ := fac_le hl v n
    refine ⟨fun k f => ?_, fun k f => ?_, fun e k f => ?_, fun k f => ?_, fun e k f => ?_⟩
    · rw [facQ]
      split
      · exact Nat.le_trans (nx_le k) (i1 _ _)
      · split
        · exact Nat.le_trans (nx_le k) (Nat.le_trans (i4 _ _) (need_le _ _ _))
        · exact cmp_le hl v k f
    · rw [andQ]; exact Nat.le_trans (i1 k f) (i3 _ _ _)
    · rw [andLQ]
      split
      · exact Nat.le_trans (nx_le k) (Nat.le_trans (i1 _ _) (i3 _ _ _))
      · exact Nat.le_refl _
    · rw [orQ]; exact Nat.le_trans (i2 k f) (i5 _ _ _)
    · rw [orLQ]
      split
      · exact Nat.le_trans (nx_le k) (Nat.le_trans (i2 _ _) (i5 _ _ _))
      · exact Nat.le_refl _
theorem cmp_lv (v : Bool) (k : Ix l) (f : Fa) : levE (cmpQ v k f).1 = 1 := by
  unfold cmpQ cmpQ2
  split
  · split
    · exact lev0
    · exact lev0
  · exact lev0
theorem fac_lv (hl : Fine l) (v : Bool) : ∀ n : Nat, (∀ (k : Ix l) (f : Fa), levE (facQ v n k f).1 + k.1 ≤ 1 + (facQ v n k f).2.1.1) ∧ (∀ (k : Ix l) (f : Fa), levE (andQ v n k f).1 + k.1 ≤ 1 + (andQ v n k f).2.1.1) ∧ (∀ (e : Ex) (k : Ix l) (f : Fa), levE (andLQ v n e k f).1 + k.1 ≤ levE e + (andLQ v n e k f).2.1.1) ∧
    (∀ (k : Ix l) (f : Fa), levE (orQ v n k f).1 + k.1 ≤ 1 + (orQ v n k f).2.1.1) ∧ (∀ (e : Ex) (k : Ix l) (f : Fa), levE (orLQ v n e k f).1 + k.1 ≤ levE e + (orLQ v n e k f).2.1.1)
  | 0 => by
    have e0 : levE Ex.zero = 1 := lev0
    exact ⟨fun k f => (by rw [facQ]; dsimp only; omega), fun k f => (by rw [andQ]; dsimp only; omega), fun e k f => (by rw [andLQ]; dsimp only; omega), fun k f => (by rw [orQ]; dsimp only; omega), fun e k f => (by rw [orLQ]; dsimp only; omega)⟩
  | n + 1 => by
    obtain ⟨i1, i2, i3, i4, i5⟩ := fac_lv hl v n
    obtain ⟨j1, j2, j3, j4, j5⟩ := fac_le hl v n
    have hx : ∀ {f : Fa} {s : ByteArray} {k : Ix l}, okM f s k = true → (nx k).1 = k.1 + 1 := fun {f s k} h => by
      unfold okM at h
      exact isM_adv hl ((Bool.and_eq_true _ _).mp h).2
    refine ⟨fun k f => ?_, fun k f => ?_, fun e k f => ?_, fun k f => ?_, fun e k f => ?_⟩
    · rw [facQ]
      split
      · rename_i h
        have := hx h
        have := i1 (nx k) f
        dsimp only
        rw [lev1]
        omega
      · split
        · rename_i h
          have := hx h
          have h1 := i4 (nx k) f
          have h2 := need_le ⟨#[41]⟩ (orQ v n (nx k) f).2.1 (orQ v n (nx k) f).2.2
          dsimp only
          omega
        · have h1 := cmp_lv v k f
          have h2 := cmp_le hl v k f
          omega
    · rw [andQ]
      have h1 := i1 k f
      have h2 := i3 (facQ v n k f).1 (facQ v n k f).2.1 (facQ v n k f).2.2
      omega
    · rw [andLQ]
      split
      · rename_i h
        have h0 := hx h
        have h1 := i1 (nx k) f
        have h2 := i3 { Ex.zero with op := 3, kids := [e, (facQ v n (nx k) f).1] } (facQ v n (nx k) f).2.1 (facQ v n (nx k) f).2.2
        rw [lev2] at h2
        have h3 := levE_pos e
        have h4 := j1 (nx k) f
        omega
      · exact Nat.le_refl _
    · rw [orQ]
      have h1 := i2 k f
      have h2 := i5 (andQ v n k f).1 (andQ v n k f).2.1 (andQ v n k f).2.2
      omega
    · rw [orLQ]
      split
      · rename_i h
        have h0 := hx h
        have h1 := i2 (nx k) f
        have h2 := i5 { Ex.zero with op := 4, kids := [e, (andQ v n (nx k) f).1] } (andQ v n (nx k) f).2.1 (andQ v n (nx k) f).2.2
        rw [lev2] at h2
        have h3 := levE_pos e
        have h4 := j2 (nx k) f
        omega
      · exact Nat.le_refl _
variable {c : Int}
theorem q7cmp_x (hf : Fine l) (v : Bool) (k : Ix l) (f : Fa) : MX Tryz.prog 319 [(0, qsO k f c)] [.c (.ptr 0 0), .c (sI (if v then 3 else 2))] (.ok (cmpQ v k f) : Except Fa (Ex × (Ix l × Fa))) (fun e => .agg (exC e)) (fun b => [(0, qsO b.1 b.2 c)]) pvS := by
  have hl := hf.le
  have m1 := q7attr_m (c := c) hf v k f
  unfold cmpQ
  generalize attrQ v k f = q at *
  obtain ⟨a, k1, f1⟩ := q
  dsimp only at m1 ⊢
  unfold cmpQ2
  have a1 := q7word_m (c := c) hf k1 f1 ⟨#[105, 110]⟩
  cases h1 : okW f1 ⟨#[105, 110]⟩ k1 with
  | true =>
    rw [h1] at a1
    have a1 : MNL _ _ _ _ _ [(0, qsO (nx k1) f1 c)] := a1
    rw [if_pos rfl]
    have is := q7isM_p (c := c) (nx k1) f1 ⟨#[123]⟩
    cases h2 : okM f1 ⟨#[123]⟩ (nx k1) with
    | true =>
      rw [h2] at is
      rw [if_pos rfl]
      have m2 := q7names_m (c := c) hf (nx k1) f1
      generalize namesQ (nx k1) f1 = q at *
      obtain ⟨x, k2, f2⟩ := q
      dsimp only at m2 ⊢
      refine MX.of (fn := Tryz.f319) Tryz.call319 Tryz.func319 rfl Tryz.ntmps319 Tryz.results319 rfl rfl (by intro a; simp [V.ok, okL, C.ok, okA, okV]) (by intro b; exact ⟨rfl, by simp [HO.one, okL, C.ok, okA]⟩) ?_
      repeat' (first | (with_reducible first | apply AW.seq | apply AW.ret | apply q_then | apply q_thenR | apply y_e | refine v_rgl ?_) | ((with_reducible apply i_dv); first | refine t_v AS.v ?_ | refine t_v (by exact u_eye (hP := is)) ?_ | refine t_w AS.w ?_ | refine t_w (by first | exact u_m1 (hP := m1) | exact u_m1 (hP := a1) | exact u_m1 (hP := m2)) ?_) | ((with_reducible apply i_ds); refine t_s AS.s ?_) | ((with_reducible refine i_aw ?_); first | refine v_yes ?_ | refine v_no ?_) | ((with_reducible refine i_rx ?_); refine l_1c (k := ?_)) | fail)
      exact ⟨{ Ex.zero with op := 9, a := a, names := x }, (_, _), rfl, ux_exC _, le_id rfl⟩
    | false =>
      rw [h2] at is
      rw [if_neg ff]
      have m2 := q7name_m (c := c) hf (nx k1) f1
      generalize nameQ (nx k1) f1 = q at *
      obtain ⟨x, k2, f2⟩ := q
      dsimp only at m2 ⊢
      refine MX.of (fn := Tryz.f319) Tryz.call319 Tryz.func319 rfl Tryz.ntmps319 Tryz.results319 rfl rfl (by intro a; simp [V.ok, okL, C.ok, okA, okV]) (by intro b; exact ⟨rfl, by simp [HO.one, okL, C.ok, okA]⟩) ?_
      repeat' (first | (with_reducible first | apply AW.seq | apply AW.ret | apply q_then | apply q_thenR | apply y_e | refine v_rgl ?_) | ((with_reducible apply i_dv); first | refine t_v AS.v ?_ | refine t_v (by exact u_eye (hP := is)) ?_ | refine t_w AS.w ?_ | refine t_w (by first | exact u_m1 (hP := m1) | exact u_m1 (hP := a1) | exact u_m1 (hP := m2)) ?_) | ((with_reducible apply i_ds); refine t_s AS.s ?_) | ((with_reducible refine i_aw ?_); first | refine v_yes ?_ | refine v_no ?_) | ((with_reducible refine i_rx ?_); refine l_1c (k := ?_)) | fail)
      exact ⟨{ Ex.zero with op := 9, a := a, names := [x] }, (_, _), rfl, ux_exC { Ex.zero with op := 9, a := a, names := [x] }, le_id rfl⟩
  | false =>
    rw [h1] at a1
    have a1 : MNL _ _ _ _ _ [(0, qsO k1 f1 c)] := a1
    rw [if_neg ff]
    unfold relQ
    have a2 := q7mark_m (c := c) hf k1 f1 ⟨#[61, 61]⟩
    cases h2 : okM f1 ⟨#[61, 61]⟩ k1 with
    | true =>
      rw [h2] at a2
      have a2 : MNL _ _ _ _ _ [(0, qsO (nx k1) f1 c)] := a2
      rw [if_pos rfl]
      dsimp only
      unfold cmpQ3
      have m2 := q7attr_m (c := c) hf v (nx k1) f1
      generalize attrQ v (nx k1) f1 = q at *
      obtain ⟨b, k2, f2⟩ := q
      dsimp only at m2 ⊢
      refine MX.of (fn := Tryz.f319) Tryz.call319 Tryz.func319 rfl Tryz.ntmps319 Tryz.results319 rfl rfl (by intro a; simp [V.ok, okL, C.ok, okA, okV]) (by intro b; exact ⟨rfl, by simp [HO.one, okL, C.ok, okA]⟩) ?_
      repeat' (first | (with_reducible first | apply AW.seq | apply AW.block | apply AW.skip | apply AW.ret | apply q_then | apply q_bloN | apply y_e | refine v_rgl ?_) | ((with_reducible apply i_dv); first | refine t_v AS.v ?_ | refine t_w AS.w ?_ | refine t_w (by first | exact u_m1 (hP := m1) | exact u_m1 (hP := a1) | exact u_m1 (hP := a2) | exact u_m1 (hP := m2)) ?_) | ((with_reducible apply i_ds); refine t_s AS.s ?_) | ((with_reducible refine i_aw ?_); first | refine v_yes ?_ | refine v_no ?_) | ((with_reducible refine i_rx ?_); refine l_1c (k := ?_)) | fail)
      exact ⟨{ Ex.zero with op := 8, a := a, rel := 0, b := b }, (_, _), rfl, ux_exC { Ex.zero with op := 8, a := a, rel := 0, b := b }, le_id rfl⟩
    | false =>
      rw [h2] at a2
      have a2 : MNL _ _ _ _ _ [(0, qsO k1 f1 c)] := a2
      rw [if_neg ff]
      have a3 := q7mark_m (c := c) hf k1 f1 ⟨#[33, 61]⟩
      cases h3 : okM f1 ⟨#[33, 61]⟩ k1 with
      | true =>
        rw [h3] at a3
        have a3 : MNL _ _ _ _ _ [(0, qsO (nx k1) f1 c)] := a3
        rw [if_pos rfl]
        dsimp only
        unfold cmpQ3
        have m2 := q7attr_m (c := c) hf v (nx k1) f1
        generalize attrQ v (nx k1) f1 = q at *
        obtain ⟨b, k2, f2⟩ := q
        dsimp only at m2 ⊢
        refine MX.of (fn := Tryz.f319) Tryz.call319 Tryz.func319 rfl Tryz.ntmps319 Tryz.results319 rfl rfl (by intro a; simp [V.ok, okL, C.ok, okA, okV]) (by intro b; exact ⟨rfl, by simp [HO.one, okL, C.ok, okA]⟩) ?_
        repeat' (first | (with_reducible first | apply AW.seq | apply AW.block | apply AW.skip | apply AW.ret | apply q_then | apply q_bloN | apply y_e | refine v_rgl ?_) | ((with_reducible apply i_dv); first | refine t_v AS.v ?_ | refine t_w AS.w ?_ | refine t_w (by first | exact u_m1 (hP := m1) | exact u_m1 (hP := a1) | exact u_m1 (hP := a2) | exact u_m1 (hP := a3) | exact u_m1 (hP := m2)) ?_) | ((with_reducible apply i_ds); refine t_s AS.s ?_) | ((with_reducible refine i_aw ?_); first | refine v_yes ?_ | refine v_no ?_) | ((with_reducible refine i_rx ?_); refine l_1c (k := ?_)) | fail)
        exact ⟨{ Ex.zero with op := 8, a := a, rel := 1, b := b }, (_, _), rfl, ux_exC { Ex.zero with op := 8, a := a, rel := 1, b := b }, le_id rfl⟩
      | false =>
        rw [h3] at a3
        have a3 : MNL _ _ _ _ _ [(0, qsO k1 f1 c)] := a3
        rw [if_neg ff]
        have m3 := q7choice_m (c := c) hf [⟨#[100, 111, 109]⟩, ⟨#[100, 111, 109, 98, 121]⟩, ⟨#[105, 110, 99, 111, 109, 112]⟩] (by decide) k1 f1
        have hb := chooseQ_bd [⟨#[100, 111, 109]⟩, ⟨#[100, 111, 109, 98, 121]⟩, ⟨#[105, 110, 99, 111, 109, 112]⟩] k1 f1
        generalize chooseQ [⟨#[100, 111, 109]⟩, ⟨#[100, 111, 109, 98, 121]⟩, ⟨#[105, 110, 99, 111, 109, 112]⟩] k1 f1 = q at *
        obtain ⟨r, k3, f3⟩ := q
        have hb : 0 ≤ r ∧ r ≤ 3 := hb
        dsimp only at m3 ⊢
        unfold cmpQ3
        have m2 := q7attr_m (c := c) hf v k3 f3
        generalize attrQ v k3 f3 = q at *
        obtain ⟨b, k2, f2⟩ := q
        dsimp only at m2 ⊢
        refine MX.of (fn := Tryz.f319) Tryz.call319 Tryz.func319 rfl Tryz.ntmps319 Tryz.results319 rfl rfl (by intro a; simp [V.ok, okL, C.ok, okA, okV]) (by intro b; exact ⟨rfl, by simp [HO.one, okL, C.ok, okA]⟩) ?_
        repeat' (first | (with_reducible first | apply AW.seq | apply AW.block | apply AW.skip | apply AW.ret | apply q_then | apply q_bloN | apply y_e | refine v_rgl ?_) | ((with_reducible apply i_dv); first | refine t_v AS.v ?_ | refine t_w AS.w ?_ | refine t_w (by first | exact u_m1 (hP := m1) | exact u_m1 (hP := a1) | exact u_m1 (hP := a2) | exact u_m1 (hP := a3) | exact u_m1 (hP := m3) | exact u_m1 (hP := m2)) ?_) | ((with_reducible apply i_ds); refine t_s AS.s ?_) | ((with_reducible refine i_aw ?_); refine v_no ?_) | ((with_reducible refine i_rx ?_); refine l_1c (k := ?_)) | fail)
        try rw [wrap64 (by omega) (by omega)]
        exact ⟨{ Ex.zero with op := 8, a := a, rel := 1 + r, b := b }, (_, _), rfl, ux_exC { Ex.zero with op := 8, a := a, rel := 1 + r, b := b }, le_id rfl⟩
theorem q7cmp_m (hf : Fine l) (v : Bool) (k : Ix l) (f : Fa) : MNL Tryz.prog 319 [(0, qsO k f c)] [.c (.ptr 0 0), .c (sI (if v then 3 else 2))] (.agg (exC (cmpQ v k f).1)) [(0, qsO (cmpQ v k f).2.1 (cmpQ v k f).2.2 c)] := (q7cmp_x hf v k f).ok (cmpQ v k f).1 (cmpQ v k f).2 rfl
theorem q7fac_n (hf : Fine l) (v : Bool) (n : Nat) : (∀ (k : Ix l) (f : Fa), 4 * (l.length - k.1) + 1 ≤ n → MX Tryz.prog 265 [(0, qsO k f c)] [.c (.ptr 0 0), .c (sI (if v then 3 else 2))] (.ok (facQ v n k f) : Except Fa (Ex × (Ix l × Fa))) (fun e => .agg (exC e)) (fun b => [(0, qsO b.1 b.2 c)]) pvS) ∧
    (∀ (k : Ix l) (f : Fa), 4 * (l.length - k.1) + 2 ≤ n → MX Tryz.prog 192 [(0, qsO k f c)] [.c (.ptr 0 0), .c (sI (if v then 3 else 2))] (.ok (andQ v n k f) : Except Fa (Ex × (Ix l × Fa))) (fun e => .agg (exC e)) (fun b => [(0, qsO b.1 b.2 c)]) pvS) ∧
    (∀ (k : Ix l) (f : Fa), 4 * (l.length - k.1) + 3 ≤ n → MX Tryz.prog 134 [(0, qsO k f c)] [.c (.ptr 0 0), .c (sI (if v then 3 else 2))] (.ok (orQ v n k f) : Except Fa (Ex × (Ix l × Fa))) (fun e => .agg (exC e)) (fun b => [(0, qsO b.1 b.2 c)]) pvS) := by
  induction n using Nat.strongRecOn with
  | ind n ih =>
    cases n with
    | zero => exact ⟨fun k f h => (by omega), fun k f h => (by omega), fun k f h => (by omega)⟩
    | succ n =>
    have hl := hf.le
    obtain ⟨ih1, ih2, ih3⟩ := ih n (Nat.lt_succ_self n)
    refine ⟨fun k f hn => ?_, fun k f hn => ?_, fun k f hn => ?_⟩
    · have hk := k.2
      have a1 := q7mark_m (c := c) hf k f ⟨#[33]⟩
      have a2 := q7mark_m (c := c) hf k f ⟨#[40]⟩
      rw [facQ]
      cases h1 : okM f ⟨#[33]⟩ k with
      | true =>
        have hx : (nx k).1 = k.1 + 1 := by
          unfold okM at h1
          exact isM_adv hf ((Bool.and_eq_true _ _).mp h1).2
        rw [h1] at a1
        have a1 : MNL _ _ _ _ _ [(0, qsO (nx k) f c)] := a1
        rw [if_pos rfl]
        have i1 := (ih1 (nx k) f (by omega)).ok (facQ v n (nx k) f).1 (facQ v n (nx k) f).2 rfl
        generalize facQ v n (nx k) f = q at *
        obtain ⟨x, k2, f2⟩ := q
        dsimp only at i1 ⊢
        clear ih ih1 ih2 ih3 a2
        refine MX.of (fn := Tryz.f265) Tryz.call265 Tryz.func265 rfl Tryz.ntmps265 Tryz.results265 rfl rfl (by intro a; simp [V.ok, okL, C.ok, okA, okV]) (by intro b; exact ⟨rfl, by simp [HO.one, okL, C.ok, okA]⟩) ?_
        repeat' (first | (with_reducible first | apply AW.seq | apply AW.block | apply AW.skip | apply AW.ret | apply q_then | apply q_thenR | apply q_bloN | apply y_e | refine v_rgl ?_ | refine v_drb ?_) | ((with_reducible apply i_dv); first | refine t_v AS.v ?_ | refine t_w AS.w ?_ | refine t_w (by first | exact u_m1 (hP := a1) | exact u_m1 (hP := i1)) ?_) | ((with_reducible apply i_ds); refine t_s AS.s ?_) | ((with_reducible refine i_aw ?_); refine v_yes ?_) | ((with_reducible refine i_rx ?_); refine l_1c (k := ?_)) | (refine ⟨by decide +kernel, ?_⟩) | fail)
        exact ⟨{ Ex.zero with op := 2, kids := [x] }, (_, _), rfl, ux_exC { Ex.zero with op := 2, kids := [x] }, le_id rfl⟩
      | false =>
        rw [h1] at a1
        have a1 : MNL _ _ _ _ _ [(0, qsO k f c)] := a1
        rw [if_neg ff]
        cases h2 : okM f ⟨#[40]⟩ k with
        | true =>
          have hx : (nx k).1 = k.1 + 1 := by
            unfold okM at h2
            exact isM_adv hf ((Bool.and_eq_true _ _).mp h2).2
          rw [h2] at a2
          have a2 : MNL _ _ _ _ _ [(0, qsO (nx k) f c)] := a2
          rw [if_pos rfl]
          have i1 := (ih3 (nx k) f (by omega)).ok (orQ v n (nx k) f).1 (orQ v n (nx k) f).2 rfl
          generalize orQ v n (nx k) f = q at *
          obtain ⟨x, k2, f2⟩ := q
          dsimp only at i1 ⊢
          have m3 := q7need_m (c := c) hf k2 f2 ⟨#[41]⟩
          generalize needQ ⟨#[41]⟩ k2 f2 = q at *
          obtain ⟨k3, f3⟩ := q
          dsimp only at m3 ⊢
          clear ih ih1 ih2 ih3
          refine MX.of (fn := Tryz.f265) Tryz.call265 Tryz.func265 rfl Tryz.ntmps265 Tryz.results265 rfl rfl (by intro a; simp [V.ok, okL, C.ok, okA, okV]) (by intro b; exact ⟨rfl, by simp [HO.one, okL, C.ok, okA]⟩) ?_
          repeat' (first | (with_reducible first | apply AW.seq | apply AW.skip | apply AW.ret | apply q_then | apply q_thenR | apply y_e | refine v_rgl ?_) | ((with_reducible apply i_dv); first | refine t_v AS.v ?_ | refine t_w AS.w ?_ | refine t_w (by first | exact u_m1 (hP := a1) | exact u_m1 (hP := a2) | exact u_m1 (hP := i1) | exact u_m1 (hP := m3)) ?_) | ((with_reducible apply i_ds); refine t_s AS.s ?_) | ((with_reducible refine i_aw ?_); first | refine v_yes ?_ | refine v_no ?_) | ((with_reducible refine i_rx ?_); refine l_1c (k := ?_)) | fail)
          exact ⟨x, (_, _), rfl, ux_exC x, le_id rfl⟩
        | false =>
          rw [h2] at a2
          have a2 : MNL _ _ _ _ _ [(0, qsO k f c)] := a2
          rw [if_neg ff]
          have m3 := q7cmp_m (c := c) hf v k f
          generalize cmpQ v k f = q at *
          obtain ⟨x, k2, f2⟩ := q
          dsimp only at m3 ⊢
          clear ih ih1 ih2 ih3
          refine MX.of (fn := Tryz.f265) Tryz.call265 Tryz.func265 rfl Tryz.ntmps265 Tryz.results265 rfl rfl (by intro a; simp [V.ok, okL, C.ok, okA, okV]) (by intro b; exact ⟨rfl, by simp [HO.one, okL, C.ok, okA]⟩) ?_
          repeat' (first | (with_reducible first | apply AW.seq | apply AW.skip | apply AW.ret | apply q_then | apply y_e | refine v_rgl ?_) | ((with_reducible apply i_dv); first | refine t_v AS.v ?_ | refine t_w AS.w ?_ | refine t_w (by first | exact u_m1 (hP := a1) | exact u_m1 (hP := a2) | exact u_m1 (hP := m3)) ?_) | ((with_reducible apply i_ds); refine t_s AS.s ?_) | ((with_reducible refine i_aw ?_); refine v_no ?_) | ((with_reducible refine i_rx ?_); refine l_1c (k := ?_)) | fail)
          exact ⟨x, (_, _), rfl, ux_exC x, le_id rfl⟩
    · have hk := k.2
      have i1 := (ih1 k f (by omega)).ok (facQ v n k f).1 (facQ v n k f).2 rfl
      have hle := (fac_le hf v n).1 k f
      rw [andQ]
      generalize facQ v n k f = q at *
      obtain ⟨x, k2, f2⟩ := q
      dsimp only at i1 hle ⊢
      clear ih1 ih2 ih3
      refine MX.of (fn := Tryz.f192) Tryz.call192 Tryz.func192 rfl Tryz.ntmps192 Tryz.results192 rfl rfl (by intro a; simp [V.ok, okL, C.ok, okA, okV]) (by intro b; exact ⟨rfl, by simp [HO.one, okL, C.ok, okA]⟩) ?_
      repeat' (first | (with_reducible first | apply AW.seq | apply AW.block | apply q_then | apply y_e | refine v_rgl ?_) | ((with_reducible apply i_dv); first | refine t_v AS.v ?_ | refine t_w AS.w ?_ | refine t_w (by exact u_m1 (hP := i1)) ?_) | ((with_reducible apply i_ds); refine t_s AS.s ?_) | fail)
      generalize hsp : andLQ v n x k2 f2 = sp
      refine AW.loop (fun m σ => ∃ e k' f', andLQ v m e k' f' = sp ∧ m ≤ n ∧ 4 * (l.length - k'.1) + 1 ≤ m ∧ σ = mk [(0, .c (.ptr 0 0)), (1, .c (sI (if v then 3 else 2))), (4, .c (.ptr 4 0)), (5, .c (.ptr 5 0))] [(5, .obj 49 (exC e)), (0, qsO k' f' c), (4, .obj 49 (exC Ex.zero))]) n ?_ ?_
      · exact ⟨_, wk_mk (by (repeat (first | exact all_nil | ((refine all_cons ⟨_, rfl, .inl rfl, ?_⟩ ?_); (· (rfl))))); done) (by (repeat (first | exact all_nil | ((refine all_cons ⟨_, rfl, .inl rfl, ?_⟩ ?_); (· (first | rfl | (simp [V.ok, okL, C.ok, okA, HO.ok]; done)))))); done) (by rfl), x, k2, f2, hsp, Nat.le_refl _, by omega, rfl⟩
      clear hle hsp i1
      rintro m σ ⟨e, k', f', hm, hm1, hm2, rfl⟩
      subst hm
      have hk' := k'.2
      obtain ⟨m, rfl⟩ : ∃ n, m = n + 1 := ⟨m - 1, by omega⟩
      have a1 := q7mark_m (c := c) hf k' f' ⟨#[38, 38]⟩
      rw [andLQ]
      cases hb : okM f' ⟨#[38, 38]⟩ k' with
      | true =>
        have hx : (nx k').1 = k'.1 + 1 := by
          unfold okM at hb
          exact isM_adv hf ((Bool.and_eq_true _ _).mp hb).2
        rw [hb] at a1
        have a1 : MNL _ _ _ _ _ [(0, qsO (nx k') f' c)] := a1
        rw [if_pos rfl]
        have i1 := ((ih m (by omega)).1 (nx k') f' (by omega)).ok (facQ v m (nx k') f').1 (facQ v m (nx k') f').2 rfl
        have hle := (fac_le hf v m).1 (nx k') f'
        generalize facQ v m (nx k') f' = q at *
        obtain ⟨y, k3, f3⟩ := q
        dsimp only at i1 hle ⊢
        clear ih
        repeat' (first | (with_reducible first | apply AW.seq | apply AW.block | apply AW.skip | apply AW.ret | apply q_then | apply q_thenR | apply q_bloN | apply y_e | refine v_rgl ?_ | refine v_drb ?_) | ((with_reducible apply i_dv); first | refine t_v AS.v ?_ | refine t_w AS.w ?_ | refine t_w (by first | exact u_m1 (hP := a1) | exact u_m1 (hP := i1)) ?_) | ((with_reducible apply i_ds); refine t_s AS.s ?_) | ((with_reducible refine i_aw ?_); refine v_yes ?_) | ((with_reducible refine i_rx ?_); refine l_1c (k := ?_)) | (refine ⟨by decide +kernel, ?_⟩) | fail)
        exact ⟨m, _, Nat.lt_succ_self m, wk_mk (by (repeat (first | exact all_nil | ((refine all_cons ⟨_, rfl, .inl rfl, ?_⟩ ?_); (· (first | rfl | exact okRow rfl | exact ok_nsR _ _ _ _ rfl rfl | exact ok_lvR _ _ _ rfl | exact ok_stM _ _ rfl | (simp [V.ok, okL, C.ok, okA, HO.ok]; done) | (change okL _ _ = true; assumption)))))); done) (by (repeat (first | exact all_nil | ((refine all_cons ⟨_, rfl, .inl rfl, ?_⟩ ?_); (· (first | rfl | exact okRow rfl | exact ok_nsR _ _ _ _ rfl rfl | exact ok_lvR _ _ _ rfl | exact ok_stM _ _ rfl | (simp [V.ok, okL, C.ok, okA, HO.ok]; done) | (change okL _ _ = true; assumption)))))); done) (by first | rfl | exact fun h => h), _, k3, f3, rfl, by omega, by omega, rfl⟩
      | false =>
        rw [hb] at a1
        have a1 : MNL _ _ _ _ _ [(0, qsO k' f' c)] := a1
        rw [if_neg ff]
        clear ih
        repeat' (first | (with_reducible first | apply AW.seq | apply AW.ret | apply AW.exit | apply q_then | apply q_thenE | apply q_bloE | apply y_e | refine v_rgl ?_) | ((with_reducible apply i_dv); first | refine t_v AS.v ?_ | refine t_w (by exact u_m1 (hP := a1)) ?_) | ((with_reducible apply i_ds); refine t_s AS.s ?_) | ((with_reducible refine i_aw ?_); refine v_no ?_) | ((with_reducible refine i_rx ?_); refine l_1c (k := ?_)) | fail)
        exact ⟨e, (_, _), rfl, ux_exC e, le_id rfl⟩
    · have hk := k.2
      have i1 := (ih2 k f (by omega)).ok (andQ v n k f).1 (andQ v n k f).2 rfl
      have hle := (fac_le hf v n).2.1 k f
      rw [orQ]
      generalize andQ v n k f = q at *
      obtain ⟨x, k2, f2⟩ := q
      dsimp only at i1 hle ⊢
      clear ih1 ih2 ih3
      refine MX.of (fn := Tryz.f134) Tryz.call134 Tryz.func134 rfl Tryz.ntmps134 Tryz.results134 rfl rfl (by intro a; simp [V.ok, okL, C.ok, okA, okV]) (by intro b; exact ⟨rfl, by simp [HO.one, okL, C.ok, okA]⟩) ?_
      repeat' (first | (with_reducible first | apply AW.seq | apply AW.block | apply q_then | apply y_e | refine v_rgl ?_) | ((with_reducible apply i_dv); first | refine t_v AS.v ?_ | refine t_w AS.w ?_ | refine t_w (by exact u_m1 (hP := i1)) ?_) | ((with_reducible apply i_ds); refine t_s AS.s ?_) | fail)
      generalize hsp : orLQ v n x k2 f2 = sp
      refine AW.loop (fun m σ => ∃ e k' f', orLQ v m e k' f' = sp ∧ m ≤ n ∧ 4 * (l.length - k'.1) + 1 ≤ m ∧ σ = mk [(0, .c (.ptr 0 0)), (1, .c (sI (if v then 3 else 2))), (4, .c (.ptr 4 0)), (5, .c (.ptr 5 0))] [(5, .obj 49 (exC e)), (0, qsO k' f' c), (4, .obj 49 (exC Ex.zero))]) n ?_ ?_
      · exact ⟨_, wk_mk (by (repeat (first | exact all_nil | ((refine all_cons ⟨_, rfl, .inl rfl, ?_⟩ ?_); (· (rfl))))); done) (by (repeat (first | exact all_nil | ((refine all_cons ⟨_, rfl, .inl rfl, ?_⟩ ?_); (· (first | rfl | (simp [V.ok, okL, C.ok, okA, HO.ok]; done)))))); done) (by rfl), x, k2, f2, hsp, Nat.le_refl _, by omega, rfl⟩
      clear hle hsp i1
      rintro m σ ⟨e, k', f', hm, hm1, hm2, rfl⟩
      subst hm
      have hk' := k'.2
      obtain ⟨m, rfl⟩ : ∃ n, m = n + 1 := ⟨m - 1, by omega⟩
      have a1 := q7mark_m (c := c) hf k' f' ⟨#[124, 124]⟩
      rw [orLQ]
      cases hb : okM f' ⟨#[124, 124]⟩ k' with
      | true =>
        have hx : (nx k').1 = k'.1 + 1 := by
          unfold okM at hb
          exact isM_adv hf ((Bool.and_eq_true _ _).mp hb).2
        rw [hb] at a1
        have a1 : MNL _ _ _ _ _ [(0, qsO (nx k') f' c)] := a1
        rw [if_pos rfl]
        have i1 := ((ih m (by omega)).2.1 (nx k') f' (by omega)).ok (andQ v m (nx k') f').1 (andQ v m (nx k') f').2 rfl
        have hle := (fac_le hf v m).2.1 (nx k') f'
        generalize andQ v m (nx k') f' = q at *
        obtain ⟨y, k3, f3⟩ := q
        dsimp only at i1 hle ⊢
        clear ih
        repeat' (first | (with_reducible first | apply AW.seq | apply AW.block | apply AW.skip | apply AW.ret | apply q_then | apply q_thenR | apply q_bloN | apply y_e | refine v_rgl ?_ | refine v_drb ?_) | ((with_reducible apply i_dv); first | refine t_v AS.v ?_ | refine t_w AS.w ?_ | refine t_w (by first | exact u_m1 (hP := a1) | exact u_m1 (hP := i1)) ?_) | ((with_reducible apply i_ds); refine t_s AS.s ?_) | ((with_reducible refine i_aw ?_); refine v_yes ?_) | ((with_reducible refine i_rx ?_); refine l_1c (k := ?_)) | (refine ⟨by decide +kernel, ?_⟩) | fail)
        exact ⟨m, _, Nat.lt_succ_self m, wk_mk (by (repeat (first | exact all_nil | ((refine all_cons ⟨_, rfl, .inl rfl, ?_⟩ ?_); (· (first | rfl | exact okRow rfl | exact ok_nsR _ _ _ _ rfl rfl | exact ok_lvR _ _ _ rfl | exact ok_stM _ _ rfl | (simp [V.ok, okL, C.ok, okA, HO.ok]; done) | (change okL _ _ = true; assumption)))))); done) (by (repeat (first | exact all_nil | ((refine all_cons ⟨_, rfl, .inl rfl, ?_⟩ ?_); (· (first | rfl | exact okRow rfl | exact ok_nsR _ _ _ _ rfl rfl | exact ok_lvR _ _ _ rfl | exact ok_stM _ _ rfl | (simp [V.ok, okL, C.ok, okA, HO.ok]; done) | (change okL _ _ = true; assumption)))))); done) (by first | rfl | exact fun h => h), _, k3, f3, rfl, by omega, by omega, rfl⟩
      | false =>
        rw [hb] at a1
        have a1 : MNL _ _ _ _ _ [(0, qsO k' f' c)] := a1
        rw [if_neg ff]
        clear ih
        repeat' (first | (with_reducible first | apply AW.seq | apply AW.ret | apply AW.exit | apply q_then | apply q_thenE | apply q_bloE | apply y_e | refine v_rgl ?_) | ((with_reducible apply i_dv); first | refine t_v AS.v ?_ | refine t_w (by exact u_m1 (hP := a1)) ?_) | ((with_reducible apply i_ds); refine t_s AS.s ?_) | ((with_reducible refine i_aw ?_); refine v_no ?_) | ((with_reducible refine i_rx ?_); refine l_1c (k := ?_)) | fail)
        exact ⟨e, (_, _), rfl, ux_exC e, le_id rfl⟩
theorem q7expr_x (hf : Fine l) (v : Bool) (k : Ix l) (f : Fa) : MX Tryz.prog 67 [(0, qsO k f c)] [.c (.ptr 0 0), .c (sB v)] (.ok (exprQ v k f) : Except Fa (Ex × (Ix l × Fa))) (fun e => .agg (exC e)) (fun b => [(0, qsO b.1 b.2 c)]) pvS := by
  have hl := hf.le
  have nw := q7now_p (l := l) (k := k) (f := f) (c := c)
  have m1 := ((q7fac_n (c := c) hf v (fuel l)).2.2 k f (by unfold fuel; omega)).ok (orQ v (fuel l) k f).1 (orQ v (fuel l) k f).2 rfl
  have hlv := (fac_lv hf v (fuel l)).2.2.2.1 k f
  unfold exprQ
  generalize orQ v (fuel l) k f = q at *
  obtain ⟨x, k2, f2⟩ := q
  dsimp only at m1 hlv ⊢
  have hk2 := k2.2
  have lv := q7levels_p x (by omega)
  have fl := q7fail_m (c := c) k2 f2 4 (tk k)
  by_cases h : 12 < levE x
  · rw [if_pos h]
    cases v with
    | true =>
      refine MX.of (fn := Tryz.f67) Tryz.call67 Tryz.func67 rfl Tryz.ntmps67 Tryz.results67 rfl rfl (by intro a; simp [V.ok, okL, C.ok, okA, okV]) (by intro b; exact ⟨rfl, by simp [HO.one, okL, C.ok, okA]⟩) ?_
      repeat' (first | (with_reducible first | apply AW.seq | apply AW.skip | apply AW.ret | apply q_then | apply y_e | refine v_rgl ?_) | ((with_reducible apply i_dv); first | refine t_v AS.v ?_ | refine t_v (by first | exact u_call (hP := lv) | exact u_eye (hP := nw)) ?_ | refine t_w AS.w ?_ | refine t_w (by first | exact u_m1 (hP := m1) | exact u_m1 (hP := fl)) ?_) | ((with_reducible apply i_ds); refine t_s AS.s ?_) | ((with_reducible refine i_aw ?_); first | refine v_yes ?_ | refine v_no ?_ | (refine v_cond (fun hc => ?_) (fun hc => ?_); all_goals (try (exfalso; revert hc; simp; omega)))) | ((with_reducible refine i_rx ?_); refine l_1c (k := ?_)) | fail)
      all_goals first | exact ⟨x, (_, _), rfl, ux_exC x, le_id rfl⟩ | trace_state
    | false =>
      refine MX.of (fn := Tryz.f67) Tryz.call67 Tryz.func67 rfl Tryz.ntmps67 Tryz.results67 rfl rfl (by intro a; simp [V.ok, okL, C.ok, okA, okV]) (by intro b; exact ⟨rfl, by simp [HO.one, okL, C.ok, okA]⟩) ?_
      repeat' (first | (with_reducible first | apply AW.seq | apply AW.skip | apply AW.ret | apply q_then | apply y_e | refine v_rgl ?_) | ((with_reducible apply i_dv); first | refine t_v AS.v ?_ | refine t_v (by first | exact u_call (hP := lv) | exact u_eye (hP := nw)) ?_ | refine t_w AS.w ?_ | refine t_w (by first | exact u_m1 (hP := m1) | exact u_m1 (hP := fl)) ?_) | ((with_reducible apply i_ds); refine t_s AS.s ?_) | ((with_reducible refine i_aw ?_); first | refine v_yes ?_ | refine v_no ?_ | (refine v_cond (fun hc => ?_) (fun hc => ?_); all_goals (try (exfalso; revert hc; simp; omega)))) | ((with_reducible refine i_rx ?_); refine l_1c (k := ?_)) | fail)
      all_goals exact ⟨x, (_, _), rfl, ux_exC x, le_id rfl⟩
  · rw [if_neg h]
    cases v with
    | true =>
      refine MX.of (fn := Tryz.f67) Tryz.call67 Tryz.func67 rfl Tryz.ntmps67 Tryz.results67 rfl rfl (by intro a; simp [V.ok, okL, C.ok, okA, okV]) (by intro b; exact ⟨rfl, by simp [HO.one, okL, C.ok, okA]⟩) ?_
      repeat' (first | (with_reducible first | apply AW.seq | apply AW.skip | apply AW.ret | apply q_then | apply y_e | refine v_rgl ?_) | ((with_reducible apply i_dv); first | refine t_v AS.v ?_ | refine t_v (by first | exact u_call (hP := lv) | exact u_eye (hP := nw)) ?_ | refine t_w AS.w ?_ | refine t_w (by first | exact u_m1 (hP := m1) | exact u_m1 (hP := fl)) ?_) | ((with_reducible apply i_ds); refine t_s AS.s ?_) | ((with_reducible refine i_aw ?_); first | refine v_yes ?_ | refine v_no ?_ | (refine v_cond (fun hc => ?_) (fun hc => ?_); all_goals (try (exfalso; revert hc; simp; omega)))) | ((with_reducible refine i_rx ?_); refine l_1c (k := ?_)) | fail)
      all_goals first | exact ⟨x, (_, _), rfl, ux_exC x, le_id rfl⟩ | trace_state
    | false =>
      refine MX.of (fn := Tryz.f67) Tryz.call67 Tryz.func67 rfl Tryz.ntmps67 Tryz.results67 rfl rfl (by intro a; simp [V.ok, okL, C.ok, okA, okV]) (by intro b; exact ⟨rfl, by simp [HO.one, okL, C.ok, okA]⟩) ?_
      repeat' (first | (with_reducible first | apply AW.seq | apply AW.skip | apply AW.ret | apply q_then | apply y_e | refine v_rgl ?_) | ((with_reducible apply i_dv); first | refine t_v AS.v ?_ | refine t_v (by first | exact u_call (hP := lv) | exact u_eye (hP := nw)) ?_ | refine t_w AS.w ?_ | refine t_w (by first | exact u_m1 (hP := m1) | exact u_m1 (hP := fl)) ?_) | ((with_reducible apply i_ds); refine t_s AS.s ?_) | ((with_reducible refine i_aw ?_); first | refine v_yes ?_ | refine v_no ?_ | (refine v_cond (fun hc => ?_) (fun hc => ?_); all_goals (try (exfalso; revert hc; simp; omega)))) | ((with_reducible refine i_rx ?_); refine l_1c (k := ?_)) | fail)
      all_goals exact ⟨x, (_, _), rfl, ux_exC x, le_id rfl⟩
theorem q7expr_m (hf : Fine l) (v : Bool) (k : Ix l) (f : Fa) : MNL Tryz.prog 67 [(0, qsO k f c)] [.c (.ptr 0 0), .c (sB v)] (.agg (exC (exprQ v k f).1)) [(0, qsO (exprQ v k f).2.1 (exprQ v k f).2.2 c)] := (q7expr_x hf v k f).ok (exprQ v k f).1 (exprQ v k f).2 rfl
end
end Am
namespace Am
open Tk Go.RowKit
set_option maxRecDepth 100000
set_option maxHeartbeats 4000000
theorem Po.ext' {a b : Po} (h1 : a.line = b.line) (h2 : a.col = b.col) : a = b := by cases a; cases b; simp_all
instance : DecidableEq Po := fun a b => if h : a.line = b.line ∧ a.col = b.col then isTrue (Po.ext' h.1 h.2) else isFalse fun e => h (e ▸ ⟨rfl, rfl⟩)
theorem Fa.ext' {a b : Fa} (h1 : a.code = b.code) (h2 : a.pos = b.pos) (h3 : a.name = b.name) : a = b := by cases a; cases b; simp_all
instance : DecidableEq Fa := fun a b => if h : a.code = b.code ∧ a.pos = b.pos ∧ a.name = b.name then isTrue (Fa.ext' h.1 h.2.1 h.2.2) else isFalse fun e => h (e ▸ ⟨rfl, rfl, rfl⟩)
theorem pos_in (d : Nat) (a b c e : Int) (w : World) : (Op.equalIn (d + 2) 28 (.agg #[.int .i64 a, .int .i64 b]) (.agg #[.int .i64 c, .int .i64 e])).run Tryz.prog w = .ok ((a == c) && (b == e)) w := by
  have hS : Tryz.prog.underlying 28 = some (.struct (Tryz.prog.fieldsOf 28)) := by kernel_rfl
  have hp : Tryz.prog.stoodInHeld 28 = false := by kernel_rfl
  rw [run_equalIn_agg w (d + 1) 28 _ _ hS hp]
  simp only [Program.fieldsOf, Tryz.underlying28]
  go_simp
  by_cases h1 : a = c <;> by_cases h2 : b = e <;> simp [h1, h2]
theorem fault_in (d : Nat) (a b c i e f : Int) (s t : ByteArray) (w : World) : (Op.equalIn (d + 3) 30 (.agg #[.int .i64 a, .int .i64 b, .int .i64 c, .string s]) (.agg #[.int .i64 i, .int .i64 e, .int .i64 f, .string t])).run Tryz.prog w = .ok ((a == i) && ((b == e) && (c == f)) && (s.toList == t.toList)) w := by
  have hS : Tryz.prog.underlying 30 = some (.struct (Tryz.prog.fieldsOf 30)) := by kernel_rfl
  have hp : Tryz.prog.stoodInHeld 30 = false := by kernel_rfl
  have hq := pos_in d b c e f w
  rw [run_equalIn_agg w (d + 2) 30 _ _ hS hp]
  simp only [Program.fieldsOf, Tryz.underlying30]
  go_simp
  by_cases h1 : a = i
  · by_cases h2 : b = e
    · by_cases h3 : c = f
      · by_cases h4 : s.toList = t.toList
        · simp [h1, h2, h3, h4]
        · simp [h1, h2, h3, h4]
      · simp [h1, h2, h3]
    · simp [h1, h2]
  · simp [h1]
theorem posB (a b : Po) : ((a.line == b.line) && (a.col == b.col)) = decide (a = b) := by
  rw [Bool.eq_iff_iff]
  simp only [Bool.and_eq_true, beq_iff_eq, decide_eq_true_eq]
  exact ⟨fun h => Po.ext' h.1 h.2, fun h => by rw [h]; exact ⟨rfl, rfl⟩⟩
theorem faultB (a b : Fa) : ((a.code == b.code) && ((a.pos.line == b.pos.line) && (a.pos.col == b.pos.col)) && (a.name.toList == b.name.toList)) = decide (a = b) := by
  rw [Bool.eq_iff_iff]
  simp only [Bool.and_eq_true, beq_iff_eq, decide_eq_true_eq, ba_toList]
  exact ⟨fun h => Fa.ext' h.1.1 (Po.ext' h.1.2.1 h.1.2.2) h.2, fun h => by rw [h]; exact ⟨⟨rfl, rfl, rfl⟩, rfl⟩⟩
section
variable {ρ : Operand → Option V} {H : Nat → Option HO} {d : Option Nat} {ty t2 : TypeId} {pos : String} {af : Array Edge} {gu : Option (Nat × Bool)} {x y : Operand}
theorem u_eqlPo {a b : Po} (hx : Ev ρ x (.agg (poC a)) := by exact ev_t) (hy : Ev ρ y (.agg (poC b)) := by exact ev_t) : AS Tryz.prog ρ H ⟨d, .binOp .eql 28 x y t2, ty, pos, af, gu⟩ ⟨.c (sB (decide (a = b))), [], []⟩ := by
  refine .still (x := .bool (decide (a = b))) (fun q hq w => ?_) fun _ => .sc rfl
  have h1 := hq x (by simp [Op.operands]) _ _ hx (Cq.agg (vs := [.int .i64 a.line, .int .i64 a.col]))
  have h2 := hq y (by simp [Op.operands]) _ _ hy (Cq.agg (vs := [.int .i64 b.line, .int .i64 b.col]))
  have h3 : (do eqGuard .eql 28 x y (.agg #[.int .i64 a.line, .int .i64 a.col]) (.agg #[.int .i64 b.line, .int .i64 b.col]); binOp .eql 28 (.agg #[.int .i64 a.line, .int .i64 a.col]) (.agg #[.int .i64 b.line, .int .i64 b.col]) : Sem Value).run Tryz.prog w = .ok (.bool (decide (a = b))) w := by
    have hz : (binOp .eql 28 (.agg #[.int .i64 a.line, .int .i64 a.col]) (.agg #[.int .i64 b.line, .int .i64 b.col])).run Tryz.prog w = .ok (.bool (decide (a = b))) w := by
      rw [run_eql_struct, show (10000 : Nat) = 9998 + 2 from rfl, pos_in 9998, ← posB]; rfl
    have hg : (eqGuard .eql 28 x y (.agg #[.int .i64 a.line, .int .i64 a.col]) (.agg #[.int .i64 b.line, .int .i64 b.col])).run Tryz.prog w = .ok () w := by simp [go_sem]
    rw [Sem.run_bind, hg, Result.andThen_ok, hz]
  unfold execOp
  simp only [h1, h2]
  simp only [Sem.run_bind] at h3 ⊢
  rw [h3]
  simp
theorem u_neqPo {a b : Po} (hx : Ev ρ x (.agg (poC a)) := by exact ev_t) (hy : Ev ρ y (.agg (poC b)) := by exact ev_t) : AS Tryz.prog ρ H ⟨d, .binOp .neq 28 x y t2, ty, pos, af, gu⟩ ⟨.c (sB (!decide (a = b))), [], []⟩ := by
  refine .still (x := .bool (!decide (a = b))) (fun q hq w => ?_) fun _ => .sc rfl
  have h1 := hq x (by simp [Op.operands]) _ _ hx (Cq.agg (vs := [.int .i64 a.line, .int .i64 a.col]))
  have h2 := hq y (by simp [Op.operands]) _ _ hy (Cq.agg (vs := [.int .i64 b.line, .int .i64 b.col]))
  have h3 : (do eqGuard .neq 28 x y (.agg #[.int .i64 a.line, .int .i64 a.col]) (.agg #[.int .i64 b.line, .int .i64 b.col]); binOp .neq 28 (.agg #[.int .i64 a.line, .int .i64 a.col]) (.agg #[.int .i64 b.line, .int .i64 b.col]) : Sem Value).run Tryz.prog w = .ok (.bool (!decide (a = b))) w := by
    have hz : (binOp .neq 28 (.agg #[.int .i64 a.line, .int .i64 a.col]) (.agg #[.int .i64 b.line, .int .i64 b.col])).run Tryz.prog w = .ok (.bool (!decide (a = b))) w := by
      rw [run_neq_struct, show (10000 : Nat) = 9998 + 2 from rfl, pos_in 9998, ← posB]; rfl
    have hg : (eqGuard .neq 28 x y (.agg #[.int .i64 a.line, .int .i64 a.col]) (.agg #[.int .i64 b.line, .int .i64 b.col])).run Tryz.prog w = .ok () w := by simp [go_sem]
    rw [Sem.run_bind, hg, Result.andThen_ok, hz]
  unfold execOp
  simp only [h1, h2]
  simp only [Sem.run_bind] at h3 ⊢
  rw [h3]
  simp
theorem u_eqlFa {a b : Fa} (hx : Ev ρ x (.agg (faC a)) := by exact ev_t) (hy : Ev ρ y (.agg (faC b)) := by exact ev_t) : AS Tryz.prog ρ H ⟨d, .binOp .eql 30 x y t2, ty, pos, af, gu⟩ ⟨.c (sB (decide (a = b))), [], []⟩ := by
  refine .still (x := .bool (decide (a = b))) (fun q hq w => ?_) fun _ => .sc rfl
  have h1 := hq x (by simp [Op.operands]) _ _ hx (Cq.agg (vs := [.int .i64 a.code, .int .i64 a.pos.line, .int .i64 a.pos.col, .string a.name]))
  have h2 := hq y (by simp [Op.operands]) _ _ hy (Cq.agg (vs := [.int .i64 b.code, .int .i64 b.pos.line, .int .i64 b.pos.col, .string b.name]))
  have h3 : (do eqGuard .eql 30 x y (.agg #[.int .i64 a.code, .int .i64 a.pos.line, .int .i64 a.pos.col, .string a.name]) (.agg #[.int .i64 b.code, .int .i64 b.pos.line, .int .i64 b.pos.col, .string b.name]); binOp .eql 30 (.agg #[.int .i64 a.code, .int .i64 a.pos.line, .int .i64 a.pos.col, .string a.name]) (.agg #[.int .i64 b.code, .int .i64 b.pos.line, .int .i64 b.pos.col, .string b.name]) : Sem Value).run Tryz.prog w = .ok (.bool (decide (a = b))) w := by
    have hz : (binOp .eql 30 (.agg #[.int .i64 a.code, .int .i64 a.pos.line, .int .i64 a.pos.col, .string a.name]) (.agg #[.int .i64 b.code, .int .i64 b.pos.line, .int .i64 b.pos.col, .string b.name])).run Tryz.prog w = .ok (.bool (decide (a = b))) w := by
      rw [run_eql_struct, show (10000 : Nat) = 9997 + 3 from rfl, fault_in 9997, ← faultB]; rfl
    have hg : (eqGuard .eql 30 x y (.agg #[.int .i64 a.code, .int .i64 a.pos.line, .int .i64 a.pos.col, .string a.name]) (.agg #[.int .i64 b.code, .int .i64 b.pos.line, .int .i64 b.pos.col, .string b.name])).run Tryz.prog w = .ok () w := by simp [go_sem]
    rw [Sem.run_bind, hg, Result.andThen_ok, hz]
  unfold execOp
  simp only [h1, h2]
  simp only [Sem.run_bind] at h3 ⊢
  rw [h3]
  simp
theorem u_neqFa {a b : Fa} (hx : Ev ρ x (.agg (faC a)) := by exact ev_t) (hy : Ev ρ y (.agg (faC b)) := by exact ev_t) : AS Tryz.prog ρ H ⟨d, .binOp .neq 30 x y t2, ty, pos, af, gu⟩ ⟨.c (sB (!decide (a = b))), [], []⟩ := by
  refine .still (x := .bool (!decide (a = b))) (fun q hq w => ?_) fun _ => .sc rfl
  have h1 := hq x (by simp [Op.operands]) _ _ hx (Cq.agg (vs := [.int .i64 a.code, .int .i64 a.pos.line, .int .i64 a.pos.col, .string a.name]))
  have h2 := hq y (by simp [Op.operands]) _ _ hy (Cq.agg (vs := [.int .i64 b.code, .int .i64 b.pos.line, .int .i64 b.pos.col, .string b.name]))
  have h3 : (do eqGuard .neq 30 x y (.agg #[.int .i64 a.code, .int .i64 a.pos.line, .int .i64 a.pos.col, .string a.name]) (.agg #[.int .i64 b.code, .int .i64 b.pos.line, .int .i64 b.pos.col, .string b.name]); binOp .neq 30 (.agg #[.int .i64 a.code, .int .i64 a.pos.line, .int .i64 a.pos.col, .string a.name]) (.agg #[.int .i64 b.code, .int .i64 b.pos.line, .int .i64 b.pos.col, .string b.name]) : Sem Value).run Tryz.prog w = .ok (.bool (!decide (a = b))) w := by
    have hz : (binOp .neq 30 (.agg #[.int .i64 a.code, .int .i64 a.pos.line, .int .i64 a.pos.col, .string a.name]) (.agg #[.int .i64 b.code, .int .i64 b.pos.line, .int .i64 b.pos.col, .string b.name])).run Tryz.prog w = .ok (.bool (!decide (a = b))) w := by
      rw [run_neq_struct, show (10000 : Nat) = 9997 + 3 from rfl, fault_in 9997, ← faultB]; rfl
    have hg : (eqGuard .neq 30 x y (.agg #[.int .i64 a.code, .int .i64 a.pos.line, .int .i64 a.pos.col, .string a.name]) (.agg #[.int .i64 b.code, .int .i64 b.pos.line, .int .i64 b.pos.col, .string b.name])).run Tryz.prog w = .ok () w := by simp [go_sem]
    rw [Sem.run_bind, hg, Result.andThen_ok, hz]
  unfold execOp
  simp only [h1, h2]
  simp only [Sem.run_bind] at h3 ⊢
  rw [h3]
  simp
end
end Am
namespace Am
open Tk Go.RowKit
set_option maxRecDepth 100000
set_option maxHeartbeats 4000000
def exS : Stm := { Stm.zero with kind := 12, op := 1, pos := ⟨1, 13⟩, source := ⟨false, false, false, [⟨#[97]⟩], []⟩, target := ⟨false, false, true, [⟨#[98]⟩], []⟩, cls := ⟨false, false, false, [⟨#[102, 105, 108, 101]⟩], []⟩, perms := ⟨false, false, false, [⟨#[114, 101, 97, 100]⟩, ⟨#[119, 114, 105, 116, 101]⟩], []⟩ }
theorem ex_1 : parseP ⟨#[109, 111, 100, 117, 108, 101, 32, 109, 32, 49, 59, 32, 97, 108, 108, 111, 119, 32, 97, 32, 123, 32, 98, 32, 115, 101, 108, 102, 32, 125, 32, 58, 32, 102, 105, 108, 101, 32, 123, 32, 114, 101, 97, 100, 32, 119, 114, 105, 116, 101, 32, 125, 59]⟩ = .ok ⟨⟨#[109]⟩, 1, [exS]⟩ := by kernel_rfl
theorem ex_2 : parseP ⟨#[109, 111, 100, 117, 108, 101, 32, 109, 32, 49, 59, 32, 97, 108, 108, 111, 119, 32, 115, 101, 108, 102, 32, 98, 32, 58, 32, 102, 105, 108, 101, 32, 114, 101, 97, 100, 59]⟩ = .error ⟨9, ⟨1, 19⟩, ⟨#[115, 101, 108, 102]⟩⟩ := by kernel_rfl
theorem ex_3 : parseP ⟨#[109, 111, 100, 117, 108, 101, 32, 109, 32, 49, 48, 48, 48, 48, 59]⟩ = .error ⟨3, ⟨1, 10⟩, ⟨#[49, 48, 48, 48, 48]⟩⟩ := by kernel_rfl
theorem ex_4 : namesT ⟨#[126, 32, 123, 32, 97, 32, 45, 32, 98, 32, 125]⟩ = .ok ⟨false, true, false, [⟨#[97]⟩], [⟨#[98]⟩]⟩ := by kernel_rfl
theorem alive_p : Pure Tryz.prog 13 [] (.c (sB true)) := by
  obtain ⟨m1, s1, e1, hm, hk, ho, hp, hs, hl⟩ : ∃ m s, parseP ⟨#[109, 111, 100, 117, 108, 101, 32, 109, 32, 49, 59, 32, 97, 108, 108, 111, 119, 32, 97, 32, 123, 32, 98, 32, 115, 101, 108, 102, 32, 125, 32, 58, 32, 102, 105, 108, 101, 32, 123, 32, 114, 101, 97, 100, 32, 119, 114, 105, 116, 101, 32, 125, 59]⟩ = .ok m ∧ m.stmts = [s] ∧ s.kind = 12 ∧ s.op = 1 ∧ s.pos = ⟨1, 13⟩ ∧ s.target.self = true ∧ s.perms.names.length = 2 := ⟨_, _, ex_1, rfl, rfl, rfl, rfl, rfl, rfl⟩
  obtain ⟨n1, e4, hn, hn1, hn2⟩ : ∃ n, namesT ⟨#[126, 32, 123, 32, 97, 32, 45, 32, 98, 32, 125]⟩ = .ok n ∧ n.nt = true ∧ n.names.length = 1 ∧ n.except.length = 1 := ⟨_, ex_4, rfl, rfl, rfl⟩
  have p1 := parse_p ⟨#[109, 111, 100, 117, 108, 101, 32, 109, 32, 49, 59, 32, 97, 108, 108, 111, 119, 32, 97, 32, 123, 32, 98, 32, 115, 101, 108, 102, 32, 125, 32, 58, 32, 102, 105, 108, 101, 32, 123, 32, 114, 101, 97, 100, 32, 119, 114, 105, 116, 101, 32, 125, 59]⟩
  have p2 := parse_p ⟨#[109, 111, 100, 117, 108, 101, 32, 109, 32, 49, 59, 32, 97, 108, 108, 111, 119, 32, 115, 101, 108, 102, 32, 98, 32, 58, 32, 102, 105, 108, 101, 32, 114, 101, 97, 100, 59]⟩
  have p3 := parse_p ⟨#[109, 111, 100, 117, 108, 101, 32, 109, 32, 49, 48, 48, 48, 48, 59]⟩
  have p4 := names_e ⟨#[126, 32, 123, 32, 97, 32, 45, 32, 98, 32, 125]⟩
  rw [e1] at p1
  rw [ex_2] at p2
  rw [ex_3] at p3
  rw [e4] at p4
  have p1 : Pure _ _ _ (.tup [.agg (moC m1), .agg (faC Fa.zero)]) := p1
  have p2 : Pure _ _ _ (.tup [.agg (moC Mo.zero), .agg (faC ⟨9, ⟨1, 19⟩, ⟨#[115, 101, 108, 102]⟩⟩)]) := p2
  have p3 : Pure _ _ _ (.tup [.agg (moC Mo.zero), .agg (faC ⟨3, ⟨1, 10⟩, ⟨#[49, 48, 48, 48, 48]⟩⟩)]) := p3
  have p4 : Pure _ _ _ (.tup [.agg (nsC n1), .agg (faC Fa.zero)]) := p4
  clear e1 e4
  have hg : (m1.stmts.map stC)[0]? = some (stC s1) := by rw [hm]; rfl
  have hml : m1.stmts.length = 1 := by rw [hm]; rfl
  refine fn0 (fn := Tryz.f13) Tryz.call13 Tryz.func13 rfl Tryz.ntmps13 Tryz.results13 rfl (by rfl) ?_
  repeat' (first | (with_reducible first | apply AW.seq | apply AW.skip | apply AW.ret | apply q_then | apply q_thenR | apply y_e | refine v_rgl ?_) | ((with_reducible apply i_dv); first | refine t_v AS.v ?_ | refine t_v (by first | exact u_call (hP := p1) | exact u_call (hP := p2) | exact u_call (hP := p3) | exact u_call (hP := p4)) ?_ | refine t_w AS.w ?_) | ((with_reducible apply i_dg); first | refine t_m (hs := fun hg => AS.v) (k := ?_) | refine t_m (hs := fun hg => (by first | exact u_neqFa | exact u_eqlPo)) (k := ?_)) | ((with_reducible apply i_ds); refine t_s AS.s ?_) | ((with_reducible refine i_aw ?_); ((refine v_cond (fun hc => ?_) (fun hc => ?_)))) | ((with_reducible refine i_rt ?_); refine k_b ?_) | fail)
  · exfalso
    simp [hml, Fa.zero] at hc
  · simp [hk, ho, hp, hs, hl, hn, hn1, hn2, Fa.zero]
end Am
namespace Am
open Tk Go.RowKit
set_option maxRecDepth 100000
set_option maxHeartbeats 4000000
theorem q7Constr_p (src : ByteArray) (v : Bool) : Pure Tryz.prog 24 [.c (sS src), .c (sB v)] (rtV (.agg (exC Ex.zero)) (fun x => .agg (exC x)) (constrT v src)) := by
  obtain ⟨l, f, hs⟩ : ∃ l f, scnQ src = (l, f) := ⟨_, _, rfl⟩
  have hf := scnQ_fine hs
  have nw := q7scanned_n hs hf.pos
  have st := q7expr_m (c := 0) hf v ⟨0, hf.pos⟩ f
  have rq := run_q hs hf.pos (sp := fun l k => constrP v k) (expr_rq hf v ⟨0, hf.pos⟩ f) (constr_nz v _)
  generalize exprQ v (⟨0, hf.pos⟩ : Ix l) f = q at *
  obtain ⟨x, k1, f1⟩ := q
  dsimp only at st rq
  have en := q7end_m k1 f1 0
  have e : constrT v src = runP src fun l k => zQ (constrP v k) := rfl
  rw [e]
  clear e hs
  cases hp : (runP src fun l k => zQ (constrP v k)) with
  | ok y =>
    obtain ⟨rfl, hz⟩ := rq.1 y hp
    clear rq hp
    show Pure _ _ _ (.tup [.agg (exC x), .agg (faC Fa.zero)])
    generalize endQ k1 f1 = g at *
    refine fn2 (fn := Tryz.f24) Tryz.call24 Tryz.func24 rfl Tryz.ntmps24 Tryz.results24 rfl (by first | rfl | simp [V.ok, okL, C.ok, okA, okV]) ?_
    repeat' (first | (with_reducible first | apply AW.seq | apply AW.skip | apply AW.ret | apply q_then | apply q_thenR | apply y_e | refine v_rgl ?_ | refine v_drb ?_) | ((with_reducible apply i_dv); first | refine t_w (u_new nw) ?_ | refine t_v AS.v ?_ | refine t_w AS.w ?_ | refine t_w (by first | exact u_m1 (hP := st) | exact u_m1 (hP := en)) ?_) | ((with_reducible apply i_ds); refine t_s AS.s ?_) | ((with_reducible refine i_aw ?_); ((refine v_cond (fun hc => ?_) (fun hc => ?_); all_goals (try (exfalso; simp [*] at hc; done))))) | ((with_reducible refine i_rt ?_); (((refine k_cc ?_ ?_); all_goals (with_reducible (apply un_a))))) | (refine ⟨by decide +kernel, ?_⟩) | fail)
    all_goals first | rfl | simp only [unA] | simp | trace_state
  | error g =>
    obtain ⟨hz, he⟩ := rq.2 g hp
    clear rq hp
    show Pure _ _ _ (.tup [.agg (exC Ex.zero), .agg (faC g)])
    rw [he] at en
    refine fn2 (fn := Tryz.f24) Tryz.call24 Tryz.func24 rfl Tryz.ntmps24 Tryz.results24 rfl (by first | rfl | simp [V.ok, okL, C.ok, okA, okV]) ?_
    repeat' (first | (with_reducible first | apply AW.seq | apply AW.skip | apply AW.ret | apply q_then | apply q_thenR | apply y_e | refine v_rgl ?_ | refine v_drb ?_) | ((with_reducible apply i_dv); first | refine t_w (u_new nw) ?_ | refine t_v AS.v ?_ | refine t_w AS.w ?_ | refine t_w (by first | exact u_m1 (hP := st) | exact u_m1 (hP := en)) ?_) | ((with_reducible apply i_ds); refine t_s AS.s ?_) | ((with_reducible refine i_aw ?_); ((refine v_cond (fun hc => ?_) (fun hc => ?_); all_goals (try (exfalso; simp [*] at hc; done))))) | ((with_reducible refine i_rt ?_); (((refine k_cc ?_ ?_); all_goals (with_reducible (apply un_a))))) | (refine ⟨by decide +kernel, ?_⟩) | fail)
    all_goals rfl
theorem rt_tup1 {α : Type} {R : α → List C} {z : α} (x : Except Fa α) : ∃ y f, rtV (.agg (R z)) (fun x => .agg (R x)) x = .tup [.agg (R y), .agg (faC f)] := by
  cases x with
  | ok y => exact ⟨y, Fa.zero, rfl⟩
  | error f => exact ⟨z, f, rfl⟩
theorem law_constr (src : ByteArray) (v : Bool) : Pure Tryz.prog 6 [.c (sS src), .c (sB v)] (.c (sB true)) := by
  have al := alive_p
  by_cases hs : src.size ≤ 9000
  · have p1 := constr_e src v
    have p2 := q7Constr_p src v
    obtain ⟨a, f, e1⟩ := rt_tup1 (R := exC) (z := Ex.zero) (constrT v src)
    rw [e1] at p1 p2
    clear e1
    refine fn2 (fn := Tryz.f6) Tryz.call6 Tryz.func6 rfl Tryz.ntmps6 Tryz.results6 rfl (by rfl) ?_
    repeat' (first | (with_reducible first | apply AW.seq | apply AW.skip | apply AW.ret | apply q_then | apply y_e | refine v_rgl ?_) | ((with_reducible apply i_dv); first | refine t_v AS.v ?_ | refine t_v (by first | exact u_call (hP := p1) | exact u_call (hP := p2) | exact u_eqlFa) ?_ | refine t_w AS.w ?_) | ((with_reducible apply i_dg); first | refine t_m (hs := fun hg => AS.v) (k := ?_) | refine t_m (hs := fun hg => (by first | exact u_call (hP := al) | exact u_call (hP := q6same_p _))) (k := ?_)) | ((with_reducible apply i_ds); refine t_s AS.s ?_) | ((with_reducible refine i_aw ?_); ((refine v_cond (fun hc => ?_) (fun hc => ?_); all_goals (try (exfalso; revert hc; simp; omega))))) | ((with_reducible refine i_rt ?_); refine k_b ?_) | fail)
    all_goals simp
  · refine fn2 (fn := Tryz.f6) Tryz.call6 Tryz.func6 rfl Tryz.ntmps6 Tryz.results6 rfl (by rfl) ?_
    repeat' (first | (with_reducible first | apply AW.seq | apply AW.ret | apply q_then | apply q_thenR | apply y_e | refine v_rgl ?_) | ((with_reducible apply i_dv); first | refine t_v AS.v ?_ | refine t_v (by exact u_call (hP := al)) ?_) | ((with_reducible refine i_aw ?_); ((refine v_cond (fun hc => ?_) (fun hc => ?_); all_goals (try (exfalso; revert hc; simp; omega))))) | ((with_reducible refine i_rt ?_); refine k_b ?_) | fail)
    rfl
end Am
end Go.Proofs.YtkpodagbefnebaaGreatDoor
