import Derived.Test.YtkpodagbefnebaaGreatDoorYd15
set_option linter.unusedSimpArgs false
set_option linter.unusedVariables false
set_option linter.unusedSectionVars false
namespace Go.Proofs.YtkpodagbefnebaaGreatDoor
namespace Am
open Tk Go.RowKit
set_option maxRecDepth 100000
set_option maxHeartbeats 4000000
theorem ux_sts (t : Option Nat) (l : List Stm) : (V.c (.lst t 55 (l.map stC))).un = .c (.lst none 55 (l.map stC)) := by simp only [V.un, C.un, unA]
theorem ok_sts (d : Nat → Bool) {t : Nat} (l : List Stm) (h : d t = true) : V.ok d (.c (.lst (some t) 55 (l.map stC))) = true := by
  show (d t && okLL d (l.map stC)) = true
  rw [h, ok_maps l fun x _ => ok_stC d x]; rfl
section
variable {l : List Tok} {cnd : List Tok → Except Fa (Ex × Nat)}
theorem stmts_of (hf : Fine l) {n d : Nat} (ih : ∀ m, m < n → ∀ (k : Ix l) (c : Nat), 4 * (l.length - k.1) + 1 ≤ m → MX Tryz.prog 109 [(0, psO k c d)] [.c (.ptr 0 0)] (stmtP cnd m d k c) (fun s => .agg (stC s)) (fun b => [(0, psO b.1 b.2 d)]) pvS) {k : Ix l} {c : Nat} (hn : 4 * (l.length - k.1) + 6 ≤ n) :
    MX Tryz.prog 51 [(0, psO k c d)] [.c (.ptr 0 0)] (stmtsP cnd n d [] k c) (fun s => .c (.lst none 55 (s.map stC))) (fun b => [(0, psO b.1 b.2 d)]) pvS := by
  have hl := hf.le
  have hk := k.2
  generalize hsp : stmtsP cnd n d [] k c = sp
  refine MX.of (fn := Tryz.f51) Tryz.call51 Tryz.func51 rfl Tryz.ntmps51 Tryz.results51 rfl rfl (by intro a; simp [V.ok, okL, C.ok, okA, okV]) (by intro b; exact ⟨rfl, by simp [HO.one, okL, C.ok, okA]⟩) ?_
  repeat' (first | (with_reducible first | apply AW.seq | apply AW.block | apply q_then | apply y_e | refine v_rgl ?_) | ((with_reducible apply i_dv); refine t_v AS.v ?_) | fail)
  refine nilRowG stC 3 1002 69 55 rfl rfl ?_
  refine AW.loop (fun m σ => ∃ (acc : List Stm) (k' : Ix l) (c' : Nat), m ≤ n ∧ stmtsP cnd m d acc k' c' = sp ∧ 4 * (l.length - k'.1) + 6 ≤ m ∧ acc.length ≤ k'.1 ∧ σ = mk [(3, .c (.lst (some 1002) 55 (acc.map stC))), (0, .c (.ptr 0 0))] [(1002, .row 69 55 acc.length), (0, psO k' c' d)]) n ?_ ?_
  · exact ⟨_, wk_mk (by (repeat (first | exact all_nil | ((refine all_cons ⟨_, rfl, .inl rfl, ?_⟩ ?_); (· (rfl))))); done) (by (repeat (first | exact all_nil | ((refine all_cons ⟨_, rfl, .inl rfl, ?_⟩ ?_); (· (first | rfl | (simp [V.ok, okL, C.ok, okA, HO.ok]; done)))))); done) (by rfl), [], k, c, Nat.le_refl _, hsp, hn, Nat.zero_le _, rfl⟩
  clear hsp hn hk
  rintro m σ ⟨acc, k', c', hmn, hm, hm2, ha, rfl⟩
  subst hm
  have hk' := k'.2
  obtain ⟨m, rfl⟩ : ∃ n, m = n + 1 := ⟨m - 1, by omega⟩
  have st := ih m (by omega) k' c' (by omega)
  repeat' (first | (with_reducible first | apply AW.seq | apply AW.block | apply AW.skip | apply AW.ret | apply AW.exit | apply q_then | apply q_thenE | apply q_thenP | apply q_bloN | apply q_bloE | apply q_bloP | apply y_e | refine v_rgl ?_) | ((with_reducible apply i_dv); first | refine t_v AS.v ?_ | refine t_v (by exact u_eye (hP := next_p)) ?_ | refine t_w AS.w ?_ | refine t_c1 (hP := st) (k1 := fun x k h => ?_) (k2 := fun e h σx => ?_)) | ((with_reducible apply i_dg); first | refine t_m (hs := fun hg => AS.v) (k := ?_) | refine t_m (hs := fun hg => (by exact u_eye (hP := mark_p _))) (k := ?_)) | ((with_reducible refine i_aw ?_); ((refine v_cond (fun hc => ?_) (fun hc => ?_)))) | ((with_reducible refine i_rx ?_); first | (with_reducible refine x_pan ?_) | refine l_1 (k := ?_)) | fail)
  · have hno : ¬((tk k').kind = 0 ∨ (0 < d ∧ isM ⟨#[125]⟩ k' = true)) := by
      intro hh
      rcases hh with hh | ⟨h1, h2⟩
      · simp [hh] at hc
      · have h1 : (0 : Int) < d := by omega
        simp [h1, h2] at hc
        omega
    obtain ⟨k1, c1⟩ := k
    have hlt := (stmts_adv hf cnd m).1 h
    have hk1 := k1.2
    exact ⟨m, _, Nat.lt_succ_self m, wk_mk (by (repeat (first | exact all_nil | ((refine all_cons ⟨_, rfl, .inl rfl, ?_⟩ ?_); (· (first | rfl | exact ok_sts _ _ rfl))))); done) (by (repeat (first | exact all_nil | ((refine all_cons ⟨_, rfl, .inl rfl, ?_⟩ ?_); (· (first | rfl | (simp [V.ok, okL, C.ok, okA, HO.ok]; done)))))); done) (by rfl), acc ++ [x], k1, c1, by omega, by rw [stmtsP, if_neg hno, h]; rfl, by omega, by simp; omega, rfl⟩
  · have hno : ¬((tk k').kind = 0 ∨ (0 < d ∧ isM ⟨#[125]⟩ k' = true)) := by
      intro hh
      rcases hh with hh | ⟨h1, h2⟩
      · simp [hh] at hc
      · have h1 : (0 : Int) < d := by omega
        simp [h1, h2] at hc
        omega
    rw [stmtsP, if_neg hno, h]; rfl
  · have hyes : ((tk k').kind = 0 ∨ (0 < d ∧ isM ⟨#[125]⟩ k' = true)) := by
      by_cases h0 : (tk k').kind = 0
      · exact .inl h0
      · simp [h0] at hc
        exact .inr ⟨by omega, hc.2⟩
    exact ⟨acc, (k', c'), by rw [stmtsP, if_pos hyes], ux_sts _ _, le_id rfl⟩
theorem block_of (hf : Fine l) {n d : Nat} (hd : d ≤ 12) (ih : ∀ (k : Ix l) (c : Nat), 4 * (l.length - k.1) + 6 ≤ n → MX Tryz.prog 51 [(0, psO k c ((d + 1 : Nat) : Int))] [.c (.ptr 0 0)] (stmtsP cnd n (d + 1) [] k c) (fun s => .c (.lst none 55 (s.map stC))) (fun b => [(0, psO b.1 b.2 ((d + 1 : Nat) : Int))]) pvS) {k : Ix l} {c : Nat} (hn : 4 * (l.length - k.1) + 3 ≤ n + 1) :
    MX Tryz.prog 248 [(0, psO k c d)] [.c (.ptr 0 0)] (blockP cnd (n + 1) d k c) (fun s => .c (.lst none 55 (s.map stC))) (fun b => [(0, psO b.1 b.2 d)]) pvS := by
  have hl := hf.le
  have hk := k.2
  have ed : ((d : Nat) : Int) + 1 = ((d + 1 : Nat) : Int) := rfl
  refine MX.of (fn := Tryz.f248) Tryz.call248 Tryz.func248 rfl Tryz.ntmps248 Tryz.results248 rfl rfl (by intro a; simp [V.ok, okL, C.ok, okA, okV]) (by intro b; exact ⟨rfl, by simp [HO.one, okL, C.ok, okA]⟩) ?_
  repeat' ((fail_if_success (with_reducible refine reg_at 3 ?_)); (first | (with_reducible first | apply AW.seq | apply q_then | apply q_thenP | apply y_e | refine v_rgl ?_) | ((with_reducible apply i_dv); first | refine t_v AS.v ?_ | refine t_c1 (hP := need_x hf _) (k1 := fun x k h => ?_) (k2 := fun e h σx => ?_)) | ((with_reducible apply i_ds); refine t_s AS.s ?_) | ((with_reducible refine i_rx ?_); (with_reducible refine x_pan ?_)) | fail))
  · rename_i k0
    have hk := k.2
    have e1 := (need_adv hf h).2
    have st := ih k c (by omega)
    simp only [ed]
    clear ed
    have ed : ((d + 1 : Nat) : Int) - 1 = (d : Int) := by omega
    have eb : blockP cnd (n + 1) d k0 c = if isM ⟨#[125]⟩ k then .error (flt 9 (tk k)) else stmtsP cnd n (d + 1) [] k c >>= fun x => needP ⟨#[125]⟩ x.2.1 >>= fun y => .ok (x.1, (y.2, x.2.2)) := by rw [blockP, h]; rfl
    rw [eb]
    clear eb h
    repeat' ((fail_if_success (with_reducible refine reg_at 7 ?_)); (first | (with_reducible first | apply AW.seq | apply AW.skip | apply q_then | apply q_thenP | apply y_e | refine v_rgl ?_) | ((with_reducible apply i_dv); first | refine t_v AS.v ?_ | refine t_v (by first | exact u_eye (hP := mark_p _) | exact u_eye (hP := next_p)) ?_ | refine t_c1 (hP := st) (k1 := fun x k h => ?_) (k2 := fun e h σx => ?_) | refine t_q (hP := fail_q _ _) (k := fun σx => ?_)) | ((with_reducible apply i_ds); refine t_s AS.s ?_) | ((with_reducible refine i_aw ?_); ((refine v_cond (fun hc => ?_) (fun hc => ?_)))) | ((with_reducible refine i_rx ?_); (with_reducible refine x_pan ?_)) | fail))
    · rw [if_pos hc]
    · obtain ⟨k2, c2⟩ := k
      simp only [ed]
      clear ed
      rename_i k1
      rw [hc, h]
      clear e1 st hk
      repeat' (first | (with_reducible first | apply AW.seq | apply AW.ret | apply q_then | apply q_thenP | apply y_e | refine v_rgl ?_) | ((with_reducible apply i_dv); first | refine t_v AS.v ?_ | refine t_c1 (hP := need_x hf _) (k1 := fun x k h => ?_) (k2 := fun e h σx => ?_)) | ((with_reducible refine i_rx ?_); first | (with_reducible refine x_pan ?_) | refine l_1 (k := ?_)) | fail)
      · rename_i h2 _ _
        exact ⟨_, (_, _), by simp only [Bool.false_eq_true, if_false, ok_bind]; rw [h]; rfl, ux_sts _ _, le_id rfl⟩
      · simp only [Bool.false_eq_true, if_false, ok_bind]; rw [h]; rfl
    · rw [hc, h]; rfl
  · rw [blockP, h]; rfl
theorem blocks_of (hf : Fine l) (hq : CndOk l cnd) {n d : Nat} (ih : ∀ (k : Ix l) (c : Nat), 4 * (l.length - k.1) + 3 ≤ n → MX Tryz.prog 248 [(0, psO k c d)] [.c (.ptr 0 0)] (blockP cnd n d k c) (fun s => .c (.lst none 55 (s.map stC))) (fun b => [(0, psO b.1 b.2 d)]) pvS) {k : Ix l} {c : Nat} (hn : 4 * (l.length - k.1) + 4 ≤ n + 1) (s : Stm) (i : Bool) :
    MX Tryz.prog 181 [(0, psO k c d), (1001, stO s)] [.c (.ptr 0 0), .c (.ptr 1001 0), .c (sB i)] (blocksP cnd (n + 1) d i s k c) (fun _ => .tup []) (fun b => [(0, psO b.2.1 b.2.2 d), (1001, stO b.1)]) pvS := by
  have hl := hf.le
  have hk := k.2
  have cx := condition_x (k := k) (c := (c : Int)) (d := (d : Int)) hf (hq.run k) (hq.ok k) (hq.no k)
  cases i with
  | true =>
    refine MX.of (fn := Tryz.f181) Tryz.call181 Tryz.func181 rfl Tryz.ntmps181 Tryz.results181 rfl rfl (by intro a; rfl) (by intro b; exact ⟨rfl, by simp [HO.one, okL, C.ok, okA]⟩) ?_
    repeat' ((fail_if_success (with_reducible refine reg_at 4 ?_)); (first | (with_reducible first | apply AW.seq | apply q_then | apply q_thenP | apply y_e | refine v_rgl ?_) | ((with_reducible apply i_dv); first | refine t_v AS.v ?_ | refine t_c1 (hP := cx) (k1 := fun x k h => ?_) (k2 := fun e h σx => ?_)) | ((with_reducible apply i_ds); refine t_s AS.s ?_) | ((with_reducible refine i_aw ?_); refine v_yes ?_) | ((with_reducible refine i_rx ?_); (with_reducible refine x_pan ?_)) | fail))
    · rename_i k0
      have hk := k.2
      have e1 := cond_adv h
      have st := ih k c (by omega)
      have eb : blocksP cnd (n + 1) d true s k0 c = blockP cnd n d k c >>= fun z => if isW ⟨#[101, 108, 115, 101]⟩ z.2.1 then blockP cnd n d (nx z.2.1) z.2.2 >>= fun u => .ok ((), ({ s with kind := 17, cond := x, thn := z.1, els := u.1 }, u.2)) else .ok ((), ({ s with kind := 17, cond := x, thn := z.1 }, z.2)) := by rw [blocksP, if_pos rfl, h]; rfl
      rw [eb]
      clear eb h cx
      repeat' ((fail_if_success (with_reducible refine reg_at 5 ?_)); (first | (with_reducible first | apply AW.seq | apply AW.skip | apply q_then | apply q_thenP | apply y_e | refine v_rgl ?_) | ((with_reducible apply i_dv); first | refine t_v AS.v ?_ | refine t_c1 (hP := st) (k1 := fun x k h => ?_) (k2 := fun e h σx => ?_)) | ((with_reducible apply i_ds); refine t_s AS.s ?_) | ((with_reducible refine i_aw ?_); refine v_no ?_) | ((with_reducible refine i_rx ?_); (with_reducible refine x_pan ?_)) | fail))
      · obtain ⟨k1, c1⟩ := k
        have e2 := (stmts_adv hf cnd n).2.2.1 h
        rw [h]
        clear h
        have a1 := (acceptWord_x (k := k1) (c := (c1 : Int)) (d := (d : Int)) hf ⟨#[101, 108, 115, 101]⟩).ok _ _ rfl
        cases hb : isW ⟨#[101, 108, 115, 101]⟩ k1 with
        | true =>
          rw [hb] at a1
          have a1 : MNL _ _ _ _ _ [(0, psO (nx k1) c1 d)] := a1
          have e3 := isW_adv hf hb
          have hk1 := (nx k1).2
          have st2 := ih (nx k1) c1 (by omega)
          repeat' (first | (with_reducible first | apply AW.seq | apply q_then | apply y_e | refine v_rgl ?_) | ((with_reducible apply i_dv); first | refine t_v AS.v ?_ | refine t_w (by exact u_m1 (hP := a1)) ?_ | refine t_c1 (hP := st2) (k1 := fun x k h => ?_) (k2 := fun e h σx => ?_)) | ((with_reducible apply i_ds); refine t_s AS.s ?_) | ((with_reducible refine i_aw ?_); refine v_yes ?_) | ((with_reducible refine i_rx ?_); first | (with_reducible refine x_pan ?_) | refine l_d0 (k := ?_)) | fail)
          · exact ⟨(), (_, (_, _)), by rw [ok_bind]; refine (if_pos hb).trans ?_; rw [h]; rfl, rfl, le_id rfl, le_id rfl⟩
          · rw [ok_bind]; refine (if_pos hb).trans ?_; rw [h]; rfl
        | false =>
          have hb' : ¬ isW ⟨#[101, 108, 115, 101]⟩ k1 = true := by rw [hb]; decide
          rw [hb] at a1
          have a1 : MNL _ _ _ _ _ [(0, psO k1 c1 d)] := a1
          repeat' (first | (with_reducible first | apply AW.seq | apply AW.skip | apply q_then | apply y_e | refine v_rgl ?_) | ((with_reducible apply i_dv); first | refine t_v AS.v ?_ | refine t_w (by exact u_m1 (hP := a1)) ?_) | ((with_reducible refine i_aw ?_); refine v_no ?_) | ((with_reducible refine i_rx ?_); refine l_d0 (k := ?_)) | fail)
          exact ⟨(), (_, (_, _)), by rw [ok_bind]; exact if_neg hb', rfl, le_id rfl, le_id rfl⟩
      · rw [h]; rfl
    · rw [blocksP, if_pos rfl, h]; rfl
  | false =>
    have st := ih k c (by omega)
    have eb : blocksP cnd (n + 1) d false s k c = blockP cnd n d k c >>= fun z => if isW ⟨#[101, 108, 115, 101]⟩ z.2.1 then blockP cnd n d (nx z.2.1) z.2.2 >>= fun u => .ok ((), ({ s with kind := 18, thn := z.1, els := u.1 }, u.2)) else .ok ((), ({ s with kind := 18, thn := z.1 }, z.2)) := by rw [blocksP, if_neg (by decide)]; rfl
    rw [eb]
    clear eb cx
    refine MX.of (fn := Tryz.f181) Tryz.call181 Tryz.func181 rfl Tryz.ntmps181 Tryz.results181 rfl rfl (by intro a; rfl) (by intro b; exact ⟨rfl, by simp [HO.one, okL, C.ok, okA]⟩) ?_
    repeat' ((fail_if_success (with_reducible refine reg_at 5 ?_)); (first | (with_reducible first | apply AW.seq | apply AW.skip | apply q_then | apply q_thenP | apply y_e | refine v_rgl ?_) | ((with_reducible apply i_dv); first | refine t_v AS.v ?_ | refine t_c1 (hP := st) (k1 := fun x k h => ?_) (k2 := fun e h σx => ?_)) | ((with_reducible apply i_ds); refine t_s AS.s ?_) | ((with_reducible refine i_aw ?_); refine v_no ?_) | ((with_reducible refine i_rx ?_); (with_reducible refine x_pan ?_)) | fail))
    · obtain ⟨k1, c1⟩ := k
      have e2 := (stmts_adv hf cnd n).2.2.1 h
      rw [h]
      clear h
      have a1 := (acceptWord_x (k := k1) (c := (c1 : Int)) (d := (d : Int)) hf ⟨#[101, 108, 115, 101]⟩).ok _ _ rfl
      cases hb : isW ⟨#[101, 108, 115, 101]⟩ k1 with
      | true =>
        rw [hb] at a1
        have a1 : MNL _ _ _ _ _ [(0, psO (nx k1) c1 d)] := a1
        have e3 := isW_adv hf hb
        have hk1 := (nx k1).2
        have st2 := ih (nx k1) c1 (by omega)
        repeat' (first | (with_reducible first | apply AW.seq | apply q_then | apply y_e | refine v_rgl ?_) | ((with_reducible apply i_dv); first | refine t_v AS.v ?_ | refine t_w (by exact u_m1 (hP := a1)) ?_ | refine t_c1 (hP := st2) (k1 := fun x k h => ?_) (k2 := fun e h σx => ?_)) | ((with_reducible apply i_ds); refine t_s AS.s ?_) | ((with_reducible refine i_aw ?_); refine v_yes ?_) | ((with_reducible refine i_rx ?_); first | (with_reducible refine x_pan ?_) | refine l_d0 (k := ?_)) | fail)
        · exact ⟨(), (_, (_, _)), by rw [ok_bind]; refine (if_pos hb).trans ?_; rw [h]; rfl, rfl, le_id rfl, le_id rfl⟩
        · rw [ok_bind]; refine (if_pos hb).trans ?_; rw [h]; rfl
      | false =>
        have hb' : ¬ isW ⟨#[101, 108, 115, 101]⟩ k1 = true := by rw [hb]; decide
        rw [hb] at a1
        have a1 : MNL _ _ _ _ _ [(0, psO k1 c1 d)] := a1
        repeat' (first | (with_reducible first | apply AW.seq | apply AW.skip | apply q_then | apply y_e | refine v_rgl ?_) | ((with_reducible apply i_dv); first | refine t_v AS.v ?_ | refine t_w (by exact u_m1 (hP := a1)) ?_) | ((with_reducible refine i_aw ?_); refine v_no ?_) | ((with_reducible refine i_rx ?_); refine l_d0 (k := ?_)) | fail)
        exact ⟨(), (_, (_, _)), by rw [ok_bind]; exact if_neg hb', rfl, le_id rfl, le_id rfl⟩
    · rw [h]; rfl
variable (l cnd) in
structure SX (n : Nat) : Prop where
  st : ∀ (d : Nat) (k : Ix l) (c : Nat), d ≤ 12 → 4 * (l.length - k.1) + 1 ≤ n → MX Tryz.prog 109 [(0, psO k c d)] [.c (.ptr 0 0)] (stmtP cnd n d k c) (fun s => .agg (stC s)) (fun b => [(0, psO b.1 b.2 d)]) pvS
  bs : ∀ (d : Nat) (k : Ix l) (c : Nat) (s : Stm) (i : Bool), d ≤ 11 → 4 * (l.length - k.1) + 4 ≤ n → MX Tryz.prog 181 [(0, psO k c d), (1001, stO s)] [.c (.ptr 0 0), .c (.ptr 1001 0), .c (sB i)] (blocksP cnd n d i s k c) (fun _ => .tup []) (fun b => [(0, psO b.2.1 b.2.2 d), (1001, stO b.1)]) pvS
  bl : ∀ (d : Nat) (k : Ix l) (c : Nat), d ≤ 11 → 4 * (l.length - k.1) + 3 ≤ n → MX Tryz.prog 248 [(0, psO k c d)] [.c (.ptr 0 0)] (blockP cnd n d k c) (fun s => .c (.lst none 55 (s.map stC))) (fun b => [(0, psO b.1 b.2 d)]) pvS
  ss : ∀ (d : Nat) (k : Ix l) (c : Nat), d ≤ 12 → 4 * (l.length - k.1) + 6 ≤ n → MX Tryz.prog 51 [(0, psO k c d)] [.c (.ptr 0 0)] (stmtsP cnd n d [] k c) (fun s => .c (.lst none 55 (s.map stC))) (fun b => [(0, psO b.1 b.2 d)]) pvS
theorem sx_all (hf : Fine l) (hq : CndOk l cnd) : ∀ n m : Nat, m ≤ n → SX l cnd m
  | _, 0, _ => ⟨fun _ _ _ _ h => absurd h (by omega), fun _ _ _ _ _ _ h => absurd h (by omega), fun _ _ _ _ h => absurd h (by omega), fun _ _ _ _ h => absurd h (by omega)⟩
  | 0, _ + 1, h => absurd h (by omega)
  | n + 1, m + 1, h => by
    have ih := sx_all hf hq n
    have i0 := ih m (by omega)
    refine ⟨fun d k c hd hn => ?_, fun d k c s i hd hn => ?_, fun d k c hd hn => ?_, fun d k c hd hn => ?_⟩
    · exact stmt_of hf hq hd fun h1 s b h2 => i0.bs d (nx k) (c + 1) s b (by omega) (by have := nx_val hf h2; have := (nx k).2; omega)
    · exact blocks_of hf hq (fun k c hk => i0.bl d k c hd hk) hn s i
    · exact block_of hf (by omega) (fun k c hk => i0.ss (d + 1) k c (by omega) hk) hn
    · exact stmts_of hf (fun j hj k c hk => (ih j (by omega)).st d k c hd hk) hn
end
end Am
namespace Am
open Tk
def isK (ts : List Tok) (i : Nat) (m : ByteArray) : Bool := match ts[i]? with
  | some t => decide (t.kind = 4) && decide (t.text = m)
  | none => false
def nmK (ts : List Tok) (i : Nat) : Option ByteArray := match ts[i]? with
  | some t => if t.kind = 1 ∧ idB t.text = true then some t.text else none
  | none => none
def flK (c : Int) (ts : List Tok) (i : Nat) : Fa := ⟨c, (match ts[i]? with | some t => t.pos | none => ⟨0, 0⟩), ⟨#[]⟩⟩
def opK (ts : List Tok) (i : Nat) (n : Nat) : Int :=
  if n = 4 then (if isK ts i ⟨#[61, 61]⟩ = true then 6 else if isK ts i ⟨#[33, 61]⟩ = true then 7 else 0)
  else if n = 3 then (if isK ts i ⟨#[38, 38]⟩ = true then 3 else 0)
  else if n = 2 then (if isK ts i ⟨#[94]⟩ = true then 5 else 0)
  else if n = 1 then (if isK ts i ⟨#[124, 124]⟩ = true then 4 else 0)
  else 0
mutual
def notK (ts : List Tok) : Nat → Nat → Nat → Except Fa (Ex × Nat)
  | 0, i, _ => .error (flK 9 ts i)
  | f + 1, i, d =>
    if isK ts i ⟨#[33]⟩ = true then (if 12 ≤ d then .error (flK 4 ts i) else notK ts f (i + 1) (d + 1) >>= fun x => .ok ({ Ex.zero with op := 2, kids := [x.1] }, x.2))
    else if isK ts i ⟨#[40]⟩ = true then (if 12 ≤ d then .error (flK 4 ts i) else binK ts f 1 (i + 1) (d + 1) >>= fun x => if isK ts x.2 ⟨#[41]⟩ = true then .ok (x.1, x.2 + 1) else .error (flK 9 ts x.2))
    else match nmK ts i with
    | some s => .ok ({ Ex.zero with op := 1, names := [s] }, i + 1)
    | none => .error (flK 9 ts i)
def binK (ts : List Tok) : Nat → Nat → Nat → Nat → Except Fa (Ex × Nat)
  | 0, _, i, _ => .error (flK 9 ts i)
  | f + 1, n, i, d => if 4 < n then notK ts f i d else binK ts f (n + 1) i d >>= fun x => bilK ts f n x.1 x.2 d
def bilK (ts : List Tok) : Nat → Nat → Ex → Nat → Nat → Except Fa (Ex × Nat)
  | 0, _, _, i, _ => .error (flK 9 ts i)
  | f + 1, n, e, i, d => if opK ts i n = 0 then .ok (e, i) else binK ts f (n + 1) (i + 1) d >>= fun x => bilK ts f n { Ex.zero with op := opK ts i n, kids := [e, x.1] } x.2 d
end
def tksK (ts : List Tok) : Except Fa (Ex × Nat) := binK ts (8 * ts.length + 16) 1 0 0 >>= fun x => if 12 < levE x.1 then .error (flK 4 ts 0) else .ok x
theorem isK_lt {ts : List Tok} {i : Nat} {m : ByteArray} (h : isK ts i m = true) : i < ts.length := by
  unfold isK at h
  split at h
  · rename_i t e; exact (List.getElem?_eq_some_iff.1 e).1
  · cases h
theorem nmK_lt {ts : List Tok} {i : Nat} {s : ByteArray} (h : nmK ts i = some s) : i < ts.length := by
  unfold nmK at h
  split at h
  · rename_i t e; exact (List.getElem?_eq_some_iff.1 e).1
  · cases h
theorem opK_lt {ts : List Tok} {i n : Nat} (h : opK ts i n ≠ 0) : i < ts.length := by
  unfold opK at h
  (repeat' split at h) <;> first | exact isK_lt (by assumption) | exact absurd rfl h
theorem bin_adv (ts : List Tok) : ∀ f : Nat, (∀ {i d j : Nat} {x : Ex}, notK ts f i d = .ok (x, j) → i < j ∧ j ≤ ts.length) ∧ (∀ {n i d j : Nat} {x : Ex}, binK ts f n i d = .ok (x, j) → i < j ∧ j ≤ ts.length) ∧ (∀ {n i d j : Nat} {e x : Ex}, i ≤ ts.length → bilK ts f n e i d = .ok (x, j) → i ≤ j ∧ j ≤ ts.length)
  | 0 => ⟨fun h => (by rw [notK] at h; cases h), fun h => (by rw [binK] at h; cases h), fun _ h => (by rw [bilK] at h; cases h)⟩
  | f + 1 => by
    obtain ⟨i1, i2, i3⟩ := bin_adv ts f
    refine ⟨fun {i d j x} h => ?_, fun {n i d j x} h => ?_, fun {n i d j e x} hi h => ?_⟩
    · rw [notK] at h
      split at h
      · split at h
        · cases h
        · obtain ⟨⟨y, k⟩, h1, h⟩ := bind_ok.1 h
          have := i1 h1
          injection h with h; injection h with _ h
          dsimp only at h; omega
      · split at h
        · split at h
          · cases h
          · obtain ⟨⟨y, k⟩, h1, h⟩ := bind_ok.1 h
            have := i2 h1
            dsimp only at h
            split at h
            · rename_i hq
              have := isK_lt hq
              injection h with h; injection h with _ h
              omega
            · cases h
        · split at h
          · rename_i s hs
            have := nmK_lt hs
            injection h with h; injection h with _ h
            omega
          · cases h
    · rw [binK] at h
      split at h
      · exact i1 h
      · obtain ⟨⟨y, k⟩, h1, h⟩ := bind_ok.1 h
        have := i2 h1
        have := i3 (by omega) h
        dsimp only at this; omega
    · rw [bilK] at h
      split at h
      · injection h with h; injection h with _ h; omega
      · rename_i ho
        obtain ⟨⟨y, k⟩, h1, h⟩ := bind_ok.1 h
        have := i2 h1
        have := i3 (by omega) h
        dsimp only at this; omega
end Am
end Go.Proofs.YtkpodagbefnebaaGreatDoor
