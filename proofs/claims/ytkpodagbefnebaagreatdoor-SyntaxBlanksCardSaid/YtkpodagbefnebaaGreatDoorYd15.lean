import Derived.Test.YtkpodagbefnebaaGreatDoorYd14
import Derived.Test.YtkpodagbefnebaaGreatDoorYd11
set_option linter.unusedSimpArgs false
set_option linter.unusedVariables false
set_option linter.unusedSectionVars false
namespace Go.Proofs.YtkpodagbefnebaaGreatDoor
namespace Am
open Tk Go.RowKit
set_option maxRecDepth 100000
set_option maxHeartbeats 4000000
theorem okL_set {d : Nat → Bool} : ∀ {l : List C} {i : Nat} {c : C}, okL d l = true → C.ok d c = true → okL d (l.set i c) = true
  | [], _, _, _, _ => rfl
  | x :: l, 0, c, h, hc => by
    rw [okL, Bool.and_eq_true] at h
    rw [List.set_cons_zero, okL, hc, h.2]; rfl
  | x :: l, i + 1, c, h, hc => by
    rw [okL, Bool.and_eq_true] at h
    rw [List.set_cons_succ, okL, h.1, okL_set h.2 hc]; rfl
theorem unL_set : ∀ {l : List C} {i : Nat} {c : C}, unL (l.set i c) = (unL l).set i c.un
  | [], _, _ => rfl
  | x :: l, 0, c => by rw [List.set_cons_zero, unL, unL, List.set_cons_zero]
  | x :: l, i + 1, c => by rw [List.set_cons_succ, unL, unL, List.set_cons_succ, unL_set]
def stM (h : C) (s : Stm) : List C := (stC s).set 7 h
theorem setM : (∀ h x y, setV (stM h x) 0 [sI y] = some (stM h { x with kind := y })) ∧ (∀ h x y, setV (stM h x) 4 [sS y] = some (stM h { x with name := y })) ∧ (∀ h x y, setV (stM h x) 8 [strL y] = some (stM h { x with aliases := y })) ∧ (∀ h x h', setV (stM h x) 7 [h'] = some (stM h' x)) := by
  refine ⟨?_, ?_, ?_, ?_⟩ <;> (intro h x y; cases x; kernel_rfl)
theorem cutM : ∀ h x, cutV false (stM h x) 7 1 = some (.c h) := by intros; kernel_rfl
theorem getM (h : C) (x : Stm) : (stM h x)[7]? = some h := by kernel_rfl
theorem rowM (h h' : C) (x : Stm) : (stM h x).set 7 h' = stM h' x := by unfold stM; rw [List.set_set]
theorem ok_stM (d : Nat → Bool) {t : Nat} {acc : List ByteArray} (s : Stm) (h : d t = true) : okL d (stM (.lst (some t) 1 (acc.map oneS)) s) = true := okL_set (ok_stC d s) (by
  show (d t && okLL d (acc.map oneS)) = true
  rw [h, okA.2.1 d]; rfl)
theorem un_stM {t : Nat} {acc : List ByteArray} (s : Stm) : (HO.obj 69 (stM (.lst (some t) 1 (acc.map oneS)) s)).un = stO { s with list := acc } := by
  show HO.obj _ (unL _) = _
  rw [stM, unL_set, un_stC, C.un, unA.2.1]
  cases s; rfl
section
variable {l : List Tok} {k k' : Ix l} {c d : Int}
theorem type_x (hf : Fine l) (s : Stm) (hs : s.list = []) : MX Tryz.prog 182 [(0, psO k c d), (1001, .obj 69 (stM .nil s))] [.c (.ptr 0 0), .c (.ptr 1001 0), .c (sS ⟨#[116, 121, 112, 101]⟩)] (declP ⟨#[116, 121, 112, 101]⟩ s k) (fun b => .c (sB b)) (fun b => [(0, psO b.2 c d), (1001, stO b.1)]) pvS := by
  have hl := hf.le
  have a1 := fun k => (acceptWord_x (k := k) (c := c) (d := d) hf ⟨#[97, 108, 105, 97, 115]⟩).ok _ _ rfl
  refine MX.of (fn := Tryz.f182) Tryz.call182 Tryz.func182 rfl Tryz.ntmps182 Tryz.results182 rfl rfl (by intro a; rfl) (by intro b; exact ⟨rfl, by simp [HO.one, okL, C.ok, okA]⟩) ?_
  repeat' (first | (with_reducible first | apply AW.seq | apply AW.block | apply AW.skip | apply q_then | apply q_thenP | apply q_bloP | apply y_e | refine v_rgl ?_) | ((with_reducible apply i_dv); first | refine t_v AS.v ?_ | refine t_w (by exact u_m1 (hP := a1 _)) ?_ | refine t_c1 (hP := name_x hf) (k1 := fun x k h => ?_) (k2 := fun e h σx => ?_) | refine t_c1 (hP := braced_x hf) (k1 := fun x k h => ?_) (k2 := fun e h σx => ?_)) | ((with_reducible apply i_ds); (refine t_s (u_storeC (hs := by simp only [setM]; rfl)) ?_)) | ((with_reducible refine i_aw ?_); first | refine v_yes ?_ | refine v_no ?_ | (refine v_cond (fun hc => ?_) (fun hc => ?_))) | ((with_reducible refine i_rx ?_); (with_reducible refine x_pan ?_)) | fail)
  · rename_i k0 x1 k1 h1
    have e : declP ⟨#[116, 121, 112, 101]⟩ s k0 = listedL (fuel l) [] k >>= fun z => .ok (true, ({ s with kind := 2, name := x1, aliases := x, list := z.1 }, z.2)) := by
      rw [hc] at h
      have h : bracedP (nx k1) = .ok (x, k) := h
      rw [declP, if_neg (by decide), if_pos rfl, h1]
      simp only [ok_bind]
      rw [if_pos hc, h, hs]
      rfl
    rw [e]
    clear e
    refine nilRowH 1001 7 1002 9 1 (cs' := stM (.lst (some 1002) 1 []) { s with kind := 2, name := x1, aliases := x }) rfl rfl (getM _ _) (rowM _ _ _) ?_
    clear h h1 hc
    revert x k
    intro y2 k2
    generalize hsp : listedL (fuel l) [] k2 = z
    refine AW.loop (fun m σ => ∃ acc k', listedL m acc k' = z ∧ l.length < m + k'.1 ∧ acc.length ≤ k'.1 ∧ σ = mk [(0, .c (.ptr 0 0)), (1, .c (.ptr 1001 0))] [(1002, .row 9 1 acc.length), (1001, .obj 69 (stM (.lst (some 1002) 1 (acc.map oneS)) { s with kind := 2, name := x1, aliases := y2 })), (0, psO k' c d)]) (fuel l) ?_ ?_
    · exact ⟨_, wk_mk (by (repeat (first | exact all_nil | ((refine all_cons ⟨_, rfl, .inl rfl, ?_⟩ ?_); (· (rfl))))); done) (by (repeat (first | exact all_nil | ((refine all_cons ⟨_, rfl, .inl rfl, ?_⟩ ?_); (· (first | rfl | exact ok_stM _ _ rfl | (simp [V.ok, okL, C.ok, okA, HO.ok]; done)))))); done) (by rfl), [], k2, hsp, by unfold fuel; omega, Nat.zero_le _, rfl⟩
    clear hsp
    rintro m σ ⟨acc, k', hm, hm2, ha, rfl⟩
    subst hm
    have hk' := k'.2
    obtain ⟨m, rfl⟩ : ∃ n, m = n + 1 := ⟨m - 1, by omega⟩
    have a := (accept_x (k := k') (c := c) (d := d) hf ⟨#[44]⟩).ok _ _ rfl
    cases hb : isM ⟨#[44]⟩ k' with
    | true =>
      rw [hb] at a
      have a : MNL _ _ _ _ _ [(0, psO (nx k') c d)] := a
      have hy := isM_adv hf hb
      repeat' (first | (with_reducible first | apply AW.seq | apply AW.block | apply AW.skip | apply q_then | apply q_thenP | apply q_bloN | apply q_bloP | apply y_e | refine v_rgl ?_ | refine v_drb ?_) | ((with_reducible apply i_dv); first | refine t_v (u_loadP (hc := by simp only [cutM]; rfl)) ?_ | refine t_v AS.v ?_ | refine t_w AS.w ?_ | refine t_w (by exact u_m1 (hP := a)) ?_ | refine t_c1 (hP := name_x hf) (k1 := fun x k h => ?_) (k2 := fun e h σx => ?_)) | ((with_reducible apply i_ds); (refine t_s (u_storeC (hs := by simp only [setM]; rfl)) ?_)) | ((with_reducible refine i_aw ?_); refine v_yes ?_) | ((with_reducible refine i_rx ?_); (with_reducible refine x_pan ?_)) | (refine ⟨by decide +kernel, fun (σx : St) => ?_⟩) | (refine ⟨by decide +kernel, ?_⟩) | fail)
      · have hx := (name_adv hf h).2
        exact ⟨m, _, Nat.lt_succ_self m, wk_mk (by (repeat (first | exact all_nil | ((refine all_cons ⟨_, rfl, .inl rfl, ?_⟩ ?_); (· (rfl))))); done) (by (repeat (first | exact all_nil | ((refine all_cons ⟨_, rfl, .inl rfl, ?_⟩ ?_); (· (first | rfl | exact ok_stM _ _ rfl | (simp [V.ok, okL, C.ok, okA, HO.ok]; done)))))); done) (by rfl), acc ++ [x], k, by rw [listedL, hb, if_pos rfl, h]; rfl, by omega, by simp; omega, rfl⟩
      · rw [listedL, hb, if_pos rfl, h]; rfl
    | false =>
      rw [hb] at a
      have a : MNL _ _ _ _ _ [(0, psO k' c d)] := a
      repeat' (first | (with_reducible first | apply AW.seq | apply AW.ret | apply AW.exit | apply q_then | apply q_thenE | apply q_bloN | apply q_bloE | apply y_e | refine v_rgl ?_) | ((with_reducible apply i_dv); first | refine t_v AS.v ?_ | refine t_w (by exact u_m1 (hP := a)) ?_) | ((with_reducible refine i_aw ?_); refine v_no ?_) | ((with_reducible refine i_rx ?_); refine l_d (k := ?_)) | fail)
      exact ⟨true, ({ s with kind := 2, name := x1, aliases := y2, list := acc }, k'), by rw [listedL, hb]; rfl, rfl, le_id rfl, le_un (un_stM _)⟩
  · (first | (simp_all [declP, ok_bind, err_bind, adv, Lv.zero, Sp.zero, Rg.zero, Ct.zero]; done) | fail "end")
  · rename_i k0
    have e : declP ⟨#[116, 121, 112, 101]⟩ s k0 = listedL (fuel l) [] (adv (isW ⟨#[97, 108, 105, 97, 115]⟩ k) k) >>= fun z => .ok (true, ({ s with kind := 2, name := x, list := z.1 }, z.2)) := by
      rw [declP, if_neg (by decide), if_pos rfl, h]
      simp only [ok_bind]
      rw [hc, if_neg (by decide), hs]
      rfl
    rw [e]
    clear e
    refine nilRowH 1001 7 1002 9 1 (cs' := stM (.lst (some 1002) 1 []) { s with kind := 2, name := x }) rfl rfl (getM _ _) (rowM _ _ _) ?_
    generalize adv (isW ⟨#[97, 108, 105, 97, 115]⟩ k) k = k2
    clear h hc
    revert x
    intro y2
    generalize hsp : listedL (fuel l) [] k2 = z
    refine AW.loop (fun m σ => ∃ acc k', listedL m acc k' = z ∧ l.length < m + k'.1 ∧ acc.length ≤ k'.1 ∧ σ = mk [(0, .c (.ptr 0 0)), (1, .c (.ptr 1001 0))] [(1002, .row 9 1 acc.length), (1001, .obj 69 (stM (.lst (some 1002) 1 (acc.map oneS)) { s with kind := 2, name := y2 })), (0, psO k' c d)]) (fuel l) ?_ ?_
    · exact ⟨_, wk_mk (by (repeat (first | exact all_nil | ((refine all_cons ⟨_, rfl, .inl rfl, ?_⟩ ?_); (· (rfl))))); done) (by (repeat (first | exact all_nil | ((refine all_cons ⟨_, rfl, .inl rfl, ?_⟩ ?_); (· (first | rfl | exact ok_stM _ _ rfl | (simp [V.ok, okL, C.ok, okA, HO.ok]; done)))))); done) (by rfl), [], k2, hsp, by unfold fuel; omega, Nat.zero_le _, rfl⟩
    clear hsp
    rintro m σ ⟨acc, k', hm, hm2, ha, rfl⟩
    subst hm
    have hk' := k'.2
    obtain ⟨m, rfl⟩ : ∃ n, m = n + 1 := ⟨m - 1, by omega⟩
    have a := (accept_x (k := k') (c := c) (d := d) hf ⟨#[44]⟩).ok _ _ rfl
    cases hb : isM ⟨#[44]⟩ k' with
    | true =>
      rw [hb] at a
      have a : MNL _ _ _ _ _ [(0, psO (nx k') c d)] := a
      have hy := isM_adv hf hb
      repeat' (first | (with_reducible first | apply AW.seq | apply AW.block | apply AW.skip | apply q_then | apply q_thenP | apply q_bloN | apply q_bloP | apply y_e | refine v_rgl ?_ | refine v_drb ?_) | ((with_reducible apply i_dv); first | refine t_v (u_loadP (hc := by simp only [cutM]; rfl)) ?_ | refine t_v AS.v ?_ | refine t_w AS.w ?_ | refine t_w (by exact u_m1 (hP := a)) ?_ | refine t_c1 (hP := name_x hf) (k1 := fun x k h => ?_) (k2 := fun e h σx => ?_)) | ((with_reducible apply i_ds); (refine t_s (u_storeC (hs := by simp only [setM]; rfl)) ?_)) | ((with_reducible refine i_aw ?_); refine v_yes ?_) | ((with_reducible refine i_rx ?_); (with_reducible refine x_pan ?_)) | (refine ⟨by decide +kernel, fun (σx : St) => ?_⟩) | (refine ⟨by decide +kernel, ?_⟩) | fail)
      · have hx := (name_adv hf h).2
        exact ⟨m, _, Nat.lt_succ_self m, wk_mk (by (repeat (first | exact all_nil | ((refine all_cons ⟨_, rfl, .inl rfl, ?_⟩ ?_); (· (rfl))))); done) (by (repeat (first | exact all_nil | ((refine all_cons ⟨_, rfl, .inl rfl, ?_⟩ ?_); (· (first | rfl | exact ok_stM _ _ rfl | (simp [V.ok, okL, C.ok, okA, HO.ok]; done)))))); done) (by rfl), acc ++ [x], k, by rw [listedL, hb, if_pos rfl, h]; rfl, by omega, by simp; omega, rfl⟩
      · rw [listedL, hb, if_pos rfl, h]; rfl
    | false =>
      rw [hb] at a
      have a : MNL _ _ _ _ _ [(0, psO k' c d)] := a
      repeat' (first | (with_reducible first | apply AW.seq | apply AW.ret | apply AW.exit | apply q_then | apply q_thenE | apply q_bloN | apply q_bloE | apply y_e | refine v_rgl ?_) | ((with_reducible apply i_dv); first | refine t_v AS.v ?_ | refine t_w (by exact u_m1 (hP := a)) ?_) | ((with_reducible refine i_aw ?_); refine v_no ?_) | ((with_reducible refine i_rx ?_); refine l_d (k := ?_)) | fail)
      exact ⟨true, ({ s with kind := 2, name := y2, list := acc }, k'), by rw [listedL, hb]; rfl, rfl, le_id rfl, le_un (un_stM _)⟩
  · (first | (simp_all [declP, ok_bind, err_bind, adv, Lv.zero, Sp.zero, Rg.zero, Ct.zero]; done) | fail "end")
end
end Am
namespace Am
open Tk Go.RowKit
set_option maxRecDepth 100000
set_option maxHeartbeats 4000000
theorem begins_p (s : ByteArray) : Pure Tryz.prog 180 [.c (sS s)] (.c (sB (begB s))) := by
  refine fn1 (fn := Tryz.f180) Tryz.call180 Tryz.func180 rfl Tryz.ntmps180 Tryz.results180 rfl (by rfl) ?_
  repeat' (first | (with_reducible first | apply AW.seq | apply AW.block | apply AW.skip | apply AW.ret | apply q_then | apply q_thenR | apply q_bloN | apply q_bloR | apply y_e | refine v_rgl ?_) | ((with_reducible apply i_dv); refine t_v AS.v ?_) | ((with_reducible refine i_aw ?_); ((refine v_cond (fun hc => ?_) (fun hc => ?_); all_goals (try (exfalso; simp [*] at hc; done))))) | ((with_reducible refine i_rt ?_); refine k_b ?_) | fail)
  all_goals simp_all [begB, beginW]
theorem zwS : Zw Tryz.prog 69 (stM .nil Stm.zero) := Zw.of (by decide +kernel)
theorem a_buildS {ρ : Operand → Option V} {H : Nat → Option HO} {d : Option Nat} {ty : TypeId} {pos : String} {af : Array Edge} {gu : Option (Nat × Bool)} {x0 : Operand} {y0 : Po} (h0 : Ev ρ x0 (.agg (poC y0))) : AS Tryz.prog ρ H ⟨d, .build 69 #[(2, x0)], ty, pos, af, gu⟩ ⟨.agg (stM .nil { Stm.zero with pos := y0 }), [], []⟩ := a_buildT zwS (by decide +kernel) (by kernel_rfl) (show EvP ρ _ _ from .cons h0 rfl .nil) (by kernel_rfl)
structure CndOk (l : List Tok) (cnd : List Tok → Except Fa (Ex × Nat)) : Prop where
  run : ∀ k : Ix l, Pure Tryz.prog 78 [.c (.lst none 4 ((l.drop k.1).map tkC))] (tokV (cnd (l.drop k.1)))
  ok : ∀ (k : Ix l) e n, cnd (l.drop k.1) = .ok (e, n) → k.1 + n < l.length
  no : ∀ (k : Ix l) f, cnd (l.drop k.1) = .error f → f.code ≠ 0
theorem u_buildS {ρ : Operand → Option V} {H : Nat → Option HO} {d : Option Nat} {ty : TypeId} {pos : String} {af : Array Edge} {gu : Option (Nat × Bool)} {x0 : Operand} {y0 : Po} (h0 : Ev ρ x0 (.agg (poC y0)) := by exact .pl rfl) : AS Tryz.prog ρ H ⟨d, .build 69 #[(2, x0)], ty, pos, af, gu⟩ ⟨.agg (stM .nil { Stm.zero with pos := y0 }), [], []⟩ := a_buildS h0
section
variable {l : List Tok} {cnd : List Tok → Except Fa (Ex × Nat)}
theorem stmt_of (hf : Fine l) (hc : CndOk l cnd) {n d : Nat} (hd : d ≤ 12) {k : Ix l} {c : Nat} (ihB : d < 12 → ∀ (s : Stm) (b : Bool), (tk k).kind ≠ 0 → MX Tryz.prog 181 [(0, psO (nx k) ((c + 1 : Nat) : Int) d), (1001, stO s)] [.c (.ptr 0 0), .c (.ptr 1001 0), .c (sB b)] (blocksP cnd n d b s (nx k) (c + 1)) (fun _ => .tup []) (fun b => [(0, psO b.2.1 b.2.2 d), (1001, stO b.1)]) pvS) :
    MX Tryz.prog 109 [(0, psO k c d)] [.c (.ptr 0 0)] (stmtP cnd (n + 1) d k c) (fun s => .agg (stC s)) (fun b => [(0, psO b.1 b.2 d)]) pvS := by
  have hl := hf.le
  have hk := k.2
  by_cases hb : (tk k).kind = 1 ∧ begB (tk k).text = true
  · have h1 := hb.1
    have h2 := hb.2
    have en : ((k.1 : Nat) : Int) + 1 = (((nx k).1 : Nat) : Int) := by rw [nx_val hf (by rw [h1]; decide)]; rfl
    have ec : ((c : Nat) : Int) + 1 = ((c + 1 : Nat) : Int) := rfl
    have bg := begins_p (tk k).text
    rw [h2] at bg
    by_cases hc1 : 1024 ≤ c
    · have e : stmtP cnd (n + 1) d k c = .error (flt 4 (tk k)) := by rw [stmtP, if_pos hb, if_pos hc1]
      rw [e]
      refine MX.of (fn := Tryz.f109) Tryz.call109 Tryz.func109 rfl Tryz.ntmps109 Tryz.results109 rfl rfl (by intro a; simp [V.ok, okL, C.ok, okA, okV]) (by intro b; exact ⟨rfl, by simp [HO.one, okL, C.ok, okA]⟩) ?_
      repeat' (first | (with_reducible first | apply AW.seq | apply AW.block | apply q_then | apply q_thenP | apply q_bloP | apply y_e | refine v_rgl ?_) | ((with_reducible apply i_dv); first | refine t_v AS.v ?_ | refine t_v (by exact u_eye (hP := next_p)) ?_ | refine t_w AS.w ?_ | refine t_q (hP := fail_q _ _) (k := fun σx => ?_)) | ((with_reducible apply i_dg); first | refine t_m (hs := fun hg => AS.v) (k := ?_) | refine t_m (hs := fun hg => (by exact u_call (hP := bg))) (k := ?_)) | ((with_reducible apply i_ds); refine t_s AS.s ?_) | ((with_reducible refine i_aw ?_); ((refine v_cond (fun hc => ?_) (fun hc => ?_); all_goals (try (exfalso; simp [*] at hc; done)); all_goals (try (exfalso; revert hc; simp; omega))))) | ((with_reducible refine i_rx ?_); (with_reducible refine x_pan ?_)) | fail)
      all_goals rfl
    · by_cases hi : (tk k).text = ⟨#[105, 102]⟩ ∨ (tk k).text = ⟨#[111, 112, 116, 105, 111, 110, 97, 108]⟩
      · by_cases hd1 : 12 ≤ d
        · have e : stmtP cnd (n + 1) d k c = .error (flt 4 (tk k)) := by rw [stmtP, if_pos hb, if_neg hc1, if_pos hi, if_pos hd1]
          rw [e]
          refine MX.of (fn := Tryz.f109) Tryz.call109 Tryz.func109 rfl Tryz.ntmps109 Tryz.results109 rfl rfl (by intro a; simp [V.ok, okL, C.ok, okA, okV]) (by intro b; exact ⟨rfl, by simp [HO.one, okL, C.ok, okA]⟩) ?_
          repeat' ((fail_if_success (with_reducible refine reg_at 14 ?_)); (first | (with_reducible first | apply AW.seq | apply AW.block | apply AW.skip | apply q_then | apply q_thenP | apply q_bloN | apply y_e | refine v_rgl ?_) | ((with_reducible apply i_dv); first | refine t_v AS.v ?_ | refine t_v (by exact u_eye (hP := next_p)) ?_ | refine t_w AS.w ?_ | refine t_q (hP := fail_q _ _) (k := fun σx => ?_)) | ((with_reducible apply i_dg); first | refine t_m (hs := fun hg => AS.v) (k := ?_) | refine t_m (hs := fun hg => (by exact u_call (hP := bg))) (k := ?_)) | ((with_reducible apply i_ds); refine t_s AS.s ?_) | ((with_reducible refine i_aw ?_); ((refine v_cond (fun hc => ?_) (fun hc => ?_); all_goals (try (exfalso; simp [*] at hc; done)); all_goals (try (exfalso; revert hc; simp; omega))))) | ((with_reducible refine i_rx ?_); (with_reducible refine x_pan ?_)) | fail))
          · rfl
          · exfalso; rcases hi with h | h <;> simp [h] at hc
        · have e : stmtP cnd (n + 1) d k c = blocksP cnd n d (decide ((tk k).text = ⟨#[105, 102]⟩)) { Stm.zero with pos := (tk k).pos } (nx k) (c + 1) >>= fun x => .ok (x.2.1, x.2.2) := by rw [stmtP, if_pos hb, if_neg hc1, if_pos hi, if_neg hd1]
          rw [e]
          clear e
          have iB := fun s b => ihB (by omega) s b (by rw [h1]; decide)
          refine MX.of (fn := Tryz.f109) Tryz.call109 Tryz.func109 rfl Tryz.ntmps109 Tryz.results109 rfl rfl (by intro a; simp [V.ok, okL, C.ok, okA, okV]) (by intro b; exact ⟨rfl, by simp [HO.one, okL, C.ok, okA]⟩) ?_
          repeat' ((fail_if_success (with_reducible refine reg_at 12 ?_)); (fail_if_success (with_reducible refine reg_at 14 ?_)); (first | (with_reducible first | apply AW.seq | apply AW.block | apply AW.skip | apply q_then | apply q_bloN | apply y_e | refine v_rgl ?_) | ((with_reducible apply i_dv); first | refine t_v AS.v ?_ | refine t_v (by exact u_eye (hP := next_p)) ?_ | refine t_w AS.w ?_) | ((with_reducible apply i_dg); first | refine t_m (hs := fun hg => AS.v) (k := ?_) | refine t_m (hs := fun hg => (by exact u_call (hP := bg))) (k := ?_)) | ((with_reducible apply i_ds); refine t_s AS.s ?_) | ((with_reducible refine i_aw ?_); ((refine v_cond (fun hc => ?_) (fun hc => ?_); all_goals (try (exfalso; simp [*] at hc; done)); all_goals (try (exfalso; revert hc; simp; omega))))) | fail))
          · simp only [en, ec]
            clear en ec
            repeat' (first | (with_reducible first | apply AW.seq | apply AW.ret | apply q_then | apply q_thenR | apply q_thenP | apply y_e | refine v_rgl ?_) | ((with_reducible apply i_dv); first | refine t_v AS.v ?_ | refine t_c2 (hP := iB _ _) (k1 := fun x k h => ?_) (k2 := fun e h σx => ?_)) | ((with_reducible apply i_ds); refine t_s AS.s ?_) | ((with_reducible refine i_rx ?_); first | (with_reducible refine x_pan ?_) | refine l_1c (k := ?_)) | fail)
            · exact ⟨_, (_, _), by rw [h]; rfl, ux_stC _, le_id rfl⟩
            · rw [h]; rfl
          · exfalso; rcases hi with h | h <;> simp [h] at hc
      · have e : stmtP cnd (n + 1) d k c = plainP (tk k).text { Stm.zero with pos := (tk k).pos } (nx k) >>= fun x => .ok (x.1, (x.2, c + 1)) := by rw [stmtP, if_pos hb, if_neg hc1, if_neg hi]
        rw [e]
        clear e
        by_cases ht : (tk k).text = ⟨#[116, 121, 112, 101]⟩
        · have ty := fun c d => type_x (k := nx k) (c := c) (d := d) hf { Stm.zero with pos := (tk k).pos } rfl
          rw [← ht] at ty
          refine MX.of (fn := Tryz.f109) Tryz.call109 Tryz.func109 rfl Tryz.ntmps109 Tryz.results109 rfl rfl (by intro a; simp [V.ok, okL, C.ok, okA, okV]) (by intro b; exact ⟨rfl, by simp [HO.one, okL, C.ok, okA]⟩) ?_
          repeat' ((fail_if_success (with_reducible first | refine reg_at 9 ?_ | refine reg_al 9 ?_)); (fail_if_success (with_reducible refine reg_at 15 ?_)); (first | (with_reducible first | apply AW.seq | apply AW.block | apply AW.skip | apply q_then | apply q_bloN | apply y_e | refine v_rgl ?_) | ((with_reducible apply i_dv); first | refine t_v u_buildS ?_ | refine t_v AS.v ?_ | refine t_v (by exact u_eye (hP := next_p)) ?_ | refine t_w AS.w ?_) | ((with_reducible apply i_dg); first | refine t_m (hs := fun hg => AS.v) (k := ?_) | refine t_m (hs := fun hg => (by exact u_call (hP := bg))) (k := ?_)) | ((with_reducible apply i_ds); refine t_s AS.s ?_) | ((with_reducible refine i_aw ?_); ((refine v_cond (fun hc => ?_) (fun hc => ?_); all_goals (try (exfalso; simp [*] at hc; done)); all_goals (try (exfalso; revert hc; simp; omega))))) | fail))
          · simp only [en, ec]
            clear en ec
            repeat' (first | (with_reducible first | apply AW.seq | apply AW.skip | apply AW.ret | apply q_then | apply q_thenP | apply y_e | refine v_rgl ?_) | ((with_reducible apply i_dv); first | refine t_v AS.v ?_ | refine t_c1 (hP := need_x hf _) (k1 := fun x k h => ?_) (k2 := fun e h σx => ?_) | refine t_c2 (hP := ty _ _) (k1 := fun x k h => ?_) (k2 := fun e h σx => ?_) | refine t_c2 (hP := other_x hf _ _) (k1 := fun x k h => ?_) (k2 := fun e h σx => ?_)) | ((with_reducible apply i_dg); first | refine t_f ?_ | refine t_m (hs := fun hg => AS.v) (k := ?_) | refine t_c2g (hP := rule_x hf _ _) (k1 := fun hg x k h => ?_) (k2 := fun hg e h σx => ?_) (k0 := fun hg => ?_)) | ((with_reducible apply i_ds); refine t_s AS.s ?_) | ((with_reducible refine i_aw ?_); first | refine v_no ?_ | (refine v_cond (fun hc => ?_) (fun hc => ?_))) | ((with_reducible refine i_rx ?_); first | (with_reducible refine x_pan ?_) | refine l_1c (k := ?_)) | fail)
            all_goals (clear hi ht h1 h2 hb hc1 bg ty; skip)
            all_goals ((first | (refine ⟨_, (_, _), ?_, (by exact ux_stC _), (by exact le_id rfl)⟩; simp_all [plainP, ok_bind, err_bind, adv, Lv.zero, Sp.zero, Rg.zero, Ct.zero]; done) | (simp_all [plainP, ok_bind, err_bind, adv, Lv.zero, Sp.zero, Rg.zero, Ct.zero]; done) | fail "end"))
        · have ty := fun c d => declaration_x (k := nx k) (c := c) (d := d) hf { Stm.zero with pos := (tk k).pos } (tk k).text ht
          refine MX.of (fn := Tryz.f109) Tryz.call109 Tryz.func109 rfl Tryz.ntmps109 Tryz.results109 rfl rfl (by intro a; simp [V.ok, okL, C.ok, okA, okV]) (by intro b; exact ⟨rfl, by simp [HO.one, okL, C.ok, okA]⟩) ?_
          repeat' ((fail_if_success (with_reducible first | refine reg_at 9 ?_ | refine reg_al 9 ?_)); (fail_if_success (with_reducible refine reg_at 15 ?_)); (first | (with_reducible first | apply AW.seq | apply AW.block | apply AW.skip | apply q_then | apply q_bloN | apply y_e | refine v_rgl ?_) | ((with_reducible apply i_dv); first | refine t_v AS.v ?_ | refine t_v (by exact u_eye (hP := next_p)) ?_ | refine t_w AS.w ?_) | ((with_reducible apply i_dg); first | refine t_m (hs := fun hg => AS.v) (k := ?_) | refine t_m (hs := fun hg => (by exact u_call (hP := bg))) (k := ?_)) | ((with_reducible apply i_ds); refine t_s AS.s ?_) | ((with_reducible refine i_aw ?_); ((refine v_cond (fun hc => ?_) (fun hc => ?_); all_goals (try (exfalso; simp [*] at hc; done)); all_goals (try (exfalso; revert hc; simp; omega))))) | fail))
          · simp only [en, ec]
            clear en ec
            repeat' (first | (with_reducible first | apply AW.seq | apply AW.skip | apply AW.ret | apply q_then | apply q_thenP | apply y_e | refine v_rgl ?_) | ((with_reducible apply i_dv); first | refine t_v AS.v ?_ | refine t_c1 (hP := need_x hf _) (k1 := fun x k h => ?_) (k2 := fun e h σx => ?_) | refine t_c2 (hP := ty _ _) (k1 := fun x k h => ?_) (k2 := fun e h σx => ?_) | refine t_c2 (hP := other_x hf _ _) (k1 := fun x k h => ?_) (k2 := fun e h σx => ?_)) | ((with_reducible apply i_dg); first | refine t_f ?_ | refine t_m (hs := fun hg => AS.v) (k := ?_) | refine t_c2g (hP := rule_x hf _ _) (k1 := fun hg x k h => ?_) (k2 := fun hg e h σx => ?_) (k0 := fun hg => ?_)) | ((with_reducible apply i_ds); refine t_s AS.s ?_) | ((with_reducible refine i_aw ?_); first | refine v_no ?_ | (refine v_cond (fun hc => ?_) (fun hc => ?_))) | ((with_reducible refine i_rx ?_); first | (with_reducible refine x_pan ?_) | refine l_1c (k := ?_)) | fail)
            all_goals (clear hi ht h1 h2 hb hc1 bg ty; skip)
            all_goals ((first | (refine ⟨_, (_, _), ?_, (by exact ux_stC _), (by exact le_id rfl)⟩; simp_all [plainP, ok_bind, err_bind, adv, Lv.zero, Sp.zero, Rg.zero, Ct.zero]; done) | (simp_all [plainP, ok_bind, err_bind, adv, Lv.zero, Sp.zero, Rg.zero, Ct.zero]; done) | fail "end"))
  · have e : stmtP cnd (n + 1) d k c = .error (flt 9 (tk k)) := by rw [stmtP, if_neg hb]
    rw [e]
    refine MX.of (fn := Tryz.f109) Tryz.call109 Tryz.func109 rfl Tryz.ntmps109 Tryz.results109 rfl rfl (by intro a; simp [V.ok, okL, C.ok, okA, okV]) (by intro b; exact ⟨rfl, by simp [HO.one, okL, C.ok, okA]⟩) ?_
    repeat' ((fail_if_success (with_reducible first | refine reg_at 4 ?_ | refine reg_al 4 ?_)); (first | (with_reducible first | apply AW.seq | apply AW.block | apply q_then | apply q_thenP | apply q_bloP | apply y_e | refine v_rgl ?_) | ((with_reducible apply i_dv); first | refine t_v AS.v ?_ | refine t_v (by exact u_eye (hP := next_p)) ?_ | refine t_w AS.w ?_ | refine t_q (hP := fail_q _ _) (k := fun σx => ?_)) | ((with_reducible apply i_dg); first | refine t_m (hs := fun hg => AS.v) (k := ?_) | refine t_m (hs := fun hg => (by exact u_call (hP := begins_p _))) (k := ?_)) | ((with_reducible apply i_ds); refine t_s AS.s ?_) | ((with_reducible refine i_aw ?_); ((refine v_cond (fun hc => ?_) (fun hc => ?_); all_goals (try (exfalso; simp [*] at hc; done))))) | ((with_reducible refine i_rx ?_); (with_reducible refine x_pan ?_)) | fail))
    all_goals rfl
end
end Am
namespace Am
open Tk Go.RowKit
section
variable {l : List Tok} {k k' : Ix l}
theorem context_adv (hf : Fine l) {x : Ct} (h : contextP k = .ok (x, k')) : k.1 < k'.1 := by
  unfold contextP at h
  obtain ⟨⟨u, k1⟩, h1, h⟩ := bind_ok.1 h; (try dsimp only at h)
  obtain ⟨⟨a, k2⟩, h2, h⟩ := bind_ok.1 h; (try dsimp only at h)
  obtain ⟨⟨r, k3⟩, h3, h⟩ := bind_ok.1 h; (try dsimp only at h)
  obtain ⟨⟨b, k4⟩, h4, h⟩ := bind_ok.1 h; (try dsimp only at h)
  obtain ⟨⟨t, k5⟩, h5, h⟩ := bind_ok.1 h; (try dsimp only at h)
  obtain ⟨⟨c, k6⟩, h6, h⟩ := bind_ok.1 h; (try dsimp only at h)
  obtain ⟨⟨g, k7⟩, h7, h⟩ := bind_ok.1 h; (try dsimp only at h)
  injection h with h; injection h with _ h; subst h
  have := (name_adv hf h1).2
  have := (need_adv hf h2).2
  have := (name_adv hf h3).2
  have := (need_adv hf h4).2
  have := (name_adv hf h5).2
  have := (need_adv hf h6).2
  have := range_adv hf h7
  show k.1 < k7.1
  omega
theorem text_adv (hf : Fine l) {x : ByteArray} (h : textP k = .ok (x, k')) : k.1 < k'.1 := by
  unfold textP at h
  split at h
  · rename_i hk
    split at h
    · cases h
    · injection h with h; injection h with _ h; subst h
      rw [nx_val hf (by rw [hk]; decide)]
      omega
  · cases h
theorem constr_adv (hf : Fine l) {v : Bool} {x : Ex} (h : constrP v k = .ok (x, k')) : k.1 < k'.1 := by
  unfold constrP at h
  obtain ⟨⟨u, k1⟩, h1, h⟩ := bind_ok.1 h; (try dsimp only at h)
  split at h
  · cases h
  · injection h with h; injection h with _ h; subst h
    exact (comp_adv hf v _).2.2.2.1 h1
theorem cond_adv {cnd : List Tok → Except Fa (Ex × Nat)} {x : Ex} (h : condP cnd k = .ok (x, k')) : k.1 ≤ k'.1 := by
  unfold condP at h
  obtain ⟨⟨u, n⟩, h1, h⟩ := bind_ok.1 h; (try dsimp only at h)
  injection h with h; injection h with _ h; subst h
  unfold ixAt
  split
  · exact Nat.le_add_right _ _
  · exact Nat.le_refl _
theorem ite_c {p : Prop} [Decidable p] {α : Type} {x y z : α} (h : (if p then x else y) = z) : (p ∧ x = z) ∨ (¬p ∧ y = z) := by
  by_cases c : p
  · rw [if_pos c] at h; exact .inl ⟨c, h⟩
  · rw [if_neg c] at h; exact .inr ⟨c, h⟩
theorem seq1 {α β : Type} {x : Except Fa (α × Ix l)} {f : α × Ix l → Except Fa (β × (Stm × Ix l))} {b : β} {s : Stm} (h : (x >>= f) = .ok (b, (s, k'))) (h1 : ∀ a k1, x = .ok (a, k1) → k.1 < k1.1) (h2 : ∀ a k1, f (a, k1) = .ok (b, (s, k')) → k1.1 ≤ k'.1) : k.1 ≤ k'.1 := by
  obtain ⟨⟨a, k1⟩, e1, e2⟩ := bind_ok.1 h
  have := h1 a k1 e1
  have := h2 a k1 e2
  omega
theorem fin1 {β : Type} {b b' : β} {s s' : Stm} {k1 : Ix l} (h : (Except.ok (b', (s', k1)) : Except Fa (β × (Stm × Ix l))) = .ok (b, (s, k'))) : k1.1 ≤ k'.1 := by
  injection h with h; injection h with _ h; injection h with _ h; subst h; exact Nat.le_refl _
section
variable (hf : Fine l)
include hf
theorem nm_lt : ∀ {k : Ix l} a k1, nameP k = .ok (a, k1) → k.1 < k1.1 := fun a k1 h => by have := (name_adv hf h).2; omega
theorem br_lt : ∀ {k : Ix l} a k1, bracedP k = .ok (a, k1) → k.1 < k1.1 := fun a k1 h => (braced_adv hf h).1
theorem li_lt : ∀ {k : Ix l} a k1, listedP k = .ok (a, k1) → k.1 < k1.1 := fun a k1 h => listed_adv hf h
theorem se_lt {self : Bool} : ∀ {k : Ix l} a k1, setP self k = .ok (a, k1) → k.1 < k1.1 := fun a k1 h => set_adv hf h
theorem nw_lt {s : ByteArray} : ∀ {k : Ix l} a k1, needWP s k = .ok (a, k1) → k.1 < k1.1 := fun a k1 h => by have := (needW_adv hf h).2; omega
theorem ne_lt {s : ByteArray} : ∀ {k : Ix l} a k1, needP s k = .ok (a, k1) → k.1 < k1.1 := fun a k1 h => by have := (need_adv hf h).2; omega
theorem lv_lt : ∀ {k : Ix l} a k1, levelP k = .ok (a, k1) → k.1 < k1.1 := fun a k1 h => level_adv hf h
theorem rg_lt : ∀ {k : Ix l} a k1, rangeP k = .ok (a, k1) → k.1 < k1.1 := fun a k1 h => range_adv hf h
theorem ch_lt {ws : List ByteArray} : ∀ {k : Ix l} a k1, chooseP ws k = .ok (a, k1) → k.1 < k1.1 := fun a k1 h => by have := (choose_ok hf h).2.2.2.1; omega
theorem cx_lt : ∀ {k : Ix l} a k1, contextP k = .ok (a, k1) → k.1 < k1.1 := fun a k1 h => context_adv hf h
theorem tx_lt : ∀ {k : Ix l} a k1, textP k = .ok (a, k1) → k.1 < k1.1 := fun a k1 h => text_adv hf h
theorem co_lt {v : Bool} : ∀ {k : Ix l} a k1, constrP v k = .ok (a, k1) → k.1 < k1.1 := fun a k1 h => constr_adv hf h
theorem li0_le {s : Stm} {k1 : Ix l} {β : Type} {b : β} {n : Nat} {acc : List ByteArray} {f : List ByteArray × Ix l → Except Fa (β × (Stm × Ix l))} (h : (listedL n acc k1 >>= f) = .ok (b, (s, k'))) (h2 : ∀ a k1, f (a, k1) = .ok (b, (s, k')) → k1.1 ≤ k'.1) : k1.1 ≤ k'.1 := by
  obtain ⟨⟨a, k2⟩, e1, e2⟩ := bind_ok.1 h
  have := (listedL_adv hf e1).1
  have := h2 a k2 e2
  omega
theorem isw_le {s : ByteArray} {k1 : Ix l} (h : isW s k1 = true) (h2 : (nx k1).1 ≤ k'.1) : k1.1 ≤ k'.1 := by have := isW_adv hf h; omega
theorem decl_adv {w : ByteArray} {s s' : Stm} {b : Bool} (h : declP w s k = .ok (b, (s', k'))) : k.1 ≤ k'.1 := by
  unfold declP at h
  rcases ite_c h with ⟨hw, h⟩ | ⟨_, h⟩
  · exact seq1 h (nm_lt hf) fun a k1 h => seq1 h (br_lt hf) fun a k1 h => fin1 h
  rcases ite_c h with ⟨hw, h⟩ | ⟨_, h⟩
  · refine seq1 h (nm_lt hf) fun a k1 h => ?_
    dsimp only at h
    rcases ite_c h with ⟨hw, h⟩ | ⟨_, h⟩
    · exact isw_le hf hw (seq1 h (br_lt hf) fun a k1 h => li0_le hf h fun a k1 h => fin1 h)
    · exact li0_le hf h fun a k1 h => fin1 h
  rcases ite_c h with ⟨hw, h⟩ | ⟨_, h⟩
  · exact seq1 h (nm_lt hf) fun a k1 h => fin1 h
  rcases ite_c h with ⟨hw, h⟩ | ⟨_, h⟩
  · exact seq1 h (nm_lt hf) fun a k1 h => seq1 h (li_lt hf) fun a k1 h => fin1 h
  rcases ite_c h with ⟨hw, h⟩ | ⟨_, h⟩
  · refine seq1 h (nm_lt hf) fun a k1 h => ?_
    dsimp only at h
    rcases ite_c h with ⟨hw, h⟩ | ⟨_, h⟩
    · exact isw_le hf hw (seq1 h (se_lt hf) fun a k1 h => fin1 h)
    · exact fin1 h
  rcases ite_c h with ⟨hw, h⟩ | ⟨_, h⟩
  · exact seq1 h (nm_lt hf) fun a k1 h => seq1 h (nw_lt hf) fun a k1 h => seq1 h (br_lt hf) fun a k1 h => seq1 h (nw_lt hf) fun a k1 h => seq1 h (lv_lt hf) fun a k1 h => seq1 h (nw_lt hf) fun a k1 h => seq1 h (rg_lt hf) fun a k1 h => fin1 h
  rcases ite_c h with ⟨hw, h⟩ | ⟨_, h⟩
  · exact seq1 h (nm_lt hf) fun a k1 h => seq1 h (ch_lt hf) fun a k1 h => fin1 h
  rcases ite_c h with ⟨hw, h⟩ | ⟨_, h⟩
  · exact seq1 h (nm_lt hf) fun a k1 h => fin1 h
  rcases ite_c h with ⟨hw, h⟩ | ⟨_, h⟩
  · exact seq1 h (nm_lt hf) fun a k1 h => fin1 h
  · exact fin1 h
theorem pair_adv {self : Bool} {s s' : Stm} {u : Unit} (h : pairP self s k = .ok (u, (s', k'))) : k.1 ≤ k'.1 := by
  unfold pairP at h
  exact seq1 h (se_lt hf) fun a k1 h => seq1 h (se_lt hf) fun a k1 h => seq1 h (ne_lt hf) fun a k1 h => seq1 h (se_lt hf) fun a k1 h => fin1 h
theorem seqp {β : Type} {self : Bool} {s0 s : Stm} {f : Unit × (Stm × Ix l) → Except Fa (β × (Stm × Ix l))} {b : β} (h : (pairP self s0 k >>= f) = .ok (b, (s, k'))) (h2 : ∀ a s1 k1, f (a, (s1, k1)) = .ok (b, (s, k')) → k1.1 ≤ k'.1) : k.1 ≤ k'.1 := by
  obtain ⟨⟨a, s1, k1⟩, e1, e2⟩ := bind_ok.1 h
  have := pair_adv hf e1
  have := h2 a s1 k1 e2
  omega
theorem rule_adv {w : ByteArray} {s s' : Stm} {b : Bool} (h : ruleP w s k = .ok (b, (s', k'))) : k.1 ≤ k'.1 := by
  unfold ruleP at h
  rcases ite_c h with ⟨hw, h⟩ | ⟨_, h⟩
  · exact seqp hf h fun a s1 k1 h => seq1 h (se_lt hf) fun a k1 h => fin1 h
  rcases ite_c h with ⟨hw, h⟩ | ⟨_, h⟩
  · refine seqp hf h fun a s1 k1 h => seq1 h (nm_lt hf) fun a k1 h => ?_
    dsimp only at h
    rcases ite_c h with ⟨hw, h⟩ | ⟨_, h⟩
    · have hk := hw
      rcases ite_c h with ⟨_, h⟩ | ⟨_, h⟩
      · have := fin1 h
        rw [nx_val hf (by rw [hk.2]; decide)] at this
        omega
      · cases h
    · exact fin1 h
  rcases ite_c h with ⟨hw, h⟩ | ⟨_, h⟩
  · exact seqp hf h fun a s1 k1 h => seq1 h (rg_lt hf) fun a k1 h => fin1 h
  rcases ite_c h with ⟨hw, h⟩ | ⟨_, h⟩
  · exact seqp hf h fun a s1 k1 h => seq1 h (nm_lt hf) fun a k1 h => fin1 h
  rcases ite_c h with ⟨hw, h⟩ | ⟨_, h⟩
  · exact seq1 h (se_lt hf) fun a k1 h => seq1 h (se_lt hf) fun a k1 h => fin1 h
  rcases ite_c h with ⟨hw, h⟩ | ⟨_, h⟩
  · exact seq1 h (se_lt hf) fun a k1 h => seq1 h (se_lt hf) fun a k1 h => seq1 h (co_lt hf) fun a k1 h => fin1 h
  rcases ite_c h with ⟨hw, h⟩ | ⟨_, h⟩
  · exact seq1 h (se_lt hf) fun a k1 h => seq1 h (co_lt hf) fun a k1 h => fin1 h
  · exact fin1 h
theorem other_adv {w : ByteArray} {s s' : Stm} {u : Unit} (h : otherP w s k = .ok (u, (s', k'))) : k.1 ≤ k'.1 := by
  unfold otherP at h
  rcases ite_c h with ⟨hw, h⟩ | ⟨_, h⟩
  · refine seq1 h (ch_lt hf) fun a k1 h => ?_
    dsimp only at h
    rcases ite_c h with ⟨hw, h⟩ | ⟨_, h⟩
    · exact seq1 h (nm_lt hf) fun a k1 h => seq1 h (br_lt hf) fun a k1 h => fin1 h
    · exact seq1 h (li_lt hf) fun a k1 h => fin1 h
  rcases ite_c h with ⟨hw, h⟩ | ⟨_, h⟩
  · exact seq1 h (nm_lt hf) fun a k1 h => seq1 h (cx_lt hf) fun a k1 h => fin1 h
  rcases ite_c h with ⟨hw, h⟩ | ⟨_, h⟩
  · exact seq1 h (tx_lt hf) fun a k1 h => seq1 h (ch_lt hf) fun a k1 h => seq1 h (cx_lt hf) fun a k1 h => fin1 h
  rcases ite_c h with ⟨hw, h⟩ | ⟨_, h⟩
  · exact seq1 h (se_lt hf) fun a k1 h => fin1 h
  rcases ite_c h with ⟨hw, h⟩ | ⟨_, h⟩
  · exact seq1 h (nm_lt hf) fun a k1 h => seq1 h (ch_lt hf) fun a k1 h => seq1 h (se_lt hf) fun a k1 h => seq1 h (se_lt hf) fun a k1 h => fin1 h
  · exact fin1 h
theorem plain_adv {w : ByteArray} {s s' : Stm} (h : plainP w s k = .ok (s', k')) : k.1 < k'.1 := by
  unfold plainP at h
  obtain ⟨⟨b, s1, k1⟩, h1, h⟩ := bind_ok.1 h; (try dsimp only at h)
  have e1 := decl_adv hf h1
  obtain ⟨⟨s2, k2⟩, h2, h⟩ := bind_ok.1 h; (try dsimp only at h)
  have e2 : k1.1 ≤ k2.1 := by
    split at h2
    · injection h2 with h2; injection h2 with _ h2; subst h2; exact Nat.le_refl _
    · obtain ⟨⟨b3, s3, k3⟩, h3, h2⟩ := bind_ok.1 h2; (try dsimp only at h2)
      have e3 := rule_adv hf h3
      split at h2
      · injection h2 with h2; injection h2 with _ h2; subst h2; exact e3
      · obtain ⟨⟨b4, s4, k4⟩, h4, h2⟩ := bind_ok.1 h2; (try dsimp only at h2)
        have e4 := other_adv hf h4
        injection h2 with h2; injection h2 with _ h2; subst h2
        omega
  obtain ⟨⟨u, k5⟩, h5, h⟩ := bind_ok.1 h; (try dsimp only at h)
  have e5 := (need_adv hf h5).2
  injection h with h; injection h with _ h; subst h
  show k.1 < k5.1
  omega
theorem stmts_adv (cnd : List Tok → Except Fa (Ex × Nat)) : ∀ n : Nat, (∀ {d c c' : Nat} {k k' : Ix l} {s : Stm}, stmtP cnd n d k c = .ok (s, (k', c')) → k.1 < k'.1) ∧ (∀ {d c c' : Nat} {i : Bool} {k k' : Ix l} {s s' : Stm} {u : Unit}, blocksP cnd n d i s k c = .ok (u, (s', (k', c'))) → k.1 ≤ k'.1) ∧ (∀ {d c c' : Nat} {k k' : Ix l} {x : List Stm}, blockP cnd n d k c = .ok (x, (k', c')) → k.1 < k'.1) ∧ (∀ {d c c' : Nat} {acc : List Stm} {k k' : Ix l} {x : List Stm}, stmtsP cnd n d acc k c = .ok (x, (k', c')) → k.1 ≤ k'.1)
  | 0 => ⟨fun h => (by rw [stmtP] at h; cases h), fun h => (by rw [blocksP] at h; cases h), fun h => (by rw [blockP] at h; cases h), fun h => (by rw [stmtsP] at h; cases h)⟩
  | n + 1 => by
    obtain ⟨i1, i2, i3, i4⟩ := stmts_adv cnd n
    refine ⟨fun {d c c' k k' s} h => ?_, fun {d c c' i k k' s s' u} h => ?_, fun {d c c' k k' x} h => ?_, fun {d c c' acc k k' x} h => ?_⟩
    · rw [stmtP] at h
      split at h
      · rename_i hk
        have en := nx_val hf (k := k) (by rw [hk.1]; decide)
        split at h
        · cases h
        · split at h
          · split at h
            · cases h
            · obtain ⟨⟨u, s1, k1, c1⟩, h1, h⟩ := bind_ok.1 h; (try dsimp only at h)
              injection h with h; injection h with _ h; injection h with h _; subst h
              have := i2 h1
              omega
          · obtain ⟨⟨s1, k1⟩, h1, h⟩ := bind_ok.1 h; (try dsimp only at h)
            injection h with h; injection h with _ h; injection h with h _; subst h
            have := plain_adv hf h1
            omega
      · cases h
    · rw [blocksP] at h
      obtain ⟨⟨s1, k1⟩, h1, h⟩ := bind_ok.1 h; (try dsimp only at h)
      have e1 : k.1 ≤ k1.1 := by
        split at h1
        · obtain ⟨⟨x, k2⟩, h2, h1⟩ := bind_ok.1 h1; (try dsimp only at h1)
          injection h1 with h1; injection h1 with _ h1; subst h1
          exact cond_adv h2
        · injection h1 with h1; injection h1 with _ h1; subst h1; exact Nat.le_refl _
      obtain ⟨⟨x, k2, c2⟩, h2, h⟩ := bind_ok.1 h; (try dsimp only at h)
      have e2 := i3 h2
      split at h
      · rename_i hw
        have e3 := isW_adv hf hw
        obtain ⟨⟨y, k3, c3⟩, h3, h⟩ := bind_ok.1 h; (try dsimp only at h)
        have e4 := i3 h3
        injection h with h; injection h with _ h; injection h with _ h; injection h with h _; subst h
        show k.1 ≤ k3.1
        omega
      · injection h with h; injection h with _ h; injection h with _ h; injection h with h _; subst h
        omega
    · rw [blockP] at h
      obtain ⟨⟨u, k1⟩, h1, h⟩ := bind_ok.1 h; (try dsimp only at h)
      have e1 := (need_adv hf h1).2
      split at h
      · cases h
      · obtain ⟨⟨x2, k2, c2⟩, h2, h⟩ := bind_ok.1 h; (try dsimp only at h)
        have e2 := i4 h2
        obtain ⟨⟨v, k3⟩, h3, h⟩ := bind_ok.1 h; (try dsimp only at h)
        have e3 := (need_adv hf h3).2
        injection h with h; injection h with _ h; injection h with h _; subst h
        show k.1 < k3.1
        omega
    · rw [stmtsP] at h
      split at h
      · injection h with h; injection h with _ h; injection h with h _; subst h; exact Nat.le_refl _
      · obtain ⟨⟨s1, k1, c1⟩, h1, h⟩ := bind_ok.1 h; (try dsimp only at h)
        have e1 := i1 h1
        have e2 := i4 h
        omega
end
end
end Am
end Go.Proofs.YtkpodagbefnebaaGreatDoor
