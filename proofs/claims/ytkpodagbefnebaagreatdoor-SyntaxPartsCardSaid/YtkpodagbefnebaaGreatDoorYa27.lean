import Derived.Test.YtkpodagbefnebaaGreatDoorYa24
import Derived.Test.YtkpodagbefnebaaGreatDoorYa26
import Derived.Test.YtkpodagbefnebaaGreatDoorYa22
import Derived.Test.YtkpodagbefnebaaGreatDoorYa23
set_option linter.unusedSimpArgs false
set_option linter.unusedVariables false
set_option linter.unusedSectionVars false
namespace Go.Proofs.YtkpodagbefnebaaGreatDoor
namespace Am
open Tk Go.RowKit
set_option maxRecDepth 100000
set_option maxHeartbeats 4000000
def RetW (P : Program) (rl : List ResultVar) (ty : Nat) (cs : List C) : Exit → St → Prop := fun e σ => (e = .ret ∨ e = .normal) ∧ ∃ n cs0, σ.hp n = some (.obj ty cs0) ∧ unL cs0 = cs ∧ ∃ vs, ARes P σ rl vs ∧ one vs = .c (.ptr n 0)
theorem new1 [Tb] {P : Program} {f nt : Nat} {fn : Func} {c : Code} {rl : List ResultVar} {a0 : V} {ty : Nat} {cs : List C} (hc : Callable P f) (hf : P.funcs[f]? = some fn) (hb : fn.body = some c) (hn : fn.ntmps = nt) (hres : fn.results = rl.toArray) (hl : Nat.ble 1 nt = true) (hr : okL noN cs = true) (h : AW P nt c (RetW P rl ty cs) (mk [(0, a0)] [])) : NewC P f [a0] ty cs :=
  NewC.of hc hf hb hn (Nat.le_of_ble_eq_true hl) hr (by
    have e : (⟨fun i => [a0][i]?, fun _ => none⟩ : St) = mk [(0, a0)] [] := by
      congr 1
      funext i
      match i with
      | 0 => rfl
      | i + 1 => rfl
    rw [e, hres]; exact h)
theorem w_new {P : Program} {l : List (Nat × V)} {h : List (Nat × HO)} {ty t0 n : Nat} {cs cs0 : List C} (e : unL cs0 = cs) (h0 : Ev (evA (look l)) (.tmp t0) (.c (.ptr n 0)) := by exact .pl rfl) (hh : look h n = some (.obj ty cs0) := by rfl) : RetW P [.tmp t0] ty cs .ret (mk l h) := ⟨.inl rfl, n, cs0, hh, e, [_], .tmp h0 .nil, rfl⟩
def endQ {l : List Tok} (k : Ix l) (f : Fa) : Fa := if f.code = 0 ∧ (tk k).kind ≠ 0 then flt 9 (tk k) else f
abbrev tok0 : Tok := Tok.zero
def scnQ (src : ByteArray) : List Tok × Fa := match scanP src with
  | .ok l => (l, Fa.zero)
  | .error f => ([tok0], f)
theorem fine_0 : Fine [tok0] := ⟨by decide, by decide, fun k h => absurd (show (tk k).kind = 0 from by
    obtain ⟨i, hi⟩ := k
    have : i = 0 := by simp at hi; omega
    subst this; rfl) h, fun k h => by
    obtain ⟨i, hi⟩ := k
    have : i = 0 := by simp at hi; omega
    subst this; exact absurd h (show ¬ ((0 : Int) = 2) by decide)⟩
theorem scnQ_fine {src : ByteArray} {l : List Tok} {f : Fa} (hs : scnQ src = (l, f)) : Fine l := by
  unfold scnQ at hs
  cases hsc : scanP src with
  | ok ts =>
    rw [hsc] at hs
    injection hs with h1 h2
    subst h1
    exact scan_fine hsc
  | error g =>
    rw [hsc] at hs
    injection hs with h1 h2
    subst h1
    exact fine_0
theorem run_q {α : Type} {src : ByteArray} {l : List Tok} {f : Fa} (hs : scnQ src = (l, f)) (h0 : 0 < l.length) {sp : ∀ l : List Tok, Ix l → Except Fa (α × Ix l)} {t : α × (Ix l × Fa)} (h : RQ f (sp l ⟨0, h0⟩) t) (hz : NZ l (sp l ⟨0, h0⟩)) :
    (∀ x, (runP src fun l k => zQ (sp l k)) = .ok x → t.1 = x ∧ (endQ t.2.1 t.2.2).code = 0) ∧ ∀ g, (runP src fun l k => zQ (sp l k)) = .error g → g.code ≠ 0 ∧ endQ t.2.1 t.2.2 = g := by
  unfold scnQ at hs
  unfold runP
  cases hsc : scanP src with
  | error g =>
    rw [hsc] at hs
    injection hs with h1 h2
    subst h2
    refine ⟨fun x hx => (by cases hx), fun g' hg' => ?_⟩
    injection hg' with hg'
    subst hg'
    have hn := (scanP_nz src g hsc).1
    refine ⟨hn, ?_⟩
    rw [h.1 hn]
    unfold endQ
    rw [if_neg fun h => hn h.1]
  | ok ts =>
    rw [hsc] at hs
    injection hs with h1 h2
    subst h1 h2
    have h2 := h.2 rfl
    simp only [ok_bind, dif_pos h0]
    cases hp : sp ts ⟨0, h0⟩ with
    | error g =>
      rw [hp] at h2
      have h2 : t.2.2 = g := h2
      have hn := (hz g hp).1
      refine ⟨fun x hx => (by cases hx), fun g' hg' => ?_⟩
      have hg' : (Except.error g : Except Fa α) = .error g' := hg'
      injection hg' with hg'
      subst hg'
      refine ⟨hn, ?_⟩
      rw [h2]
      unfold endQ
      rw [if_neg fun h => hn h.1]
    | ok x =>
      rw [hp] at h2
      have h2 : t = (x.1, (x.2, Fa.zero)) := h2
      subst h2
      have e : (zQ (.ok x) >>= fun y => if (tk y.2.1).kind = 0 then .ok y.1 else .error (flt 9 (tk y.2.1)) : Except Fa α) = if (tk x.2).kind = 0 then .ok x.1 else .error (flt 9 (tk x.2)) := rfl
      rw [e]
      by_cases hk : (tk x.2).kind = 0
      · rw [if_pos hk]
        refine ⟨fun y hy => ?_, fun g hg => (by cases hg)⟩
        injection hy with hy
        refine ⟨hy, ?_⟩
        unfold endQ
        rw [if_neg fun h => h.2 hk]; rfl
      · rw [if_neg hk]
        refine ⟨fun y hy => (by cases hy), fun g hg => ?_⟩
        injection hg with hg
        refine ⟨by rw [← hg]; exact (by decide : (9 : Int) ≠ 0), ?_⟩
        unfold endQ
        rw [if_pos ⟨rfl, hk⟩]; exact hg
theorem q7end_x {l : List Tok} (k : Ix l) (f : Fa) (c : Int) : MX Tryz.prog 58 [(0, qsO k f c)] [.c (.ptr 0 0)] (.ok (endQ k f, endQ k f) : Except Fa (Fa × Fa)) (fun g => .agg (faC g)) (fun g => [(0, qsO k g c)]) pvS := by
  have nw := q7now_p (l := l) (k := k) (f := f) (c := c)
  have fa := q7failed_p (l := l) (k := k) (f := f) (c := c)
  have fl := q7fail_m (c := c) k f 9 (tk k)
  by_cases h : f.code = 0
  · have e1 : badF f 9 (tk k) = flt 9 (tk k) := bad_0 h
    rw [e1] at fl
    have e2 : (!decide (f.code = 0)) = false := by simp [h]
    rw [e2] at fa
    by_cases hk : (tk k).kind = 0
    · have e : endQ k f = f := by unfold endQ; rw [if_neg fun h => h.2 hk]
      rw [e]
      refine MX.of (fn := Tryz.f58) Tryz.call58 Tryz.func58 rfl Tryz.ntmps58 Tryz.results58 rfl rfl (by intro a; rfl) (by intro b; exact ⟨rfl, by simp [HO.one, okL, C.ok, okA]⟩) ?_
      repeat' (first | (with_reducible first | apply AW.seq | apply AW.skip | apply AW.ret | apply q_then | apply y_e | refine v_rgl ?_) | ((with_reducible apply i_dv); first | refine t_v AS.v ?_ | refine t_v (by first | exact u_eye (hP := nw) | exact u_eye (hP := fa)) ?_ | refine t_w AS.w ?_ | refine t_w (by exact u_m1 (hP := fl)) ?_) | ((with_reducible apply i_dg); first | refine t_f ?_ | refine t_m (hs := fun hg => AS.v) (k := ?_) | refine t_m (hs := fun hg => (by exact u_eye (hP := nw))) (k := ?_)) | ((with_reducible apply i_ds); refine t_s AS.s ?_) | ((with_reducible refine i_aw ?_); first | refine v_no ?_ | (refine v_cond (fun hc => ?_) (fun hc => ?_); all_goals (try (exfalso; simp [*] at hc; done)))) | ((with_reducible refine i_rx ?_); refine l_1c (k := ?_)) | fail)
      all_goals exact ⟨_, _, rfl, ux_faC _, le_id rfl⟩
    · have e : endQ k f = flt 9 (tk k) := by unfold endQ; rw [if_pos ⟨h, hk⟩]
      rw [e]
      refine MX.of (fn := Tryz.f58) Tryz.call58 Tryz.func58 rfl Tryz.ntmps58 Tryz.results58 rfl rfl (by intro a; rfl) (by intro b; exact ⟨rfl, by simp [HO.one, okL, C.ok, okA]⟩) ?_
      repeat' (first | (with_reducible first | apply AW.seq | apply AW.skip | apply AW.ret | apply q_then | apply y_e | refine v_rgl ?_) | ((with_reducible apply i_dv); first | refine t_v AS.v ?_ | refine t_v (by first | exact u_eye (hP := nw) | exact u_eye (hP := fa)) ?_ | refine t_w AS.w ?_ | refine t_w (by exact u_m1 (hP := fl)) ?_) | ((with_reducible apply i_dg); first | refine t_f ?_ | refine t_m (hs := fun hg => AS.v) (k := ?_) | refine t_m (hs := fun hg => (by exact u_eye (hP := nw))) (k := ?_)) | ((with_reducible apply i_ds); refine t_s AS.s ?_) | ((with_reducible refine i_aw ?_); first | refine v_no ?_ | (refine v_cond (fun hc => ?_) (fun hc => ?_); all_goals (try (exfalso; simp [*] at hc; done)))) | ((with_reducible refine i_rx ?_); refine l_1c (k := ?_)) | fail)
      all_goals exact ⟨_, _, rfl, ux_faC _, le_id rfl⟩
  · have e2 : (!decide (f.code = 0)) = true := by simp [h]
    rw [e2] at fa
    have e : endQ k f = f := by unfold endQ; rw [if_neg fun h' => h h'.1]
    rw [e]
    refine MX.of (fn := Tryz.f58) Tryz.call58 Tryz.func58 rfl Tryz.ntmps58 Tryz.results58 rfl rfl (by intro a; rfl) (by intro b; exact ⟨rfl, by simp [HO.one, okL, C.ok, okA]⟩) ?_
    repeat' (first | (with_reducible first | apply AW.seq | apply AW.skip | apply AW.ret | apply q_then | apply y_e | refine v_rgl ?_) | ((with_reducible apply i_dv); first | refine t_v AS.v ?_ | refine t_v (by first | exact u_eye (hP := nw) | exact u_eye (hP := fa)) ?_ | refine t_w AS.w ?_ | refine t_w (by exact u_m1 (hP := fl)) ?_) | ((with_reducible apply i_dg); first | refine t_f ?_ | refine t_m (hs := fun hg => AS.v) (k := ?_) | refine t_m (hs := fun hg => (by exact u_eye (hP := nw))) (k := ?_)) | ((with_reducible apply i_ds); refine t_s AS.s ?_) | ((with_reducible refine i_aw ?_); first | refine v_no ?_ | (refine v_cond (fun hc => ?_) (fun hc => ?_); all_goals (try (exfalso; simp [*] at hc; done)))) | ((with_reducible refine i_rx ?_); refine l_1c (k := ?_)) | fail)
    all_goals exact ⟨_, _, rfl, ux_faC _, le_id rfl⟩
theorem q7scanned_n {src : ByteArray} {l : List Tok} {f : Fa} (hs : scnQ src = (l, f)) (h0 : 0 < l.length) : NewC Tryz.prog 52 [.c (sS src)] 139 (qsC ⟨l, (((⟨0, h0⟩ : Ix l).1 : Nat) : Int), f, 0⟩) := by
  have sc := qscan_p src
  unfold scnQ at hs
  cases hsc : scanP src with
  | ok ts =>
    rw [hsc] at hs sc
    injection hs with h1 h2
    subst h1 h2
    have sc : Pure _ _ _ (.tup [.c (.lst none 4 (ts.map tkC)), .agg (faC Fa.zero)]) := sc
    refine new1 (fn := Tryz.f52) Tryz.call52 Tryz.func52 rfl Tryz.ntmps52 Tryz.results52 rfl (by simp [okL, C.ok, okA]) ?_
    repeat' (first | (with_reducible first | apply AW.seq | apply AW.skip | apply AW.ret | apply q_then | apply q_thenR | apply y_e | refine v_rgl ?_) | ((with_reducible apply i_dv); first | refine t_v AS.v ?_ | refine t_v (by exact u_call (hP := sc)) ?_ | refine t_w AS.w ?_) | ((with_reducible apply i_ds); refine t_s AS.s ?_) | ((with_reducible refine i_aw ?_); first | refine v_no ?_ | (refine v_cond (fun hc => ?_) (fun hc => ?_); all_goals (try (exfalso; simp [*] at hc; done)))) | fail)
    all_goals first | (refine w_new ?_ (.pl rfl) rfl; first | rfl | (simp only [unA]; done) | (simp only [unA]; rfl)) | (exfalso; simp_all; done) | trace_state
  | error g =>
    rw [hsc] at hs sc
    injection hs with h1 h2
    subst h1 h2
    have sc : Pure _ _ _ (.tup [.c .nil, .agg (faC g)]) := sc
    have hg := (scanP_nz src g hsc).1
    refine new1 (fn := Tryz.f52) Tryz.call52 Tryz.func52 rfl Tryz.ntmps52 Tryz.results52 rfl (by simp [okL, C.ok, okA]) ?_
    repeat' (first | (with_reducible first | apply AW.seq | apply AW.skip | apply AW.ret | apply q_then | apply q_thenR | apply y_e | refine v_rgl ?_) | ((with_reducible apply i_dv); first | refine t_v AS.v ?_ | refine t_v (by exact u_call (hP := sc)) ?_ | refine t_w AS.w ?_) | ((with_reducible apply i_ds); refine t_s AS.s ?_) | ((with_reducible refine i_aw ?_); first | refine v_no ?_ | (refine v_cond (fun hc => ?_) (fun hc => ?_); all_goals (try (exfalso; simp [*] at hc; done)))) | fail)
    all_goals ((refine w_new ?_ (.pl rfl) rfl; rfl))
theorem q7end_m {l : List Tok} (k : Ix l) (f : Fa) (c : Int) : MNL Tryz.prog 58 [(0, qsO k f c)] [.c (.ptr 0 0)] (.agg (faC (endQ k f))) [(0, qsO k (endQ k f) c)] := (q7end_x k f c).ok _ _ rfl
theorem q7Names_p (src : ByteArray) : Pure Tryz.prog 35 [.c (sS src)] (rtV (.agg (nsC NS.zero)) (fun x => .agg (nsC x)) (namesT src)) := by
  obtain ⟨l, f, hs⟩ : ∃ l f, scnQ src = (l, f) := ⟨_, _, rfl⟩
  have hf := scnQ_fine hs
  have nw := q7scanned_n hs hf.pos
  have st := q7set_m (c := 0) hf true ⟨0, hf.pos⟩ f
  have rq := run_q hs hf.pos (sp := fun l k => setP true k) (set_rq hf true ⟨0, hf.pos⟩ f) (set_nz true _)
  generalize setQ true (⟨0, hf.pos⟩ : Ix l) f = q at *
  obtain ⟨x, k1, f1⟩ := q
  dsimp only at st rq
  have en := q7end_m k1 f1 0
  have e : namesT src = runP src fun l k => zQ (setP true k) := rfl
  rw [e]
  clear e hs
  cases hp : (runP src fun l k => zQ (setP true k)) with
  | ok y =>
    obtain ⟨rfl, hz⟩ := rq.1 y hp
    clear rq hp
    show Pure _ _ _ (.tup [.agg (nsC x), .agg (faC Fa.zero)])
    generalize endQ k1 f1 = g at *
    refine fn1 (fn := Tryz.f35) Tryz.call35 Tryz.func35 rfl Tryz.ntmps35 Tryz.results35 rfl (by first | rfl | simp [V.ok, okL, C.ok, okA, okV]) ?_
    repeat' (first | (with_reducible first | apply AW.seq | apply AW.skip | apply AW.ret | apply q_then | apply q_thenR | apply y_e | refine v_rgl ?_ | refine v_drb ?_) | ((with_reducible apply i_dv); first | refine t_w (u_new nw) ?_ | refine t_v AS.v ?_ | refine t_w AS.w ?_ | refine t_w (by first | exact u_m1 (hP := st) | exact u_m1 (hP := en)) ?_) | ((with_reducible apply i_ds); refine t_s AS.s ?_) | ((with_reducible refine i_aw ?_); ((refine v_cond (fun hc => ?_) (fun hc => ?_); all_goals (try (exfalso; simp [*] at hc; done))))) | ((with_reducible refine i_rt ?_); (((refine k_cc ?_ ?_); all_goals (with_reducible (apply un_a))))) | (refine ⟨by decide +kernel, ?_⟩) | fail)
    all_goals first | rfl | simp only [unA] | simp | trace_state
  | error g =>
    obtain ⟨hz, he⟩ := rq.2 g hp
    clear rq hp
    show Pure _ _ _ (.tup [.agg (nsC NS.zero), .agg (faC g)])
    rw [he] at en
    refine fn1 (fn := Tryz.f35) Tryz.call35 Tryz.func35 rfl Tryz.ntmps35 Tryz.results35 rfl (by first | rfl | simp [V.ok, okL, C.ok, okA, okV]) ?_
    repeat' (first | (with_reducible first | apply AW.seq | apply AW.skip | apply AW.ret | apply q_then | apply q_thenR | apply y_e | refine v_rgl ?_ | refine v_drb ?_) | ((with_reducible apply i_dv); first | refine t_w (u_new nw) ?_ | refine t_v AS.v ?_ | refine t_w AS.w ?_ | refine t_w (by first | exact u_m1 (hP := st) | exact u_m1 (hP := en)) ?_) | ((with_reducible apply i_ds); refine t_s AS.s ?_) | ((with_reducible refine i_aw ?_); ((refine v_cond (fun hc => ?_) (fun hc => ?_); all_goals (try (exfalso; simp [*] at hc; done))))) | ((with_reducible refine i_rt ?_); (((refine k_cc ?_ ?_); all_goals (with_reducible (apply un_a))))) | (refine ⟨by decide +kernel, ?_⟩) | fail)
    all_goals rfl
theorem q7Range_p (src : ByteArray) : Pure Tryz.prog 38 [.c (sS src)] (rtV (.agg (rgC Rg.zero)) (fun x => .agg (rgC x)) (rangeT src)) := by
  obtain ⟨l, f, hs⟩ : ∃ l f, scnQ src = (l, f) := ⟨_, _, rfl⟩
  have hf := scnQ_fine hs
  have nw := q7scanned_n hs hf.pos
  have st := q7span_m (c := 0) hf ⟨0, hf.pos⟩ f
  have rq := run_q hs hf.pos (sp := fun l k => rangeP k) (range_rq hf ⟨0, hf.pos⟩ f) (range_nz _)
  generalize rangeQ (⟨0, hf.pos⟩ : Ix l) f = q at *
  obtain ⟨x, k1, f1⟩ := q
  dsimp only at st rq
  have en := q7end_m k1 f1 0
  have e : rangeT src = runP src fun l k => zQ (rangeP k) := rfl
  rw [e]
  clear e hs
  cases hp : (runP src fun l k => zQ (rangeP k)) with
  | ok y =>
    obtain ⟨rfl, hz⟩ := rq.1 y hp
    clear rq hp
    show Pure _ _ _ (.tup [.agg (rgC x), .agg (faC Fa.zero)])
    generalize endQ k1 f1 = g at *
    refine fn1 (fn := Tryz.f38) Tryz.call38 Tryz.func38 rfl Tryz.ntmps38 Tryz.results38 rfl (by first | rfl | simp [V.ok, okL, C.ok, okA, okV]) ?_
    repeat' (first | (with_reducible first | apply AW.seq | apply AW.skip | apply AW.ret | apply q_then | apply q_thenR | apply y_e | refine v_rgl ?_ | refine v_drb ?_) | ((with_reducible apply i_dv); first | refine t_w (u_new nw) ?_ | refine t_v AS.v ?_ | refine t_w AS.w ?_ | refine t_w (by first | exact u_m1 (hP := st) | exact u_m1 (hP := en)) ?_) | ((with_reducible apply i_ds); refine t_s AS.s ?_) | ((with_reducible refine i_aw ?_); ((refine v_cond (fun hc => ?_) (fun hc => ?_); all_goals (try (exfalso; simp [*] at hc; done))))) | ((with_reducible refine i_rt ?_); (((refine k_cc ?_ ?_); all_goals (with_reducible (apply un_a))))) | (refine ⟨by decide +kernel, ?_⟩) | fail)
    all_goals first | rfl | simp only [unA] | simp | trace_state
  | error g =>
    obtain ⟨hz, he⟩ := rq.2 g hp
    clear rq hp
    show Pure _ _ _ (.tup [.agg (rgC Rg.zero), .agg (faC g)])
    rw [he] at en
    refine fn1 (fn := Tryz.f38) Tryz.call38 Tryz.func38 rfl Tryz.ntmps38 Tryz.results38 rfl (by first | rfl | simp [V.ok, okL, C.ok, okA, okV]) ?_
    repeat' (first | (with_reducible first | apply AW.seq | apply AW.skip | apply AW.ret | apply q_then | apply q_thenR | apply y_e | refine v_rgl ?_ | refine v_drb ?_) | ((with_reducible apply i_dv); first | refine t_w (u_new nw) ?_ | refine t_v AS.v ?_ | refine t_w AS.w ?_ | refine t_w (by first | exact u_m1 (hP := st) | exact u_m1 (hP := en)) ?_) | ((with_reducible apply i_ds); refine t_s AS.s ?_) | ((with_reducible refine i_aw ?_); ((refine v_cond (fun hc => ?_) (fun hc => ?_); all_goals (try (exfalso; simp [*] at hc; done))))) | ((with_reducible refine i_rt ?_); (((refine k_cc ?_ ?_); all_goals (with_reducible (apply un_a))))) | (refine ⟨by decide +kernel, ?_⟩) | fail)
    all_goals rfl
theorem q7Context_p (src : ByteArray) : Pure Tryz.prog 41 [.c (sS src)] (rtV (.agg (cxC Ct.zero)) (fun x => .agg (cxC x)) (ctxT src)) := by
  obtain ⟨l, f, hs⟩ : ∃ l f, scnQ src = (l, f) := ⟨_, _, rfl⟩
  have hf := scnQ_fine hs
  have nw := q7scanned_n hs hf.pos
  have st := q7context_m (c := 0) hf ⟨0, hf.pos⟩ f
  have rq := run_q hs hf.pos (sp := fun l k => contextP k) (context_rq hf ⟨0, hf.pos⟩ f) (context_nz _)
  generalize contextQ (⟨0, hf.pos⟩ : Ix l) f = q at *
  obtain ⟨x, k1, f1⟩ := q
  dsimp only at st rq
  have en := q7end_m k1 f1 0
  have e : ctxT src = runP src fun l k => zQ (contextP k) := rfl
  rw [e]
  clear e hs
  cases hp : (runP src fun l k => zQ (contextP k)) with
  | ok y =>
    obtain ⟨rfl, hz⟩ := rq.1 y hp
    clear rq hp
    show Pure _ _ _ (.tup [.agg (cxC x), .agg (faC Fa.zero)])
    generalize endQ k1 f1 = g at *
    refine fn1 (fn := Tryz.f41) Tryz.call41 Tryz.func41 rfl Tryz.ntmps41 Tryz.results41 rfl (by first | rfl | simp [V.ok, okL, C.ok, okA, okV]) ?_
    repeat' (first | (with_reducible first | apply AW.seq | apply AW.skip | apply AW.ret | apply q_then | apply q_thenR | apply y_e | refine v_rgl ?_ | refine v_drb ?_) | ((with_reducible apply i_dv); first | refine t_w (u_new nw) ?_ | refine t_v AS.v ?_ | refine t_w AS.w ?_ | refine t_w (by first | exact u_m1 (hP := st) | exact u_m1 (hP := en)) ?_) | ((with_reducible apply i_ds); refine t_s AS.s ?_) | ((with_reducible refine i_aw ?_); ((refine v_cond (fun hc => ?_) (fun hc => ?_); all_goals (try (exfalso; simp [*] at hc; done))))) | ((with_reducible refine i_rt ?_); (((refine k_cc ?_ ?_); all_goals (with_reducible (apply un_a))))) | (refine ⟨by decide +kernel, ?_⟩) | fail)
    all_goals first | rfl | simp only [unA] | simp | trace_state
  | error g =>
    obtain ⟨hz, he⟩ := rq.2 g hp
    clear rq hp
    show Pure _ _ _ (.tup [.agg (cxC Ct.zero), .agg (faC g)])
    rw [he] at en
    refine fn1 (fn := Tryz.f41) Tryz.call41 Tryz.func41 rfl Tryz.ntmps41 Tryz.results41 rfl (by first | rfl | simp [V.ok, okL, C.ok, okA, okV]) ?_
    repeat' (first | (with_reducible first | apply AW.seq | apply AW.skip | apply AW.ret | apply q_then | apply q_thenR | apply y_e | refine v_rgl ?_ | refine v_drb ?_) | ((with_reducible apply i_dv); first | refine t_w (u_new nw) ?_ | refine t_v AS.v ?_ | refine t_w AS.w ?_ | refine t_w (by first | exact u_m1 (hP := st) | exact u_m1 (hP := en)) ?_) | ((with_reducible apply i_ds); refine t_s AS.s ?_) | ((with_reducible refine i_aw ?_); ((refine v_cond (fun hc => ?_) (fun hc => ?_); all_goals (try (exfalso; simp [*] at hc; done))))) | ((with_reducible refine i_rt ?_); (((refine k_cc ?_ ?_); all_goals (with_reducible (apply un_a))))) | (refine ⟨by decide +kernel, ?_⟩) | fail)
    all_goals rfl
end Am
namespace Am
open Tk Go.RowKit
set_option maxRecDepth 100000
set_option maxHeartbeats 4000000
def exS : Stm := { Stm.zero with kind := 12, op := 1, pos := ⟨1, 13⟩, source := ⟨false, false, false, [⟨#[97]⟩], []⟩, target := ⟨false, false, true, [⟨#[98]⟩], []⟩, cls := ⟨false, false, false, [⟨#[102, 105, 108, 101]⟩], []⟩, perms := ⟨false, false, false, [⟨#[114, 101, 97, 100]⟩, ⟨#[119, 114, 105, 116, 101]⟩], []⟩ }
theorem ex_1 : parseP ⟨#[109, 111, 100, 117, 108, 101, 32, 109, 32, 49, 59, 32, 97, 108, 108, 111, 119, 32, 97, 32, 123, 32, 98, 32, 115, 101, 108, 102, 32, 125, 32, 58, 32, 102, 105, 108, 101, 32, 123, 32, 114, 101, 97, 100, 32, 119, 114, 105, 116, 101, 32, 125, 59]⟩ = .ok ⟨⟨#[109]⟩, 1, [exS]⟩ := by kernel_rfl
theorem ex_2 : parseP ⟨#[109, 111, 100, 117, 108, 101, 32, 109, 32, 49, 59, 32, 97, 108, 108, 111, 119, 32, 115, 101, 108, 102, 32, 98, 32, 58, 32, 102, 105, 108, 101, 32, 114, 101, 97, 100, 59]⟩ = .error ⟨9, ⟨1, 19⟩, ⟨#[115, 101, 108, 102]⟩⟩ := by kernel_rfl
theorem ex_3 : parseP ⟨#[109, 111, 100, 117, 108, 101, 32, 109, 32, 49, 48, 48, 48, 48, 59]⟩ = .error ⟨3, ⟨1, 10⟩, ⟨#[49, 48, 48, 48, 48]⟩⟩ := by kernel_rfl
theorem ex_4 : namesT ⟨#[126, 32, 123, 32, 97, 32, 45, 32, 98, 32, 125]⟩ = .ok ⟨false, true, false, [⟨#[97]⟩], [⟨#[98]⟩]⟩ := by kernel_rfl
theorem alive_p : Pure Tryz.prog 13 [] (.c (sB true)) := by
  obtain ⟨m1, s1, e1, hm, hk, ho, hp, hs, hl⟩ : ∃ m s, parseP ⟨#[109, 111, 100, 117, 108, 101, 32, 109, 32, 49, 59, 32, 97, 108, 108, 111, 119, 32, 97, 32, 123, 32, 98, 32, 115, 101, 108, 102, 32, 125, 32, 58, 32, 102, 105, 108, 101, 32, 123, 32, 114, 101, 97, 100, 32, 119, 114, 105, 116, 101, 32, 125, 59]⟩ = .ok m ∧ m.stmts = [s] ∧ s.kind = 12 ∧ s.op = 1 ∧ s.pos = ⟨1, 13⟩ ∧ s.target.self = true ∧ s.perms.names.length = 2 := ⟨_, _, ex_1, rfl, rfl, rfl, rfl, rfl, rfl⟩
  obtain ⟨n1, e4, hn, hn1, hn2⟩ : ∃ n, namesT ⟨#[126, 32, 123, 32, 97, 32, 45, 32, 98, 32, 125]⟩ = .ok n ∧ n.nt = true ∧ n.names.length = 1 ∧ n.except.length = 1 := ⟨_, ex_4, rfl, rfl, rfl⟩
  have p1 := parse_p ⟨#[109, 111, 100, 117, 108, 101, 32, 109, 32, 49, 59, 32, 97, 108, 108, 111, 119, 32, 97, 32, 123, 32, 98, 32, 115, 101, 108, 102, 32, 125, 32, 58, 32, 102, 105, 108, 101, 32, 123, 32, 114, 101, 97, 100, 32, 119, 114, 105, 116, 101, 32, 125, 59]⟩
  have p2 := parse_p ⟨#[109, 111, 100, 117, 108, 101, 32, 109, 32, 49, 59, 32, 97, 108, 108, 111, 119, 32, 115, 101, 108, 102, 32, 98, 32, 58, 32, 102, 105, 108, 101, 32, 114, 101, 97, 100, 59]⟩
  have p3 := parse_p ⟨#[109, 111, 100, 117, 108, 101, 32, 109, 32, 49, 48, 48, 48, 48, 59]⟩
  have p4 := names_e ⟨#[126, 32, 123, 32, 97, 32, 45, 32, 98, 32, 125]⟩
  rw [e1] at p1
  rw [ex_2] at p2
  rw [ex_3] at p3
  rw [e4] at p4
  have p1 : Pure _ _ _ (.tup [.agg (moC m1), .agg (faC Fa.zero)]) := p1
  have p2 : Pure _ _ _ (.tup [.agg (moC Mo.zero), .agg (faC ⟨9, ⟨1, 19⟩, ⟨#[115, 101, 108, 102]⟩⟩)]) := p2
  have p3 : Pure _ _ _ (.tup [.agg (moC Mo.zero), .agg (faC ⟨3, ⟨1, 10⟩, ⟨#[49, 48, 48, 48, 48]⟩⟩)]) := p3
  have p4 : Pure _ _ _ (.tup [.agg (nsC n1), .agg (faC Fa.zero)]) := p4
  clear e1 e4
  have hg : (m1.stmts.map stC)[0]? = some (stC s1) := by rw [hm]; rfl
  have hml : m1.stmts.length = 1 := by rw [hm]; rfl
  refine fn0 (fn := Tryz.f13) Tryz.call13 Tryz.func13 rfl Tryz.ntmps13 Tryz.results13 rfl (by rfl) ?_
  repeat' (first | (with_reducible first | apply AW.seq | apply AW.skip | apply AW.ret | apply q_then | apply q_thenR | apply y_e | refine v_rgl ?_) | ((with_reducible apply i_dv); first | refine t_v AS.v ?_ | refine t_v (by first | exact u_call (hP := p1) | exact u_call (hP := p2) | exact u_call (hP := p3) | exact u_call (hP := p4)) ?_ | refine t_w AS.w ?_) | ((with_reducible apply i_dg); first | refine t_m (hs := fun hg => AS.v) (k := ?_) | refine t_m (hs := fun hg => (by first | exact u_neqFa | exact u_eqlPo)) (k := ?_)) | ((with_reducible apply i_ds); refine t_s AS.s ?_) | ((with_reducible refine i_aw ?_); ((refine v_cond (fun hc => ?_) (fun hc => ?_)))) | ((with_reducible refine i_rt ?_); refine k_b ?_) | fail)
  · exfalso
    simp [hml, Fa.zero] at hc
  · simp [hk, ho, hp, hs, hl, hn, hn1, hn2, Fa.zero]
end Am
namespace Am
open Tk Go.RowKit
set_option maxRecDepth 100000
set_option maxHeartbeats 4000000
theorem rt_tup {α : Type} {R : α → List C} {z : α} (x : Except Fa α) : ∃ y f, rtV (.agg (R z)) (fun x => .agg (R x)) x = .tup [.agg (R y), .agg (faC f)] := by
  cases x with
  | ok y => exact ⟨y, Fa.zero, rfl⟩
  | error f => exact ⟨z, f, rfl⟩
theorem law_parts (src : ByteArray) : Pure Tryz.prog 10 [.c (sS src)] (.c (sB true)) := by
  have al := alive_p
  by_cases hs : src.size ≤ 9000
  · have p1 := names_e src
    have p2 := q7Names_p src
    have p3 := range_e src
    have p4 := q7Range_p src
    have p5 := ctx_e src
    have p6 := q7Context_p src
    obtain ⟨a, f, e1⟩ := rt_tup (R := nsC) (z := NS.zero) (namesT src)
    obtain ⟨b, h, e2⟩ := rt_tup (R := rgC) (z := Rg.zero) (rangeT src)
    obtain ⟨x, k, e3⟩ := rt_tup (R := cxC) (z := Ct.zero) (ctxT src)
    rw [e1] at p1 p2
    rw [e2] at p3 p4
    rw [e3] at p5 p6
    clear e1 e2 e3
    refine fn1 (fn := Tryz.f10) Tryz.call10 Tryz.func10 rfl Tryz.ntmps10 Tryz.results10 rfl (by rfl) ?_
    repeat' (first | (with_reducible first | apply AW.seq | apply AW.skip | apply AW.ret | apply q_then | apply y_e | refine v_rgl ?_) | ((with_reducible apply i_dv); first | refine t_v AS.v ?_ | refine t_v (by first | exact u_call (hP := p1) | exact u_call (hP := p2) | exact u_call (hP := p3) | exact u_call (hP := p4) | exact u_call (hP := p5) | exact u_call (hP := p6) | exact u_eqlFa | exact u_neqFa) ?_ | refine t_w AS.w ?_) | ((with_reducible apply i_dg); first | refine t_m (hs := fun hg => AS.v) (k := ?_) | refine t_m (hs := fun hg => (by first | exact u_call (hP := al) | exact u_call (hP := texts_r _) | exact u_call (hP := srng_r _))) (k := ?_)) | ((with_reducible apply i_ds); refine t_s AS.s ?_) | ((with_reducible refine i_aw ?_); ((refine v_cond (fun hc => ?_) (fun hc => ?_); all_goals (try (exfalso; simp [*] at hc; done)); all_goals (try (exfalso; revert hc; simp; omega))))) | ((with_reducible refine i_rt ?_); refine k_b ?_) | fail)
    all_goals simp
  · refine fn1 (fn := Tryz.f10) Tryz.call10 Tryz.func10 rfl Tryz.ntmps10 Tryz.results10 rfl (by rfl) ?_
    repeat' (first | (with_reducible first | apply AW.seq | apply AW.ret | apply q_then | apply q_thenR | apply y_e | refine v_rgl ?_) | ((with_reducible apply i_dv); first | refine t_v AS.v ?_ | refine t_v (by exact u_call (hP := al)) ?_) | ((with_reducible refine i_aw ?_); ((refine v_cond (fun hc => ?_) (fun hc => ?_); all_goals (try (exfalso; revert hc; simp; omega))))) | ((with_reducible refine i_rt ?_); refine k_b ?_) | fail)
    rfl
end Am
end Go.Proofs.YtkpodagbefnebaaGreatDoor
