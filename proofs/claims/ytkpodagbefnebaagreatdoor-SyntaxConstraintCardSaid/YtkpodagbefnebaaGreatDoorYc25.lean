import Derived.Test.YtkpodagbefnebaaGreatDoorYc24
import Derived.Test.YtkpodagbefnebaaGreatDoorYc20
import Derived.Test.YtkpodagbefnebaaGreatDoorYc8
set_option linter.unusedSimpArgs false
set_option linter.unusedVariables false
set_option linter.unusedSectionVars false
namespace Go.Proofs.YtkpodagbefnebaaGreatDoor
namespace Am
open Tk Go.RowKit
set_option maxRecDepth 100000
set_option maxHeartbeats 4000000
section
variable [Tb] {P : Program} {ops : Array Oper} {l : List (Nat × V)} {h : List (Nat × HO)} {rest : List Oper} {fs : List FP} {K : St → List FP → Prop} {J : Value → St → List FP → List Nat → Prop} {t : Nat} {ty : TypeId} {pos : String} {af : Array Edge} {x : Operand} {args : Array Operand} {ats : Array TypeId} {f : Nat} {us : List V} {n : Nat}
variable {α β ε : Type} {sp : Except ε (α × β)} {R : α → V} {E : ε → Value}
theorem t_cg {o s q : HO} {O S : β → HO} (hx : Ev (evA (look l)) x (.c (.fn f [.ptr 1002 0, .ptr 1001 0])) := by exact ev_t) (hv : EvL (evA (look l)) args.toList [.c (.ptr n 0)] := by (first | ((repeat (first | exact .nil | ((apply EvL.cons); (· (first | (refine .wh rfl ?_; first | assumption | (rw [hp]; rfl) | (simp_all; done)) | exact .pl rfl))))); done) | fail)) (hn : look h n = some o := by rfl) (hm : look h 1001 = some s := by rfl) (hq : look h 1002 = some q := by rfl) (hP : MX P f [(0, o), (1001, s), (1002, q)] [.c (.ptr 0 0), .c (.ptr 1002 0), .c (.ptr 1001 0)] sp R (fun b => [(0, O b), (1001, S b), (1002, q)]) E) (h1 : o.one = true := by (first | rfl | assumption | (simp [HO.one, okL, C.ok, okA]; done))) (h2 : s.one = true := by (first | rfl | assumption | (simp [HO.one, okL, C.ok, okA]; done))) (h3 : q.one = true := by (first | rfl | assumption | (simp [HO.one, okL, C.ok, okA]; done))) (hk : okB [0, 1001, 1002] [(0, n)] = true := by rfl)
    (k1 : ∀ a b, sp = .ok (a, b) → AY P ops rest (mk ((t, R a) :: l) ((1002, q) :: (1001, S b) :: (n, O b) :: h)) (fs ++ [([n, 1001, 1002], [n, 1001, 1002])]) K J) (k2 : ∀ e, sp = .error e → J (E e) (mk l ((1002, .lost) :: (1001, .lost) :: (n, .lost) :: h)) fs [n, 1001, 1002]) : AY P ops (⟨some t, .call { callee := .value x, args := args, argTypes := ats }, ty, pos, af, none⟩ :: rest) (mk l h) fs K J := by
  cases hsp : sp with
  | ok p =>
    have := (hP.hO p.2).2
    simp only [List.all_cons, List.all_nil, Bool.and_true, Bool.and_eq_true] at this
    exact y_x (a_mb (r := R p.1) [(0, n)] hx hv (hP.ok p.1 p.2 hsp) hk rfl (.ptr rfl rfl (.ptr rfl rfl (.ptr rfl rfl .nil))) (.cons hn h1 (.cons hm h2 (.cons hq h3 .nil))) rfl (by simp [this.1, this.2]) (hP.hR _) rfl rfl) rfl (k1 p.1 p.2 hsp)
  | error e => exact .inr ⟨_, [(n, .lost), (1001, .lost), (1002, .lost)], rfl, a_qb [(0, n)] hx hv (hP.no e hsp) hk (.ptr rfl rfl (.ptr rfl rfl (.ptr rfl rfl .nil))) (.cons hn h1 (.cons hm h2 (.cons hq h3 .nil))) rfl, by rw [wr_mk]; exact k2 e hsp⟩
theorem hN2 {h : Nat → Option HO} {a b : HO} (h2 : h 1001 = some a) (h3 : h 1002 = some b) : ∀ n ∈ [1001, 1002], h n = look [(1001, a), (1002, b)] n := fun n hn => by
  simp only [List.mem_cons, List.not_mem_nil, or_false] at hn
  rcases hn with rfl | rfl
  · exact h2
  · exact h3
end
section
variable {α : Type} {bx vb : HO} {B : α → HO} {sp : ∀ l : List Tok, Ix l → Except Fa (α × (Ix l × Nat))} {g : Nat} {src : ByteArray}
def RunOk2 (g : Nat) (bx vb : HO) (B : α → HO) (sp : ∀ l : List Tok, Ix l → Except Fa (α × (Ix l × Nat))) : Prop :=
  ∀ (l : List Tok) (_ : Fine l) (h : 0 < l.length), MX Tryz.prog g [(0, psO (⟨0, h⟩ : Ix l) 0 0), (1001, bx), (1002, vb)] [.c (.ptr 0 0), .c (.ptr 1002 0), .c (.ptr 1001 0)] (sp l ⟨0, h⟩ >>= fun x => .ok ((), x) : Except Fa (Unit × (α × (Ix l × Nat)))) (fun _ => .tup []) (fun b => [(0, psO b.2.1 b.2.2 0), (1001, B b.1), (1002, vb)]) pvS
theorem run_scan2 {f : Fa} (hsc : scanP src = .error f) : MNL Tryz.prog 48 [(1001, bx), (1002, vb)] [.c (sS src), .c (.fn g [.ptr 1002 0, .ptr 1001 0])] (.agg (faC f)) [(1001, bx), (1002, vb)] := by
  have sc := scan_p src
  rw [hsc] at sc
  have sc : Pure Tryz.prog 77 [.c (sS src)] (.tup [.c .nil, .agg (faC f)]) := sc
  have h0 := (scanP_nz src f hsc).1
  refine MNL.ofD (fn := Tryz.f48) (fc := 101) (Nc := [2004]) (sl := [(0, .c (sS src)), (1, .c (.fn g [.ptr 1002 0, .ptr 1001 0]))]) Tryz.call48 Tryz.call101 Tryz.func48 rfl Tryz.ntmps48 Tryz.results48 rfl rfl (by decide) ?_
  refine AWD.seq ?_
  repeat' (first | (with_reducible first | apply q_then | apply y_e | refine v_rgl ?_) | ((with_reducible apply i_dv); refine t_w (a_allocK 2004 (by rfl) (by exact zwT_ok rfl)) ?_) | fail)
  refine AWD.seq ?_
  repeat' (first | (with_reducible first | apply q_then | apply y_e | refine v_rgl ?_) | ((with_reducible apply i_dv); first | refine t_v AS.v ?_ | refine t_v (by exact u_call (hP := sc)) ?_) | ((with_reducible apply i_ds); refine t_s AS.s ?_) | fail)
  refine AWD.seq ?_
  repeat' (first | (with_reducible first | apply AW.seq | apply AW.ret | apply q_then | apply q_thenR | apply y_e | refine v_rgl ?_) | ((with_reducible apply i_dv); refine t_v AS.v ?_) | ((with_reducible apply i_ds); refine t_s AS.s ?_) | ((with_reducible refine i_aw ?_); ((refine v_cond (fun hc => ?_) (fun hc => ?_); all_goals (try (exfalso; simp [*] at hc; done))))) | fail)
  exact n_c (one_af _) (hN2 rfl rfl)
theorem run_ok2 {l : List Tok} (hsc : scanP src = .ok l) (hbx : bx.one = true) (hvb : vb.one = true) (hg : RunOk2 g bx vb B sp) (h : 0 < l.length) {a : α} {k' : Ix l} {c' : Nat} (hsp : sp l ⟨0, h⟩ = .ok (a, (k', c'))) (h0 : (tk k').kind = 0) :
    MNL Tryz.prog 48 [(1001, bx), (1002, vb)] [.c (sS src), .c (.fn g [.ptr 1002 0, .ptr 1001 0])] (.agg (faC Fa.zero)) [(1001, B a), (1002, vb)] := by
  have hf := scan_fine hsc
  have sc := scan_p src
  rw [hsc] at sc
  have sc : Pure Tryz.prog 77 [.c (sS src)] (.tup [.c (.lst none 4 (l.map tkC)), .agg (faC Fa.zero)]) := sc
  have hG := hg l hf h
  have hsp' : (sp l ⟨0, h⟩ >>= fun x => .ok ((), x) : Except Fa (Unit × (α × (Ix l × Nat)))) = .ok ((), (a, (k', c'))) := by rw [hsp]; rfl
  generalize (sp l ⟨0, h⟩ >>= fun x => .ok ((), x) : Except Fa (Unit × (α × (Ix l × Nat)))) = q at hG hsp'
  subst hsp'
  clear hsp
  refine MNL.ofD (fn := Tryz.f48) (fc := 101) (Nc := [2004]) (sl := [(0, .c (sS src)), (1, .c (.fn g [.ptr 1002 0, .ptr 1001 0]))]) Tryz.call48 Tryz.call101 Tryz.func48 rfl Tryz.ntmps48 Tryz.results48 rfl rfl (by decide) ?_
  refine AWD.seq ?_
  repeat' (first | (with_reducible first | apply q_then | apply y_e | refine v_rgl ?_) | ((with_reducible apply i_dv); refine t_w (a_allocK 2004 (by rfl) (by exact zwT_ok rfl)) ?_) | fail)
  refine AWD.seq ?_
  repeat' (first | (with_reducible first | apply q_then | apply y_e | refine v_rgl ?_) | ((with_reducible apply i_dv); first | refine t_v AS.v ?_ | refine t_v (by exact u_call (hP := sc)) ?_) | ((with_reducible apply i_ds); refine t_s AS.s ?_) | fail)
  refine AWD.seq ?_
  repeat' (first | (with_reducible first | apply AW.seq | apply AW.skip | apply q_then | apply y_e | refine v_rgl ?_) | ((with_reducible apply i_dv); refine t_v AS.v ?_) | ((with_reducible refine i_aw ?_); refine v_no ?_) | fail)
  refine AWD.defer (l := [_]) (by decide) rfl (by decide) ?_
  repeat' (first | (with_reducible first | apply AW.seq | apply AW.skip | apply q_then | apply y_e | refine v_rgl ?_) | ((with_reducible apply i_dv); refine t_v AS.v ?_) | ((with_reducible refine i_aw ?_); refine v_no ?_) | fail)
  refine ⟨.pl rfl, ?_⟩
  repeat' ((fail_if_success (with_reducible refine reg_at 7 ?_)); (first | (with_reducible first | apply AW.seq | apply q_then | apply q_thenP | apply y_e | refine v_rgl ?_) | ((with_reducible apply i_dv); first | refine t_v AS.v ?_ | refine t_w AS.w ?_ | refine t_cg (hP := hG) (k1 := fun x k h => ?_) (k2 := fun e h => ?_)) | fail))
  · injection h with h
    injection h with h1 h2
    subst h2
    repeat' (first | (with_reducible first | apply AW.seq | apply AW.skip | apply AW.ret | apply q_then | apply y_e | refine v_rgl ?_) | ((with_reducible apply i_dv); first | refine t_v AS.v ?_ | refine t_v (by exact u_eye (hP := next_p)) ?_) | ((with_reducible apply i_ds); refine t_s AS.s ?_) | ((with_reducible refine i_aw ?_); ((refine v_cond (fun hc => ?_) (fun hc => ?_); all_goals (try (exfalso; simp [*] at hc; done))))) | fail)
    exact RetD.mk (bx := ftB Fa.zero) (bx' := ftB Fa.zero) (.inl ⟨.inl rfl, rfl⟩) rfl (rcatch_i _) rfl (ftB_ok rfl) ftB_pl (n_c (one_af _) (hN2 rfl rfl))
  · cases h
theorem run_bad2 {l : List Tok} (hsc : scanP src = .ok l) (hbx : bx.one = true) (hvb : vb.one = true) (hg : RunOk2 g bx vb B sp) (h : 0 < l.length) {a : α} {k' : Ix l} {c' : Nat} (hsp : sp l ⟨0, h⟩ = .ok (a, (k', c'))) (h0 : ¬ (tk k').kind = 0) :
    MNL Tryz.prog 48 [(1001, bx), (1002, vb)] [.c (sS src), .c (.fn g [.ptr 1002 0, .ptr 1001 0])] (.agg (faC (flt 9 (tk k')))) [(1001, B a), (1002, vb)] := by
  have hf := scan_fine hsc
  have ht := scan_tx hsc (tk k') (List.getElem_mem _)
  have sc := scan_p src
  rw [hsc] at sc
  have sc : Pure Tryz.prog 77 [.c (sS src)] (.tup [.c (.lst none 4 (l.map tkC)), .agg (faC Fa.zero)]) := sc
  have hG := hg l hf h
  have hsp' : (sp l ⟨0, h⟩ >>= fun x => .ok ((), x) : Except Fa (Unit × (α × (Ix l × Nat)))) = .ok ((), (a, (k', c'))) := by rw [hsp]; rfl
  generalize (sp l ⟨0, h⟩ >>= fun x => .ok ((), x) : Except Fa (Unit × (α × (Ix l × Nat)))) = q at hG hsp'
  subst hsp'
  clear hsp
  refine MNL.ofD (fn := Tryz.f48) (fc := 101) (Nc := [2004]) (sl := [(0, .c (sS src)), (1, .c (.fn g [.ptr 1002 0, .ptr 1001 0]))]) Tryz.call48 Tryz.call101 Tryz.func48 rfl Tryz.ntmps48 Tryz.results48 rfl rfl (by decide) ?_
  refine AWD.seq ?_
  repeat' (first | (with_reducible first | apply q_then | apply y_e | refine v_rgl ?_) | ((with_reducible apply i_dv); refine t_w (a_allocK 2004 (by rfl) (by exact zwT_ok rfl)) ?_) | fail)
  refine AWD.seq ?_
  repeat' (first | (with_reducible first | apply q_then | apply y_e | refine v_rgl ?_) | ((with_reducible apply i_dv); first | refine t_v AS.v ?_ | refine t_v (by exact u_call (hP := sc)) ?_) | ((with_reducible apply i_ds); refine t_s AS.s ?_) | fail)
  refine AWD.seq ?_
  repeat' (first | (with_reducible first | apply AW.seq | apply AW.skip | apply q_then | apply y_e | refine v_rgl ?_) | ((with_reducible apply i_dv); refine t_v AS.v ?_) | ((with_reducible refine i_aw ?_); refine v_no ?_) | fail)
  refine AWD.defer (l := [_]) (by decide) rfl (by decide) ?_
  repeat' (first | (with_reducible first | apply AW.seq | apply AW.skip | apply q_then | apply y_e | refine v_rgl ?_) | ((with_reducible apply i_dv); refine t_v AS.v ?_) | ((with_reducible refine i_aw ?_); refine v_no ?_) | fail)
  refine ⟨.pl rfl, ?_⟩
  repeat' ((fail_if_success (with_reducible refine reg_at 7 ?_)); (first | (with_reducible first | apply AW.seq | apply q_then | apply q_thenP | apply y_e | refine v_rgl ?_) | ((with_reducible apply i_dv); first | refine t_v AS.v ?_ | refine t_w AS.w ?_ | refine t_cg (hP := hG) (k1 := fun x k h => ?_) (k2 := fun e h => ?_)) | fail))
  · injection h with h
    injection h with h1 h2
    subst h2
    repeat' (first | (with_reducible first | apply AW.seq | apply q_then | apply q_thenP | apply y_e | refine v_rgl ?_) | ((with_reducible apply i_dv); first | refine t_v AS.v ?_ | refine t_v (by exact u_eye (hP := next_p)) ?_ | refine t_qr (hP := fail_q _ _) (k := ?_)) | ((with_reducible refine i_aw ?_); ((refine v_cond (fun hc => ?_) (fun hc => ?_); all_goals (try (exfalso; simp [*] at hc; done))))) | fail)
    exact RetD.mk (bx := ftB Fa.zero) (bx' := ftB (flt 9 (tk k'))) (.inr ⟨_, rfl, rfl⟩) rfl (rcatch_p _ _ (show (tk k').text.size ≤ _ by omega)) rfl (ftB_ok rfl) ftB_pl (n_c (one_af _) (hN2 rfl rfl))
  · cases h
theorem run_err2 {l : List Tok} (hsc : scanP src = .ok l) (hbx : bx.one = true) (hvb : vb.one = true) (hg : RunOk2 g bx vb B sp) (h : 0 < l.length) {f : Fa} (hsp : sp l ⟨0, h⟩ = .error f) (hs : f.name.size ≤ 9223372036854775807) :
    MNL Tryz.prog 48 [(1001, bx), (1002, vb)] [.c (sS src), .c (.fn g [.ptr 1002 0, .ptr 1001 0])] (.agg (faC f)) [(1001, .lost), (1002, .lost)] := by
  have hf := scan_fine hsc
  have sc := scan_p src
  rw [hsc] at sc
  have sc : Pure Tryz.prog 77 [.c (sS src)] (.tup [.c (.lst none 4 (l.map tkC)), .agg (faC Fa.zero)]) := sc
  have hG := hg l hf h
  have hsp' : (sp l ⟨0, h⟩ >>= fun x => .ok ((), x) : Except Fa (Unit × (α × (Ix l × Nat)))) = .error f := by rw [hsp]; rfl
  generalize (sp l ⟨0, h⟩ >>= fun x => .ok ((), x) : Except Fa (Unit × (α × (Ix l × Nat)))) = q at hG hsp'
  subst hsp'
  clear hsp
  refine MNL.ofD (fn := Tryz.f48) (fc := 101) (Nc := [2004]) (sl := [(0, .c (sS src)), (1, .c (.fn g [.ptr 1002 0, .ptr 1001 0]))]) Tryz.call48 Tryz.call101 Tryz.func48 rfl Tryz.ntmps48 Tryz.results48 rfl rfl (by decide) ?_
  refine AWD.seq ?_
  repeat' (first | (with_reducible first | apply q_then | apply y_e | refine v_rgl ?_) | ((with_reducible apply i_dv); refine t_w (a_allocK 2004 (by rfl) (by exact zwT_ok rfl)) ?_) | fail)
  refine AWD.seq ?_
  repeat' (first | (with_reducible first | apply q_then | apply y_e | refine v_rgl ?_) | ((with_reducible apply i_dv); first | refine t_v AS.v ?_ | refine t_v (by exact u_call (hP := sc)) ?_) | ((with_reducible apply i_ds); refine t_s AS.s ?_) | fail)
  refine AWD.seq ?_
  repeat' (first | (with_reducible first | apply AW.seq | apply AW.skip | apply q_then | apply y_e | refine v_rgl ?_) | ((with_reducible apply i_dv); refine t_v AS.v ?_) | ((with_reducible refine i_aw ?_); refine v_no ?_) | fail)
  refine AWD.defer (l := [_]) (by decide) rfl (by decide) ?_
  repeat' (first | (with_reducible first | apply AW.seq | apply AW.skip | apply q_then | apply y_e | refine v_rgl ?_) | ((with_reducible apply i_dv); refine t_v AS.v ?_) | ((with_reducible refine i_aw ?_); refine v_no ?_) | fail)
  refine ⟨.pl rfl, ?_⟩
  repeat' ((fail_if_success (with_reducible refine reg_at 7 ?_)); (first | (with_reducible first | apply AW.seq | apply q_then | apply q_thenP | apply y_e | refine v_rgl ?_) | ((with_reducible apply i_dv); first | refine t_v AS.v ?_ | refine t_w AS.w ?_ | refine t_cg (hP := hG) (k1 := fun x k h => ?_) (k2 := fun e h => ?_)) | fail))
  · cases h
  · injection h with h
    subst h
    refine RetD.mk (bx := ftB Fa.zero) (bx' := ftB f) (.inr ⟨_, rfl, rfl⟩) rfl (rcatch_p _ _ hs) rfl (ftB_ok rfl) ftB_pl (n_c (one_af _) (hN2 rfl rfl))
theorem run_mn2 (hbx : bx.one = true) (hvb : vb.one = true) (hg : RunOk2 g bx vb B sp) (hz : NZs sp) : (∀ a, runP src sp = .ok a → MNL Tryz.prog 48 [(1001, bx), (1002, vb)] [.c (sS src), .c (.fn g [.ptr 1002 0, .ptr 1001 0])] (.agg (faC Fa.zero)) [(1001, B a), (1002, vb)]) ∧
    ∀ f, runP src sp = .error f → f.code ≠ 0 ∧ ∃ o q : HO, ((∀ d, o.within d = true) ∧ ∀ ns, o.ren ns = o) ∧ ((∀ d, q.within d = true) ∧ ∀ ns, q.ren ns = q) ∧ MNL Tryz.prog 48 [(1001, bx), (1002, vb)] [.c (sS src), .c (.fn g [.ptr 1002 0, .ptr 1001 0])] (.agg (faC f)) [(1001, o), (1002, q)] := by
  refine ⟨fun a ha => ?_, fun f hf => ⟨runP_nz src hz hf, ?_⟩⟩
  · unfold runP at ha
    obtain ⟨l, hsc, ha⟩ := bind_ok.1 ha
    split at ha
    · rename_i h
      obtain ⟨⟨a', k', c'⟩, hsp, ha⟩ := bind_ok.1 ha
      dsimp only at ha
      split at ha
      · rename_i h0
        injection ha with ha
        subst ha
        exact run_ok2 hsc hbx hvb hg h hsp h0
      · cases ha
    · cases ha
  · unfold runP at hf
    rcases bind_err hf with hsc | ⟨l, hsc, hf⟩
    · exact ⟨_, _, ⟨fun d => one_within hbx, fun ns => one_ren hbx⟩, ⟨fun d => one_within hvb, fun ns => one_ren hvb⟩, run_scan2 hsc⟩
    · split at hf
      · rename_i h
        rcases bind_err hf with hsp | ⟨⟨a', k', c'⟩, hsp, hf⟩
        · refine ⟨_, _, ⟨fun d => rfl, fun ns => rfl⟩, ⟨fun d => rfl, fun ns => rfl⟩, run_err2 hsc hbx hvb hg h hsp ?_⟩
          rcases (hz l ⟨0, h⟩ f hsp).2 with e | ⟨t, ht, e⟩
          · rw [e]; decide
          · rw [e]; have := scan_tx hsc t ht; omega
        · dsimp only at hf
          split at hf
          · cases hf
          · rename_i h0
            injection hf with hf
            subst hf
            have ho : (B a').one = true := by
              have := ((hg l (scan_fine hsc) h).hO (a', (k', c'))).2
              simp only [List.all_cons, List.all_nil, Bool.and_true, Bool.and_eq_true] at this
              exact this.2.1
            exact ⟨_, _, ⟨fun d => one_within ho, fun ns => one_ren ho⟩, ⟨fun d => one_within hvb, fun ns => one_ren hvb⟩, run_bad2 hsc hbx hvb hg h hsp h0⟩
      · rename_i h
        exact absurd (scan_fine hsc).pos h
end
section
variable {P : Program} {ρ : Operand → Option V} {H : Nat → Option HO} {d : Option Nat} {ty : TypeId} {pos : String} {af : Array Edge} {gu : Option (Nat × Bool)} {x : Operand} {args : Array Operand} {ats : Array TypeId}
theorem u_run2 {f g n m : Nat} {bx vb o q : HO} {src : ByteArray} {r : V} (hP : MNL P f [(1001, bx), (1002, vb)] [.c (sS src), .c (.fn g [.ptr 1002 0, .ptr 1001 0])] r [(1001, o), (1002, q)]) (hw : (∀ d, o.within d = true) ∧ ∀ ns, o.ren ns = o) (hw2 : (∀ d, q.within d = true) ∧ ∀ ns, q.ren ns = q) (hb : bx.one = true) (hb2 : vb.one = true) (hr : V.ok noN r = true) (hx : Ev ρ x (.c (.fn f [])) := by exact ev_t) (hv : EvL ρ args.toList [.c (sS src), .c (.fn g [.ptr m 0, .ptr n 0])] := by (first | ((repeat (first | exact .nil | ((apply EvL.cons); (· (first | (refine .wh rfl ?_; first | assumption | (rw [hp]; rfl) | (simp_all; done)) | exact .pl rfl))))); done) | fail)) (hn : H n = some bx := by rfl) (hm : H m = some vb := by rfl) (hk : okB [1001, 1002] [(1001, n), (1002, m)] = true := by rfl) :
    AS P ρ H ⟨d, .call { callee := .value x, args := args, argTypes := ats }, ty, pos, af, gu⟩ ⟨r, [(n, o), (m, q)], [n, m]⟩ := by
  have hu : RnL [(1001, n), (1002, m)] [1001, 1002] ([.c (sS src), .c (.fn g [.ptr m 0, .ptr n 0])] ++ ([] : List C).map V.c) [.c (sS src), .c (.fn g [.ptr 1002 0, .ptr 1001 0])] := .cl rfl (.fn2 rfl rfl rfl rfl .nil)
  obtain ⟨k1, k2⟩ := hu.ok hk
  have hg : GvL [(1001, n), (1002, m)] H [(1001, bx), (1002, vb)] := .cons hn hb (.cons hm hb2 .nil)
  exact a_mn [(1001, n), (1002, m)] hx hv hP hk rfl k1 k2 hg.giv hg.within rfl (by simp [hw.1, hw2.1]) (okW_any _ hr) (renW_ok _ hr) (by simp [tak, byT, hw.2, hw2.2]) rfl
end
theorem con_x (v : Bool) : RunOk2 65 (.obj 49 (exC Ex.zero)) (.obj 4 [sB v]) (fun x => .obj 49 (exC x)) (fun _ k => zQ (constrP v k)) := fun l hf h => by
  have cx := constraint_x (k := (⟨0, h⟩ : Ix l)) (c := 0) (d := 0) hf v
  refine MX.of (fn := Tryz.f65) Tryz.call65 Tryz.func65 rfl Tryz.ntmps65 Tryz.results65 rfl rfl (by intro a; rfl) (by intro b; exact ⟨rfl, by simp [HO.one, okL, C.ok, okA]⟩) ?_
  repeat' (first | (with_reducible first | apply y_e | refine v_rgl ?_) | ((with_reducible apply i_dv); first | refine t_v AS.v ?_ | refine t_c1 (hP := cx) (k1 := fun x k h => ?_) (k2 := fun e h σx => ?_)) | ((with_reducible apply i_ds); refine t_s AS.s ?_) | ((with_reducible refine i_rx ?_); (with_reducible refine x_pan ?_)) | fail)
  · refine .inr ⟨(by exact .inr rfl), (), (x, (k, 0)), by show (zQ (constrP v _) >>= _) = _; rw [h]; rfl, fun n hn => ?_, [], .nil, rfl⟩
    rcases List.mem_cons.1 hn with rfl | hn
    · exact ⟨_, _, rfl, rfl, le_id rfl⟩
    rcases List.mem_cons.1 hn with rfl | hn
    · exact ⟨_, _, rfl, rfl, le_id rfl⟩
    rcases List.mem_cons.1 hn with rfl | hn
    · exact ⟨_, _, rfl, rfl, le_id rfl⟩
    cases hn
  · show (zQ (constrP v _) >>= _) = _
    rw [h]; rfl
theorem constr_e (src : ByteArray) (v : Bool) : Pure Tryz.prog 23 [.c (sS src), .c (sB v)] (rtV (.agg (exC Ex.zero)) (fun x => .agg (exC x)) (constrT v src)) := by
  have hb : (HO.obj 49 (exC Ex.zero)).one = true := by rfl
  have hb2 : (HO.obj 4 [sB v]).one = true := rfl
  have rn := run_mn2 (src := src) hb hb2 (con_x v) (con_nz v)
  cases hp : constrT v src with
  | ok x =>
    have mp := rn.1 x hp
    have ho : (HO.obj 49 (exC x)).one = true := by simp [HO.one, okA, okL, C.ok]
    show Pure _ _ _ (.tup [.agg (exC x), .agg (faC Fa.zero)])
    refine fn2 (fn := Tryz.f23) Tryz.call23 Tryz.func23 rfl Tryz.ntmps23 Tryz.results23 rfl (by first | rfl | simp [V.ok, okL, C.ok, okA, okV]) ?_
    repeat' (first | (with_reducible first | apply AW.seq | apply AW.skip | apply AW.ret | apply q_then | apply y_e | refine v_rgl ?_ | refine v_drb ?_) | ((with_reducible apply i_dv); first | refine t_v AS.v ?_ | refine t_w AS.w ?_ | refine t_w2 (u_run2 mp ⟨fun d => one_within ho, fun ns => one_ren ho⟩ ⟨fun d => one_within hb2, fun ns => one_ren hb2⟩ hb hb2 (by simp [V.ok, okA])) ?_) | ((with_reducible apply i_ds); refine t_s AS.s ?_) | ((with_reducible refine i_aw ?_); refine v_no ?_) | ((with_reducible refine i_rt ?_); (((refine k_cc ?_ ?_); all_goals (with_reducible (apply un_a))))) | (refine ⟨by decide +kernel, ?_⟩) | fail)
    all_goals first | exact k_2c (ux_sts _ _) (un_af _) | exact k_2c rfl (un_af _) | (simp only [unA]; done) | (simp only [V.un, C.un, unA]; done) | rfl
  | error f =>
    obtain ⟨h0, o, q, ho, hq, mp⟩ := rn.2 f hp
    show Pure _ _ _ (.tup [.agg (exC Ex.zero), .agg (faC f)])
    refine fn2 (fn := Tryz.f23) Tryz.call23 Tryz.func23 rfl Tryz.ntmps23 Tryz.results23 rfl (by first | rfl | simp [V.ok, okL, C.ok, okA, okV]) ?_
    repeat' (first | (with_reducible first | apply AW.seq | apply AW.ret | apply q_then | apply q_thenR | apply y_e | refine v_rgl ?_ | refine v_drb ?_) | ((with_reducible apply i_dv); first | refine t_v AS.v ?_ | refine t_w AS.w ?_ | refine t_w2 (u_run2 mp ho hq hb hb2 (by simp [V.ok, okA])) ?_) | ((with_reducible apply i_ds); refine t_s AS.s ?_) | ((with_reducible refine i_aw ?_); ((refine v_cond (fun hc => ?_) (fun hc => ?_); all_goals (try (exfalso; simp [*] at hc; done))))) | ((with_reducible refine i_rt ?_); (((refine k_cc ?_ ?_); all_goals (with_reducible (apply un_a))))) | (refine ⟨by decide +kernel, ?_⟩) | fail)
    all_goals ((simp only [unA]; done))
end Am
namespace Am
open Tk
section
variable {l : List Tok}
def atW (v : Bool) : List ByteArray := if v then [⟨#[117, 49]⟩, ⟨#[114, 49]⟩, ⟨#[116, 49]⟩, ⟨#[108, 49]⟩, ⟨#[104, 49]⟩, ⟨#[117, 50]⟩, ⟨#[114, 50]⟩, ⟨#[116, 50]⟩, ⟨#[108, 50]⟩, ⟨#[104, 50]⟩, ⟨#[117, 51]⟩, ⟨#[114, 51]⟩, ⟨#[116, 51]⟩, ⟨#[108, 51]⟩, ⟨#[104, 51]⟩] else [⟨#[117, 49]⟩, ⟨#[114, 49]⟩, ⟨#[116, 49]⟩, ⟨#[108, 49]⟩, ⟨#[104, 49]⟩, ⟨#[117, 50]⟩, ⟨#[114, 50]⟩, ⟨#[116, 50]⟩, ⟨#[108, 50]⟩, ⟨#[104, 50]⟩]
def attrQ (v : Bool) (k : Ix l) (f : Fa) : Int × (Ix l × Fa) := match (atW v).findIdx? (fun s => okW f s k) with | some i => ((i : Int), (nx k, f)) | none => (0, (k, badF f 9 (tk k)))
def relQ (k : Ix l) (f : Fa) : Int × (Ix l × Fa) := if okM f ⟨#[61, 61]⟩ k = true then (0, (nx k, f)) else if okM f ⟨#[33, 61]⟩ k = true then (1, (nx k, f)) else (1 + (chooseQ [⟨#[100, 111, 109]⟩, ⟨#[100, 111, 109, 98, 121]⟩, ⟨#[105, 110, 99, 111, 109, 112]⟩] k f).1, (chooseQ [⟨#[100, 111, 109]⟩, ⟨#[100, 111, 109, 98, 121]⟩, ⟨#[105, 110, 99, 111, 109, 112]⟩] k f).2)
def cmpQ3 (v : Bool) (a r : Int) (k : Ix l) (f : Fa) : Ex × (Ix l × Fa) := ({ Ex.zero with op := 8, a := a, rel := r, b := (attrQ v k f).1 }, (attrQ v k f).2)
def cmpQ2 (v : Bool) (a : Int) (k : Ix l) (f : Fa) : Ex × (Ix l × Fa) :=
  if okW f ⟨#[105, 110]⟩ k = true then (if okM f ⟨#[123]⟩ (nx k) = true then ({ Ex.zero with op := 9, a := a, names := (namesQ (nx k) f).1 }, (namesQ (nx k) f).2) else ({ Ex.zero with op := 9, a := a, names := [(nameQ (nx k) f).1] }, (nameQ (nx k) f).2))
  else cmpQ3 v a (relQ k f).1 (relQ k f).2.1 (relQ k f).2.2
def cmpQ (v : Bool) (k : Ix l) (f : Fa) : Ex × (Ix l × Fa) := cmpQ2 v (attrQ v k f).1 (attrQ v k f).2.1 (attrQ v k f).2.2
mutual
def facQ (v : Bool) : Nat → Ix l → Fa → Ex × (Ix l × Fa)
  | 0, k, f => (Ex.zero, (k, badF f 9 (tk k)))
  | n + 1, k, f => if okM f ⟨#[33]⟩ k = true then ({ Ex.zero with op := 2, kids := [(facQ v n (nx k) f).1] }, (facQ v n (nx k) f).2)
    else if okM f ⟨#[40]⟩ k = true then ((orQ v n (nx k) f).1, needQ ⟨#[41]⟩ (orQ v n (nx k) f).2.1 (orQ v n (nx k) f).2.2)
    else cmpQ v k f
def andQ (v : Bool) : Nat → Ix l → Fa → Ex × (Ix l × Fa)
  | 0, k, f => (Ex.zero, (k, badF f 9 (tk k)))
  | n + 1, k, f => andLQ v n (facQ v n k f).1 (facQ v n k f).2.1 (facQ v n k f).2.2
def andLQ (v : Bool) : Nat → Ex → Ix l → Fa → Ex × (Ix l × Fa)
  | 0, e, k, f => (e, (k, badF f 9 (tk k)))
  | n + 1, e, k, f => if okM f ⟨#[38, 38]⟩ k = true then andLQ v n { Ex.zero with op := 3, kids := [e, (facQ v n (nx k) f).1] } (facQ v n (nx k) f).2.1 (facQ v n (nx k) f).2.2 else (e, (k, f))
def orQ (v : Bool) : Nat → Ix l → Fa → Ex × (Ix l × Fa)
  | 0, k, f => (Ex.zero, (k, badF f 9 (tk k)))
  | n + 1, k, f => orLQ v n (andQ v n k f).1 (andQ v n k f).2.1 (andQ v n k f).2.2
def orLQ (v : Bool) : Nat → Ex → Ix l → Fa → Ex × (Ix l × Fa)
  | 0, e, k, f => (e, (k, badF f 9 (tk k)))
  | n + 1, e, k, f => if okM f ⟨#[124, 124]⟩ k = true then orLQ v n { Ex.zero with op := 4, kids := [e, (andQ v n (nx k) f).1] } (andQ v n (nx k) f).2.1 (andQ v n (nx k) f).2.2 else (e, (k, f))
end
def exprQ (v : Bool) (k : Ix l) (f : Fa) : Ex × (Ix l × Fa) := ((orQ v (fuel l) k f).1, ((orQ v (fuel l) k f).2.1, if 12 < levE (orQ v (fuel l) k f).1 then badF (orQ v (fuel l) k f).2.2 4 (tk k) else (orQ v (fuel l) k f).2.2))
theorem ba_l {a b : ByteArray} : a = b ↔ a.data.toList = b.data.toList := ⟨fun h => by rw [h], fun h => by cases a; cases b; congr 1; exact Array.ext' h⟩
theorem atW_find (v : Bool) (s : ByteArray) : attrN v s = ((atW v).findIdx? fun w => decide (s = w)).map fun (i : Nat) => (i : Int) := by
  match h : s.data.toList with
  | [] => cases v <;> simp [attrN, h, atW, List.findIdx?_cons, ba_l]
  | [_] => cases v <;> simp [attrN, h, atW, List.findIdx?_cons, ba_l]
  | a :: b :: c :: t => cases v <;> simp [attrN, h, atW, List.findIdx?_cons, ba_l]
  | [a, b] =>
    have hb : ∀ {x y : UInt8}, (x == y) = decide (y = x) := fun {x y} => by
      by_cases e : y = x
      · subst e; simp
      · rw [decide_eq_false e]; exact beq_eq_false_iff_ne.2 fun h => e h.symm
    simp only [attrN, h, inB, hb, List.findIdx?_cons, List.findIdx?_nil]
    have n1 : ∀ {p q : UInt8} {t : List UInt8}, decide ([a, b] = [p, q]) = (decide (a = p) && decide (b = q)) := fun {p q t} => by simp
    cases v
    · simp only [atW, ba_l, h, List.findIdx?_cons, List.findIdx?_nil, Bool.false_eq_true, if_false]
      by_cases a1 : a = 117
      · subst a1; by_cases b1 : b = 49
        · subst b1; rfl
        · by_cases b2 : b = 50
          · subst b2; rfl
          · simp [b1, b2, attrO]
      · by_cases a2 : a = 114
        · subst a2; by_cases b1 : b = 49
          · subst b1; rfl
          · by_cases b2 : b = 50
            · subst b2; rfl
            · simp [b1, b2, attrO]
        · by_cases a3 : a = 116
          · subst a3; by_cases b1 : b = 49
            · subst b1; rfl
            · by_cases b2 : b = 50
              · subst b2; rfl
              · simp [b1, b2, attrO]
          · by_cases a4 : a = 108
            · subst a4; by_cases b1 : b = 49
              · subst b1; rfl
              · by_cases b2 : b = 50
                · subst b2; rfl
                · simp [b1, b2, attrO]
            · by_cases a5 : a = 104
              · subst a5; by_cases b1 : b = 49
                · subst b1; rfl
                · by_cases b2 : b = 50
                  · subst b2; rfl
                  · simp [b1, b2, attrO]
              · simp [a1, a2, a3, a4, a5, attrO]
    · simp only [atW, ba_l, h, List.findIdx?_cons, List.findIdx?_nil, if_true]
      by_cases b1 : b = 49
      · subst b1
        by_cases a1 : a = 117
        · subst a1; rfl
        · by_cases a2 : a = 114
          · subst a2; rfl
          · by_cases a3 : a = 116
            · subst a3; rfl
            · by_cases a4 : a = 108
              · subst a4; rfl
              · by_cases a5 : a = 104
                · subst a5; rfl
                · simp [a1, a2, a3, a4, a5, attrO]
      · by_cases b2 : b = 50
        · subst b2
          by_cases a1 : a = 117
          · subst a1; rfl
          · by_cases a2 : a = 114
            · subst a2; rfl
            · by_cases a3 : a = 116
              · subst a3; rfl
              · by_cases a4 : a = 108
                · subst a4; rfl
                · by_cases a5 : a = 104
                  · subst a5; rfl
                  · simp [a1, a2, a3, a4, a5, attrO]
        · by_cases b3 : b = 51
          · subst b3
            by_cases a1 : a = 117
            · subst a1; rfl
            · by_cases a2 : a = 114
              · subst a2; rfl
              · by_cases a3 : a = 116
                · subst a3; rfl
                · by_cases a4 : a = 108
                  · subst a4; rfl
                  · by_cases a5 : a = 104
                    · subst a5; rfl
                    · simp [a1, a2, a3, a4, a5, attrO]
          · simp only [b1, b2, b3, decide_false, if_false, Bool.false_eq_true, Option.map_none, and_false, Bool.and_false, List.cons.injEq]
            cases (if decide (a = 117) = true then some 0 else _ : Option Nat) <;> simp [attrO, b1, b2, b3]
theorem attr_rq (v : Bool) (k : Ix l) (f : Fa) : RQ f (attrP v k) (attrQ v k f) := by
  unfold attrP attrQ
  by_cases hf : f.code = 0
  · have e : (fun s => okW f s k) = fun s => isW s k := funext fun s => okW_0 hf s k
    rw [e, atW_find]
    by_cases hk : (tk k).kind = 1
    · have e2 : (fun s => isW s k) = fun w => decide ((tk k).text = w) := funext fun s => by simp [isW, hk]
      rw [e2]
      cases (atW v).findIdx? fun w => decide ((tk k).text = w) with
      | some i => simp only [Option.map_some]; rw [if_pos hk]; exact .ok _ _
      | none => exact .err _ k _
    · have e2 : (fun s => isW s k) = fun _ => false := funext fun s => by simp [isW, hk]
      have e3 : (atW v).findIdx? (fun _ => false) = none := by rw [List.findIdx?_eq_none_iff]; simp
      rw [e2, e3]
      cases (atW v).findIdx? fun w => decide ((tk k).text = w) with
      | some i => simp only [Option.map_some]; rw [if_neg hk]; exact .err _ k _
      | none => exact .err _ k _
  · have e : (fun s => okW f s k) = fun _ => false := funext fun s => okW_1 hf s k
    have e3 : (atW v).findIdx? (fun _ => false) = none := by rw [List.findIdx?_eq_none_iff]; simp
    rw [e, e3]
    exact ⟨fun h => bad_1 h, fun h => absurd h hf⟩
theorem rel_rq (k : Ix l) (f : Fa) : RQ f (relP k) (relQ k f) := by
  unfold relP relQ
  refine RQ.iteM (.ok _ _) (RQ.iteM (.ok _ _) ?_)
  have h := choose_rq [⟨#[100, 111, 109]⟩, ⟨#[100, 111, 109, 98, 121]⟩, ⟨#[105, 110, 99, 111, 109, 112]⟩] k f
  generalize chooseQ [⟨#[100, 111, 109]⟩, ⟨#[100, 111, 109, 98, 121]⟩, ⟨#[105, 110, 99, 111, 109, 112]⟩] k f = q at *
  refine ⟨fun hf => h.1 hf, fun hf => ?_⟩
  have h2 := h.2 hf
  cases hp : chooseP [⟨#[100, 111, 109]⟩, ⟨#[100, 111, 109, 98, 121]⟩, ⟨#[105, 110, 99, 111, 109, 112]⟩] k with
  | error g => rw [hp] at h2; exact h2
  | ok x =>
    rw [hp] at h2
    have h2 : q = (x.1 + 1, (x.2, f)) := h2
    subst h2
    show ((1 + (x.1 + 1), (x.2, f)) : Int × (Ix l × Fa)) = (2 + x.1, (x.2, f))
    congr 1; omega
theorem cmp2_rq (hl : Fine l) (v : Bool) (a : Int) (k : Ix l) (f : Fa) : RQ f (if isW ⟨#[105, 110]⟩ k then (if isM ⟨#[123]⟩ (nx k) then bracedP (nx k) >>= fun x => .ok ({ Ex.zero with op := 9, a := a, names := x.1 }, x.2) else nameP (nx k) >>= fun x => .ok ({ Ex.zero with op := 9, a := a, names := [x.1] }, x.2))
  else relP k >>= fun r => attrP v r.2 >>= fun b => .ok ({ Ex.zero with op := 8, a := a, rel := r.1, b := b.1 }, b.2)) (cmpQ2 v a k f) := by
  unfold cmpQ2
  refine RQ.iteW (RQ.iteM ?_ ?_) ?_
  · refine RQ.bind (t := namesQ (nx k) f) (u := fun x k f => ({ Ex.zero with op := 9, a := a, names := x }, (k, f))) (names_rq hl (nx k) f) (braced_nz _) fun x k f => ?_
    exact .ok _ _
  · refine RQ.bind (t := nameQ (nx k) f) (u := fun x k f => ({ Ex.zero with op := 9, a := a, names := [x] }, (k, f))) (name_rq (nx k) f) (name_nz _) fun x k f => ?_
    exact .ok _ _
  · refine RQ.bind (t := relQ k f) (u := fun r k f => cmpQ3 v a r k f) (rel_rq k f) (rel_nz k) fun r k f => ?_
    unfold cmpQ3
    refine RQ.bind (t := attrQ v k f) (u := fun b k f => ({ Ex.zero with op := 8, a := a, rel := r, b := b }, (k, f))) (attr_rq v k f) (attr_nz v k) fun b k f => ?_
    exact .ok _ _
theorem cmp_rq (hl : Fine l) (v : Bool) (k : Ix l) (f : Fa) : RQ f (cmpP v k) (cmpQ v k f) := by
  unfold cmpP cmpQ
  refine RQ.bind (t := attrQ v k f) (u := fun a k f => cmpQ2 v a k f) (attr_rq v k f) (attr_nz v k) fun a k f => ?_
  exact cmp2_rq hl v a k f
theorem fac_rq (hl : Fine l) (v : Bool) : ∀ n : Nat, (∀ (k : Ix l) (f : Fa), RQ f (compP v n k) (facQ v n k f)) ∧ (∀ (k : Ix l) (f : Fa), RQ f (bothP v n k) (andQ v n k f)) ∧ (∀ (e : Ex) (k : Ix l) (f : Fa), RQ f (bothL v n e k) (andLQ v n e k f)) ∧
    (∀ (k : Ix l) (f : Fa), RQ f (eithP v n k) (orQ v n k f)) ∧ (∀ (e : Ex) (k : Ix l) (f : Fa), RQ f (eithL v n e k) (orLQ v n e k f))
  | 0 => ⟨fun k f => (by rw [compP, facQ]; exact .err _ k _), fun k f => (by rw [bothP, andQ]; exact .err _ k _), fun e k f => (by rw [bothL, andLQ]; exact .err _ k _), fun k f => (by rw [eithP, orQ]; exact .err _ k _), fun e k f => (by rw [eithL, orLQ]; exact .err _ k _)⟩
  | n + 1 => by
    obtain ⟨i1, i2, i3, i4, i5⟩ := fac_rq hl v n
    obtain ⟨z1, z2, z3, z4, z5⟩ := comp_nz (l := l) v n
    refine ⟨fun k f => ?_, fun k f => ?_, fun e k f => ?_, fun k f => ?_, fun e k f => ?_⟩
    · rw [compP, facQ]
      refine RQ.iteM ?_ (RQ.iteM ?_ (cmp_rq hl v k f))
      · refine RQ.bind (t := facQ v n (nx k) f) (u := fun x k f => ({ Ex.zero with op := 2, kids := [x] }, (k, f))) (i1 _ f) (z1 _) fun x k f => ?_
        exact .ok _ _
      · refine RQ.bind (t := orQ v n (nx k) f) (u := fun x k f => (x, needQ ⟨#[41]⟩ k f)) (i4 _ f) (z4 _) fun x k f => ?_
        refine RQ.bind (t := ((), needQ ⟨#[41]⟩ k f)) (u := fun _ k f => (x, (k, f))) (need_rq _ k f) (need_nz _ k) fun _ k f => ?_
        exact .ok _ _
    · rw [bothP, andQ]
      refine RQ.bind (t := facQ v n k f) (u := fun x k f => andLQ v n x k f) (i1 k f) (z1 k) fun x k f => ?_
      exact i3 x k f
    · rw [bothL, andLQ]
      refine RQ.iteM ?_ (.ok _ _)
      refine RQ.bind (t := facQ v n (nx k) f) (u := fun x k f => andLQ v n { Ex.zero with op := 3, kids := [e, x] } k f) (i1 _ f) (z1 _) fun x k f => ?_
      exact i3 _ k f
    · rw [eithP, orQ]
      refine RQ.bind (t := andQ v n k f) (u := fun x k f => orLQ v n x k f) (i2 k f) (z2 k) fun x k f => ?_
      exact i5 x k f
    · rw [eithL, orLQ]
      refine RQ.iteM ?_ (.ok _ _)
      refine RQ.bind (t := andQ v n (nx k) f) (u := fun x k f => orLQ v n { Ex.zero with op := 4, kids := [e, x] } k f) (i2 _ f) (z2 _) fun x k f => ?_
      exact i5 _ k f
theorem expr_rq (hl : Fine l) (v : Bool) (k : Ix l) (f : Fa) : RQ f (constrP v k) (exprQ v k f) := by
  unfold constrP exprQ
  generalize fuel l = n
  refine RQ.bind (t := orQ v n k f) (u := fun x k' f => (x, (k', if 12 < levE x then badF f 4 (tk k) else f))) ((fac_rq hl v n).2.2.2.1 k f) ((comp_nz v n).2.2.2.1 k) fun x k' f => ?_
  dsimp only
  by_cases h : 12 < levE x
  · rw [if_pos h, if_pos h]; exact .err _ k' _
  · rw [if_neg h, if_neg h]; exact .ok _ _
end
end Am
namespace Am
set_option maxRecDepth 100000
set_option maxHeartbeats 4000000
theorem kid_lt6 {x e : Ex} (h : x ∈ e.kids) : SizeOf.sizeOf x < SizeOf.sizeOf e := by
  have h1 := List.sizeOf_lt_of_mem h
  cases e; simp only [Ex.mk.sizeOf_spec] at *; omega
theorem rep_n6 {κ : K} {w : World} {t : Option Nat} {k : Nat} {xs : List (List C)} {v : Value} (h : Rep κ w (.lst t k xs) v) : xs.length ≤ 9223372036854775807 := by
  cases h with
  | lst cv hn _ hc hm _ _ _ => unfold maxLen at hm; omega
theorem agg_l6 {κ : K} {w : World} {x : Value} {cs : List C} {t : Option Nat} {k : Nat} {α : Type} {f : α → List C} {l : List α} (hr : RepV κ w (.agg cs) x) (hm : (.lst t k (l.map f) : C) ∈ cs) : l.length ≤ 9223372036854775807 := by
  obtain ⟨i, hi, e⟩ := List.mem_iff_getElem.1 hm
  cases hr with
  | agg h =>
    rename_i vs
    have hv : i < vs.toList.length := by rw [← h.1]; exact hi
    have := rep_n6 (h.2 i _ _ (List.getElem?_eq_some_iff.2 ⟨hi, e⟩) (List.getElem?_eq_getElem hv))
    rwa [List.length_map] at this
theorem eqB_refl6 (a : Se) : a.eqB a = true := by unfold Se.eqB; simp
theorem agg_kids6 {κ : K} {w : World} {x : Value} {e : Ex} (hr : RepV κ w (.agg (exC e)) x) : e.kids.length ≤ 9223372036854775807 ∧ e.names.length ≤ 9223372036854775807 :=
  ⟨agg_l6 hr (t := none) (k := 10) (f := exC) (by rw [exC, exC_kids_map]; simp), agg_l6 hr (t := none) (k := 1) (f := oneS) (by rw [exC]; simp [strL])⟩
theorem q6same_n : ∀ (n : Nat) (a : Ex), SizeOf.sizeOf a < n → Pure Tryz.prog 25 [.agg (exC a), .agg (exC a)] (.c (sB true))
  | 0, _, h => absurd h (Nat.not_lt_zero _)
  | n + 1, a, h => by
    have ih : ∀ x ∈ a.kids, Pure Tryz.prog 25 [.agg (exC x), .agg (exC x)] (.c (sB true)) := fun x hx =>
      q6same_n n x (by have := kid_lt6 hx; omega)
    refine fn2 (fn := Tryz.f25) Tryz.call25 Tryz.func25 rfl Tryz.ntmps25 Tryz.results25 rfl (by rfl) ?_
    refine AW.fact (t := 0) rfl (fun κ w x hr => agg_kids6 hr) fun hn => ?_
    repeat' (first | (with_reducible first | apply AW.seq | apply AW.block | apply AW.skip | apply AW.ret | apply q_then | apply q_thenR | apply q_bloN | apply y_e | refine v_rgl ?_ | refine v_drb ?_) | ((with_reducible apply i_dv); first | refine t_v AS.v ?_ | refine t_w AS.w ?_) | ((with_reducible apply i_dg); refine t_m (hs := fun hg => AS.v) (k := ?_)) | ((with_reducible refine i_aw ?_); ((refine v_cond (fun hc => ?_) (fun hc => ?_); all_goals (try (exfalso; simp [*] at hc; done))))) | ((with_reducible refine i_rt ?_); refine k_b ?_) | (refine ⟨by decide +kernel, ?_⟩) | fail)
    · exfalso; simp [eqB_refl6] at hc
    refine AW.loop (fun n σ => ∃ j, n = a.names.length - j ∧ j ≤ a.names.length ∧ σ = mk [(2, .c (.ptr 2 0)), (3, .c (.ptr 3 0)), (5, .c (sI j))] [(3, .obj 49 (exC a)), (2, .obj 49 (exC a))]) a.names.length ?_ ?_
    · exact ⟨_, wk_mk (by (repeat (first | exact all_nil | ((refine all_cons ⟨_, rfl, .inl rfl, ?_⟩ ?_); (· (rfl))))); done) (by (repeat (first | exact all_nil | ((refine all_cons ⟨_, rfl, .inl rfl, ?_⟩ ?_); (· (((simp [V.ok, okL, C.ok, okA, HO.ok]; done))))))); done) (by rfl), 0, rfl, Nat.zero_le _, rfl⟩
    rintro n σ ⟨j, rfl, hj, rfl⟩
    by_cases hlt : j < a.names.length
    · obtain ⟨x, hx⟩ : ∃ x, a.names[j]? = some x := ⟨_, List.getElem?_eq_getElem hlt⟩
      repeat' (first | (with_reducible first | apply AW.seq | apply AW.block | apply AW.skip | apply AW.ret | apply q_then | apply q_thenR | apply q_bloN | apply y_e | refine v_rgl ?_ | refine v_drb ?_) | ((with_reducible apply i_dv); first | refine t_v AS.v ?_ | refine t_w AS.w ?_) | ((with_reducible apply i_dg); refine t_m (hs := fun hg => AS.v) (k := ?_)) | ((with_reducible refine i_aw ?_); ((refine v_cond (fun hc => ?_) (fun hc => ?_); all_goals (try (exfalso; simp [*] at hc; done))))) | ((with_reducible refine i_rt ?_); refine k_b ?_) | (refine ⟨by decide +kernel, ?_⟩) | fail)
      · exact ⟨_, _, (show a.names.length - (j + 1) < a.names.length - j by omega), wk_mk (by (repeat (first | exact all_nil | ((refine all_cons ⟨_, rfl, .inl rfl, ?_⟩ ?_); (· (rfl))))); done) (by (repeat (first | exact all_nil | ((refine all_cons ⟨_, rfl, .inl rfl, ?_⟩ ?_); (· (((simp [V.ok, okL, C.ok, okA, HO.ok]; done))))))); done) (by rfl), j + 1, rfl, hlt, rfl⟩
    · repeat' (first | (with_reducible first | apply AW.seq | apply AW.block | apply AW.ret | apply AW.exit | apply q_then | apply q_thenE | apply q_bloE | apply y_e | refine v_rgl ?_) | ((with_reducible apply i_dv); refine t_v AS.v ?_) | ((with_reducible refine i_aw ?_); ((refine v_cond (fun hc => ?_) (fun hc => ?_); all_goals (try (exfalso; simp [*] at hc; done))))) | ((with_reducible refine i_rt ?_); refine k_b ?_) | fail)
      refine AW.loop (fun n σ => ∃ j, n = a.kids.length - j ∧ j ≤ a.kids.length ∧ σ = mk [(2, .c (.ptr 2 0)), (3, .c (.ptr 3 0)), (6, .c (sI j))] [(3, .obj 49 (exC a)), (2, .obj 49 (exC a))]) a.kids.length ?_ ?_
      · exact ⟨_, wk_mk (by (repeat (first | exact all_nil | ((refine all_cons ⟨_, rfl, .inl rfl, ?_⟩ ?_); (· (rfl))))); done) (by (repeat (first | exact all_nil | ((refine all_cons ⟨_, rfl, .inl rfl, ?_⟩ ?_); (· (((simp [V.ok, okL, C.ok, okA, HO.ok]; done))))))); done) (by rfl), 0, rfl, Nat.zero_le _, rfl⟩
      clear hc hlt hj
      rintro n σ ⟨j, rfl, hj, rfl⟩
      by_cases hlt : j < a.kids.length
      · obtain ⟨x, hx⟩ : ∃ x, a.kids[j]? = some x := ⟨_, List.getElem?_eq_getElem hlt⟩
        have hp := ih x (List.mem_of_getElem? hx)
        repeat' (first | (with_reducible first | apply AW.seq | apply AW.block | apply AW.skip | apply q_then | apply q_bloN | apply y_e | refine v_rgl ?_ | refine v_drb ?_) | ((with_reducible apply i_dv); first | refine t_v AS.v ?_ | refine t_v (by exact u_call (hP := hp)) ?_) | ((with_reducible refine i_aw ?_); first | refine v_no ?_ | (refine v_cond (fun hc => ?_) (fun hc => ?_); all_goals (try (exfalso; simp [*] at hc; done)))) | (refine ⟨by decide +kernel, ?_⟩) | fail)
        exact ⟨_, _, (show a.kids.length - (j + 1) < a.kids.length - j by omega), wk_mk (by (repeat (first | exact all_nil | ((refine all_cons ⟨_, rfl, .inl rfl, ?_⟩ ?_); (· (rfl))))); done) (by (repeat (first | exact all_nil | ((refine all_cons ⟨_, rfl, .inl rfl, ?_⟩ ?_); (· (((simp [V.ok, okL, C.ok, okA, HO.ok]; done))))))); done) (by rfl), j + 1, rfl, hlt, rfl⟩
      · repeat' (first | (with_reducible first | apply AW.seq | apply AW.block | apply AW.ret | apply AW.exit | apply q_then | apply q_thenE | apply q_bloE | apply y_e | refine v_rgl ?_) | ((with_reducible apply i_dv); refine t_v AS.v ?_) | ((with_reducible refine i_aw ?_); ((refine v_cond (fun hc => ?_) (fun hc => ?_); all_goals (try (exfalso; simp [*] at hc; done))))) | ((with_reducible refine i_rt ?_); refine k_b ?_) | fail)
        rfl
theorem q6same_p (a : Ex) : Pure Tryz.prog 25 [.agg (exC a), .agg (exC a)] (.c (sB true)) := q6same_n _ a (Nat.lt_succ_self _)
end Am
end Go.Proofs.YtkpodagbefnebaaGreatDoor
