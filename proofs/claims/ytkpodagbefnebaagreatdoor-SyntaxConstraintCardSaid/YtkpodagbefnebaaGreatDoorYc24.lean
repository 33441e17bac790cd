import Derived.Test.YtkpodagbefnebaaGreatDoorYc20
import Derived.Test.YtkpodagbefnebaaGreatDoorYc21
import Derived.Test.YtkpodagbefnebaaGreatDoorYc23
import Derived.Test.YtkpodagbefnebaaGreatDoorYc16
set_option linter.unusedSimpArgs false
set_option linter.unusedVariables false
set_option linter.unusedSectionVars false
namespace Go.Proofs.YtkpodagbefnebaaGreatDoor
namespace Am
open Tk Go.RowKit
set_option maxRecDepth 100000
set_option maxHeartbeats 4000000
section
variable {ρ : Operand → Option V} {H : Nat → Option HO} {d : Option Nat} {ty : TypeId} {pos : String} {af : Array Edge} {gu : Option (Nat × Bool)} {x : Operand}
theorem u_asS {f : Fa} (hx : Ev ρ x (.c (.sc (pvF 127 f))) := by exact .pl rfl) (hs : (f.name.size ≤ 9223372036854775807) := by assumption) : AS Tryz.prog ρ H ⟨d, .typeAssert x 20 127 true, ty, pos, af, gu⟩ ⟨.tup [.agg (faC f), .c (sB true)], [], []⟩ :=
  a_assert (us := [.int .i64 f.code, .int .i64 f.pos.line, .int .i64 f.pos.col, .string f.name]) hx (by simp [scal, hs]) (fun w => by kernel_rfl)
end
abbrev ftB (f : Fa) : List (Nat × HO) := [(2004, .obj 30 (faC f))]
theorem rcatch_p (f g : Fa) (hs : f.name.size ≤ 9223372036854775807) : MD Tryz.prog 101 [2004] (look (ftB g)) (.panicking [{ v := pvS f, recovered := false }]) (.panicking [{ v := pvS f, recovered := true }]) (look (ftB f)) := by
  refine MD.of (fn := Tryz.f101) (t := 4) (s := 1) (.inl ⟨rfl, rfl⟩) Tryz.func101 rfl Tryz.ntmps101 (fun _ _ => rfl) rfl rfl (fun _ _ => rfl) rfl rfl (by decide) (by decide) (by decide) rfl rfl (by simp [scal, hs]) ?_
  repeat' (first | (with_reducible first | apply AW.seq | apply AW.skip | apply q_then | apply y_e | refine v_rgl ?_) | ((with_reducible apply i_dv); first | refine t_v u_someI ?_ | refine t_v u_asS ?_ | refine t_v AS.v ?_ | refine t_w AS.w ?_) | ((with_reducible apply i_ds); refine t_s AS.s ?_) | ((with_reducible refine i_aw ?_); first | refine v_yes ?_ | refine v_no ?_) | fail)
  all_goals (refine ⟨.inr rfl, fun n hn => ?_⟩; simp only [List.mem_cons, List.not_mem_nil, or_false] at hn; subst hn; rfl)
theorem rcatch_i (g : Fa) : MD Tryz.prog 101 [2004] (look (ftB g)) .returning .returning (look (ftB g)) := by
  refine MD.of (fn := Tryz.f101) (t := 4) (s := 1) (older := []) (.inr ⟨rfl, rfl, rfl⟩) Tryz.func101 rfl Tryz.ntmps101 (fun _ _ => rfl) rfl rfl (fun _ _ => rfl) rfl rfl (by decide) (by decide) (by decide) rfl rfl rfl ?_
  repeat' (first | (with_reducible first | apply AW.seq | apply AW.skip | apply q_then | apply y_e | refine v_rgl ?_) | ((with_reducible apply i_dv); first | refine t_v u_noI ?_ | refine t_v AS.v ?_) | ((with_reducible refine i_aw ?_); refine v_no ?_) | fail)
  all_goals (refine ⟨.inr rfl, fun n hn => ?_⟩; simp only [List.mem_cons, List.not_mem_nil, or_false] at hn; subst hn; rfl)
theorem ftB_ok {f : Fa} {h : List (Nat × HO)} (e : look h 2004 = some (.obj 30 (faC f))) : ∀ m ∈ [2004], ∃ ob, look h m = some ob ∧ plainO ob = true ∧ look (ftB f) m = some ob := fun m hn => by
  simp only [List.mem_cons, List.not_mem_nil, or_false] at hn
  subst hn
  exact ⟨_, e, by simp [plainO, okA], rfl⟩
theorem ftB_pl {f : Fa} : ∀ m ∈ [2004], ∃ ob, look (ftB f) m = some ob ∧ plainO ob = true := fun m hn => by
  simp only [List.mem_cons, List.not_mem_nil, or_false] at hn
  subst hn
  exact ⟨_, rfl, by simp [plainO, okA]⟩
theorem one_af (f : Fa) : (one [V.agg (faC f)]).un = .agg (faC f) := un_af f
section
variable {α : Type} {bx : HO} {B : α → HO} {sp : ∀ l : List Tok, Ix l → Except Fa (α × (Ix l × Nat))} {g : Nat} {src : ByteArray}
def RunOk (g : Nat) (bx : HO) (B : α → HO) (sp : ∀ l : List Tok, Ix l → Except Fa (α × (Ix l × Nat))) : Prop :=
  ∀ (l : List Tok) (_ : Fine l) (h : 0 < l.length), MX Tryz.prog g [(0, psO (⟨0, h⟩ : Ix l) 0 0), (1001, bx)] [.c (.ptr 0 0), .c (.ptr 1001 0)] (sp l ⟨0, h⟩ >>= fun x => .ok ((), x) : Except Fa (Unit × (α × (Ix l × Nat)))) (fun _ => .tup []) (fun b => [(0, psO b.2.1 b.2.2 0), (1001, B b.1)]) pvS
theorem run_scan {f : Fa} (hsc : scanP src = .error f) : MNL Tryz.prog 48 [(1001, bx)] [.c (sS src), .c (.fn g [.ptr 1001 0])] (.agg (faC f)) [(1001, bx)] := by
  have sc := scan_p src
  rw [hsc] at sc
  have sc : Pure Tryz.prog 77 [.c (sS src)] (.tup [.c .nil, .agg (faC f)]) := sc
  have h0 := (scanP_nz src f hsc).1
  refine MNL.ofD (fn := Tryz.f48) (fc := 101) (Nc := [2004]) (sl := [(0, .c (sS src)), (1, .c (.fn g [.ptr 1001 0]))]) Tryz.call48 Tryz.call101 Tryz.func48 rfl Tryz.ntmps48 Tryz.results48 rfl rfl (by decide) ?_
  refine AWD.seq ?_
  repeat' (first | (with_reducible first | apply q_then | apply y_e | refine v_rgl ?_) | ((with_reducible apply i_dv); refine t_w (a_allocK 2004 (by rfl) (by exact zwT_ok rfl)) ?_) | fail)
  refine AWD.seq ?_
  repeat' (first | (with_reducible first | apply q_then | apply y_e | refine v_rgl ?_) | ((with_reducible apply i_dv); first | refine t_v AS.v ?_ | refine t_v (by exact u_call (hP := sc)) ?_) | ((with_reducible apply i_ds); refine t_s AS.s ?_) | fail)
  refine AWD.seq ?_
  repeat' (first | (with_reducible first | apply AW.seq | apply AW.ret | apply q_then | apply q_thenR | apply y_e | refine v_rgl ?_) | ((with_reducible apply i_dv); refine t_v AS.v ?_) | ((with_reducible apply i_ds); refine t_s AS.s ?_) | ((with_reducible refine i_aw ?_); ((refine v_cond (fun hc => ?_) (fun hc => ?_); all_goals (try (exfalso; simp [*] at hc; done))))) | fail)
  exact n_c (one_af _) (fun n hn => by rw [List.mem_singleton.1 hn]; rfl)
theorem run_ok {l : List Tok} (hsc : scanP src = .ok l) (hbx : bx.one = true) (hg : RunOk g bx B sp) (h : 0 < l.length) {a : α} {k' : Ix l} {c' : Nat} (hsp : sp l ⟨0, h⟩ = .ok (a, (k', c'))) (h0 : (tk k').kind = 0) :
    MNL Tryz.prog 48 [(1001, bx)] [.c (sS src), .c (.fn g [.ptr 1001 0])] (.agg (faC Fa.zero)) [(1001, B a)] := by
  have hf := scan_fine hsc
  have sc := scan_p src
  rw [hsc] at sc
  have sc : Pure Tryz.prog 77 [.c (sS src)] (.tup [.c (.lst none 4 (l.map tkC)), .agg (faC Fa.zero)]) := sc
  have hG := hg l hf h
  have hsp' : (sp l ⟨0, h⟩ >>= fun x => .ok ((), x) : Except Fa (Unit × (α × (Ix l × Nat)))) = .ok ((), (a, (k', c'))) := by rw [hsp]; rfl
  generalize (sp l ⟨0, h⟩ >>= fun x => .ok ((), x) : Except Fa (Unit × (α × (Ix l × Nat)))) = q at hG hsp'
  subst hsp'
  clear hsp
  refine MNL.ofD (fn := Tryz.f48) (fc := 101) (Nc := [2004]) (sl := [(0, .c (sS src)), (1, .c (.fn g [.ptr 1001 0]))]) Tryz.call48 Tryz.call101 Tryz.func48 rfl Tryz.ntmps48 Tryz.results48 rfl rfl (by decide) ?_
  refine AWD.seq ?_
  repeat' (first | (with_reducible first | apply q_then | apply y_e | refine v_rgl ?_) | ((with_reducible apply i_dv); refine t_w (a_allocK 2004 (by rfl) (by exact zwT_ok rfl)) ?_) | fail)
  refine AWD.seq ?_
  repeat' (first | (with_reducible first | apply q_then | apply y_e | refine v_rgl ?_) | ((with_reducible apply i_dv); first | refine t_v AS.v ?_ | refine t_v (by exact u_call (hP := sc)) ?_) | ((with_reducible apply i_ds); refine t_s AS.s ?_) | fail)
  refine AWD.seq ?_
  repeat' (first | (with_reducible first | apply AW.seq | apply AW.skip | apply q_then | apply y_e | refine v_rgl ?_) | ((with_reducible apply i_dv); refine t_v AS.v ?_) | ((with_reducible refine i_aw ?_); refine v_no ?_) | fail)
  refine AWD.defer (l := [_]) (by decide) rfl (by decide) ?_
  repeat' (first | (with_reducible first | apply AW.seq | apply AW.skip | apply q_then | apply y_e | refine v_rgl ?_) | ((with_reducible apply i_dv); refine t_v AS.v ?_) | ((with_reducible refine i_aw ?_); refine v_no ?_) | fail)
  refine ⟨.pl rfl, ?_⟩
  repeat' ((fail_if_success (with_reducible refine reg_at 7 ?_)); (first | (with_reducible first | apply AW.seq | apply q_then | apply q_thenP | apply y_e | refine v_rgl ?_) | ((with_reducible apply i_dv); first | refine t_v AS.v ?_ | refine t_w AS.w ?_ | refine t_cf (hP := hG) (k1 := fun x k h => ?_) (k2 := fun e h => ?_)) | fail))
  · injection h with h
    injection h with h1 h2
    subst h2
    repeat' (first | (with_reducible first | apply AW.seq | apply AW.skip | apply AW.ret | apply q_then | apply y_e | refine v_rgl ?_) | ((with_reducible apply i_dv); first | refine t_v AS.v ?_ | refine t_v (by exact u_eye (hP := next_p)) ?_) | ((with_reducible apply i_ds); refine t_s AS.s ?_) | ((with_reducible refine i_aw ?_); ((refine v_cond (fun hc => ?_) (fun hc => ?_); all_goals (try (exfalso; simp [*] at hc; done))))) | fail)
    exact RetD.mk (bx := ftB Fa.zero) (bx' := ftB Fa.zero) (.inl ⟨.inl rfl, rfl⟩) rfl (rcatch_i _) rfl (ftB_ok rfl) ftB_pl (n_c (one_af _) fun n hn => by rw [List.mem_singleton.1 hn]; rfl)
  · cases h
theorem run_bad {l : List Tok} (hsc : scanP src = .ok l) (hbx : bx.one = true) (hg : RunOk g bx B sp) (h : 0 < l.length) {a : α} {k' : Ix l} {c' : Nat} (hsp : sp l ⟨0, h⟩ = .ok (a, (k', c'))) (h0 : ¬ (tk k').kind = 0) :
    MNL Tryz.prog 48 [(1001, bx)] [.c (sS src), .c (.fn g [.ptr 1001 0])] (.agg (faC (flt 9 (tk k')))) [(1001, B a)] := by
  have hf := scan_fine hsc
  have ht := scan_tx hsc (tk k') (List.getElem_mem _)
  have sc := scan_p src
  rw [hsc] at sc
  have sc : Pure Tryz.prog 77 [.c (sS src)] (.tup [.c (.lst none 4 (l.map tkC)), .agg (faC Fa.zero)]) := sc
  have hG := hg l hf h
  have hsp' : (sp l ⟨0, h⟩ >>= fun x => .ok ((), x) : Except Fa (Unit × (α × (Ix l × Nat)))) = .ok ((), (a, (k', c'))) := by rw [hsp]; rfl
  generalize (sp l ⟨0, h⟩ >>= fun x => .ok ((), x) : Except Fa (Unit × (α × (Ix l × Nat)))) = q at hG hsp'
  subst hsp'
  clear hsp
  refine MNL.ofD (fn := Tryz.f48) (fc := 101) (Nc := [2004]) (sl := [(0, .c (sS src)), (1, .c (.fn g [.ptr 1001 0]))]) Tryz.call48 Tryz.call101 Tryz.func48 rfl Tryz.ntmps48 Tryz.results48 rfl rfl (by decide) ?_
  refine AWD.seq ?_
  repeat' (first | (with_reducible first | apply q_then | apply y_e | refine v_rgl ?_) | ((with_reducible apply i_dv); refine t_w (a_allocK 2004 (by rfl) (by exact zwT_ok rfl)) ?_) | fail)
  refine AWD.seq ?_
  repeat' (first | (with_reducible first | apply q_then | apply y_e | refine v_rgl ?_) | ((with_reducible apply i_dv); first | refine t_v AS.v ?_ | refine t_v (by exact u_call (hP := sc)) ?_) | ((with_reducible apply i_ds); refine t_s AS.s ?_) | fail)
  refine AWD.seq ?_
  repeat' (first | (with_reducible first | apply AW.seq | apply AW.skip | apply q_then | apply y_e | refine v_rgl ?_) | ((with_reducible apply i_dv); refine t_v AS.v ?_) | ((with_reducible refine i_aw ?_); refine v_no ?_) | fail)
  refine AWD.defer (l := [_]) (by decide) rfl (by decide) ?_
  repeat' (first | (with_reducible first | apply AW.seq | apply AW.skip | apply q_then | apply y_e | refine v_rgl ?_) | ((with_reducible apply i_dv); refine t_v AS.v ?_) | ((with_reducible refine i_aw ?_); refine v_no ?_) | fail)
  refine ⟨.pl rfl, ?_⟩
  repeat' ((fail_if_success (with_reducible refine reg_at 7 ?_)); (first | (with_reducible first | apply AW.seq | apply q_then | apply q_thenP | apply y_e | refine v_rgl ?_) | ((with_reducible apply i_dv); first | refine t_v AS.v ?_ | refine t_w AS.w ?_ | refine t_cf (hP := hG) (k1 := fun x k h => ?_) (k2 := fun e h => ?_)) | fail))
  · injection h with h
    injection h with h1 h2
    subst h2
    repeat' (first | (with_reducible first | apply AW.seq | apply q_then | apply q_thenP | apply y_e | refine v_rgl ?_) | ((with_reducible apply i_dv); first | refine t_v AS.v ?_ | refine t_v (by exact u_eye (hP := next_p)) ?_ | refine t_qr (hP := fail_q _ _) (k := ?_)) | ((with_reducible refine i_aw ?_); ((refine v_cond (fun hc => ?_) (fun hc => ?_); all_goals (try (exfalso; simp [*] at hc; done))))) | fail)
    exact RetD.mk (bx := ftB Fa.zero) (bx' := ftB (flt 9 (tk k'))) (.inr ⟨_, rfl, rfl⟩) rfl (rcatch_p _ _ (show (tk k').text.size ≤ _ by omega)) rfl (ftB_ok rfl) ftB_pl (n_c (one_af _) fun n hn => by rw [List.mem_singleton.1 hn]; rfl)
  · cases h
theorem run_err {l : List Tok} (hsc : scanP src = .ok l) (hbx : bx.one = true) (hg : RunOk g bx B sp) (h : 0 < l.length) {f : Fa} (hsp : sp l ⟨0, h⟩ = .error f) (hs : f.name.size ≤ 9223372036854775807) :
    MNL Tryz.prog 48 [(1001, bx)] [.c (sS src), .c (.fn g [.ptr 1001 0])] (.agg (faC f)) [(1001, .lost)] := by
  have hf := scan_fine hsc
  have sc := scan_p src
  rw [hsc] at sc
  have sc : Pure Tryz.prog 77 [.c (sS src)] (.tup [.c (.lst none 4 (l.map tkC)), .agg (faC Fa.zero)]) := sc
  have hG := hg l hf h
  have hsp' : (sp l ⟨0, h⟩ >>= fun x => .ok ((), x) : Except Fa (Unit × (α × (Ix l × Nat)))) = .error f := by rw [hsp]; rfl
  generalize (sp l ⟨0, h⟩ >>= fun x => .ok ((), x) : Except Fa (Unit × (α × (Ix l × Nat)))) = q at hG hsp'
  subst hsp'
  clear hsp
  refine MNL.ofD (fn := Tryz.f48) (fc := 101) (Nc := [2004]) (sl := [(0, .c (sS src)), (1, .c (.fn g [.ptr 1001 0]))]) Tryz.call48 Tryz.call101 Tryz.func48 rfl Tryz.ntmps48 Tryz.results48 rfl rfl (by decide) ?_
  refine AWD.seq ?_
  repeat' (first | (with_reducible first | apply q_then | apply y_e | refine v_rgl ?_) | ((with_reducible apply i_dv); refine t_w (a_allocK 2004 (by rfl) (by exact zwT_ok rfl)) ?_) | fail)
  refine AWD.seq ?_
  repeat' (first | (with_reducible first | apply q_then | apply y_e | refine v_rgl ?_) | ((with_reducible apply i_dv); first | refine t_v AS.v ?_ | refine t_v (by exact u_call (hP := sc)) ?_) | ((with_reducible apply i_ds); refine t_s AS.s ?_) | fail)
  refine AWD.seq ?_
  repeat' (first | (with_reducible first | apply AW.seq | apply AW.skip | apply q_then | apply y_e | refine v_rgl ?_) | ((with_reducible apply i_dv); refine t_v AS.v ?_) | ((with_reducible refine i_aw ?_); refine v_no ?_) | fail)
  refine AWD.defer (l := [_]) (by decide) rfl (by decide) ?_
  repeat' (first | (with_reducible first | apply AW.seq | apply AW.skip | apply q_then | apply y_e | refine v_rgl ?_) | ((with_reducible apply i_dv); refine t_v AS.v ?_) | ((with_reducible refine i_aw ?_); refine v_no ?_) | fail)
  refine ⟨.pl rfl, ?_⟩
  repeat' ((fail_if_success (with_reducible refine reg_at 7 ?_)); (first | (with_reducible first | apply AW.seq | apply q_then | apply q_thenP | apply y_e | refine v_rgl ?_) | ((with_reducible apply i_dv); first | refine t_v AS.v ?_ | refine t_w AS.w ?_ | refine t_cf (hP := hG) (k1 := fun x k h => ?_) (k2 := fun e h => ?_)) | fail))
  · cases h
  · injection h with h
    subst h
    refine RetD.mk (bx := ftB Fa.zero) (bx' := ftB f) (.inr ⟨_, rfl, rfl⟩) rfl (rcatch_p _ _ hs) rfl (ftB_ok rfl) ftB_pl (n_c (one_af _) fun n hn => by rw [List.mem_singleton.1 hn]; rfl)
theorem run_mn (hbx : bx.one = true) (hg : RunOk g bx B sp) (hz : NZs sp) : (∀ a, runP src sp = .ok a → MNL Tryz.prog 48 [(1001, bx)] [.c (sS src), .c (.fn g [.ptr 1001 0])] (.agg (faC Fa.zero)) [(1001, B a)]) ∧
    ∀ f, runP src sp = .error f → f.code ≠ 0 ∧ ∃ o : HO, ((∀ d, o.within d = true) ∧ ∀ ns, o.ren ns = o) ∧ MNL Tryz.prog 48 [(1001, bx)] [.c (sS src), .c (.fn g [.ptr 1001 0])] (.agg (faC f)) [(1001, o)] := by
  refine ⟨fun a ha => ?_, fun f hf => ⟨runP_nz src hz hf, ?_⟩⟩
  · unfold runP at ha
    obtain ⟨l, hsc, ha⟩ := bind_ok.1 ha
    split at ha
    · rename_i h
      obtain ⟨⟨a', k', c'⟩, hsp, ha⟩ := bind_ok.1 ha
      dsimp only at ha
      split at ha
      · rename_i h0
        injection ha with ha
        subst ha
        exact run_ok hsc hbx hg h hsp h0
      · cases ha
    · cases ha
  · unfold runP at hf
    rcases bind_err hf with hsc | ⟨l, hsc, hf⟩
    · exact ⟨_, ⟨fun d => one_within hbx, fun ns => one_ren hbx⟩, run_scan hsc⟩
    · split at hf
      · rename_i h
        rcases bind_err hf with hsp | ⟨⟨a', k', c'⟩, hsp, hf⟩
        · refine ⟨_, ⟨fun d => rfl, fun ns => rfl⟩, run_err hsc hbx hg h hsp ?_⟩
          rcases (hz l ⟨0, h⟩ f hsp).2 with e | ⟨t, ht, e⟩
          · rw [e]; decide
          · rw [e]; have := scan_tx hsc t ht; omega
        · dsimp only at hf
          split at hf
          · cases hf
          · rename_i h0
            injection hf with hf
            subst hf
            have ho : (B a').one = true := by
              have := ((hg l (scan_fine hsc) h).hO (a', (k', c'))).2
              simp only [List.all_cons, List.all_nil, Bool.and_true, Bool.and_eq_true] at this
              exact this.2
            exact ⟨_, ⟨fun d => one_within ho, fun ns => one_ren ho⟩, run_bad hsc hbx hg h hsp h0⟩
      · rename_i h
        exact absurd (scan_fine hsc).pos h
end
section
variable {P : Program} {ρ : Operand → Option V} {H : Nat → Option HO} {d : Option Nat} {ty : TypeId} {pos : String} {af : Array Edge} {gu : Option (Nat × Bool)} {x : Operand} {args : Array Operand} {ats : Array TypeId}
theorem u_run {f g n : Nat} {bx o : HO} {src : ByteArray} {r : V} (hP : MNL P f [(1001, bx)] [.c (sS src), .c (.fn g [.ptr 1001 0])] r [(1001, o)]) (hw : (∀ d, o.within d = true) ∧ ∀ ns, o.ren ns = o) (hb : bx.one = true) (hr : V.ok noN r = true) (hx : Ev ρ x (.c (.fn f [])) := by exact ev_t) (hv : EvL ρ args.toList [.c (sS src), .c (.fn g [.ptr n 0])] := by (first | ((repeat (first | exact .nil | ((apply EvL.cons); (· (first | (refine .wh rfl ?_; first | assumption | (rw [hp]; rfl) | (simp_all; done)) | exact .pl rfl))))); done) | fail)) (hn : H n = some bx := by rfl) :
    AS P ρ H ⟨d, .call { callee := .value x, args := args, argTypes := ats }, ty, pos, af, gu⟩ ⟨r, [(n, o)], [n]⟩ := by
  have hk : okB [1001] [(1001, n)] = true := by simp [okB, byT, swT]
  have hu : RnL [(1001, n)] [1001] ([.c (sS src), .c (.fn g [.ptr n 0])] ++ ([] : List C).map V.c) [.c (sS src), .c (.fn g [.ptr 1001 0])] := .cl rfl (.fn1 rfl rfl .nil)
  obtain ⟨k1, k2⟩ := hu.ok hk
  have hg : GvL [(1001, n)] H [(1001, bx)] := .cons hn hb .nil
  exact a_mn [(1001, n)] hx hv hP hk rfl k1 k2 hg.giv hg.within rfl (by simp [hw.1]) (okW_any _ hr) (renW_ok _ hr) (by simp [tak, byT, hw.2]) rfl
end
end Am
namespace Am
open Tk Go.RowKit
set_option maxRecDepth 100000
set_option maxHeartbeats 4000000
def rtV {α : Type} (z : V) (R : α → V) : Except Fa α → V
  | .ok a => .tup [R a, .agg (faC Fa.zero)]
  | .error f => .tup [z, .agg (faC f)]
theorem pcl_x : RunOk 49 (.obj 25 (moC Mo.zero)) (fun m => .obj 25 (moC m)) (fun _ k => modQ k) := fun l hf h => by
  have st := fun k => (sx_all hf (cnd_ok hf) (fuel l) (fuel l) (Nat.le_refl _)).ss 0 k 0 (by decide) (by unfold fuel; omega)
  have md := module_x (k := (⟨0, h⟩ : Ix l)) (c := 0) (d := 0) hf
  have e : (modQ (⟨0, h⟩ : Ix l) >>= fun x => .ok ((), x) : Except Fa (Unit × (Mo × (Ix l × Nat)))) = headP (⟨0, h⟩ : Ix l) >>= fun x => stmtsP tksK (fuel l) 0 [] x.2 0 >>= fun y => .ok ((), ({ x.1 with stmts := y.1 }, y.2)) := by
    unfold modQ
    cases headP (⟨0, h⟩ : Ix l) with
    | error f => rfl
    | ok x =>
      simp only [ok_bind]
      cases stmtsP tksK (fuel l) 0 [] x.2 0 with
      | error f => rfl
      | ok y => rfl
  rw [e]
  clear e
  refine MX.of (fn := Tryz.f49) Tryz.call49 Tryz.func49 rfl Tryz.ntmps49 Tryz.results49 rfl rfl (by intro a; rfl) (by intro b; exact ⟨rfl, by simp [HO.one, okL, C.ok, okA]⟩) ?_
  repeat' (first | (with_reducible first | apply AW.seq | apply q_then | apply q_thenP | apply y_e | refine v_rgl ?_) | ((with_reducible apply i_dv); first | refine t_v AS.v ?_ | refine t_c1 (hP := md) (k1 := fun x k h => ?_) (k2 := fun e h σx => ?_) | refine t_c1 (hP := st _) (k1 := fun x k h => ?_) (k2 := fun e h σx => ?_)) | ((with_reducible apply i_ds); refine t_s AS.s ?_) | ((with_reducible refine i_rx ?_); first | (with_reducible refine x_pan ?_) | refine l_d0 (k := ?_)) | fail)
  · rename_i h1
    exact ⟨(), (_, _), by rw [h1, ok_bind, h]; rfl, rfl, le_id rfl, le_id rfl⟩
  · rename_i h1
    rw [h1, ok_bind, h]; rfl
  · rw [h]; rfl
theorem z_bind {l : List Tok} {α : Type} (x : Except Fa (α × Ix l)) : (zQ x >>= fun y => .ok ((), y) : Except Fa (Unit × (α × (Ix l × Nat)))) = x >>= fun y => .ok ((), (y.1, (y.2, 0))) := by
  unfold zQ
  cases x <;> rfl
theorem ncl_x : RunOk 79 (.obj 60 (nsC NS.zero)) (fun x => .obj 60 (nsC x)) (fun _ k => zQ (setP true k)) := fun l hf h => by
  have c := set_x (k := (⟨0, h⟩ : Ix l)) (c := 0) (d := 0) hf true
  rw [z_bind]
  refine MX.of (fn := Tryz.f79) Tryz.call79 Tryz.func79 rfl Tryz.ntmps79 Tryz.results79 rfl rfl (by intro a; rfl) (by intro b; exact ⟨rfl, by simp [HO.one, okL, C.ok, okA]⟩) ?_
  repeat' (first | (with_reducible first | apply y_e | refine v_rgl ?_) | ((with_reducible apply i_dv); first | refine t_v AS.v ?_ | refine t_c1 (hP := c) (k1 := fun x k h => ?_) (k2 := fun e h σx => ?_)) | ((with_reducible apply i_ds); refine t_s AS.s ?_) | ((with_reducible refine i_rx ?_); first | (with_reducible refine x_pan ?_) | refine l_d0 (k := ?_)) | fail)
  · exact ⟨(), (_, (_, 0)), by rw [h]; rfl, rfl, le_id rfl, le_id rfl⟩
  · rw [h]; rfl
theorem mod_nz : NZs (fun _ k => modQ k) := fun _ k => modQ_nz k
theorem nam_nz : NZs (fun _ k => zQ (setP true k)) := fun _ k => zQ_nz (set_nz _ _)
theorem con_nz (v : Bool) : NZs (fun _ k => zQ (constrP v k)) := fun _ k => zQ_nz (constr_nz _ _)
theorem parse_p (src : ByteArray) : Pure Tryz.prog 14 [.c (sS src)] (rtV (.agg (moC Mo.zero)) (fun x => .agg (moC x)) (parseP src)) := by
  have hb : (HO.obj 25 (moC Mo.zero)).one = true := by rfl
  have rn := run_mn (src := src) hb pcl_x mod_nz
  cases hp : parseP src with
  | ok x =>
    have mp := rn.1 x hp
    have ho : (HO.obj 25 (moC x)).one = true := by simp [HO.one, okA, okL, C.ok]
    show Pure _ _ _ (.tup [.agg (moC x), .agg (faC Fa.zero)])
    refine fn1 (fn := Tryz.f14) Tryz.call14 Tryz.func14 rfl Tryz.ntmps14 Tryz.results14 rfl (by first | rfl | simp [V.ok, okL, C.ok, okA, okV]) ?_
    repeat' (first | (with_reducible first | apply AW.seq | apply AW.skip | apply AW.ret | apply q_then | apply y_e | refine v_rgl ?_ | refine v_drb ?_) | ((with_reducible apply i_dv); first | refine t_w (u_run mp ⟨fun d => one_within ho, fun ns => one_ren ho⟩ hb (by simp [V.ok, okA])) ?_ | refine t_v AS.v ?_ | refine t_w AS.w ?_) | ((with_reducible apply i_ds); refine t_s AS.s ?_) | ((with_reducible refine i_aw ?_); refine v_no ?_) | ((with_reducible refine i_rt ?_); (((refine k_cc ?_ ?_); all_goals (with_reducible (apply un_a))))) | (refine ⟨by decide +kernel, ?_⟩) | fail)
    all_goals first | exact k_2c (ux_sts _ _) (un_af _) | exact k_2c rfl (un_af _) | (simp only [unA]; done) | (simp only [V.un, C.un, unA]; done) | rfl
  | error f =>
    obtain ⟨h0, o, ho, mp⟩ := rn.2 f hp
    show Pure _ _ _ (.tup [.agg (moC Mo.zero), .agg (faC f)])
    refine fn1 (fn := Tryz.f14) Tryz.call14 Tryz.func14 rfl Tryz.ntmps14 Tryz.results14 rfl (by first | rfl | simp [V.ok, okL, C.ok, okA, okV]) ?_
    repeat' (first | (with_reducible first | apply AW.seq | apply AW.ret | apply q_then | apply q_thenR | apply y_e | refine v_rgl ?_ | refine v_drb ?_) | ((with_reducible apply i_dv); first | refine t_w (u_run mp ho hb (by simp [V.ok, okA])) ?_ | refine t_v AS.v ?_ | refine t_w AS.w ?_) | ((with_reducible apply i_ds); refine t_s AS.s ?_) | ((with_reducible refine i_aw ?_); ((refine v_cond (fun hc => ?_) (fun hc => ?_); all_goals (try (exfalso; simp [*] at hc; done))))) | ((with_reducible refine i_rt ?_); (((refine k_cc ?_ ?_); all_goals (with_reducible (apply un_a))))) | (refine ⟨by decide +kernel, ?_⟩) | fail)
    all_goals ((simp only [unA]; done))
theorem names_e (src : ByteArray) : Pure Tryz.prog 34 [.c (sS src)] (rtV (.agg (nsC NS.zero)) (fun x => .agg (nsC x)) (namesT src)) := by
  have hb : (HO.obj 60 (nsC NS.zero)).one = true := by rfl
  have rn := run_mn (src := src) hb ncl_x nam_nz
  cases hp : namesT src with
  | ok x =>
    have mp := rn.1 x hp
    have ho : (HO.obj 60 (nsC x)).one = true := by simp [HO.one, okA, okL, C.ok]
    show Pure _ _ _ (.tup [.agg (nsC x), .agg (faC Fa.zero)])
    refine fn1 (fn := Tryz.f34) Tryz.call34 Tryz.func34 rfl Tryz.ntmps34 Tryz.results34 rfl (by first | rfl | simp [V.ok, okL, C.ok, okA, okV]) ?_
    repeat' (first | (with_reducible first | apply AW.seq | apply AW.skip | apply AW.ret | apply q_then | apply y_e | refine v_rgl ?_ | refine v_drb ?_) | ((with_reducible apply i_dv); first | refine t_w (u_run mp ⟨fun d => one_within ho, fun ns => one_ren ho⟩ hb (by simp [V.ok, okA])) ?_ | refine t_v AS.v ?_ | refine t_w AS.w ?_) | ((with_reducible apply i_ds); refine t_s AS.s ?_) | ((with_reducible refine i_aw ?_); refine v_no ?_) | ((with_reducible refine i_rt ?_); (((refine k_cc ?_ ?_); all_goals (with_reducible (apply un_a))))) | (refine ⟨by decide +kernel, ?_⟩) | fail)
    all_goals first | exact k_2c (ux_sts _ _) (un_af _) | exact k_2c rfl (un_af _) | (simp only [unA]; done) | (simp only [V.un, C.un, unA]; done) | rfl
  | error f =>
    obtain ⟨h0, o, ho, mp⟩ := rn.2 f hp
    show Pure _ _ _ (.tup [.agg (nsC NS.zero), .agg (faC f)])
    refine fn1 (fn := Tryz.f34) Tryz.call34 Tryz.func34 rfl Tryz.ntmps34 Tryz.results34 rfl (by first | rfl | simp [V.ok, okL, C.ok, okA, okV]) ?_
    repeat' (first | (with_reducible first | apply AW.seq | apply AW.ret | apply q_then | apply q_thenR | apply y_e | refine v_rgl ?_ | refine v_drb ?_) | ((with_reducible apply i_dv); first | refine t_w (u_run mp ho hb (by simp [V.ok, okA])) ?_ | refine t_v AS.v ?_ | refine t_w AS.w ?_) | ((with_reducible apply i_ds); refine t_s AS.s ?_) | ((with_reducible refine i_aw ?_); ((refine v_cond (fun hc => ?_) (fun hc => ?_); all_goals (try (exfalso; simp [*] at hc; done))))) | ((with_reducible refine i_rt ?_); (((refine k_cc ?_ ?_); all_goals (with_reducible (apply un_a))))) | (refine ⟨by decide +kernel, ?_⟩) | fail)
    all_goals ((simp only [unA]; done))
end Am
namespace Am
open Tk Go.RowKit
set_option maxRecDepth 100000
set_option maxHeartbeats 4000000
def RetW (P : Program) (rl : List ResultVar) (ty : Nat) (cs : List C) : Exit → St → Prop := fun e σ => (e = .ret ∨ e = .normal) ∧ ∃ n cs0, σ.hp n = some (.obj ty cs0) ∧ unL cs0 = cs ∧ ∃ vs, ARes P σ rl vs ∧ one vs = .c (.ptr n 0)
theorem new1 [Tb] {P : Program} {f nt : Nat} {fn : Func} {c : Code} {rl : List ResultVar} {a0 : V} {ty : Nat} {cs : List C} (hc : Callable P f) (hf : P.funcs[f]? = some fn) (hb : fn.body = some c) (hn : fn.ntmps = nt) (hres : fn.results = rl.toArray) (hl : Nat.ble 1 nt = true) (hr : okL noN cs = true) (h : AW P nt c (RetW P rl ty cs) (mk [(0, a0)] [])) : NewC P f [a0] ty cs :=
  NewC.of hc hf hb hn (Nat.le_of_ble_eq_true hl) hr (by
    have e : (⟨fun i => [a0][i]?, fun _ => none⟩ : St) = mk [(0, a0)] [] := by
      congr 1
      funext i
      match i with
      | 0 => rfl
      | i + 1 => rfl
    rw [e, hres]; exact h)
theorem w_new {P : Program} {l : List (Nat × V)} {h : List (Nat × HO)} {ty t0 n : Nat} {cs cs0 : List C} (e : unL cs0 = cs) (h0 : Ev (evA (look l)) (.tmp t0) (.c (.ptr n 0)) := by exact .pl rfl) (hh : look h n = some (.obj ty cs0) := by rfl) : RetW P [.tmp t0] ty cs .ret (mk l h) := ⟨.inl rfl, n, cs0, hh, e, [_], .tmp h0 .nil, rfl⟩
def endQ {l : List Tok} (k : Ix l) (f : Fa) : Fa := if f.code = 0 ∧ (tk k).kind ≠ 0 then flt 9 (tk k) else f
abbrev tok0 : Tok := Tok.zero
def scnQ (src : ByteArray) : List Tok × Fa := match scanP src with
  | .ok l => (l, Fa.zero)
  | .error f => ([tok0], f)
theorem fine_0 : Fine [tok0] := ⟨by decide, by decide, fun k h => absurd (show (tk k).kind = 0 from by
    obtain ⟨i, hi⟩ := k
    have : i = 0 := by simp at hi; omega
    subst this; rfl) h, fun k h => by
    obtain ⟨i, hi⟩ := k
    have : i = 0 := by simp at hi; omega
    subst this; exact absurd h (show ¬ ((0 : Int) = 2) by decide)⟩
theorem scnQ_fine {src : ByteArray} {l : List Tok} {f : Fa} (hs : scnQ src = (l, f)) : Fine l := by
  unfold scnQ at hs
  cases hsc : scanP src with
  | ok ts =>
    rw [hsc] at hs
    injection hs with h1 h2
    subst h1
    exact scan_fine hsc
  | error g =>
    rw [hsc] at hs
    injection hs with h1 h2
    subst h1
    exact fine_0
theorem run_q {α : Type} {src : ByteArray} {l : List Tok} {f : Fa} (hs : scnQ src = (l, f)) (h0 : 0 < l.length) {sp : ∀ l : List Tok, Ix l → Except Fa (α × Ix l)} {t : α × (Ix l × Fa)} (h : RQ f (sp l ⟨0, h0⟩) t) (hz : NZ l (sp l ⟨0, h0⟩)) :
    (∀ x, (runP src fun l k => zQ (sp l k)) = .ok x → t.1 = x ∧ (endQ t.2.1 t.2.2).code = 0) ∧ ∀ g, (runP src fun l k => zQ (sp l k)) = .error g → g.code ≠ 0 ∧ endQ t.2.1 t.2.2 = g := by
  unfold scnQ at hs
  unfold runP
  cases hsc : scanP src with
  | error g =>
    rw [hsc] at hs
    injection hs with h1 h2
    subst h2
    refine ⟨fun x hx => (by cases hx), fun g' hg' => ?_⟩
    injection hg' with hg'
    subst hg'
    have hn := (scanP_nz src g hsc).1
    refine ⟨hn, ?_⟩
    rw [h.1 hn]
    unfold endQ
    rw [if_neg fun h => hn h.1]
  | ok ts =>
    rw [hsc] at hs
    injection hs with h1 h2
    subst h1 h2
    have h2 := h.2 rfl
    simp only [ok_bind, dif_pos h0]
    cases hp : sp ts ⟨0, h0⟩ with
    | error g =>
      rw [hp] at h2
      have h2 : t.2.2 = g := h2
      have hn := (hz g hp).1
      refine ⟨fun x hx => (by cases hx), fun g' hg' => ?_⟩
      have hg' : (Except.error g : Except Fa α) = .error g' := hg'
      injection hg' with hg'
      subst hg'
      refine ⟨hn, ?_⟩
      rw [h2]
      unfold endQ
      rw [if_neg fun h => hn h.1]
    | ok x =>
      rw [hp] at h2
      have h2 : t = (x.1, (x.2, Fa.zero)) := h2
      subst h2
      have e : (zQ (.ok x) >>= fun y => if (tk y.2.1).kind = 0 then .ok y.1 else .error (flt 9 (tk y.2.1)) : Except Fa α) = if (tk x.2).kind = 0 then .ok x.1 else .error (flt 9 (tk x.2)) := rfl
      rw [e]
      by_cases hk : (tk x.2).kind = 0
      · rw [if_pos hk]
        refine ⟨fun y hy => ?_, fun g hg => (by cases hg)⟩
        injection hy with hy
        refine ⟨hy, ?_⟩
        unfold endQ
        rw [if_neg fun h => h.2 hk]; rfl
      · rw [if_neg hk]
        refine ⟨fun y hy => (by cases hy), fun g hg => ?_⟩
        injection hg with hg
        refine ⟨by rw [← hg]; exact (by decide : (9 : Int) ≠ 0), ?_⟩
        unfold endQ
        rw [if_pos ⟨rfl, hk⟩]; exact hg
theorem q7end_x {l : List Tok} (k : Ix l) (f : Fa) (c : Int) : MX Tryz.prog 58 [(0, qsO k f c)] [.c (.ptr 0 0)] (.ok (endQ k f, endQ k f) : Except Fa (Fa × Fa)) (fun g => .agg (faC g)) (fun g => [(0, qsO k g c)]) pvS := by
  have nw := q7now_p (l := l) (k := k) (f := f) (c := c)
  have fa := q7failed_p (l := l) (k := k) (f := f) (c := c)
  have fl := q7fail_m (c := c) k f 9 (tk k)
  by_cases h : f.code = 0
  · have e1 : badF f 9 (tk k) = flt 9 (tk k) := bad_0 h
    rw [e1] at fl
    have e2 : (!decide (f.code = 0)) = false := by simp [h]
    rw [e2] at fa
    by_cases hk : (tk k).kind = 0
    · have e : endQ k f = f := by unfold endQ; rw [if_neg fun h => h.2 hk]
      rw [e]
      refine MX.of (fn := Tryz.f58) Tryz.call58 Tryz.func58 rfl Tryz.ntmps58 Tryz.results58 rfl rfl (by intro a; rfl) (by intro b; exact ⟨rfl, by simp [HO.one, okL, C.ok, okA]⟩) ?_
      repeat' (first | (with_reducible first | apply AW.seq | apply AW.skip | apply AW.ret | apply q_then | apply y_e | refine v_rgl ?_) | ((with_reducible apply i_dv); first | refine t_v AS.v ?_ | refine t_v (by first | exact u_eye (hP := nw) | exact u_eye (hP := fa)) ?_ | refine t_w AS.w ?_ | refine t_w (by exact u_m1 (hP := fl)) ?_) | ((with_reducible apply i_dg); first | refine t_f ?_ | refine t_m (hs := fun hg => AS.v) (k := ?_) | refine t_m (hs := fun hg => (by exact u_eye (hP := nw))) (k := ?_)) | ((with_reducible apply i_ds); refine t_s AS.s ?_) | ((with_reducible refine i_aw ?_); first | refine v_no ?_ | (refine v_cond (fun hc => ?_) (fun hc => ?_); all_goals (try (exfalso; simp [*] at hc; done)))) | ((with_reducible refine i_rx ?_); refine l_1c (k := ?_)) | fail)
      all_goals exact ⟨_, _, rfl, ux_faC _, le_id rfl⟩
    · have e : endQ k f = flt 9 (tk k) := by unfold endQ; rw [if_pos ⟨h, hk⟩]
      rw [e]
      refine MX.of (fn := Tryz.f58) Tryz.call58 Tryz.func58 rfl Tryz.ntmps58 Tryz.results58 rfl rfl (by intro a; rfl) (by intro b; exact ⟨rfl, by simp [HO.one, okL, C.ok, okA]⟩) ?_
      repeat' (first | (with_reducible first | apply AW.seq | apply AW.skip | apply AW.ret | apply q_then | apply y_e | refine v_rgl ?_) | ((with_reducible apply i_dv); first | refine t_v AS.v ?_ | refine t_v (by first | exact u_eye (hP := nw) | exact u_eye (hP := fa)) ?_ | refine t_w AS.w ?_ | refine t_w (by exact u_m1 (hP := fl)) ?_) | ((with_reducible apply i_dg); first | refine t_f ?_ | refine t_m (hs := fun hg => AS.v) (k := ?_) | refine t_m (hs := fun hg => (by exact u_eye (hP := nw))) (k := ?_)) | ((with_reducible apply i_ds); refine t_s AS.s ?_) | ((with_reducible refine i_aw ?_); first | refine v_no ?_ | (refine v_cond (fun hc => ?_) (fun hc => ?_); all_goals (try (exfalso; simp [*] at hc; done)))) | ((with_reducible refine i_rx ?_); refine l_1c (k := ?_)) | fail)
      all_goals exact ⟨_, _, rfl, ux_faC _, le_id rfl⟩
  · have e2 : (!decide (f.code = 0)) = true := by simp [h]
    rw [e2] at fa
    have e : endQ k f = f := by unfold endQ; rw [if_neg fun h' => h h'.1]
    rw [e]
    refine MX.of (fn := Tryz.f58) Tryz.call58 Tryz.func58 rfl Tryz.ntmps58 Tryz.results58 rfl rfl (by intro a; rfl) (by intro b; exact ⟨rfl, by simp [HO.one, okL, C.ok, okA]⟩) ?_
    repeat' (first | (with_reducible first | apply AW.seq | apply AW.skip | apply AW.ret | apply q_then | apply y_e | refine v_rgl ?_) | ((with_reducible apply i_dv); first | refine t_v AS.v ?_ | refine t_v (by first | exact u_eye (hP := nw) | exact u_eye (hP := fa)) ?_ | refine t_w AS.w ?_ | refine t_w (by exact u_m1 (hP := fl)) ?_) | ((with_reducible apply i_dg); first | refine t_f ?_ | refine t_m (hs := fun hg => AS.v) (k := ?_) | refine t_m (hs := fun hg => (by exact u_eye (hP := nw))) (k := ?_)) | ((with_reducible apply i_ds); refine t_s AS.s ?_) | ((with_reducible refine i_aw ?_); first | refine v_no ?_ | (refine v_cond (fun hc => ?_) (fun hc => ?_); all_goals (try (exfalso; simp [*] at hc; done)))) | ((with_reducible refine i_rx ?_); refine l_1c (k := ?_)) | fail)
    all_goals exact ⟨_, _, rfl, ux_faC _, le_id rfl⟩
theorem q7scanned_n {src : ByteArray} {l : List Tok} {f : Fa} (hs : scnQ src = (l, f)) (h0 : 0 < l.length) : NewC Tryz.prog 52 [.c (sS src)] 139 (qsC ⟨l, (((⟨0, h0⟩ : Ix l).1 : Nat) : Int), f, 0⟩) := by
  have sc := qscan_p src
  unfold scnQ at hs
  cases hsc : scanP src with
  | ok ts =>
    rw [hsc] at hs sc
    injection hs with h1 h2
    subst h1 h2
    have sc : Pure _ _ _ (.tup [.c (.lst none 4 (ts.map tkC)), .agg (faC Fa.zero)]) := sc
    refine new1 (fn := Tryz.f52) Tryz.call52 Tryz.func52 rfl Tryz.ntmps52 Tryz.results52 rfl (by simp [okL, C.ok, okA]) ?_
    repeat' (first | (with_reducible first | apply AW.seq | apply AW.skip | apply AW.ret | apply q_then | apply q_thenR | apply y_e | refine v_rgl ?_) | ((with_reducible apply i_dv); first | refine t_v AS.v ?_ | refine t_v (by exact u_call (hP := sc)) ?_ | refine t_w AS.w ?_) | ((with_reducible apply i_ds); refine t_s AS.s ?_) | ((with_reducible refine i_aw ?_); first | refine v_no ?_ | (refine v_cond (fun hc => ?_) (fun hc => ?_); all_goals (try (exfalso; simp [*] at hc; done)))) | fail)
    all_goals first | (refine w_new ?_ (.pl rfl) rfl; first | rfl | (simp only [unA]; done) | (simp only [unA]; rfl)) | (exfalso; simp_all; done) | trace_state
  | error g =>
    rw [hsc] at hs sc
    injection hs with h1 h2
    subst h1 h2
    have sc : Pure _ _ _ (.tup [.c .nil, .agg (faC g)]) := sc
    have hg := (scanP_nz src g hsc).1
    refine new1 (fn := Tryz.f52) Tryz.call52 Tryz.func52 rfl Tryz.ntmps52 Tryz.results52 rfl (by simp [okL, C.ok, okA]) ?_
    repeat' (first | (with_reducible first | apply AW.seq | apply AW.skip | apply AW.ret | apply q_then | apply q_thenR | apply y_e | refine v_rgl ?_) | ((with_reducible apply i_dv); first | refine t_v AS.v ?_ | refine t_v (by exact u_call (hP := sc)) ?_ | refine t_w AS.w ?_) | ((with_reducible apply i_ds); refine t_s AS.s ?_) | ((with_reducible refine i_aw ?_); first | refine v_no ?_ | (refine v_cond (fun hc => ?_) (fun hc => ?_); all_goals (try (exfalso; simp [*] at hc; done)))) | fail)
    all_goals ((refine w_new ?_ (.pl rfl) rfl; rfl))
theorem q7end_m {l : List Tok} (k : Ix l) (f : Fa) (c : Int) : MNL Tryz.prog 58 [(0, qsO k f c)] [.c (.ptr 0 0)] (.agg (faC (endQ k f))) [(0, qsO k (endQ k f) c)] := (q7end_x k f c).ok _ _ rfl
end Am
end Go.Proofs.YtkpodagbefnebaaGreatDoor
