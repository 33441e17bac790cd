import Derived.Test.YtkpodagbefnebaaGreatDoorYd22
import Derived.Test.YtkpodagbefnebaaGreatDoorYd20
import Derived.Test.YtkpodagbefnebaaGreatDoorYd24
import Derived.Test.YtkpodagbefnebaaGreatDoorYd16
import Derived.Laws.StructEq
set_option linter.unusedSimpArgs false
set_option linter.unusedVariables false
set_option linter.unusedSectionVars false
namespace Go.Proofs.YtkpodagbefnebaaGreatDoor
namespace Am
open Tk Go.RowKit
set_option maxRecDepth 100000
set_option maxHeartbeats 4000000
section
variable {ρ : Operand → Option V} {H : Nat → Option HO} {d : Option Nat} {ty : TypeId} {pos : String} {af : Array Edge} {gu : Option (Nat × Bool)} {x : Operand}
theorem u_asS {f : Fa} (hx : Ev ρ x (.c (.sc (pvF 127 f))) := by exact .pl rfl) (hs : (f.name.size ≤ 9223372036854775807) := by assumption) : AS Tryz.prog ρ H ⟨d, .typeAssert x 20 127 true, ty, pos, af, gu⟩ ⟨.tup [.agg (faC f), .c (sB true)], [], []⟩ :=
  a_assert (us := [.int .i64 f.code, .int .i64 f.pos.line, .int .i64 f.pos.col, .string f.name]) hx (by simp [scal, hs]) (fun w => by kernel_rfl)
end
abbrev ftB (f : Fa) : List (Nat × HO) := [(2004, .obj 30 (faC f))]
theorem rcatch_p (f g : Fa) (hs : f.name.size ≤ 9223372036854775807) : MD Tryz.prog 101 [2004] (look (ftB g)) (.panicking [{ v := pvS f, recovered := false }]) (.panicking [{ v := pvS f, recovered := true }]) (look (ftB f)) := by
  refine MD.of (fn := Tryz.f101) (t := 4) (s := 1) (.inl ⟨rfl, rfl⟩) Tryz.func101 rfl Tryz.ntmps101 (fun _ _ => rfl) rfl rfl (fun _ _ => rfl) rfl rfl (by decide) (by decide) (by decide) rfl rfl (by simp [scal, hs]) ?_
  repeat' (first | (with_reducible first | apply AW.seq | apply AW.skip | apply q_then | apply y_e | refine v_rgl ?_) | ((with_reducible apply i_dv); first | refine t_v u_someI ?_ | refine t_v u_asS ?_ | refine t_v AS.v ?_ | refine t_w AS.w ?_) | ((with_reducible apply i_ds); refine t_s AS.s ?_) | ((with_reducible refine i_aw ?_); first | refine v_yes ?_ | refine v_no ?_) | fail)
  all_goals (refine ⟨.inr rfl, fun n hn => ?_⟩; simp only [List.mem_cons, List.not_mem_nil, or_false] at hn; subst hn; rfl)
theorem rcatch_i (g : Fa) : MD Tryz.prog 101 [2004] (look (ftB g)) .returning .returning (look (ftB g)) := by
  refine MD.of (fn := Tryz.f101) (t := 4) (s := 1) (older := []) (.inr ⟨rfl, rfl, rfl⟩) Tryz.func101 rfl Tryz.ntmps101 (fun _ _ => rfl) rfl rfl (fun _ _ => rfl) rfl rfl (by decide) (by decide) (by decide) rfl rfl rfl ?_
  repeat' (first | (with_reducible first | apply AW.seq | apply AW.skip | apply q_then | apply y_e | refine v_rgl ?_) | ((with_reducible apply i_dv); first | refine t_v u_noI ?_ | refine t_v AS.v ?_) | ((with_reducible refine i_aw ?_); refine v_no ?_) | fail)
  all_goals (refine ⟨.inr rfl, fun n hn => ?_⟩; simp only [List.mem_cons, List.not_mem_nil, or_false] at hn; subst hn; rfl)
theorem ftB_ok {f : Fa} {h : List (Nat × HO)} (e : look h 2004 = some (.obj 30 (faC f))) : ∀ m ∈ [2004], ∃ ob, look h m = some ob ∧ plainO ob = true ∧ look (ftB f) m = some ob := fun m hn => by
  simp only [List.mem_cons, List.not_mem_nil, or_false] at hn
  subst hn
  exact ⟨_, e, by simp [plainO, okA], rfl⟩
theorem ftB_pl {f : Fa} : ∀ m ∈ [2004], ∃ ob, look (ftB f) m = some ob ∧ plainO ob = true := fun m hn => by
  simp only [List.mem_cons, List.not_mem_nil, or_false] at hn
  subst hn
  exact ⟨_, rfl, by simp [plainO, okA]⟩
theorem one_af (f : Fa) : (one [V.agg (faC f)]).un = .agg (faC f) := un_af f
section
variable {α : Type} {bx : HO} {B : α → HO} {sp : ∀ l : List Tok, Ix l → Except Fa (α × (Ix l × Nat))} {g : Nat} {src : ByteArray}
def RunOk (g : Nat) (bx : HO) (B : α → HO) (sp : ∀ l : List Tok, Ix l → Except Fa (α × (Ix l × Nat))) : Prop :=
  ∀ (l : List Tok) (_ : Fine l) (h : 0 < l.length), MX Tryz.prog g [(0, psO (⟨0, h⟩ : Ix l) 0 0), (1001, bx)] [.c (.ptr 0 0), .c (.ptr 1001 0)] (sp l ⟨0, h⟩ >>= fun x => .ok ((), x) : Except Fa (Unit × (α × (Ix l × Nat)))) (fun _ => .tup []) (fun b => [(0, psO b.2.1 b.2.2 0), (1001, B b.1)]) pvS
theorem run_scan {f : Fa} (hsc : scanP src = .error f) : MNL Tryz.prog 48 [(1001, bx)] [.c (sS src), .c (.fn g [.ptr 1001 0])] (.agg (faC f)) [(1001, bx)] := by
  have sc := scan_p src
  rw [hsc] at sc
  have sc : Pure Tryz.prog 77 [.c (sS src)] (.tup [.c .nil, .agg (faC f)]) := sc
  have h0 := (scanP_nz src f hsc).1
  refine MNL.ofD (fn := Tryz.f48) (fc := 101) (Nc := [2004]) (sl := [(0, .c (sS src)), (1, .c (.fn g [.ptr 1001 0]))]) Tryz.call48 Tryz.call101 Tryz.func48 rfl Tryz.ntmps48 Tryz.results48 rfl rfl (by decide) ?_
  refine AWD.seq ?_
  repeat' (first | (with_reducible first | apply q_then | apply y_e | refine v_rgl ?_) | ((with_reducible apply i_dv); refine t_w (a_allocK 2004 (by rfl) (by exact zwT_ok rfl)) ?_) | fail)
  refine AWD.seq ?_
  repeat' (first | (with_reducible first | apply q_then | apply y_e | refine v_rgl ?_) | ((with_reducible apply i_dv); first | refine t_v AS.v ?_ | refine t_v (by exact u_call (hP := sc)) ?_) | ((with_reducible apply i_ds); refine t_s AS.s ?_) | fail)
  refine AWD.seq ?_
  repeat' (first | (with_reducible first | apply AW.seq | apply AW.ret | apply q_then | apply q_thenR | apply y_e | refine v_rgl ?_) | ((with_reducible apply i_dv); refine t_v AS.v ?_) | ((with_reducible apply i_ds); refine t_s AS.s ?_) | ((with_reducible refine i_aw ?_); ((refine v_cond (fun hc => ?_) (fun hc => ?_); all_goals (try (exfalso; simp [*] at hc; done))))) | fail)
  exact n_c (one_af _) (fun n hn => by rw [List.mem_singleton.1 hn]; rfl)
theorem run_ok {l : List Tok} (hsc : scanP src = .ok l) (hbx : bx.one = true) (hg : RunOk g bx B sp) (h : 0 < l.length) {a : α} {k' : Ix l} {c' : Nat} (hsp : sp l ⟨0, h⟩ = .ok (a, (k', c'))) (h0 : (tk k').kind = 0) :
    MNL Tryz.prog 48 [(1001, bx)] [.c (sS src), .c (.fn g [.ptr 1001 0])] (.agg (faC Fa.zero)) [(1001, B a)] := by
  have hf := scan_fine hsc
  have sc := scan_p src
  rw [hsc] at sc
  have sc : Pure Tryz.prog 77 [.c (sS src)] (.tup [.c (.lst none 4 (l.map tkC)), .agg (faC Fa.zero)]) := sc
  have hG := hg l hf h
  have hsp' : (sp l ⟨0, h⟩ >>= fun x => .ok ((), x) : Except Fa (Unit × (α × (Ix l × Nat)))) = .ok ((), (a, (k', c'))) := by rw [hsp]; rfl
  generalize (sp l ⟨0, h⟩ >>= fun x => .ok ((), x) : Except Fa (Unit × (α × (Ix l × Nat)))) = q at hG hsp'
  subst hsp'
  clear hsp
  refine MNL.ofD (fn := Tryz.f48) (fc := 101) (Nc := [2004]) (sl := [(0, .c (sS src)), (1, .c (.fn g [.ptr 1001 0]))]) Tryz.call48 Tryz.call101 Tryz.func48 rfl Tryz.ntmps48 Tryz.results48 rfl rfl (by decide) ?_
  refine AWD.seq ?_
  repeat' (first | (with_reducible first | apply q_then | apply y_e | refine v_rgl ?_) | ((with_reducible apply i_dv); refine t_w (a_allocK 2004 (by rfl) (by exact zwT_ok rfl)) ?_) | fail)
  refine AWD.seq ?_
  repeat' (first | (with_reducible first | apply q_then | apply y_e | refine v_rgl ?_) | ((with_reducible apply i_dv); first | refine t_v AS.v ?_ | refine t_v (by exact u_call (hP := sc)) ?_) | ((with_reducible apply i_ds); refine t_s AS.s ?_) | fail)
  refine AWD.seq ?_
  repeat' (first | (with_reducible first | apply AW.seq | apply AW.skip | apply q_then | apply y_e | refine v_rgl ?_) | ((with_reducible apply i_dv); refine t_v AS.v ?_) | ((with_reducible refine i_aw ?_); refine v_no ?_) | fail)
  refine AWD.defer (l := [_]) (by decide) rfl (by decide) ?_
  repeat' (first | (with_reducible first | apply AW.seq | apply AW.skip | apply q_then | apply y_e | refine v_rgl ?_) | ((with_reducible apply i_dv); refine t_v AS.v ?_) | ((with_reducible refine i_aw ?_); refine v_no ?_) | fail)
  refine ⟨.pl rfl, ?_⟩
  repeat' ((fail_if_success (with_reducible refine reg_at 7 ?_)); (first | (with_reducible first | apply AW.seq | apply q_then | apply q_thenP | apply y_e | refine v_rgl ?_) | ((with_reducible apply i_dv); first | refine t_v AS.v ?_ | refine t_w AS.w ?_ | refine t_cf (hP := hG) (k1 := fun x k h => ?_) (k2 := fun e h => ?_)) | fail))
  · injection h with h
    injection h with h1 h2
    subst h2
    repeat' (first | (with_reducible first | apply AW.seq | apply AW.skip | apply AW.ret | apply q_then | apply y_e | refine v_rgl ?_) | ((with_reducible apply i_dv); first | refine t_v AS.v ?_ | refine t_v (by exact u_eye (hP := next_p)) ?_) | ((with_reducible apply i_ds); refine t_s AS.s ?_) | ((with_reducible refine i_aw ?_); ((refine v_cond (fun hc => ?_) (fun hc => ?_); all_goals (try (exfalso; simp [*] at hc; done))))) | fail)
    exact RetD.mk (bx := ftB Fa.zero) (bx' := ftB Fa.zero) (.inl ⟨.inl rfl, rfl⟩) rfl (rcatch_i _) rfl (ftB_ok rfl) ftB_pl (n_c (one_af _) fun n hn => by rw [List.mem_singleton.1 hn]; rfl)
  · cases h
theorem run_bad {l : List Tok} (hsc : scanP src = .ok l) (hbx : bx.one = true) (hg : RunOk g bx B sp) (h : 0 < l.length) {a : α} {k' : Ix l} {c' : Nat} (hsp : sp l ⟨0, h⟩ = .ok (a, (k', c'))) (h0 : ¬ (tk k').kind = 0) :
    MNL Tryz.prog 48 [(1001, bx)] [.c (sS src), .c (.fn g [.ptr 1001 0])] (.agg (faC (flt 9 (tk k')))) [(1001, B a)] := by
  have hf := scan_fine hsc
  have ht := scan_tx hsc (tk k') (List.getElem_mem _)
  have sc := scan_p src
  rw [hsc] at sc
  have sc : Pure Tryz.prog 77 [.c (sS src)] (.tup [.c (.lst none 4 (l.map tkC)), .agg (faC Fa.zero)]) := sc
  have hG := hg l hf h
  have hsp' : (sp l ⟨0, h⟩ >>= fun x => .ok ((), x) : Except Fa (Unit × (α × (Ix l × Nat)))) = .ok ((), (a, (k', c'))) := by rw [hsp]; rfl
  generalize (sp l ⟨0, h⟩ >>= fun x => .ok ((), x) : Except Fa (Unit × (α × (Ix l × Nat)))) = q at hG hsp'
  subst hsp'
  clear hsp
  refine MNL.ofD (fn := Tryz.f48) (fc := 101) (Nc := [2004]) (sl := [(0, .c (sS src)), (1, .c (.fn g [.ptr 1001 0]))]) Tryz.call48 Tryz.call101 Tryz.func48 rfl Tryz.ntmps48 Tryz.results48 rfl rfl (by decide) ?_
  refine AWD.seq ?_
  repeat' (first | (with_reducible first | apply q_then | apply y_e | refine v_rgl ?_) | ((with_reducible apply i_dv); refine t_w (a_allocK 2004 (by rfl) (by exact zwT_ok rfl)) ?_) | fail)
  refine AWD.seq ?_
  repeat' (first | (with_reducible first | apply q_then | apply y_e | refine v_rgl ?_) | ((with_reducible apply i_dv); first | refine t_v AS.v ?_ | refine t_v (by exact u_call (hP := sc)) ?_) | ((with_reducible apply i_ds); refine t_s AS.s ?_) | fail)
  refine AWD.seq ?_
  repeat' (first | (with_reducible first | apply AW.seq | apply AW.skip | apply q_then | apply y_e | refine v_rgl ?_) | ((with_reducible apply i_dv); refine t_v AS.v ?_) | ((with_reducible refine i_aw ?_); refine v_no ?_) | fail)
  refine AWD.defer (l := [_]) (by decide) rfl (by decide) ?_
  repeat' (first | (with_reducible first | apply AW.seq | apply AW.skip | apply q_then | apply y_e | refine v_rgl ?_) | ((with_reducible apply i_dv); refine t_v AS.v ?_) | ((with_reducible refine i_aw ?_); refine v_no ?_) | fail)
  refine ⟨.pl rfl, ?_⟩
  repeat' ((fail_if_success (with_reducible refine reg_at 7 ?_)); (first | (with_reducible first | apply AW.seq | apply q_then | apply q_thenP | apply y_e | refine v_rgl ?_) | ((with_reducible apply i_dv); first | refine t_v AS.v ?_ | refine t_w AS.w ?_ | refine t_cf (hP := hG) (k1 := fun x k h => ?_) (k2 := fun e h => ?_)) | fail))
  · injection h with h
    injection h with h1 h2
    subst h2
    repeat' (first | (with_reducible first | apply AW.seq | apply q_then | apply q_thenP | apply y_e | refine v_rgl ?_) | ((with_reducible apply i_dv); first | refine t_v AS.v ?_ | refine t_v (by exact u_eye (hP := next_p)) ?_ | refine t_qr (hP := fail_q _ _) (k := ?_)) | ((with_reducible refine i_aw ?_); ((refine v_cond (fun hc => ?_) (fun hc => ?_); all_goals (try (exfalso; simp [*] at hc; done))))) | fail)
    exact RetD.mk (bx := ftB Fa.zero) (bx' := ftB (flt 9 (tk k'))) (.inr ⟨_, rfl, rfl⟩) rfl (rcatch_p _ _ (show (tk k').text.size ≤ _ by omega)) rfl (ftB_ok rfl) ftB_pl (n_c (one_af _) fun n hn => by rw [List.mem_singleton.1 hn]; rfl)
  · cases h
theorem run_err {l : List Tok} (hsc : scanP src = .ok l) (hbx : bx.one = true) (hg : RunOk g bx B sp) (h : 0 < l.length) {f : Fa} (hsp : sp l ⟨0, h⟩ = .error f) (hs : f.name.size ≤ 9223372036854775807) :
    MNL Tryz.prog 48 [(1001, bx)] [.c (sS src), .c (.fn g [.ptr 1001 0])] (.agg (faC f)) [(1001, .lost)] := by
  have hf := scan_fine hsc
  have sc := scan_p src
  rw [hsc] at sc
  have sc : Pure Tryz.prog 77 [.c (sS src)] (.tup [.c (.lst none 4 (l.map tkC)), .agg (faC Fa.zero)]) := sc
  have hG := hg l hf h
  have hsp' : (sp l ⟨0, h⟩ >>= fun x => .ok ((), x) : Except Fa (Unit × (α × (Ix l × Nat)))) = .error f := by rw [hsp]; rfl
  generalize (sp l ⟨0, h⟩ >>= fun x => .ok ((), x) : Except Fa (Unit × (α × (Ix l × Nat)))) = q at hG hsp'
  subst hsp'
  clear hsp
  refine MNL.ofD (fn := Tryz.f48) (fc := 101) (Nc := [2004]) (sl := [(0, .c (sS src)), (1, .c (.fn g [.ptr 1001 0]))]) Tryz.call48 Tryz.call101 Tryz.func48 rfl Tryz.ntmps48 Tryz.results48 rfl rfl (by decide) ?_
  refine AWD.seq ?_
  repeat' (first | (with_reducible first | apply q_then | apply y_e | refine v_rgl ?_) | ((with_reducible apply i_dv); refine t_w (a_allocK 2004 (by rfl) (by exact zwT_ok rfl)) ?_) | fail)
  refine AWD.seq ?_
  repeat' (first | (with_reducible first | apply q_then | apply y_e | refine v_rgl ?_) | ((with_reducible apply i_dv); first | refine t_v AS.v ?_ | refine t_v (by exact u_call (hP := sc)) ?_) | ((with_reducible apply i_ds); refine t_s AS.s ?_) | fail)
  refine AWD.seq ?_
  repeat' (first | (with_reducible first | apply AW.seq | apply AW.skip | apply q_then | apply y_e | refine v_rgl ?_) | ((with_reducible apply i_dv); refine t_v AS.v ?_) | ((with_reducible refine i_aw ?_); refine v_no ?_) | fail)
  refine AWD.defer (l := [_]) (by decide) rfl (by decide) ?_
  repeat' (first | (with_reducible first | apply AW.seq | apply AW.skip | apply q_then | apply y_e | refine v_rgl ?_) | ((with_reducible apply i_dv); refine t_v AS.v ?_) | ((with_reducible refine i_aw ?_); refine v_no ?_) | fail)
  refine ⟨.pl rfl, ?_⟩
  repeat' ((fail_if_success (with_reducible refine reg_at 7 ?_)); (first | (with_reducible first | apply AW.seq | apply q_then | apply q_thenP | apply y_e | refine v_rgl ?_) | ((with_reducible apply i_dv); first | refine t_v AS.v ?_ | refine t_w AS.w ?_ | refine t_cf (hP := hG) (k1 := fun x k h => ?_) (k2 := fun e h => ?_)) | fail))
  · cases h
  · injection h with h
    subst h
    refine RetD.mk (bx := ftB Fa.zero) (bx' := ftB f) (.inr ⟨_, rfl, rfl⟩) rfl (rcatch_p _ _ hs) rfl (ftB_ok rfl) ftB_pl (n_c (one_af _) fun n hn => by rw [List.mem_singleton.1 hn]; rfl)
theorem run_mn (hbx : bx.one = true) (hg : RunOk g bx B sp) (hz : NZs sp) : (∀ a, runP src sp = .ok a → MNL Tryz.prog 48 [(1001, bx)] [.c (sS src), .c (.fn g [.ptr 1001 0])] (.agg (faC Fa.zero)) [(1001, B a)]) ∧
    ∀ f, runP src sp = .error f → f.code ≠ 0 ∧ ∃ o : HO, ((∀ d, o.within d = true) ∧ ∀ ns, o.ren ns = o) ∧ MNL Tryz.prog 48 [(1001, bx)] [.c (sS src), .c (.fn g [.ptr 1001 0])] (.agg (faC f)) [(1001, o)] := by
  refine ⟨fun a ha => ?_, fun f hf => ⟨runP_nz src hz hf, ?_⟩⟩
  · unfold runP at ha
    obtain ⟨l, hsc, ha⟩ := bind_ok.1 ha
    split at ha
    · rename_i h
      obtain ⟨⟨a', k', c'⟩, hsp, ha⟩ := bind_ok.1 ha
      dsimp only at ha
      split at ha
      · rename_i h0
        injection ha with ha
        subst ha
        exact run_ok hsc hbx hg h hsp h0
      · cases ha
    · cases ha
  · unfold runP at hf
    rcases bind_err hf with hsc | ⟨l, hsc, hf⟩
    · exact ⟨_, ⟨fun d => one_within hbx, fun ns => one_ren hbx⟩, run_scan hsc⟩
    · split at hf
      · rename_i h
        rcases bind_err hf with hsp | ⟨⟨a', k', c'⟩, hsp, hf⟩
        · refine ⟨_, ⟨fun d => rfl, fun ns => rfl⟩, run_err hsc hbx hg h hsp ?_⟩
          rcases (hz l ⟨0, h⟩ f hsp).2 with e | ⟨t, ht, e⟩
          · rw [e]; decide
          · rw [e]; have := scan_tx hsc t ht; omega
        · dsimp only at hf
          split at hf
          · cases hf
          · rename_i h0
            injection hf with hf
            subst hf
            have ho : (B a').one = true := by
              have := ((hg l (scan_fine hsc) h).hO (a', (k', c'))).2
              simp only [List.all_cons, List.all_nil, Bool.and_true, Bool.and_eq_true] at this
              exact this.2
            exact ⟨_, ⟨fun d => one_within ho, fun ns => one_ren ho⟩, run_bad hsc hbx hg h hsp h0⟩
      · rename_i h
        exact absurd (scan_fine hsc).pos h
end
section
variable {P : Program} {ρ : Operand → Option V} {H : Nat → Option HO} {d : Option Nat} {ty : TypeId} {pos : String} {af : Array Edge} {gu : Option (Nat × Bool)} {x : Operand} {args : Array Operand} {ats : Array TypeId}
theorem u_run {f g n : Nat} {bx o : HO} {src : ByteArray} {r : V} (hP : MNL P f [(1001, bx)] [.c (sS src), .c (.fn g [.ptr 1001 0])] r [(1001, o)]) (hw : (∀ d, o.within d = true) ∧ ∀ ns, o.ren ns = o) (hb : bx.one = true) (hr : V.ok noN r = true) (hx : Ev ρ x (.c (.fn f [])) := by (first | (refine .wh rfl ?_; first | assumption | (rw [hp]; rfl) | (simp_all; done)) | exact .pl rfl)) (hv : EvL ρ args.toList [.c (sS src), .c (.fn g [.ptr n 0])] := by (first | ((repeat (first | exact .nil | ((apply EvL.cons); (· (first | (refine .wh rfl ?_; first | assumption | (rw [hp]; rfl) | (simp_all; done)) | exact .pl rfl))))); done) | fail)) (hn : H n = some bx := by rfl) :
    AS P ρ H ⟨d, .call { callee := .value x, args := args, argTypes := ats }, ty, pos, af, gu⟩ ⟨r, [(n, o)], [n]⟩ := by
  have hk : okB [1001] [(1001, n)] = true := by simp [okB, byT, swT]
  have hu : RnL [(1001, n)] [1001] ([.c (sS src), .c (.fn g [.ptr n 0])] ++ ([] : List C).map V.c) [.c (sS src), .c (.fn g [.ptr 1001 0])] := .cl rfl (.fn1 rfl rfl .nil)
  obtain ⟨k1, k2⟩ := hu.ok hk
  have hg : GvL [(1001, n)] H [(1001, bx)] := .cons hn hb .nil
  exact a_mn [(1001, n)] hx hv hP hk rfl k1 k2 hg.giv hg.within rfl (by simp [hw.1]) (okW_any _ hr) (renW_ok _ hr) (by simp [tak, byT, hw.2]) rfl
end
end Am
namespace Am
open Tk Go.RowKit
set_option maxRecDepth 100000
set_option maxHeartbeats 4000000
def rtV {α : Type} (z : V) (R : α → V) : Except Fa α → V
  | .ok a => .tup [R a, .agg (faC Fa.zero)]
  | .error f => .tup [z, .agg (faC f)]
theorem pcl_x : RunOk 49 (.obj 25 (moC Mo.zero)) (fun m => .obj 25 (moC m)) (fun _ k => modQ k) := fun l hf h => by
  have st := fun k => (sx_all hf (cnd_ok hf) (fuel l) (fuel l) (Nat.le_refl _)).ss 0 k 0 (by decide) (by unfold fuel; omega)
  have md := module_x (k := (⟨0, h⟩ : Ix l)) (c := 0) (d := 0) hf
  have e : (modQ (⟨0, h⟩ : Ix l) >>= fun x => .ok ((), x) : Except Fa (Unit × (Mo × (Ix l × Nat)))) = headP (⟨0, h⟩ : Ix l) >>= fun x => stmtsP tksK (fuel l) 0 [] x.2 0 >>= fun y => .ok ((), ({ x.1 with stmts := y.1 }, y.2)) := by
    unfold modQ
    cases headP (⟨0, h⟩ : Ix l) with
    | error f => rfl
    | ok x =>
      simp only [ok_bind]
      cases stmtsP tksK (fuel l) 0 [] x.2 0 with
      | error f => rfl
      | ok y => rfl
  rw [e]
  clear e
  refine MX.of (fn := Tryz.f49) Tryz.call49 Tryz.func49 rfl Tryz.ntmps49 Tryz.results49 rfl rfl (by intro a; rfl) (by intro b; exact ⟨rfl, by simp [HO.one, okL, C.ok, okA]⟩) ?_
  repeat' (first | (with_reducible first | apply AW.seq | apply q_then | apply q_thenP | apply y_e | refine v_rgl ?_) | ((with_reducible apply i_dv); first | refine t_v AS.v ?_ | refine t_c1 (hP := md) (k1 := fun x k h => ?_) (k2 := fun e h σx => ?_) | refine t_c1 (hP := st _) (k1 := fun x k h => ?_) (k2 := fun e h σx => ?_)) | ((with_reducible apply i_ds); refine t_s AS.s ?_) | ((with_reducible refine i_rx ?_); first | (with_reducible refine x_pan ?_) | refine l_d0 (k := ?_)) | fail)
  · rename_i h1
    exact ⟨(), (_, _), by rw [h1, ok_bind, h]; rfl, rfl, le_id rfl, le_id rfl⟩
  · rename_i h1
    rw [h1, ok_bind, h]; rfl
  · rw [h]; rfl
theorem z_bind {l : List Tok} {α : Type} (x : Except Fa (α × Ix l)) : (zQ x >>= fun y => .ok ((), y) : Except Fa (Unit × (α × (Ix l × Nat)))) = x >>= fun y => .ok ((), (y.1, (y.2, 0))) := by
  unfold zQ
  cases x <;> rfl
theorem ncl_x : RunOk 79 (.obj 60 (nsC NS.zero)) (fun x => .obj 60 (nsC x)) (fun _ k => zQ (setP true k)) := fun l hf h => by
  have c := set_x (k := (⟨0, h⟩ : Ix l)) (c := 0) (d := 0) hf true
  rw [z_bind]
  refine MX.of (fn := Tryz.f79) Tryz.call79 Tryz.func79 rfl Tryz.ntmps79 Tryz.results79 rfl rfl (by intro a; rfl) (by intro b; exact ⟨rfl, by simp [HO.one, okL, C.ok, okA]⟩) ?_
  repeat' (first | (with_reducible first | apply y_e | refine v_rgl ?_) | ((with_reducible apply i_dv); first | refine t_v AS.v ?_ | refine t_c1 (hP := c) (k1 := fun x k h => ?_) (k2 := fun e h σx => ?_)) | ((with_reducible apply i_ds); refine t_s AS.s ?_) | ((with_reducible refine i_rx ?_); first | (with_reducible refine x_pan ?_) | refine l_d0 (k := ?_)) | fail)
  · exact ⟨(), (_, (_, 0)), by rw [h]; rfl, rfl, le_id rfl, le_id rfl⟩
  · rw [h]; rfl
theorem mod_nz : NZs (fun _ k => modQ k) := fun _ k => modQ_nz k
theorem nam_nz : NZs (fun _ k => zQ (setP true k)) := fun _ k => zQ_nz (set_nz _ _)
theorem parse_p (src : ByteArray) : Pure Tryz.prog 14 [.c (sS src)] (rtV (.agg (moC Mo.zero)) (fun x => .agg (moC x)) (parseP src)) := by
  have hb : (HO.obj 25 (moC Mo.zero)).one = true := by rfl
  have rn := run_mn (src := src) hb pcl_x mod_nz
  cases hp : parseP src with
  | ok x =>
    have mp := rn.1 x hp
    have ho : (HO.obj 25 (moC x)).one = true := by simp [HO.one, okA, okL, C.ok]
    show Pure _ _ _ (.tup [.agg (moC x), .agg (faC Fa.zero)])
    refine fn1 (fn := Tryz.f14) Tryz.call14 Tryz.func14 rfl Tryz.ntmps14 Tryz.results14 rfl (by first | rfl | simp [V.ok, okL, C.ok, okA, okV]) ?_
    repeat' (first | (with_reducible first | apply AW.seq | apply AW.skip | apply AW.ret | apply q_then | apply y_e | refine v_rgl ?_ | refine v_drb ?_) | ((with_reducible apply i_dv); first | refine t_w (u_run mp ⟨fun d => one_within ho, fun ns => one_ren ho⟩ hb (by simp [V.ok, okA])) ?_ | refine t_v AS.v ?_ | refine t_w AS.w ?_) | ((with_reducible apply i_ds); refine t_s AS.s ?_) | ((with_reducible refine i_aw ?_); refine v_no ?_) | ((with_reducible refine i_rt ?_); (((refine k_cc ?_ ?_); all_goals (with_reducible (apply un_a))))) | (refine ⟨by decide +kernel, ?_⟩) | fail)
    all_goals first | exact k_2c (ux_sts _ _) (un_af _) | exact k_2c rfl (un_af _) | (simp only [unA]; done) | (simp only [V.un, C.un, unA]; done) | rfl
  | error f =>
    obtain ⟨h0, o, ho, mp⟩ := rn.2 f hp
    show Pure _ _ _ (.tup [.agg (moC Mo.zero), .agg (faC f)])
    refine fn1 (fn := Tryz.f14) Tryz.call14 Tryz.func14 rfl Tryz.ntmps14 Tryz.results14 rfl (by first | rfl | simp [V.ok, okL, C.ok, okA, okV]) ?_
    repeat' (first | (with_reducible first | apply AW.seq | apply AW.ret | apply q_then | apply q_thenR | apply y_e | refine v_rgl ?_ | refine v_drb ?_) | ((with_reducible apply i_dv); first | refine t_w (u_run mp ho hb (by simp [V.ok, okA])) ?_ | refine t_v AS.v ?_ | refine t_w AS.w ?_) | ((with_reducible apply i_ds); refine t_s AS.s ?_) | ((with_reducible refine i_aw ?_); ((refine v_cond (fun hc => ?_) (fun hc => ?_); all_goals (try (exfalso; simp [*] at hc; done))))) | ((with_reducible refine i_rt ?_); (((refine k_cc ?_ ?_); all_goals (with_reducible (apply un_a))))) | (refine ⟨by decide +kernel, ?_⟩) | fail)
    all_goals ((simp only [unA]; done))
theorem names_e (src : ByteArray) : Pure Tryz.prog 34 [.c (sS src)] (rtV (.agg (nsC NS.zero)) (fun x => .agg (nsC x)) (namesT src)) := by
  have hb : (HO.obj 60 (nsC NS.zero)).one = true := by rfl
  have rn := run_mn (src := src) hb ncl_x nam_nz
  cases hp : namesT src with
  | ok x =>
    have mp := rn.1 x hp
    have ho : (HO.obj 60 (nsC x)).one = true := by simp [HO.one, okA, okL, C.ok]
    show Pure _ _ _ (.tup [.agg (nsC x), .agg (faC Fa.zero)])
    refine fn1 (fn := Tryz.f34) Tryz.call34 Tryz.func34 rfl Tryz.ntmps34 Tryz.results34 rfl (by first | rfl | simp [V.ok, okL, C.ok, okA, okV]) ?_
    repeat' (first | (with_reducible first | apply AW.seq | apply AW.skip | apply AW.ret | apply q_then | apply y_e | refine v_rgl ?_ | refine v_drb ?_) | ((with_reducible apply i_dv); first | refine t_w (u_run mp ⟨fun d => one_within ho, fun ns => one_ren ho⟩ hb (by simp [V.ok, okA])) ?_ | refine t_v AS.v ?_ | refine t_w AS.w ?_) | ((with_reducible apply i_ds); refine t_s AS.s ?_) | ((with_reducible refine i_aw ?_); refine v_no ?_) | ((with_reducible refine i_rt ?_); (((refine k_cc ?_ ?_); all_goals (with_reducible (apply un_a))))) | (refine ⟨by decide +kernel, ?_⟩) | fail)
    all_goals first | exact k_2c (ux_sts _ _) (un_af _) | exact k_2c rfl (un_af _) | (simp only [unA]; done) | (simp only [V.un, C.un, unA]; done) | rfl
  | error f =>
    obtain ⟨h0, o, ho, mp⟩ := rn.2 f hp
    show Pure _ _ _ (.tup [.agg (nsC NS.zero), .agg (faC f)])
    refine fn1 (fn := Tryz.f34) Tryz.call34 Tryz.func34 rfl Tryz.ntmps34 Tryz.results34 rfl (by first | rfl | simp [V.ok, okL, C.ok, okA, okV]) ?_
    repeat' (first | (with_reducible first | apply AW.seq | apply AW.ret | apply q_then | apply q_thenR | apply y_e | refine v_rgl ?_ | refine v_drb ?_) | ((with_reducible apply i_dv); first | refine t_w (u_run mp ho hb (by simp [V.ok, okA])) ?_ | refine t_v AS.v ?_ | refine t_w AS.w ?_) | ((with_reducible apply i_ds); refine t_s AS.s ?_) | ((with_reducible refine i_aw ?_); ((refine v_cond (fun hc => ?_) (fun hc => ?_); all_goals (try (exfalso; simp [*] at hc; done))))) | ((with_reducible refine i_rt ?_); (((refine k_cc ?_ ?_); all_goals (with_reducible (apply un_a))))) | (refine ⟨by decide +kernel, ?_⟩) | fail)
    all_goals ((simp only [unA]; done))
end Am
namespace Am
open Tk Go.RowKit
set_option maxRecDepth 100000
set_option maxHeartbeats 4000000
theorem Po.ext' {a b : Po} (h1 : a.line = b.line) (h2 : a.col = b.col) : a = b := by cases a; cases b; simp_all
instance : DecidableEq Po := fun a b => if h : a.line = b.line ∧ a.col = b.col then isTrue (Po.ext' h.1 h.2) else isFalse fun e => h (e ▸ ⟨rfl, rfl⟩)
theorem Fa.ext' {a b : Fa} (h1 : a.code = b.code) (h2 : a.pos = b.pos) (h3 : a.name = b.name) : a = b := by cases a; cases b; simp_all
instance : DecidableEq Fa := fun a b => if h : a.code = b.code ∧ a.pos = b.pos ∧ a.name = b.name then isTrue (Fa.ext' h.1 h.2.1 h.2.2) else isFalse fun e => h (e ▸ ⟨rfl, rfl, rfl⟩)
theorem pos_in (d : Nat) (a b c e : Int) (w : World) : (Op.equalIn (d + 2) 28 (.agg #[.int .i64 a, .int .i64 b]) (.agg #[.int .i64 c, .int .i64 e])).run Tryz.prog w = .ok ((a == c) && (b == e)) w := by
  have hS : Tryz.prog.underlying 28 = some (.struct (Tryz.prog.fieldsOf 28)) := by kernel_rfl
  have hp : Tryz.prog.stoodInHeld 28 = false := by kernel_rfl
  rw [run_equalIn_agg w (d + 1) 28 _ _ hS hp]
  simp only [Program.fieldsOf, Tryz.underlying28]
  go_simp
  by_cases h1 : a = c <;> by_cases h2 : b = e <;> simp [h1, h2]
theorem fault_in (d : Nat) (a b c i e f : Int) (s t : ByteArray) (w : World) : (Op.equalIn (d + 3) 30 (.agg #[.int .i64 a, .int .i64 b, .int .i64 c, .string s]) (.agg #[.int .i64 i, .int .i64 e, .int .i64 f, .string t])).run Tryz.prog w = .ok ((a == i) && ((b == e) && (c == f)) && (s.toList == t.toList)) w := by
  have hS : Tryz.prog.underlying 30 = some (.struct (Tryz.prog.fieldsOf 30)) := by kernel_rfl
  have hp : Tryz.prog.stoodInHeld 30 = false := by kernel_rfl
  have hq := pos_in d b c e f w
  rw [run_equalIn_agg w (d + 2) 30 _ _ hS hp]
  simp only [Program.fieldsOf, Tryz.underlying30]
  go_simp
  by_cases h1 : a = i
  · by_cases h2 : b = e
    · by_cases h3 : c = f
      · by_cases h4 : s.toList = t.toList
        · simp [h1, h2, h3, h4]
        · simp [h1, h2, h3, h4]
      · simp [h1, h2, h3]
    · simp [h1, h2]
  · simp [h1]
theorem posB (a b : Po) : ((a.line == b.line) && (a.col == b.col)) = decide (a = b) := by
  rw [Bool.eq_iff_iff]
  simp only [Bool.and_eq_true, beq_iff_eq, decide_eq_true_eq]
  exact ⟨fun h => Po.ext' h.1 h.2, fun h => by rw [h]; exact ⟨rfl, rfl⟩⟩
theorem faultB (a b : Fa) : ((a.code == b.code) && ((a.pos.line == b.pos.line) && (a.pos.col == b.pos.col)) && (a.name.toList == b.name.toList)) = decide (a = b) := by
  rw [Bool.eq_iff_iff]
  simp only [Bool.and_eq_true, beq_iff_eq, decide_eq_true_eq, ba_toList]
  exact ⟨fun h => Fa.ext' h.1.1 (Po.ext' h.1.2.1 h.1.2.2) h.2, fun h => by rw [h]; exact ⟨⟨rfl, rfl, rfl⟩, rfl⟩⟩
section
variable {ρ : Operand → Option V} {H : Nat → Option HO} {d : Option Nat} {ty t2 : TypeId} {pos : String} {af : Array Edge} {gu : Option (Nat × Bool)} {x y : Operand}
theorem u_eqlPo {a b : Po} (hx : Ev ρ x (.agg (poC a)) := by (first | (refine .wh rfl ?_; first | assumption | (rw [hp]; rfl) | (simp_all; done)) | exact .pl rfl)) (hy : Ev ρ y (.agg (poC b)) := by (first | (refine .wh rfl ?_; first | assumption | (rw [hp]; rfl) | (simp_all; done)) | exact .pl rfl)) : AS Tryz.prog ρ H ⟨d, .binOp .eql 28 x y t2, ty, pos, af, gu⟩ ⟨.c (sB (decide (a = b))), [], []⟩ := by
  refine .still (x := .bool (decide (a = b))) (fun q hq w => ?_) fun _ => .sc rfl
  have h1 := hq x (by simp [Op.operands]) _ _ hx (Cq.agg (vs := [.int .i64 a.line, .int .i64 a.col]))
  have h2 := hq y (by simp [Op.operands]) _ _ hy (Cq.agg (vs := [.int .i64 b.line, .int .i64 b.col]))
  have h3 : (do eqGuard .eql 28 x y (.agg #[.int .i64 a.line, .int .i64 a.col]) (.agg #[.int .i64 b.line, .int .i64 b.col]); binOp .eql 28 (.agg #[.int .i64 a.line, .int .i64 a.col]) (.agg #[.int .i64 b.line, .int .i64 b.col]) : Sem Value).run Tryz.prog w = .ok (.bool (decide (a = b))) w := by
    have hz : (binOp .eql 28 (.agg #[.int .i64 a.line, .int .i64 a.col]) (.agg #[.int .i64 b.line, .int .i64 b.col])).run Tryz.prog w = .ok (.bool (decide (a = b))) w := by
      rw [run_eql_struct, show (10000 : Nat) = 9998 + 2 from rfl, pos_in 9998, ← posB]; rfl
    have hg : (eqGuard .eql 28 x y (.agg #[.int .i64 a.line, .int .i64 a.col]) (.agg #[.int .i64 b.line, .int .i64 b.col])).run Tryz.prog w = .ok () w := by simp [go_sem]
    rw [Sem.run_bind, hg, Result.andThen_ok, hz]
  unfold execOp
  simp only [h1, h2]
  simp only [Sem.run_bind] at h3 ⊢
  rw [h3]
  simp
theorem u_neqPo {a b : Po} (hx : Ev ρ x (.agg (poC a)) := by (first | (refine .wh rfl ?_; first | assumption | (rw [hp]; rfl) | (simp_all; done)) | exact .pl rfl)) (hy : Ev ρ y (.agg (poC b)) := by (first | (refine .wh rfl ?_; first | assumption | (rw [hp]; rfl) | (simp_all; done)) | exact .pl rfl)) : AS Tryz.prog ρ H ⟨d, .binOp .neq 28 x y t2, ty, pos, af, gu⟩ ⟨.c (sB (!decide (a = b))), [], []⟩ := by
  refine .still (x := .bool (!decide (a = b))) (fun q hq w => ?_) fun _ => .sc rfl
  have h1 := hq x (by simp [Op.operands]) _ _ hx (Cq.agg (vs := [.int .i64 a.line, .int .i64 a.col]))
  have h2 := hq y (by simp [Op.operands]) _ _ hy (Cq.agg (vs := [.int .i64 b.line, .int .i64 b.col]))
  have h3 : (do eqGuard .neq 28 x y (.agg #[.int .i64 a.line, .int .i64 a.col]) (.agg #[.int .i64 b.line, .int .i64 b.col]); binOp .neq 28 (.agg #[.int .i64 a.line, .int .i64 a.col]) (.agg #[.int .i64 b.line, .int .i64 b.col]) : Sem Value).run Tryz.prog w = .ok (.bool (!decide (a = b))) w := by
    have hz : (binOp .neq 28 (.agg #[.int .i64 a.line, .int .i64 a.col]) (.agg #[.int .i64 b.line, .int .i64 b.col])).run Tryz.prog w = .ok (.bool (!decide (a = b))) w := by
      rw [run_neq_struct, show (10000 : Nat) = 9998 + 2 from rfl, pos_in 9998, ← posB]; rfl
    have hg : (eqGuard .neq 28 x y (.agg #[.int .i64 a.line, .int .i64 a.col]) (.agg #[.int .i64 b.line, .int .i64 b.col])).run Tryz.prog w = .ok () w := by simp [go_sem]
    rw [Sem.run_bind, hg, Result.andThen_ok, hz]
  unfold execOp
  simp only [h1, h2]
  simp only [Sem.run_bind] at h3 ⊢
  rw [h3]
  simp
theorem u_eqlFa {a b : Fa} (hx : Ev ρ x (.agg (faC a)) := by (first | (refine .wh rfl ?_; first | assumption | (rw [hp]; rfl) | (simp_all; done)) | exact .pl rfl)) (hy : Ev ρ y (.agg (faC b)) := by (first | (refine .wh rfl ?_; first | assumption | (rw [hp]; rfl) | (simp_all; done)) | exact .pl rfl)) : AS Tryz.prog ρ H ⟨d, .binOp .eql 30 x y t2, ty, pos, af, gu⟩ ⟨.c (sB (decide (a = b))), [], []⟩ := by
  refine .still (x := .bool (decide (a = b))) (fun q hq w => ?_) fun _ => .sc rfl
  have h1 := hq x (by simp [Op.operands]) _ _ hx (Cq.agg (vs := [.int .i64 a.code, .int .i64 a.pos.line, .int .i64 a.pos.col, .string a.name]))
  have h2 := hq y (by simp [Op.operands]) _ _ hy (Cq.agg (vs := [.int .i64 b.code, .int .i64 b.pos.line, .int .i64 b.pos.col, .string b.name]))
  have h3 : (do eqGuard .eql 30 x y (.agg #[.int .i64 a.code, .int .i64 a.pos.line, .int .i64 a.pos.col, .string a.name]) (.agg #[.int .i64 b.code, .int .i64 b.pos.line, .int .i64 b.pos.col, .string b.name]); binOp .eql 30 (.agg #[.int .i64 a.code, .int .i64 a.pos.line, .int .i64 a.pos.col, .string a.name]) (.agg #[.int .i64 b.code, .int .i64 b.pos.line, .int .i64 b.pos.col, .string b.name]) : Sem Value).run Tryz.prog w = .ok (.bool (decide (a = b))) w := by
    have hz : (binOp .eql 30 (.agg #[.int .i64 a.code, .int .i64 a.pos.line, .int .i64 a.pos.col, .string a.name]) (.agg #[.int .i64 b.code, .int .i64 b.pos.line, .int .i64 b.pos.col, .string b.name])).run Tryz.prog w = .ok (.bool (decide (a = b))) w := by
      rw [run_eql_struct, show (10000 : Nat) = 9997 + 3 from rfl, fault_in 9997, ← faultB]; rfl
    have hg : (eqGuard .eql 30 x y (.agg #[.int .i64 a.code, .int .i64 a.pos.line, .int .i64 a.pos.col, .string a.name]) (.agg #[.int .i64 b.code, .int .i64 b.pos.line, .int .i64 b.pos.col, .string b.name])).run Tryz.prog w = .ok () w := by simp [go_sem]
    rw [Sem.run_bind, hg, Result.andThen_ok, hz]
  unfold execOp
  simp only [h1, h2]
  simp only [Sem.run_bind] at h3 ⊢
  rw [h3]
  simp
theorem u_neqFa {a b : Fa} (hx : Ev ρ x (.agg (faC a)) := by (first | (refine .wh rfl ?_; first | assumption | (rw [hp]; rfl) | (simp_all; done)) | exact .pl rfl)) (hy : Ev ρ y (.agg (faC b)) := by (first | (refine .wh rfl ?_; first | assumption | (rw [hp]; rfl) | (simp_all; done)) | exact .pl rfl)) : AS Tryz.prog ρ H ⟨d, .binOp .neq 30 x y t2, ty, pos, af, gu⟩ ⟨.c (sB (!decide (a = b))), [], []⟩ := by
  refine .still (x := .bool (!decide (a = b))) (fun q hq w => ?_) fun _ => .sc rfl
  have h1 := hq x (by simp [Op.operands]) _ _ hx (Cq.agg (vs := [.int .i64 a.code, .int .i64 a.pos.line, .int .i64 a.pos.col, .string a.name]))
  have h2 := hq y (by simp [Op.operands]) _ _ hy (Cq.agg (vs := [.int .i64 b.code, .int .i64 b.pos.line, .int .i64 b.pos.col, .string b.name]))
  have h3 : (do eqGuard .neq 30 x y (.agg #[.int .i64 a.code, .int .i64 a.pos.line, .int .i64 a.pos.col, .string a.name]) (.agg #[.int .i64 b.code, .int .i64 b.pos.line, .int .i64 b.pos.col, .string b.name]); binOp .neq 30 (.agg #[.int .i64 a.code, .int .i64 a.pos.line, .int .i64 a.pos.col, .string a.name]) (.agg #[.int .i64 b.code, .int .i64 b.pos.line, .int .i64 b.pos.col, .string b.name]) : Sem Value).run Tryz.prog w = .ok (.bool (!decide (a = b))) w := by
    have hz : (binOp .neq 30 (.agg #[.int .i64 a.code, .int .i64 a.pos.line, .int .i64 a.pos.col, .string a.name]) (.agg #[.int .i64 b.code, .int .i64 b.pos.line, .int .i64 b.pos.col, .string b.name])).run Tryz.prog w = .ok (.bool (!decide (a = b))) w := by
      rw [run_neq_struct, show (10000 : Nat) = 9997 + 3 from rfl, fault_in 9997, ← faultB]; rfl
    have hg : (eqGuard .neq 30 x y (.agg #[.int .i64 a.code, .int .i64 a.pos.line, .int .i64 a.pos.col, .string a.name]) (.agg #[.int .i64 b.code, .int .i64 b.pos.line, .int .i64 b.pos.col, .string b.name])).run Tryz.prog w = .ok () w := by simp [go_sem]
    rw [Sem.run_bind, hg, Result.andThen_ok, hz]
  unfold execOp
  simp only [h1, h2]
  simp only [Sem.run_bind] at h3 ⊢
  rw [h3]
  simp
end
end Am
namespace Am
open Tk Go.RowKit
set_option maxRecDepth 100000
set_option maxHeartbeats 4000000
def exS : Stm := { Stm.zero with kind := 12, op := 1, pos := ⟨1, 13⟩, source := ⟨false, false, false, [⟨#[97]⟩], []⟩, target := ⟨false, false, true, [⟨#[98]⟩], []⟩, cls := ⟨false, false, false, [⟨#[102, 105, 108, 101]⟩], []⟩, perms := ⟨false, false, false, [⟨#[114, 101, 97, 100]⟩, ⟨#[119, 114, 105, 116, 101]⟩], []⟩ }
theorem ex_1 : parseP ⟨#[109, 111, 100, 117, 108, 101, 32, 109, 32, 49, 59, 32, 97, 108, 108, 111, 119, 32, 97, 32, 123, 32, 98, 32, 115, 101, 108, 102, 32, 125, 32, 58, 32, 102, 105, 108, 101, 32, 123, 32, 114, 101, 97, 100, 32, 119, 114, 105, 116, 101, 32, 125, 59]⟩ = .ok ⟨⟨#[109]⟩, 1, [exS]⟩ := by kernel_rfl
theorem ex_2 : parseP ⟨#[109, 111, 100, 117, 108, 101, 32, 109, 32, 49, 59, 32, 97, 108, 108, 111, 119, 32, 115, 101, 108, 102, 32, 98, 32, 58, 32, 102, 105, 108, 101, 32, 114, 101, 97, 100, 59]⟩ = .error ⟨9, ⟨1, 19⟩, ⟨#[115, 101, 108, 102]⟩⟩ := by kernel_rfl
theorem ex_3 : parseP ⟨#[109, 111, 100, 117, 108, 101, 32, 109, 32, 49, 48, 48, 48, 48, 59]⟩ = .error ⟨3, ⟨1, 10⟩, ⟨#[49, 48, 48, 48, 48]⟩⟩ := by kernel_rfl
theorem ex_4 : namesT ⟨#[126, 32, 123, 32, 97, 32, 45, 32, 98, 32, 125]⟩ = .ok ⟨false, true, false, [⟨#[97]⟩], [⟨#[98]⟩]⟩ := by kernel_rfl
theorem alive_p : Pure Tryz.prog 13 [] (.c (sB true)) := by
  obtain ⟨m1, s1, e1, hm, hk, ho, hp, hs, hl⟩ : ∃ m s, parseP ⟨#[109, 111, 100, 117, 108, 101, 32, 109, 32, 49, 59, 32, 97, 108, 108, 111, 119, 32, 97, 32, 123, 32, 98, 32, 115, 101, 108, 102, 32, 125, 32, 58, 32, 102, 105, 108, 101, 32, 123, 32, 114, 101, 97, 100, 32, 119, 114, 105, 116, 101, 32, 125, 59]⟩ = .ok m ∧ m.stmts = [s] ∧ s.kind = 12 ∧ s.op = 1 ∧ s.pos = ⟨1, 13⟩ ∧ s.target.self = true ∧ s.perms.names.length = 2 := ⟨_, _, ex_1, rfl, rfl, rfl, rfl, rfl, rfl⟩
  obtain ⟨n1, e4, hn, hn1, hn2⟩ : ∃ n, namesT ⟨#[126, 32, 123, 32, 97, 32, 45, 32, 98, 32, 125]⟩ = .ok n ∧ n.nt = true ∧ n.names.length = 1 ∧ n.except.length = 1 := ⟨_, ex_4, rfl, rfl, rfl⟩
  have p1 := parse_p ⟨#[109, 111, 100, 117, 108, 101, 32, 109, 32, 49, 59, 32, 97, 108, 108, 111, 119, 32, 97, 32, 123, 32, 98, 32, 115, 101, 108, 102, 32, 125, 32, 58, 32, 102, 105, 108, 101, 32, 123, 32, 114, 101, 97, 100, 32, 119, 114, 105, 116, 101, 32, 125, 59]⟩
  have p2 := parse_p ⟨#[109, 111, 100, 117, 108, 101, 32, 109, 32, 49, 59, 32, 97, 108, 108, 111, 119, 32, 115, 101, 108, 102, 32, 98, 32, 58, 32, 102, 105, 108, 101, 32, 114, 101, 97, 100, 59]⟩
  have p3 := parse_p ⟨#[109, 111, 100, 117, 108, 101, 32, 109, 32, 49, 48, 48, 48, 48, 59]⟩
  have p4 := names_e ⟨#[126, 32, 123, 32, 97, 32, 45, 32, 98, 32, 125]⟩
  rw [e1] at p1
  rw [ex_2] at p2
  rw [ex_3] at p3
  rw [e4] at p4
  have p1 : Pure _ _ _ (.tup [.agg (moC m1), .agg (faC Fa.zero)]) := p1
  have p2 : Pure _ _ _ (.tup [.agg (moC Mo.zero), .agg (faC ⟨9, ⟨1, 19⟩, ⟨#[115, 101, 108, 102]⟩⟩)]) := p2
  have p3 : Pure _ _ _ (.tup [.agg (moC Mo.zero), .agg (faC ⟨3, ⟨1, 10⟩, ⟨#[49, 48, 48, 48, 48]⟩⟩)]) := p3
  have p4 : Pure _ _ _ (.tup [.agg (nsC n1), .agg (faC Fa.zero)]) := p4
  clear e1 e4
  have hg : (m1.stmts.map stC)[0]? = some (stC s1) := by rw [hm]; rfl
  have hml : m1.stmts.length = 1 := by rw [hm]; rfl
  refine fn0 (fn := Tryz.f13) Tryz.call13 Tryz.func13 rfl Tryz.ntmps13 Tryz.results13 rfl (by rfl) ?_
  repeat' (first | (with_reducible first | apply AW.seq | apply AW.skip | apply AW.ret | apply q_then | apply q_thenR | apply y_e | refine v_rgl ?_) | ((with_reducible apply i_dv); first | refine t_v AS.v ?_ | refine t_v (by first | exact u_call (hP := p1) | exact u_call (hP := p2) | exact u_call (hP := p3) | exact u_call (hP := p4)) ?_ | refine t_w AS.w ?_) | ((with_reducible apply i_dg); first | refine t_m (hs := fun hg => AS.v) (k := ?_) | refine t_m (hs := fun hg => (by first | exact u_neqFa | exact u_eqlPo)) (k := ?_)) | ((with_reducible apply i_ds); refine t_s AS.s ?_) | ((with_reducible refine i_aw ?_); ((refine v_cond (fun hc => ?_) (fun hc => ?_)))) | ((with_reducible refine i_rt ?_); refine k_b ?_) | fail)
  · exfalso
    simp [hml, Fa.zero] at hc
  · simp [hk, ho, hp, hs, hl, hn, hn1, hn2, Fa.zero]
end Am
end Go.Proofs.YtkpodagbefnebaaGreatDoor
