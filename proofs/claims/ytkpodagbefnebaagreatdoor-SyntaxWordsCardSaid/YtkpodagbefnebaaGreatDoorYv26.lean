import Derived.Test.YtkpodagbefnebaaGreatDoorYv22
import Derived.Test.YtkpodagbefnebaaGreatDoorYv23
set_option linter.unusedSimpArgs false
set_option linter.unusedVariables false
set_option linter.unusedSectionVars false
namespace Go.Proofs.YtkpodagbefnebaaGreatDoor
namespace Am
open Tk Go.RowKit
set_option maxRecDepth 100000
set_option maxHeartbeats 4000000
theorem keyw_p (s : ByteArray) : Pure Tryz.prog 32 [.c (sS s)] (.c (sB (kwB s.data.toList))) :=
  Pure.of_calls (vs := [.string s]) Tryz.call32 (.sc rfl) fun hs w => tKeyword_any s w
theorem kw_name {l : List UInt8} (h : kwB l = true) : nameB l = true := by
  have hall : ∀ x ∈ kwList, nameB x = true := by decide
  exact hall l (List.contains_iff_mem.1 h)
theorem cat_mod (s : ByteArray) : ((⟨#[109, 111, 100, 117, 108, 101, 32]⟩ : ByteArray) ++ s ++ ⟨#[32, 49, 59]⟩).data.toList = [109, 111, 100, 117, 108, 101] ++ 32 :: (s.data.toList ++ 32 :: ([49] ++ [59])) := by simp
theorem cat_ty (s : ByteArray) : ((⟨#[116, 121, 112, 101, 32]⟩ : ByteArray) ++ s ++ ⟨#[59]⟩).data.toList = [116, 121, 112, 101] ++ 32 :: (s.data.toList ++ [59]) := by simp
theorem law_words (s : ByteArray) : Pure Tryz.prog 8 [.c (sS s)] (.c (sB true)) := by
  have al := alive_p
  have ip := ident_p s
  have kp := keyw_p s
  have pm := parse_p (⟨#[109, 111, 100, 117, 108, 101, 32]⟩ ++ s ++ ⟨#[32, 49, 59]⟩)
  have ps := stmts_p (⟨#[116, 121, 112, 101, 32]⟩ ++ s ++ ⟨#[59]⟩)
  cases hk : kwB s.data.toList with
  | true =>
    have hn := kw_name hk
    have hl := nameB_len hn
    rw [← sz_len] at hl
    have hi : idB s = false := by unfold idB; rw [hk]; simp
    rw [words_mod hn (cat_mod s), if_pos hk] at pm
    rw [words_ty hn (cat_ty s), if_pos hk] at ps
    rw [hi] at ip
    rw [hk] at kp
    have pm : Pure _ _ _ (.tup [.agg (moC Mo.zero), .agg (faC ⟨9, ⟨1, 8⟩, s⟩)]) := pm
    have ps : Pure _ _ _ (.tup [.c .nil, .agg (faC ⟨9, ⟨1, 6⟩, s⟩)]) := ps
    clear hk hn hi
    refine fn1 (fn := Tryz.f8) Tryz.call8 Tryz.func8 rfl Tryz.ntmps8 Tryz.results8 rfl (by rfl) ?_
    repeat' (first | (with_reducible first | apply AW.seq | apply AW.skip | apply AW.ret | apply q_then | apply q_thenR | apply y_e | refine v_rgl ?_) | ((with_reducible apply i_dv); first | refine t_v AS.v ?_ | refine t_v (by first | exact u_call (hP := ip) | exact u_call (hP := kp) | exact u_call (hP := pm) | exact u_call (hP := ps) | exact u_eqlFa) ?_ | refine t_w AS.w ?_) | ((with_reducible apply i_dg); first | refine t_f ?_ | refine t_m (hs := fun hg => AS.v) (k := ?_) | refine t_m (hs := fun hg => (by first | exact u_call (hP := al) | exact u_call (hP := kp) | exact u_eqlFa)) (k := ?_)) | ((with_reducible apply i_ds); refine t_s AS.s ?_) | ((with_reducible refine i_aw ?_); first | refine v_yes ?_ | refine v_no ?_) | ((with_reducible refine i_rt ?_); refine k_b ?_) | fail)
    simp
  | false =>
    rw [hk] at kp
    cases hi : idB s with
    | false =>
      rw [hi] at ip
      clear pm ps hk hi
      refine fn1 (fn := Tryz.f8) Tryz.call8 Tryz.func8 rfl Tryz.ntmps8 Tryz.results8 rfl (by rfl) ?_
      repeat' (first | (with_reducible first | apply AW.seq | apply AW.ret | apply q_then | apply q_thenR | apply y_e | refine v_rgl ?_) | ((with_reducible apply i_dv); first | refine t_v AS.v ?_ | refine t_v (by first | exact u_call (hP := al) | exact u_call (hP := ip)) ?_) | ((with_reducible apply i_dg); first | refine t_m (hs := fun hg => AS.v) (k := ?_) | refine t_m (hs := fun hg => (by exact u_call (hP := kp))) (k := ?_)) | ((with_reducible refine i_aw ?_); refine v_yes ?_) | ((with_reducible refine i_rt ?_); refine k_b ?_) | fail)
      rfl
    | true =>
      have hn : nameB s.data.toList = true := by
        unfold idB at hi
        rw [Bool.and_eq_true] at hi
        exact hi.1
      have hl := nameB_len hn
      rw [← sz_len] at hl
      have hk' : ¬ kwB s.data.toList = true := by rw [hk]; decide
      rw [words_mod hn (cat_mod s), if_neg hk'] at pm
      rw [words_ty hn (cat_ty s), if_neg hk'] at ps
      rw [hi] at ip
      have pm : Pure _ _ _ (.tup [.agg (moC ⟨s, 1, []⟩), .agg (faC Fa.zero)]) := pm
      have ps : Pure _ _ _ (.tup [.c (.lst none 55 ([{ Stm.zero with pos := ⟨1, 1⟩, kind := 2, name := s }].map stC)), .agg (faC Fa.zero)]) := ps
      obtain ⟨L, z, e, hz, hg, hL⟩ : ∃ (L : List Stm) (z : Stm), L = [{ Stm.zero with pos := ⟨1, 1⟩, kind := 2, name := s }] ∧ z.name = s ∧ (L.map stC)[0]? = some (stC z) ∧ L.length = 1 := ⟨_, _, rfl, rfl, rfl, rfl⟩
      rw [← e] at ps
      clear hk hn hi hk' e
      refine fn1 (fn := Tryz.f8) Tryz.call8 Tryz.func8 rfl Tryz.ntmps8 Tryz.results8 rfl (by rfl) ?_
      repeat' (first | (with_reducible first | apply AW.seq | apply AW.skip | apply AW.ret | apply q_then | apply q_thenR | apply y_e | refine v_rgl ?_) | ((with_reducible apply i_dv); first | refine t_v AS.v ?_ | refine t_v (by first | exact u_call (hP := ip) | exact u_call (hP := kp) | exact u_call (hP := pm) | exact u_call (hP := ps) | exact u_eqlFa) ?_ | refine t_w AS.w ?_) | ((with_reducible apply i_dg); first | refine t_f ?_ | refine t_m (hs := fun hg => AS.v) (k := ?_) | refine t_m (hs := fun hg => (by first | exact u_call (hP := al) | exact u_call (hP := kp) | exact u_eqlFa)) (k := ?_)) | ((with_reducible apply i_ds); refine t_s AS.s ?_) | ((with_reducible refine i_aw ?_); first | refine v_yes ?_ | refine v_no ?_) | ((with_reducible refine i_rt ?_); refine k_b ?_) | fail)
      simp [hz, hL, Fa.zero]
end Am
end Go.Proofs.YtkpodagbefnebaaGreatDoor
