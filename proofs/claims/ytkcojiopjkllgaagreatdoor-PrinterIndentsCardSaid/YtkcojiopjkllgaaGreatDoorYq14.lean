import Derived.Test.YtkcojiopjkllgaaGreatDoorYq12
import Derived.Test.YtkcojiopjkllgaaGreatDoorYq10
set_option linter.unusedSimpArgs false
set_option linter.unusedVariables false
set_option linter.unusedSectionVars false
namespace Go.Proofs.YtkcojiopjkllgaaGreatDoor
namespace Am
set_option maxRecDepth 100000
set_option maxHeartbeats 4000000
def headT (s : Stm) : ByteArray := if s.kind = 17 then sepB ⟨#[32]⟩ [⟨#[105, 102]⟩, btT s.cond 0, ⟨#[123, 10]⟩] else sepB ⟨#[32]⟩ [⟨#[111, 112, 116, 105, 111, 110, 97, 108]⟩, ⟨#[123, 10]⟩]
def stH (lv : Nat) (s : Stm) (tb eb : ByteArray) : ByteArray :=
  if s.kind ≠ 17 ∧ s.kind ≠ 18 then indT lv ++ (lineT s ++ ⟨#[59]⟩)
  else indT lv ++ headT s ++ tb ++ indT lv ++ ⟨#[125]⟩ ++ (if 0 < s.els.length then ⟨#[32, 101, 108, 115, 101, 32, 123, 10]⟩ ++ eb ++ indT lv ++ ⟨#[125]⟩ else ⟨#[]⟩)
mutual
def stT (lv : Nat) : Stm → ByteArray
  | ⟨a1, a2, a3, a4, a5, a6, a7, a8, a9, a10, a11, a12, a13, a14, a15, a16, a17, t, e⟩ => stH lv ⟨a1, a2, a3, a4, a5, a6, a7, a8, a9, a10, a11, a12, a13, a14, a15, a16, a17, t, e⟩ (blkT (lv + 1) t) (blkT (lv + 1) e)
def blkT (lv : Nat) : List Stm → ByteArray
  | [] => ⟨#[]⟩
  | x :: l => stT lv x ++ ⟨#[10]⟩ ++ blkT lv l
end
theorem stT_eq (lv : Nat) (s : Stm) : stT lv s = stH lv s (blkT (lv + 1) s.thn) (blkT (lv + 1) s.els) := by cases s; rw [stT]
theorem ba_nil2 (a : ByteArray) : a ++ (⟨#[]⟩ : ByteArray) = a := ba_nil a
theorem blk_step {lv : Nat} : ∀ {l : List Stm} {j : Nat} {x : Stm}, l[j]? = some x → blkT lv (l.take (j + 1)) = blkT lv (l.take j) ++ stT lv x ++ ⟨#[10]⟩
  | [], j, x, h => by simp at h
  | y :: l, 0, x, h => by
    obtain rfl : y = x := by simpa using h
    simp only [List.take_succ_cons, List.take_zero, blkT, nil_ba, ba_nil]
  | y :: l, j + 1, x, h => by
    simp only [List.take_succ_cons, blkT]
    rw [blk_step (l := l) (j := j) (x := x) (by simpa using h)]
    simp only [ByteArray.append_assoc]
theorem blk_le {lv : Nat} : ∀ (l : List Stm) (j : Nat), (blkT lv (l.take j)).size ≤ (blkT lv l).size
  | [], j => by simp
  | x :: l, 0 => by simp only [List.take_zero, blkT, ByteArray.size_append]; exact Nat.zero_le _
  | x :: l, j + 1 => by
    have := blk_le (lv := lv) l j
    simp only [List.take_succ_cons, blkT, ByteArray.size_append]
    omega
structure WH (s : Stm) : Prop where
  r : s.kind ≠ 17 → s.kind ≠ 18 → Rok s
  b : Bd s
  c : s.kind = 17 → bchkB 1 s.cond = 0
mutual
def stW : Stm → Prop
  | ⟨a1, a2, a3, a4, a5, a6, a7, a8, a9, a10, a11, a12, a13, a14, a15, a16, a17, t, e⟩ => WH ⟨a1, a2, a3, a4, a5, a6, a7, a8, a9, a10, a11, a12, a13, a14, a15, a16, a17, t, e⟩ ∧ stWs t ∧ stWs e
def stWs : List Stm → Prop
  | [] => True
  | x :: l => stW x ∧ stWs l
end
theorem stWs_all : ∀ {l : List Stm}, stWs l ↔ ∀ x ∈ l, stW x
  | [] => by rw [stWs]; simp
  | x :: l => by rw [stWs, stWs_all (l := l)]; simp
theorem stW_eq (s : Stm) : stW s ↔ WH s ∧ (∀ x ∈ s.thn, stW x) ∧ (∀ x ∈ s.els, stW x) := by cases s; rw [stW, stWs_all, stWs_all]
theorem ind_lv {b : ByteArray} {lv : Nat} (h : b.size + (indT lv).size ≤ 70368744177664) : lv ≤ 70368744177664 := by rw [indT_size] at h; omega
theorem block_m {l : List Stm} {lv : Nat} {b : ByteArray} (h : ∀ x ∈ l, ∀ b : ByteArray, b.size + (stT lv x).size ≤ 70368744177664 → MC Tryz.prog 42 (bldS b) [.agg (stC x), .c (sI lv)] (.tup []) (bldS (b ++ stT lv x))) (hb : b.size + (blkT lv l).size ≤ 70368744177664) :
    MC Tryz.prog 35 (bldS b) [.c (.lst none 55 (l.map stC)), .c (sI lv)] (.tup []) (bldS (b ++ blkT lv l)) := by
  refine fm3 (fn := Tryz.f35) Tryz.call35 Tryz.func35 rfl Tryz.ntmps35 Tryz.results35 rfl (by first | rfl | simp [V.ok, okL, C.ok, okA, okV]) rfl rfl ?_
  refine AW.fact (t := 1) rfl (fun κ w x hr => repV_l hr) fun hn => ?_
  repeat' (first | (with_reducible first | apply AW.seq | apply AW.block | apply AW.scope | apply AW.skip | apply AW.ret | apply AW.exit | apply AW.label | apply q_then | apply q_thenR | apply q_thenE | apply q_bloN | apply q_bloR | apply q_bloE | apply q_strN | apply q_strR | apply q_strE | apply s_e | refine m_b rfl ?_ ?_ | refine m_g rfl ?_ | refine m_o rfl ?_ ?_ | refine v_reg ?_ | refine v_drw ?_ | refine v_rgl ?_ | refine v_drb ?_) | ((with_reducible apply i_dv); first | refine t_v AS.v ?_ | refine t_w AS.w ?_) | ((with_reducible apply i_dg); first | refine t_n ?_ | refine t_m (hs := fun hg => AS.v) (k := ?_) | refine t_f ?_) | ((with_reducible apply i_ds); first | refine t_s AS.s ?_) | ((with_reducible refine i_aw ?_); first | refine v_yes ?_ | refine v_no ?_ | (refine v_cond (fun hc => ?_) (fun hc => ?_); all_goals (try (exfalso; simp [*] at hc; done)); all_goals (try (exfalso; revert hc; simp; omega)))) | ((with_reducible refine i_rt ?_); first | refine k_b ?_ | refine k_s ?_ | refine k_i ?_ | refine k_v ?_ | refine k_c ?_ | exact r_0 | exact r_0n | ((first | refine k_2 ?_ ?_ | refine k_2c ?_ ?_); all_goals (with_reducible (first | apply un_b | apply un_i | apply un_s | apply un_a)))) | ((with_reducible apply al_id); dsimp only [List.append]) | (refine q_bloX rfl ?_) | (refine ⟨by decide +kernel, ?_⟩) | fail)
  refine AW.loop (fun n σ => ∃ j, n = l.length - j ∧ j ≤ l.length ∧ σ = mk [(0, .c (.ptr 0 0)), (2, .c (sI lv)), (8, .c (.lst none 55 (l.map stC))), (9, .c (sI (l.map stC).length)), (10, .c (sI j))] [(0, bldS (b ++ blkT lv (l.take j)))]) l.length ?_ ?_
  · have e : bldS b = bldS (b ++ blkT lv (l.take 0)) := by rw [List.take_zero, blkT, ba_nil]
    rw [e]
    exact ⟨_, wk_mk (by (repeat (first | exact all_nil | ((refine all_cons ⟨_, rfl, .inl rfl, ?_⟩ ?_); (· (first | rfl | exact okRow rfl | (simp [V.ok, okL, C.ok, okA, HO.ok]; done) | (change okL _ _ = true; assumption)))))); done) (by (repeat (first | exact all_nil | ((refine all_cons ⟨_, rfl, .inl rfl, ?_⟩ ?_); (· (first | rfl | exact okRow rfl | (simp [V.ok, okL, C.ok, okA, HO.ok]; done) | (change okL _ _ = true; assumption)))))); done) (by exact fun h => h), 0, rfl, Nat.zero_le _, rfl⟩
  rintro n σ ⟨j, rfl, hj, rfl⟩
  by_cases hlt : j < l.length
  · obtain ⟨x, hx⟩ : ∃ x, l[j]? = some x := ⟨_, List.getElem?_eq_getElem hlt⟩
    have hle := blk_le (lv := lv) l (j + 1)
    have e1 := blk_step (lv := lv) hx
    rw [e1, ByteArray.size_append, ByteArray.size_append] at hle
    have h1 : ByteArray.size ⟨#[10]⟩ = 1 := rfl
    have hp := h x (List.mem_of_getElem? hx) (b ++ blkT lv (l.take j)) (by rw [ByteArray.size_append]; omega)
    repeat' (first | (with_reducible first | apply AW.seq | apply AW.block | apply AW.scope | apply AW.skip | apply AW.ret | apply AW.exit | apply AW.label | apply q_then | apply q_thenR | apply q_thenE | apply q_bloN | apply q_bloR | apply q_bloE | apply q_strN | apply q_strR | apply q_strE | apply s_e | refine m_b rfl ?_ ?_ | refine m_g rfl ?_ | refine m_o rfl ?_ ?_ | refine v_reg ?_ | refine v_drw ?_ | refine v_rgl ?_ | refine v_drb ?_) | ((with_reducible apply i_dv); first | refine t_v AS.v ?_ | refine t_v (by first | exact u_call (hP := hp) | exact u_call (hP := wByte_m 10 rfl (by (try simp only [ByteArray.size_append]); omega))) ?_ | refine t_w AS.w ?_ | refine t_w (by first | exact u_mut (hP := hp) | exact u_mut (hP := wByte_m 10 rfl (by (try simp only [ByteArray.size_append]); omega))) ?_) | ((with_reducible apply i_dg); first | refine t_n ?_ | refine t_m (hs := fun hg => AS.v) (k := ?_) | refine t_m (hs := fun hg => (by first | exact u_call (hP := hp) | exact u_call (hP := wByte_m 10 rfl (by (try simp only [ByteArray.size_append]); omega)))) (k := ?_) | refine t_f ?_) | ((with_reducible apply i_ds); first | refine t_s AS.s ?_ | refine t_s (by first | exact u_mut (hP := hp) | exact u_mut (hP := wByte_m 10 rfl (by (try simp only [ByteArray.size_append]); omega))) ?_) | ((with_reducible refine i_aw ?_); first | refine v_yes ?_ | refine v_no ?_ | (refine v_cond (fun hc => ?_) (fun hc => ?_); all_goals (try (exfalso; simp [*] at hc; done)); all_goals (try (exfalso; revert hc; simp; omega)))) | ((with_reducible refine i_rt ?_); first | refine k_b ?_ | refine k_s ?_ | refine k_i ?_ | refine k_v ?_ | refine k_c ?_ | exact r_0 | exact r_0n | ((first | refine k_2 ?_ ?_ | refine k_2c ?_ ?_); all_goals (with_reducible (first | apply un_b | apply un_i | apply un_s | apply un_a)))) | ((with_reducible apply al_id); dsimp only [List.append]) | (refine q_bloX rfl ?_) | (refine ⟨by decide +kernel, ?_⟩) | fail)
    have e : bldS (b ++ blkT lv (l.take j) ++ stT lv x ++ ⟨#[10]⟩) = bldS (b ++ blkT lv (l.take (j + 1))) := by rw [e1]; simp only [ByteArray.append_assoc]
    rw [e]
    exact ⟨_, _, (show l.length - (j + 1) < l.length - j by omega), wk_mk (by (repeat (first | exact all_nil | ((refine all_cons ⟨_, rfl, .inl rfl, ?_⟩ ?_); (· (first | rfl | exact okRow rfl | (simp [V.ok, okL, C.ok, okA, HO.ok]; done) | (change okL _ _ = true; assumption)))))); done) (by (repeat (first | exact all_nil | ((refine all_cons ⟨_, rfl, .inl rfl, ?_⟩ ?_); (· (first | rfl | exact okRow rfl | (simp [V.ok, okL, C.ok, okA, HO.ok]; done) | (change okL _ _ = true; assumption)))))); done) (by exact fun h => h), j + 1, rfl, hlt, rfl⟩
  · repeat' (first | (with_reducible first | apply AW.seq | apply AW.block | apply AW.scope | apply AW.skip | apply AW.ret | apply AW.exit | apply AW.label | apply q_then | apply q_thenR | apply q_thenE | apply q_bloN | apply q_bloR | apply q_bloE | apply q_strN | apply q_strR | apply q_strE | apply s_e | refine m_b rfl ?_ ?_ | refine m_g rfl ?_ | refine m_o rfl ?_ ?_ | refine v_reg ?_ | refine v_drw ?_ | refine v_rgl ?_ | refine v_drb ?_) | ((with_reducible apply i_dv); first | refine t_v AS.v ?_ | refine t_w AS.w ?_) | ((with_reducible apply i_dg); first | refine t_n ?_ | refine t_m (hs := fun hg => AS.v) (k := ?_) | refine t_f ?_) | ((with_reducible apply i_ds); first | refine t_s AS.s ?_) | ((with_reducible refine i_aw ?_); first | refine v_yes ?_ | refine v_no ?_ | (refine v_cond (fun hc => ?_) (fun hc => ?_); all_goals (try (exfalso; simp [*] at hc; done)); all_goals (try (exfalso; revert hc; simp; omega)))) | ((with_reducible refine i_rt ?_); first | refine k_b ?_ | refine k_s ?_ | refine k_i ?_ | refine k_v ?_ | refine k_c ?_ | exact r_0 | exact r_0n | ((first | refine k_2 ?_ ?_ | refine k_2c ?_ ?_); all_goals (with_reducible (first | apply un_b | apply un_i | apply un_s | apply un_a)))) | ((with_reducible apply al_id); dsimp only [List.append]) | (refine q_bloX rfl ?_) | (refine ⟨by decide +kernel, ?_⟩) | fail)
    rw [List.take_of_length_le (by omega)]
theorem statement_n : ∀ (n : Nat) (s : Stm), SizeOf.sizeOf s < n → stW s → ∀ (lv : Nat) (b : ByteArray), b.size + (stT lv s).size ≤ 70368744177664 → MC Tryz.prog 42 (bldS b) [.agg (stC s), .c (sI lv)] (.tup []) (bldS (b ++ stT lv s))
  | 0, _, h, _, _, _, _ => absurd h (Nat.not_lt_zero _)
  | n + 1, s, h, hW, lv, b, hb => by
    rw [stW_eq] at hW
    obtain ⟨⟨hr, hbd, hc2⟩, w1, w2⟩ := hW
    have i1 : ∀ b : ByteArray, b.size + (blkT (lv + 1) s.thn).size ≤ 70368744177664 → MC Tryz.prog 35 (bldS b) [.c (.lst none 55 (s.thn.map stC)), .c (sI ((lv : Int) + 1))] (.tup []) (bldS (b ++ blkT (lv + 1) s.thn)) := fun b hb =>
      block_m (lv := lv + 1) (fun x hx b' hb' => statement_n n x (by have := thn_lt hx; omega) (w1 x hx) (lv + 1) b' hb') hb
    have i2 : ∀ b : ByteArray, b.size + (blkT (lv + 1) s.els).size ≤ 70368744177664 → MC Tryz.prog 35 (bldS b) [.c (.lst none 55 (s.els.map stC)), .c (sI ((lv : Int) + 1))] (.tup []) (bldS (b ++ blkT (lv + 1) s.els)) := fun b hb =>
      block_m (lv := lv + 1) (fun x hx b' hb' => statement_n n x (by have := els_lt hx; omega) (w2 x hx) (lv + 1) b' hb') hb
    rw [stT_eq] at hb ⊢
    have hind : ∀ b : ByteArray, b.size + (indT lv).size ≤ 140737488355328 → MC Tryz.prog 81 (bldS b) [.c (sI lv)] (.tup []) (bldS (b ++ indT lv)) := fun b h => indent_m h
    by_cases hp : s.kind ≠ 17 ∧ s.kind ≠ 18
    · have e1 : stH lv s (blkT (lv + 1) s.thn) (blkT (lv + 1) s.els) = indT lv ++ (lineT s ++ ⟨#[59]⟩) := by unfold stH; rw [if_pos hp]
      rw [e1] at hb ⊢
      simp only [ByteArray.size_append, ba_size, List.size_toArray, List.length_cons, List.length_nil] at hb
      have hl := line_p (by omega) (hr hp.1 hp.2) hbd
      obtain ⟨p1, p2⟩ := hp
      clear hr hbd hc2 w1 w2 i1 i2 e1 h
      refine fm3 (fn := Tryz.f42) Tryz.call42 Tryz.func42 rfl Tryz.ntmps42 Tryz.results42 rfl (by first | rfl | simp [V.ok, okL, C.ok, okA, okV]) rfl rfl ?_
      repeat' (first | (with_reducible first | apply AW.seq | apply AW.block | apply AW.scope | apply AW.skip | apply AW.ret | apply AW.exit | apply AW.label | apply q_then | apply q_thenR | apply q_thenE | apply q_bloN | apply q_bloR | apply q_bloE | apply q_strN | apply q_strR | apply q_strE | apply s_e | refine m_b rfl ?_ ?_ | refine m_g rfl ?_ | refine m_o rfl ?_ ?_ | refine v_reg ?_ | refine v_drw ?_ | refine v_rgl ?_ | refine v_drb ?_) | ((with_reducible apply i_dv); first | refine t_v AS.v ?_ | refine t_v (by first | exact u_call (hP := hind _ (by (try simp only [ByteArray.size_append, ba_size, List.size_toArray, List.length_cons, List.length_nil]); omega)) | exact u_call (hP := hl) | exact u_call (hP := wStr_m (by (try simp only [ByteArray.size_append, ba_size, List.size_toArray, List.length_cons, List.length_nil]); omega))) ?_ | refine t_w AS.w ?_ | refine t_w (by first | exact u_mut (hP := hind _ (by (try simp only [ByteArray.size_append, ba_size, List.size_toArray, List.length_cons, List.length_nil]); omega)) | exact u_mut (hP := hl) | exact u_mut (hP := wStr_m (by (try simp only [ByteArray.size_append, ba_size, List.size_toArray, List.length_cons, List.length_nil]); omega))) ?_) | ((with_reducible apply i_dg); first | refine t_n ?_ | refine t_m (hs := fun hg => AS.v) (k := ?_) | refine t_m (hs := fun hg => (by first | exact u_call (hP := hind _ (by (try simp only [ByteArray.size_append, ba_size, List.size_toArray, List.length_cons, List.length_nil]); omega)) | exact u_call (hP := hl) | exact u_call (hP := wStr_m (by (try simp only [ByteArray.size_append, ba_size, List.size_toArray, List.length_cons, List.length_nil]); omega)))) (k := ?_) | refine t_f ?_) | ((with_reducible apply i_ds); first | refine t_s AS.s ?_ | refine t_s (by first | exact u_mut (hP := hind _ (by (try simp only [ByteArray.size_append, ba_size, List.size_toArray, List.length_cons, List.length_nil]); omega)) | exact u_mut (hP := hl) | exact u_mut (hP := wStr_m (by (try simp only [ByteArray.size_append, ba_size, List.size_toArray, List.length_cons, List.length_nil]); omega))) ?_) | ((with_reducible refine i_aw ?_); first | refine v_yes ?_ | refine v_no ?_ | (refine v_cond (fun hc => ?_) (fun hc => ?_); all_goals (try (exfalso; simp [*] at hc; done)); all_goals (try (exfalso; revert hc; simp; omega)))) | ((with_reducible refine i_rt ?_); first | refine k_b ?_ | refine k_s ?_ | refine k_i ?_ | refine k_v ?_ | refine k_c ?_ | exact r_0 | exact r_0n | ((first | refine k_2 ?_ ?_ | refine k_2c ?_ ?_); all_goals (with_reducible (first | apply un_b | apply un_i | apply un_s | apply un_a)))) | ((with_reducible apply al_id); dsimp only [List.append]) | (refine q_bloX rfl ?_) | (refine ⟨by decide +kernel, ?_⟩) | fail)
      all_goals (simp only [ByteArray.append_assoc])
    have hq : stH lv s (blkT (lv + 1) s.thn) (blkT (lv + 1) s.els) = indT lv ++ headT s ++ blkT (lv + 1) s.thn ++ indT lv ++ ⟨#[125]⟩ ++ (if 0 < s.els.length then ⟨#[32, 101, 108, 115, 101, 32, 123, 10]⟩ ++ blkT (lv + 1) s.els ++ indT lv ++ ⟨#[125]⟩ else ⟨#[]⟩) := by unfold stH; rw [if_neg hp]
    rw [hq] at hb ⊢
    clear hq
    have hlv : lv ≤ 70368744177664 := ind_lv (b := b) (by simp only [ByteArray.size_append] at hb; omega)
    by_cases k : s.kind = 17
    · have hh : headT s = sepB ⟨#[32]⟩ [⟨#[105, 102]⟩, btT s.cond 0, ⟨#[123, 10]⟩] := by unfold headT; rw [if_pos k]
      rw [hh] at hb ⊢
      have bt := hbd.cond2 (hc2 k)
      have ht := bText_p (hc2 k) (by omega)
      clear hr hbd hc2 w1 w2 h hp hh
      by_cases he : 0 < s.els.length
      · rw [if_pos he] at hb ⊢
        simp only [ByteArray.size_append, ba_size, List.size_toArray, List.length_cons, List.length_nil] at hb
        refine fm3 (fn := Tryz.f42) Tryz.call42 Tryz.func42 rfl Tryz.ntmps42 Tryz.results42 rfl (by first | rfl | simp [V.ok, okL, C.ok, okA, okV]) rfl rfl ?_
        repeat' (first | (with_reducible first | apply AW.seq | apply AW.block | apply AW.scope | apply AW.skip | apply AW.ret | apply AW.exit | apply AW.label | apply q_then | apply q_thenR | apply q_thenE | apply q_bloN | apply q_bloR | apply q_bloE | apply q_strN | apply q_strR | apply q_strE | apply s_e | refine m_b rfl ?_ ?_ | refine m_g rfl ?_ | refine m_o rfl ?_ ?_ | refine v_reg ?_ | refine v_drw ?_ | refine v_rgl ?_ | refine v_drb ?_) | ((with_reducible apply i_dv); first | refine t_v AS.v ?_ | refine t_v (by first | exact u_call (hP := hind _ (by (try simp only [ByteArray.size_append, ba_size, List.size_toArray, List.length_cons, List.length_nil]); omega)) | exact u_call (hP := ht) | exact u_call (hP := words_m (by (try simp only [ByteArray.size_append, ba_size, List.size_toArray, List.length_cons, List.length_nil]); omega)) | exact u_call (hP := i1 _ (by (try simp only [ByteArray.size_append, ba_size, List.size_toArray, List.length_cons, List.length_nil]); omega)) | exact u_call (hP := wByte_m 125 rfl (by (try simp only [ByteArray.size_append, ba_size, List.size_toArray, List.length_cons, List.length_nil]); omega)) | exact u_call (hP := i2 _ (by (try simp only [ByteArray.size_append, ba_size, List.size_toArray, List.length_cons, List.length_nil]); omega)) | exact u_call (hP := wStr_m (by (try simp only [ByteArray.size_append, ba_size, List.size_toArray, List.length_cons, List.length_nil]); omega))) ?_ | refine t_w AS.w ?_ | refine t_w (by first | exact u_mut (hP := hind _ (by (try simp only [ByteArray.size_append, ba_size, List.size_toArray, List.length_cons, List.length_nil]); omega)) | exact u_mut (hP := ht) | exact u_mut (hP := words_m (by (try simp only [ByteArray.size_append, ba_size, List.size_toArray, List.length_cons, List.length_nil]); omega)) | exact u_mut (hP := i1 _ (by (try simp only [ByteArray.size_append, ba_size, List.size_toArray, List.length_cons, List.length_nil]); omega)) | exact u_mut (hP := wByte_m 125 rfl (by (try simp only [ByteArray.size_append, ba_size, List.size_toArray, List.length_cons, List.length_nil]); omega)) | exact u_mut (hP := i2 _ (by (try simp only [ByteArray.size_append, ba_size, List.size_toArray, List.length_cons, List.length_nil]); omega)) | exact u_mut (hP := wStr_m (by (try simp only [ByteArray.size_append, ba_size, List.size_toArray, List.length_cons, List.length_nil]); omega))) ?_) | ((with_reducible apply i_dg); first | refine t_n ?_ | refine t_m (hs := fun hg => AS.v) (k := ?_) | refine t_m (hs := fun hg => (by first | exact u_call (hP := hind _ (by (try simp only [ByteArray.size_append, ba_size, List.size_toArray, List.length_cons, List.length_nil]); omega)) | exact u_call (hP := ht) | exact u_call (hP := words_m (by (try simp only [ByteArray.size_append, ba_size, List.size_toArray, List.length_cons, List.length_nil]); omega)) | exact u_call (hP := i1 _ (by (try simp only [ByteArray.size_append, ba_size, List.size_toArray, List.length_cons, List.length_nil]); omega)) | exact u_call (hP := wByte_m 125 rfl (by (try simp only [ByteArray.size_append, ba_size, List.size_toArray, List.length_cons, List.length_nil]); omega)) | exact u_call (hP := i2 _ (by (try simp only [ByteArray.size_append, ba_size, List.size_toArray, List.length_cons, List.length_nil]); omega)) | exact u_call (hP := wStr_m (by (try simp only [ByteArray.size_append, ba_size, List.size_toArray, List.length_cons, List.length_nil]); omega)))) (k := ?_) | refine t_f ?_) | ((with_reducible apply i_ds); first | refine t_s AS.s ?_ | refine t_s (by first | exact u_mut (hP := hind _ (by (try simp only [ByteArray.size_append, ba_size, List.size_toArray, List.length_cons, List.length_nil]); omega)) | exact u_mut (hP := ht) | exact u_mut (hP := words_m (by (try simp only [ByteArray.size_append, ba_size, List.size_toArray, List.length_cons, List.length_nil]); omega)) | exact u_mut (hP := i1 _ (by (try simp only [ByteArray.size_append, ba_size, List.size_toArray, List.length_cons, List.length_nil]); omega)) | exact u_mut (hP := wByte_m 125 rfl (by (try simp only [ByteArray.size_append, ba_size, List.size_toArray, List.length_cons, List.length_nil]); omega)) | exact u_mut (hP := i2 _ (by (try simp only [ByteArray.size_append, ba_size, List.size_toArray, List.length_cons, List.length_nil]); omega)) | exact u_mut (hP := wStr_m (by (try simp only [ByteArray.size_append, ba_size, List.size_toArray, List.length_cons, List.length_nil]); omega))) ?_) | ((with_reducible refine i_aw ?_); first | refine v_yes ?_ | refine v_no ?_ | (refine v_cond (fun hc => ?_) (fun hc => ?_); all_goals (try (exfalso; simp [*] at hc; done)); all_goals (try (exfalso; revert hc; simp; omega)))) | ((with_reducible refine i_rt ?_); first | refine k_b ?_ | refine k_s ?_ | refine k_i ?_ | refine k_v ?_ | refine k_c ?_ | exact r_0 | exact r_0n | ((first | refine k_2 ?_ ?_ | refine k_2c ?_ ?_); all_goals (with_reducible (first | apply un_b | apply un_i | apply un_s | apply un_a)))) | ((with_reducible apply al_id); dsimp only [List.append]) | (refine q_bloX rfl ?_) | (refine ⟨by decide +kernel, ?_⟩) | fail)
        all_goals (simp only [ByteArray.append_assoc])
      · rw [if_neg he] at hb ⊢
        simp only [ByteArray.size_append, ba_size, List.size_toArray, List.length_cons, List.length_nil] at hb
        refine fm3 (fn := Tryz.f42) Tryz.call42 Tryz.func42 rfl Tryz.ntmps42 Tryz.results42 rfl (by first | rfl | simp [V.ok, okL, C.ok, okA, okV]) rfl rfl ?_
        repeat' (first | (with_reducible first | apply AW.seq | apply AW.block | apply AW.scope | apply AW.skip | apply AW.ret | apply AW.exit | apply AW.label | apply q_then | apply q_thenR | apply q_thenE | apply q_bloN | apply q_bloR | apply q_bloE | apply q_strN | apply q_strR | apply q_strE | apply s_e | refine m_b rfl ?_ ?_ | refine m_g rfl ?_ | refine m_o rfl ?_ ?_ | refine v_reg ?_ | refine v_drw ?_ | refine v_rgl ?_ | refine v_drb ?_) | ((with_reducible apply i_dv); first | refine t_v AS.v ?_ | refine t_v (by first | exact u_call (hP := hind _ (by (try simp only [ByteArray.size_append, ba_size, List.size_toArray, List.length_cons, List.length_nil]); omega)) | exact u_call (hP := ht) | exact u_call (hP := words_m (by (try simp only [ByteArray.size_append, ba_size, List.size_toArray, List.length_cons, List.length_nil]); omega)) | exact u_call (hP := i1 _ (by (try simp only [ByteArray.size_append, ba_size, List.size_toArray, List.length_cons, List.length_nil]); omega)) | exact u_call (hP := wByte_m 125 rfl (by (try simp only [ByteArray.size_append, ba_size, List.size_toArray, List.length_cons, List.length_nil]); omega))) ?_ | refine t_w AS.w ?_ | refine t_w (by first | exact u_mut (hP := hind _ (by (try simp only [ByteArray.size_append, ba_size, List.size_toArray, List.length_cons, List.length_nil]); omega)) | exact u_mut (hP := ht) | exact u_mut (hP := words_m (by (try simp only [ByteArray.size_append, ba_size, List.size_toArray, List.length_cons, List.length_nil]); omega)) | exact u_mut (hP := i1 _ (by (try simp only [ByteArray.size_append, ba_size, List.size_toArray, List.length_cons, List.length_nil]); omega)) | exact u_mut (hP := wByte_m 125 rfl (by (try simp only [ByteArray.size_append, ba_size, List.size_toArray, List.length_cons, List.length_nil]); omega))) ?_) | ((with_reducible apply i_dg); first | refine t_n ?_ | refine t_m (hs := fun hg => AS.v) (k := ?_) | refine t_m (hs := fun hg => (by first | exact u_call (hP := hind _ (by (try simp only [ByteArray.size_append, ba_size, List.size_toArray, List.length_cons, List.length_nil]); omega)) | exact u_call (hP := ht) | exact u_call (hP := words_m (by (try simp only [ByteArray.size_append, ba_size, List.size_toArray, List.length_cons, List.length_nil]); omega)) | exact u_call (hP := i1 _ (by (try simp only [ByteArray.size_append, ba_size, List.size_toArray, List.length_cons, List.length_nil]); omega)) | exact u_call (hP := wByte_m 125 rfl (by (try simp only [ByteArray.size_append, ba_size, List.size_toArray, List.length_cons, List.length_nil]); omega)))) (k := ?_) | refine t_f ?_) | ((with_reducible apply i_ds); first | refine t_s AS.s ?_ | refine t_s (by first | exact u_mut (hP := hind _ (by (try simp only [ByteArray.size_append, ba_size, List.size_toArray, List.length_cons, List.length_nil]); omega)) | exact u_mut (hP := ht) | exact u_mut (hP := words_m (by (try simp only [ByteArray.size_append, ba_size, List.size_toArray, List.length_cons, List.length_nil]); omega)) | exact u_mut (hP := i1 _ (by (try simp only [ByteArray.size_append, ba_size, List.size_toArray, List.length_cons, List.length_nil]); omega)) | exact u_mut (hP := wByte_m 125 rfl (by (try simp only [ByteArray.size_append, ba_size, List.size_toArray, List.length_cons, List.length_nil]); omega))) ?_) | ((with_reducible refine i_aw ?_); first | refine v_yes ?_ | refine v_no ?_ | (refine v_cond (fun hc => ?_) (fun hc => ?_); all_goals (try (exfalso; simp [*] at hc; done)); all_goals (try (exfalso; revert hc; simp; omega)))) | ((with_reducible refine i_rt ?_); first | refine k_b ?_ | refine k_s ?_ | refine k_i ?_ | refine k_v ?_ | refine k_c ?_ | exact r_0 | exact r_0n | ((first | refine k_2 ?_ ?_ | refine k_2c ?_ ?_); all_goals (with_reducible (first | apply un_b | apply un_i | apply un_s | apply un_a)))) | ((with_reducible apply al_id); dsimp only [List.append]) | (refine q_bloX rfl ?_) | (refine ⟨by decide +kernel, ?_⟩) | fail)
        all_goals (simp only [ByteArray.append_assoc, ba_nil2])
    · have k8 : s.kind = 18 := by omega
      have hh : headT s = sepB ⟨#[32]⟩ [⟨#[111, 112, 116, 105, 111, 110, 97, 108]⟩, ⟨#[123, 10]⟩] := by unfold headT; rw [if_neg k]
      rw [hh] at hb ⊢
      clear hr hbd hc2 w1 w2 h hp hh
      by_cases he : 0 < s.els.length
      · rw [if_pos he] at hb ⊢
        simp only [ByteArray.size_append, ba_size, List.size_toArray, List.length_cons, List.length_nil] at hb
        refine fm3 (fn := Tryz.f42) Tryz.call42 Tryz.func42 rfl Tryz.ntmps42 Tryz.results42 rfl (by first | rfl | simp [V.ok, okL, C.ok, okA, okV]) rfl rfl ?_
        repeat' (first | (with_reducible first | apply AW.seq | apply AW.block | apply AW.scope | apply AW.skip | apply AW.ret | apply AW.exit | apply AW.label | apply q_then | apply q_thenR | apply q_thenE | apply q_bloN | apply q_bloR | apply q_bloE | apply q_strN | apply q_strR | apply q_strE | apply s_e | refine m_b rfl ?_ ?_ | refine m_g rfl ?_ | refine m_o rfl ?_ ?_ | refine v_reg ?_ | refine v_drw ?_ | refine v_rgl ?_ | refine v_drb ?_) | ((with_reducible apply i_dv); first | refine t_v AS.v ?_ | refine t_v (by first | exact u_call (hP := hind _ (by (try simp only [ByteArray.size_append, ba_size, List.size_toArray, List.length_cons, List.length_nil]); omega)) | exact u_call (hP := words_m (by (try simp only [ByteArray.size_append, ba_size, List.size_toArray, List.length_cons, List.length_nil]); omega)) | exact u_call (hP := i1 _ (by (try simp only [ByteArray.size_append, ba_size, List.size_toArray, List.length_cons, List.length_nil]); omega)) | exact u_call (hP := wByte_m 125 rfl (by (try simp only [ByteArray.size_append, ba_size, List.size_toArray, List.length_cons, List.length_nil]); omega)) | exact u_call (hP := i2 _ (by (try simp only [ByteArray.size_append, ba_size, List.size_toArray, List.length_cons, List.length_nil]); omega)) | exact u_call (hP := wStr_m (by (try simp only [ByteArray.size_append, ba_size, List.size_toArray, List.length_cons, List.length_nil]); omega))) ?_ | refine t_w AS.w ?_ | refine t_w (by first | exact u_mut (hP := hind _ (by (try simp only [ByteArray.size_append, ba_size, List.size_toArray, List.length_cons, List.length_nil]); omega)) | exact u_mut (hP := words_m (by (try simp only [ByteArray.size_append, ba_size, List.size_toArray, List.length_cons, List.length_nil]); omega)) | exact u_mut (hP := i1 _ (by (try simp only [ByteArray.size_append, ba_size, List.size_toArray, List.length_cons, List.length_nil]); omega)) | exact u_mut (hP := wByte_m 125 rfl (by (try simp only [ByteArray.size_append, ba_size, List.size_toArray, List.length_cons, List.length_nil]); omega)) | exact u_mut (hP := i2 _ (by (try simp only [ByteArray.size_append, ba_size, List.size_toArray, List.length_cons, List.length_nil]); omega)) | exact u_mut (hP := wStr_m (by (try simp only [ByteArray.size_append, ba_size, List.size_toArray, List.length_cons, List.length_nil]); omega))) ?_) | ((with_reducible apply i_dg); first | refine t_n ?_ | refine t_m (hs := fun hg => AS.v) (k := ?_) | refine t_m (hs := fun hg => (by first | exact u_call (hP := hind _ (by (try simp only [ByteArray.size_append, ba_size, List.size_toArray, List.length_cons, List.length_nil]); omega)) | exact u_call (hP := words_m (by (try simp only [ByteArray.size_append, ba_size, List.size_toArray, List.length_cons, List.length_nil]); omega)) | exact u_call (hP := i1 _ (by (try simp only [ByteArray.size_append, ba_size, List.size_toArray, List.length_cons, List.length_nil]); omega)) | exact u_call (hP := wByte_m 125 rfl (by (try simp only [ByteArray.size_append, ba_size, List.size_toArray, List.length_cons, List.length_nil]); omega)) | exact u_call (hP := i2 _ (by (try simp only [ByteArray.size_append, ba_size, List.size_toArray, List.length_cons, List.length_nil]); omega)) | exact u_call (hP := wStr_m (by (try simp only [ByteArray.size_append, ba_size, List.size_toArray, List.length_cons, List.length_nil]); omega)))) (k := ?_) | refine t_f ?_) | ((with_reducible apply i_ds); first | refine t_s AS.s ?_ | refine t_s (by first | exact u_mut (hP := hind _ (by (try simp only [ByteArray.size_append, ba_size, List.size_toArray, List.length_cons, List.length_nil]); omega)) | exact u_mut (hP := words_m (by (try simp only [ByteArray.size_append, ba_size, List.size_toArray, List.length_cons, List.length_nil]); omega)) | exact u_mut (hP := i1 _ (by (try simp only [ByteArray.size_append, ba_size, List.size_toArray, List.length_cons, List.length_nil]); omega)) | exact u_mut (hP := wByte_m 125 rfl (by (try simp only [ByteArray.size_append, ba_size, List.size_toArray, List.length_cons, List.length_nil]); omega)) | exact u_mut (hP := i2 _ (by (try simp only [ByteArray.size_append, ba_size, List.size_toArray, List.length_cons, List.length_nil]); omega)) | exact u_mut (hP := wStr_m (by (try simp only [ByteArray.size_append, ba_size, List.size_toArray, List.length_cons, List.length_nil]); omega))) ?_) | ((with_reducible refine i_aw ?_); first | refine v_yes ?_ | refine v_no ?_ | (refine v_cond (fun hc => ?_) (fun hc => ?_); all_goals (try (exfalso; simp [*] at hc; done)); all_goals (try (exfalso; revert hc; simp; omega)))) | ((with_reducible refine i_rt ?_); first | refine k_b ?_ | refine k_s ?_ | refine k_i ?_ | refine k_v ?_ | refine k_c ?_ | exact r_0 | exact r_0n | ((first | refine k_2 ?_ ?_ | refine k_2c ?_ ?_); all_goals (with_reducible (first | apply un_b | apply un_i | apply un_s | apply un_a)))) | ((with_reducible apply al_id); dsimp only [List.append]) | (refine q_bloX rfl ?_) | (refine ⟨by decide +kernel, ?_⟩) | fail)
        all_goals (simp only [ByteArray.append_assoc])
      · rw [if_neg he] at hb ⊢
        simp only [ByteArray.size_append, ba_size, List.size_toArray, List.length_cons, List.length_nil] at hb
        refine fm3 (fn := Tryz.f42) Tryz.call42 Tryz.func42 rfl Tryz.ntmps42 Tryz.results42 rfl (by first | rfl | simp [V.ok, okL, C.ok, okA, okV]) rfl rfl ?_
        repeat' (first | (with_reducible first | apply AW.seq | apply AW.block | apply AW.scope | apply AW.skip | apply AW.ret | apply AW.exit | apply AW.label | apply q_then | apply q_thenR | apply q_thenE | apply q_bloN | apply q_bloR | apply q_bloE | apply q_strN | apply q_strR | apply q_strE | apply s_e | refine m_b rfl ?_ ?_ | refine m_g rfl ?_ | refine m_o rfl ?_ ?_ | refine v_reg ?_ | refine v_drw ?_ | refine v_rgl ?_ | refine v_drb ?_) | ((with_reducible apply i_dv); first | refine t_v AS.v ?_ | refine t_v (by first | exact u_call (hP := hind _ (by (try simp only [ByteArray.size_append, ba_size, List.size_toArray, List.length_cons, List.length_nil]); omega)) | exact u_call (hP := words_m (by (try simp only [ByteArray.size_append, ba_size, List.size_toArray, List.length_cons, List.length_nil]); omega)) | exact u_call (hP := i1 _ (by (try simp only [ByteArray.size_append, ba_size, List.size_toArray, List.length_cons, List.length_nil]); omega)) | exact u_call (hP := wByte_m 125 rfl (by (try simp only [ByteArray.size_append, ba_size, List.size_toArray, List.length_cons, List.length_nil]); omega))) ?_ | refine t_w AS.w ?_ | refine t_w (by first | exact u_mut (hP := hind _ (by (try simp only [ByteArray.size_append, ba_size, List.size_toArray, List.length_cons, List.length_nil]); omega)) | exact u_mut (hP := words_m (by (try simp only [ByteArray.size_append, ba_size, List.size_toArray, List.length_cons, List.length_nil]); omega)) | exact u_mut (hP := i1 _ (by (try simp only [ByteArray.size_append, ba_size, List.size_toArray, List.length_cons, List.length_nil]); omega)) | exact u_mut (hP := wByte_m 125 rfl (by (try simp only [ByteArray.size_append, ba_size, List.size_toArray, List.length_cons, List.length_nil]); omega))) ?_) | ((with_reducible apply i_dg); first | refine t_n ?_ | refine t_m (hs := fun hg => AS.v) (k := ?_) | refine t_m (hs := fun hg => (by first | exact u_call (hP := hind _ (by (try simp only [ByteArray.size_append, ba_size, List.size_toArray, List.length_cons, List.length_nil]); omega)) | exact u_call (hP := words_m (by (try simp only [ByteArray.size_append, ba_size, List.size_toArray, List.length_cons, List.length_nil]); omega)) | exact u_call (hP := i1 _ (by (try simp only [ByteArray.size_append, ba_size, List.size_toArray, List.length_cons, List.length_nil]); omega)) | exact u_call (hP := wByte_m 125 rfl (by (try simp only [ByteArray.size_append, ba_size, List.size_toArray, List.length_cons, List.length_nil]); omega)))) (k := ?_) | refine t_f ?_) | ((with_reducible apply i_ds); first | refine t_s AS.s ?_ | refine t_s (by first | exact u_mut (hP := hind _ (by (try simp only [ByteArray.size_append, ba_size, List.size_toArray, List.length_cons, List.length_nil]); omega)) | exact u_mut (hP := words_m (by (try simp only [ByteArray.size_append, ba_size, List.size_toArray, List.length_cons, List.length_nil]); omega)) | exact u_mut (hP := i1 _ (by (try simp only [ByteArray.size_append, ba_size, List.size_toArray, List.length_cons, List.length_nil]); omega)) | exact u_mut (hP := wByte_m 125 rfl (by (try simp only [ByteArray.size_append, ba_size, List.size_toArray, List.length_cons, List.length_nil]); omega))) ?_) | ((with_reducible refine i_aw ?_); first | refine v_yes ?_ | refine v_no ?_ | (refine v_cond (fun hc => ?_) (fun hc => ?_); all_goals (try (exfalso; simp [*] at hc; done)); all_goals (try (exfalso; revert hc; simp; omega)))) | ((with_reducible refine i_rt ?_); first | refine k_b ?_ | refine k_s ?_ | refine k_i ?_ | refine k_v ?_ | refine k_c ?_ | exact r_0 | exact r_0n | ((first | refine k_2 ?_ ?_ | refine k_2c ?_ ?_); all_goals (with_reducible (first | apply un_b | apply un_i | apply un_s | apply un_a)))) | ((with_reducible apply al_id); dsimp only [List.append]) | (refine q_bloX rfl ?_) | (refine ⟨by decide +kernel, ?_⟩) | fail)
        all_goals (simp only [ByteArray.append_assoc, ba_nil2])
end Am
namespace Am
set_option maxRecDepth 100000
set_option maxHeartbeats 4000000
def NamesR (n : NS) : ByteArray × Int := if namedB n true then (nsT n, 0) else (⟨#[]⟩, 2)
theorem Names_p {n : NS} (hb : (nsT n).size ≤ 4398046511000) : Pure Tryz.prog 23 [.agg (nsC n)] (.tup [.c (sS (NamesR n).1), .c (sI (NamesR n).2)]) := by
  refine fn1 (fn := Tryz.f23) Tryz.call23 Tryz.func23 rfl Tryz.ntmps23 Tryz.results23 rfl (by first | rfl | simp [V.ok, okL, C.ok, okA, okV]) ?_
  repeat' (first | (with_reducible first | apply AW.seq | apply AW.block | apply AW.scope | apply AW.skip | apply AW.ret | apply AW.exit | apply AW.label | apply q_then | apply q_thenR | apply q_thenE | apply q_bloN | apply q_bloR | apply q_bloE | apply q_strN | apply q_strR | apply q_strE | apply s_e | refine m_b rfl ?_ ?_ | refine m_g rfl ?_ | refine m_o rfl ?_ ?_ | refine v_reg ?_ | refine v_drw ?_ | refine v_rgl ?_ | refine v_drb ?_) | ((with_reducible apply i_dv); first | refine t_v AS.v ?_ | refine t_v (by first | exact u_call (hP := named_p _ _) | exact u_call (hP := names_q hb)) ?_ | refine t_w AS.w ?_ | refine t_w (by first | exact u_mut (hP := named_p _ _) | exact u_mut (hP := names_q hb)) ?_) | ((with_reducible apply i_dg); first | refine t_n ?_ | refine t_m (hs := fun hg => AS.v) (k := ?_) | refine t_m (hs := fun hg => (by first | exact u_call (hP := named_p _ _) | exact u_call (hP := names_q hb))) (k := ?_) | refine t_f ?_) | ((with_reducible apply i_ds); first | refine t_s AS.s ?_ | refine t_s (by first | exact u_mut (hP := named_p _ _) | exact u_mut (hP := names_q hb)) ?_) | ((with_reducible refine i_aw ?_); first | refine v_yes ?_ | refine v_no ?_ | (refine v_cond (fun hc => ?_) (fun hc => ?_); all_goals (try (exfalso; simp [*] at hc; done)); all_goals (try (exfalso; revert hc; simp; omega)))) | ((with_reducible refine i_rt ?_); first | refine k_b ?_ | refine k_s ?_ | refine k_i ?_ | refine k_v ?_ | refine k_c ?_ | exact r_0 | exact r_0n | ((first | refine k_2 ?_ ?_ | refine k_2c ?_ ?_); all_goals (with_reducible (first | apply un_b | apply un_i | apply un_s | apply un_a)))) | ((with_reducible apply al_id); dsimp only [List.append]) | (refine q_bloX rfl ?_) | (refine ⟨by decide +kernel, ?_⟩) | fail)
  all_goals (unfold NamesR; simp_all)
def ConstraintR (e : Ex) (v : Bool) : ByteArray × Int := if consB e v then (exT e, 0) else (⟨#[]⟩, 2)
theorem Constraint_p {e : Ex} {v : Bool} (hb : consB e v = true → (exT e).size ≤ 4398046511000) : Pure Tryz.prog 25 [.agg (exC e), .c (sB v)] (.tup [.c (sS (ConstraintR e v).1), .c (sI (ConstraintR e v).2)]) := by
  cases h : consB e v with
  | true =>
    have hp := expression_p h (hb h)
    refine fn2 (fn := Tryz.f25) Tryz.call25 Tryz.func25 rfl Tryz.ntmps25 Tryz.results25 rfl (by first | rfl | simp [V.ok, okL, C.ok, okA, okV]) ?_
    repeat' (first | (with_reducible first | apply AW.seq | apply AW.block | apply AW.scope | apply AW.skip | apply AW.ret | apply AW.exit | apply AW.label | apply q_then | apply q_thenR | apply q_thenE | apply q_bloN | apply q_bloR | apply q_bloE | apply q_strN | apply q_strR | apply q_strE | apply s_e | refine m_b rfl ?_ ?_ | refine m_g rfl ?_ | refine m_o rfl ?_ ?_ | refine v_reg ?_ | refine v_drw ?_ | refine v_rgl ?_ | refine v_drb ?_) | ((with_reducible apply i_dv); first | refine t_v AS.v ?_ | refine t_v (by first | exact u_call (hP := constrained_p _ _) | exact u_call (hP := hp)) ?_ | refine t_w AS.w ?_ | refine t_w (by first | exact u_mut (hP := constrained_p _ _) | exact u_mut (hP := hp)) ?_) | ((with_reducible apply i_dg); first | refine t_n ?_ | refine t_m (hs := fun hg => AS.v) (k := ?_) | refine t_m (hs := fun hg => (by first | exact u_call (hP := constrained_p _ _) | exact u_call (hP := hp))) (k := ?_) | refine t_f ?_) | ((with_reducible apply i_ds); first | refine t_s AS.s ?_ | refine t_s (by first | exact u_mut (hP := constrained_p _ _) | exact u_mut (hP := hp)) ?_) | ((with_reducible refine i_aw ?_); first | refine v_yes ?_ | refine v_no ?_ | (refine v_cond (fun hc => ?_) (fun hc => ?_); all_goals (try (exfalso; simp [*] at hc; done)); all_goals (try (exfalso; revert hc; simp; omega)))) | ((with_reducible refine i_rt ?_); first | refine k_b ?_ | refine k_s ?_ | refine k_i ?_ | refine k_v ?_ | refine k_c ?_ | exact r_0 | exact r_0n | ((first | refine k_2 ?_ ?_ | refine k_2c ?_ ?_); all_goals (with_reducible (first | apply un_b | apply un_i | apply un_s | apply un_a)))) | ((with_reducible apply al_id); dsimp only [List.append]) | (refine q_bloX rfl ?_) | (refine ⟨by decide +kernel, ?_⟩) | fail)
    all_goals (unfold ConstraintR; simp_all)
  | false =>
    refine fn2 (fn := Tryz.f25) Tryz.call25 Tryz.func25 rfl Tryz.ntmps25 Tryz.results25 rfl (by first | rfl | simp [V.ok, okL, C.ok, okA, okV]) ?_
    repeat' (first | (with_reducible first | apply AW.seq | apply AW.block | apply AW.scope | apply AW.skip | apply AW.ret | apply AW.exit | apply AW.label | apply q_then | apply q_thenR | apply q_thenE | apply q_bloN | apply q_bloR | apply q_bloE | apply q_strN | apply q_strR | apply q_strE | apply s_e | refine m_b rfl ?_ ?_ | refine m_g rfl ?_ | refine m_o rfl ?_ ?_ | refine v_reg ?_ | refine v_drw ?_ | refine v_rgl ?_ | refine v_drb ?_) | ((with_reducible apply i_dv); first | refine t_v AS.v ?_ | refine t_v (by first | exact u_call (hP := constrained_p _ _)) ?_ | refine t_w AS.w ?_ | refine t_w (by first | exact u_mut (hP := constrained_p _ _)) ?_) | ((with_reducible apply i_dg); first | refine t_n ?_ | refine t_m (hs := fun hg => AS.v) (k := ?_) | refine t_m (hs := fun hg => (by first | exact u_call (hP := constrained_p _ _))) (k := ?_) | refine t_f ?_) | ((with_reducible apply i_ds); first | refine t_s AS.s ?_ | refine t_s (by first | exact u_mut (hP := constrained_p _ _)) ?_) | ((with_reducible refine i_aw ?_); first | refine v_yes ?_ | refine v_no ?_ | (refine v_cond (fun hc => ?_) (fun hc => ?_); all_goals (try (exfalso; simp [*] at hc; done)); all_goals (try (exfalso; revert hc; simp; omega)))) | ((with_reducible refine i_rt ?_); first | refine k_b ?_ | refine k_s ?_ | refine k_i ?_ | refine k_v ?_ | refine k_c ?_ | exact r_0 | exact r_0n | ((first | refine k_2 ?_ ?_ | refine k_2c ?_ ?_); all_goals (with_reducible (first | apply un_b | apply un_i | apply un_s | apply un_a)))) | ((with_reducible apply al_id); dsimp only [List.append]) | (refine q_bloX rfl ?_) | (refine ⟨by decide +kernel, ?_⟩) | fail)
    all_goals (unfold ConstraintR; simp_all)
def RangeR (r : Rg) : ByteArray × Int := if rgB r then (rgT r, 0) else (⟨#[]⟩, 2)
theorem Range_p {r : Rg} (hb : (rgT r).size ≤ 140737488355328) : Pure Tryz.prog 27 [.agg (rgC r)] (.tup [.c (sS (RangeR r).1), .c (sI (RangeR r).2)]) := by
  refine fn1 (fn := Tryz.f27) Tryz.call27 Tryz.func27 rfl Tryz.ntmps27 Tryz.results27 rfl (by first | rfl | simp [V.ok, okL, C.ok, okA, okV]) ?_
  repeat' (first | (with_reducible first | apply AW.seq | apply AW.block | apply AW.scope | apply AW.skip | apply AW.ret | apply AW.exit | apply AW.label | apply q_then | apply q_thenR | apply q_thenE | apply q_bloN | apply q_bloR | apply q_bloE | apply q_strN | apply q_strR | apply q_strE | apply s_e | refine m_b rfl ?_ ?_ | refine m_g rfl ?_ | refine m_o rfl ?_ ?_ | refine v_reg ?_ | refine v_drw ?_ | refine v_rgl ?_ | refine v_drb ?_) | ((with_reducible apply i_dv); first | refine t_v AS.v ?_ | refine t_v (by first | exact u_call (hP := ranged_p _) | exact u_call (hP := span_p hb)) ?_ | refine t_w AS.w ?_ | refine t_w (by first | exact u_mut (hP := ranged_p _) | exact u_mut (hP := span_p hb)) ?_) | ((with_reducible apply i_dg); first | refine t_n ?_ | refine t_m (hs := fun hg => AS.v) (k := ?_) | refine t_m (hs := fun hg => (by first | exact u_call (hP := ranged_p _) | exact u_call (hP := span_p hb))) (k := ?_) | refine t_f ?_) | ((with_reducible apply i_ds); first | refine t_s AS.s ?_ | refine t_s (by first | exact u_mut (hP := ranged_p _) | exact u_mut (hP := span_p hb)) ?_) | ((with_reducible refine i_aw ?_); first | refine v_yes ?_ | refine v_no ?_ | (refine v_cond (fun hc => ?_) (fun hc => ?_); all_goals (try (exfalso; simp [*] at hc; done)); all_goals (try (exfalso; revert hc; simp; omega)))) | ((with_reducible refine i_rt ?_); first | refine k_b ?_ | refine k_s ?_ | refine k_i ?_ | refine k_v ?_ | refine k_c ?_ | exact r_0 | exact r_0n | ((first | refine k_2 ?_ ?_ | refine k_2c ?_ ?_); all_goals (with_reducible (first | apply un_b | apply un_i | apply un_s | apply un_a)))) | ((with_reducible apply al_id); dsimp only [List.append]) | (refine q_bloX rfl ?_) | (refine ⟨by decide +kernel, ?_⟩) | fail)
  all_goals (unfold RangeR; simp_all)
def ContextR (c : Ct) : ByteArray × Int := if cxB c then (cxT c, 0) else (⟨#[]⟩, 2)
theorem Context_p {c : Ct} (hb : (cxT c).size ≤ 140737488355328) : Pure Tryz.prog 29 [.agg (cxC c)] (.tup [.c (sS (ContextR c).1), .c (sI (ContextR c).2)]) := by
  refine fn1 (fn := Tryz.f29) Tryz.call29 Tryz.func29 rfl Tryz.ntmps29 Tryz.results29 rfl (by first | rfl | simp [V.ok, okL, C.ok, okA, okV]) ?_
  repeat' (first | (with_reducible first | apply AW.seq | apply AW.block | apply AW.scope | apply AW.skip | apply AW.ret | apply AW.exit | apply AW.label | apply q_then | apply q_thenR | apply q_thenE | apply q_bloN | apply q_bloR | apply q_bloE | apply q_strN | apply q_strR | apply q_strE | apply s_e | refine m_b rfl ?_ ?_ | refine m_g rfl ?_ | refine m_o rfl ?_ ?_ | refine v_reg ?_ | refine v_drw ?_ | refine v_rgl ?_ | refine v_drb ?_) | ((with_reducible apply i_dv); first | refine t_v AS.v ?_ | refine t_v (by first | exact u_call (hP := contextual_p _) | exact u_call (hP := context_p hb)) ?_ | refine t_w AS.w ?_ | refine t_w (by first | exact u_mut (hP := contextual_p _) | exact u_mut (hP := context_p hb)) ?_) | ((with_reducible apply i_dg); first | refine t_n ?_ | refine t_m (hs := fun hg => AS.v) (k := ?_) | refine t_m (hs := fun hg => (by first | exact u_call (hP := contextual_p _) | exact u_call (hP := context_p hb))) (k := ?_) | refine t_f ?_) | ((with_reducible apply i_ds); first | refine t_s AS.s ?_ | refine t_s (by first | exact u_mut (hP := contextual_p _) | exact u_mut (hP := context_p hb)) ?_) | ((with_reducible refine i_aw ?_); first | refine v_yes ?_ | refine v_no ?_ | (refine v_cond (fun hc => ?_) (fun hc => ?_); all_goals (try (exfalso; simp [*] at hc; done)); all_goals (try (exfalso; revert hc; simp; omega)))) | ((with_reducible refine i_rt ?_); first | refine k_b ?_ | refine k_s ?_ | refine k_i ?_ | refine k_v ?_ | refine k_c ?_ | exact r_0 | exact r_0n | ((first | refine k_2 ?_ ?_ | refine k_2c ?_ ?_); all_goals (with_reducible (first | apply un_b | apply un_i | apply un_s | apply un_a)))) | ((with_reducible apply al_id); dsimp only [List.append]) | (refine q_bloX rfl ?_) | (refine ⟨by decide +kernel, ?_⟩) | fail)
  all_goals (unfold ContextR; simp_all)
def itT (n : Int) : ByteArray := ⟨(Lib.itoa n).toArray⟩
def modT (m : Mo) : ByteArray := sepB ⟨#[32]⟩ [⟨#[109, 111, 100, 117, 108, 101]⟩, m.name, itT m.version ++ ⟨#[59, 10]⟩] ++ blkT 0 m.stmts
def ModuleR (m : Mo) : ByteArray × Int := if checkB m ≠ 0 then (⟨#[]⟩, checkB m) else if 65536 < (modT m).size then (⟨#[]⟩, 4) else (modT m, 0)
def StatementR (s : Stm) (lv : Int) : ByteArray × Int :=
  if lv < 0 ∨ 12 < lv then (⟨#[]⟩, 2) else if 12 < dpL [s] then (⟨#[]⟩, 4) else if fmB s = false then (⟨#[]⟩, 2)
  else if 65536 < (stT lv.toNat s).size then (⟨#[]⟩, 4) else (stT lv.toNat s, 0)
theorem it_le (n : Int) (h0 : 0 ≤ n) (h1 : n ≤ 9999) : (itT n).size ≤ 100 := by
  have := Lib.itoa_length_le n (by omega) (by omega)
  show (Lib.itoa n).toArray.size ≤ _
  rw [List.size_toArray]; omega
theorem Module_p {m : Mo} (h2 : dpL m.stmts ≤ 4611686018427387904) (hw : checkB m = 0 → (∀ x ∈ m.stmts, stW x) ∧ (modT m).size ≤ 70368744177664) : Pure Tryz.prog 12 [.agg (moC m)] (.tup [.c (sS (ModuleR m).1), .c (sI (ModuleR m).2)]) := by
  by_cases h : checkB m = 0
  · obtain ⟨w1, w2⟩ := hw h
    have hv : 0 ≤ m.version ∧ m.version ≤ 9999 := by
      unfold checkB at h
      split at h
      · omega
      · split at h
        · omega
        · omega
    have hi : Pure Tryz.prog 34 [.c (sI m.version)] (.c (sS (itT m.version))) := itoa_p m.version (by omega) (by omega)
    have hil := it_le m.version hv.1 hv.2
    have w3 := w2
    unfold modT at w3
    have hp : ∀ b : ByteArray, b.size + (blkT 0 m.stmts).size ≤ 70368744177664 → MC Tryz.prog 35 (bldS b) [.c (.lst none 55 (m.stmts.map stC)), .c (sI 0)] (.tup []) (bldS (b ++ blkT 0 m.stmts)) := fun b hb =>
      block_m (lv := 0) (fun x hx b' hb' => statement_n _ x (Nat.lt_succ_self _) (w1 x hx) 0 b' hb') hb
    rw [ByteArray.size_append] at w3
    have hz : ByteArray.size ⟨#[]⟩ = 0 := rfl
    have e0 : ∀ (b c : ByteArray), (⟨#[]⟩ : ByteArray) ++ b ++ c = b ++ c := fun b c => by rw [nil_ba]
    refine fn1 (fn := Tryz.f12) Tryz.call12 Tryz.func12 rfl Tryz.ntmps12 Tryz.results12 rfl (by first | rfl | simp [V.ok, okL, C.ok, okA, okV]) ?_
    repeat' (first | (with_reducible first | apply AW.seq | apply AW.block | apply AW.scope | apply AW.skip | apply AW.ret | apply AW.exit | apply AW.label | apply q_then | apply q_thenR | apply q_thenE | apply q_bloN | apply q_bloR | apply q_bloE | apply q_strN | apply q_strR | apply q_strE | apply s_e | refine m_b rfl ?_ ?_ | refine m_g rfl ?_ | refine m_o rfl ?_ ?_ | refine v_reg ?_ | refine v_drw ?_ | refine v_rgl ?_ | refine v_drb ?_) | ((with_reducible apply i_dv); first | refine t_v AS.v ?_ | refine t_v (by first | exact u_call (hP := Check_p h2) | exact u_call (hP := hi) | exact u_call (hP := words_m (by rw [hz]; omega)) | exact u_call (hP := hp _ (by rw [nil_ba]; omega)) | exact u_call (hP := wLen_m) | exact u_call (hP := wText_m (by rw [nil_ba]; rw [ByteArray.size_append]; omega))) ?_ | refine t_w AS.w ?_ | refine t_w (by first | exact u_mut (hP := Check_p h2) | exact u_mut (hP := hi) | exact u_mut (hP := words_m (by rw [hz]; omega)) | exact u_mut (hP := hp _ (by rw [nil_ba]; omega)) | exact u_mut (hP := wLen_m) | exact u_mut (hP := wText_m (by rw [nil_ba]; rw [ByteArray.size_append]; omega))) ?_) | ((with_reducible apply i_dg); first | refine t_n ?_ | refine t_m (hs := fun hg => AS.v) (k := ?_) | refine t_m (hs := fun hg => (by first | exact u_call (hP := Check_p h2) | exact u_call (hP := hi) | exact u_call (hP := words_m (by rw [hz]; omega)) | exact u_call (hP := hp _ (by rw [nil_ba]; omega)) | exact u_call (hP := wLen_m) | exact u_call (hP := wText_m (by rw [nil_ba]; rw [ByteArray.size_append]; omega)))) (k := ?_) | refine t_f ?_) | ((with_reducible apply i_ds); first | refine t_s AS.s ?_ | refine t_s (by first | exact u_mut (hP := Check_p h2) | exact u_mut (hP := hi) | exact u_mut (hP := words_m (by rw [hz]; omega)) | exact u_mut (hP := hp _ (by rw [nil_ba]; omega)) | exact u_mut (hP := wLen_m) | exact u_mut (hP := wText_m (by rw [nil_ba]; rw [ByteArray.size_append]; omega))) ?_) | ((with_reducible refine i_aw ?_); first | refine v_yes ?_ | refine v_no ?_ | (refine v_cond (fun hc => ?_) (fun hc => ?_); all_goals (try (exfalso; simp [*] at hc; done)); all_goals (try (exfalso; revert hc; simp; omega)))) | ((with_reducible refine i_rt ?_); first | refine k_b ?_ | refine k_s ?_ | refine k_i ?_ | refine k_v ?_ | refine k_c ?_ | exact r_0 | exact r_0n | ((first | refine k_2 ?_ ?_ | refine k_2c ?_ ?_); all_goals (with_reducible (first | apply un_b | apply un_i | apply un_s | apply un_a)))) | ((with_reducible apply al_id); dsimp only [List.append]) | (refine q_bloX rfl ?_) | (refine ⟨by decide +kernel, ?_⟩) | fail)
    all_goals
      have e1 : (⟨#[]⟩ : ByteArray) ++ sepB ⟨#[32]⟩ [⟨#[109, 111, 100, 117, 108, 101]⟩, m.name, itT m.version ++ ⟨#[59, 10]⟩] ++ blkT 0 m.stmts = modT m := by rw [nil_ba]; rfl
      try rw [e1] at hc
      try rw [e1]
      unfold ModuleR
      simp only [decide_eq_true_eq, decide_eq_false_iff_not] at hc
      rw [if_neg (by rw [h]; decide)]
      first | rw [if_pos (by omega)] | rw [if_neg (by omega)]
  · refine fn1 (fn := Tryz.f12) Tryz.call12 Tryz.func12 rfl Tryz.ntmps12 Tryz.results12 rfl (by first | rfl | simp [V.ok, okL, C.ok, okA, okV]) ?_
    repeat' (first | (with_reducible first | apply AW.seq | apply AW.block | apply AW.scope | apply AW.skip | apply AW.ret | apply AW.exit | apply AW.label | apply q_then | apply q_thenR | apply q_thenE | apply q_bloN | apply q_bloR | apply q_bloE | apply q_strN | apply q_strR | apply q_strE | apply s_e | refine m_b rfl ?_ ?_ | refine m_g rfl ?_ | refine m_o rfl ?_ ?_ | refine v_reg ?_ | refine v_drw ?_ | refine v_rgl ?_ | refine v_drb ?_) | ((with_reducible apply i_dv); first | refine t_v AS.v ?_ | refine t_v (by first | exact u_call (hP := Check_p h2)) ?_ | refine t_w AS.w ?_ | refine t_w (by first | exact u_mut (hP := Check_p h2)) ?_) | ((with_reducible apply i_dg); first | refine t_n ?_ | refine t_m (hs := fun hg => AS.v) (k := ?_) | refine t_m (hs := fun hg => (by first | exact u_call (hP := Check_p h2))) (k := ?_) | refine t_f ?_) | ((with_reducible apply i_ds); first | refine t_s AS.s ?_ | refine t_s (by first | exact u_mut (hP := Check_p h2)) ?_) | ((with_reducible refine i_aw ?_); first | refine v_yes ?_ | refine v_no ?_ | (refine v_cond (fun hc => ?_) (fun hc => ?_); all_goals (try (exfalso; simp [*] at hc; done)); all_goals (try (exfalso; revert hc; simp; omega)))) | ((with_reducible refine i_rt ?_); first | refine k_b ?_ | refine k_s ?_ | refine k_i ?_ | refine k_v ?_ | refine k_c ?_ | exact r_0 | exact r_0n | ((first | refine k_2 ?_ ?_ | refine k_2c ?_ ?_); all_goals (with_reducible (first | apply un_b | apply un_i | apply un_s | apply un_a)))) | ((with_reducible apply al_id); dsimp only [List.append]) | (refine q_bloX rfl ?_) | (refine ⟨by decide +kernel, ?_⟩) | fail)
    all_goals
      unfold ModuleR
      rw [if_pos h]
theorem Statement_p {s : Stm} {lv : Int} (h2 : dpL [s] ≤ 4611686018427387904) (hw : 0 ≤ lv → lv ≤ 12 → dpL [s] ≤ 12 → fmB s = true → stW s ∧ (stT lv.toNat s).size ≤ 70368744177664) : Pure Tryz.prog 14 [.agg (stC s), .c (sI lv)] (.tup [.c (sS (StatementR s lv).1), .c (sI (StatementR s lv).2)]) := by
  have hd := depth_p (l := [s]) h2
  by_cases h : 0 ≤ lv ∧ lv ≤ 12 ∧ dpL [s] ≤ 12 ∧ fmB s = true
  · obtain ⟨k1, k2, k3, k4⟩ := h
    obtain ⟨w1, w2⟩ := hw k1 k2 k3 k4
    obtain ⟨n, hn⟩ : ∃ n : Nat, lv = n := ⟨lv.toNat, by omega⟩
    have hz : ByteArray.size ⟨#[]⟩ = 0 := rfl
    have hnn : lv.toNat = n := by omega
    rw [hnn] at w2
    have hp : MC Tryz.prog 42 (bldS ⟨#[]⟩) [.agg (stC s), .c (sI lv)] (.tup []) (bldS (⟨#[]⟩ ++ stT n s)) := by
      rw [hn]
      exact statement_n _ s (Nat.lt_succ_self _) w1 n ⟨#[]⟩ (by rw [hz]; omega)
    rw [nil_ba] at hp
    clear hw h2
    refine fn2 (fn := Tryz.f14) Tryz.call14 Tryz.func14 rfl Tryz.ntmps14 Tryz.results14 rfl (by first | rfl | simp [V.ok, okL, C.ok, okA, okV]) ?_
    repeat' (first | (with_reducible first | apply AW.seq | apply AW.block | apply AW.scope | apply AW.skip | apply AW.ret | apply AW.exit | apply AW.label | apply q_then | apply q_thenR | apply q_thenE | apply q_bloN | apply q_bloR | apply q_bloE | apply q_strN | apply q_strR | apply q_strE | apply s_e | refine m_b rfl ?_ ?_ | refine m_g rfl ?_ | refine m_o rfl ?_ ?_ | refine v_reg ?_ | refine v_drw ?_ | refine v_rgl ?_ | refine v_drb ?_) | ((with_reducible apply i_dv); first | refine t_v AS.v ?_ | refine t_v (by first | exact u_call (hP := hd) | exact u_call (hP := formed_p _) | exact u_call (hP := hp) | exact u_call (hP := wLen_m) | exact u_call (hP := wText_m (by omega))) ?_ | refine t_w AS.w ?_ | refine t_w (by first | exact u_mut (hP := hd) | exact u_mut (hP := formed_p _) | exact u_mut (hP := hp) | exact u_mut (hP := wLen_m) | exact u_mut (hP := wText_m (by omega))) ?_) | ((with_reducible apply i_dg); first | refine t_n ?_ | refine t_m (hs := fun hg => AS.v) (k := ?_) | refine t_m (hs := fun hg => (by first | exact u_call (hP := hd) | exact u_call (hP := formed_p _) | exact u_call (hP := hp) | exact u_call (hP := wLen_m) | exact u_call (hP := wText_m (by omega)))) (k := ?_) | refine t_f ?_) | ((with_reducible apply i_ds); first | refine t_s AS.s ?_ | refine t_s (by first | exact u_mut (hP := hd) | exact u_mut (hP := formed_p _) | exact u_mut (hP := hp) | exact u_mut (hP := wLen_m) | exact u_mut (hP := wText_m (by omega))) ?_) | ((with_reducible refine i_aw ?_); first | refine v_yes ?_ | refine v_no ?_ | (refine v_cond (fun hc => ?_) (fun hc => ?_); all_goals (try (exfalso; simp [*] at hc; done)); all_goals (try (exfalso; revert hc; simp; omega)))) | ((with_reducible refine i_rt ?_); first | refine k_b ?_ | refine k_s ?_ | refine k_i ?_ | refine k_v ?_ | refine k_c ?_ | exact r_0 | exact r_0n | ((first | refine k_2 ?_ ?_ | refine k_2c ?_ ?_); all_goals (with_reducible (first | apply un_b | apply un_i | apply un_s | apply un_a)))) | ((with_reducible apply al_id); dsimp only [List.append]) | (refine q_bloX rfl ?_) | (refine ⟨by decide +kernel, ?_⟩) | fail)
    all_goals
      simp only [decide_eq_true_eq, decide_eq_false_iff_not] at hc
      unfold StatementR
      rw [if_neg (by omega), if_neg (by omega), if_neg (by simp [k4]), hnn]
      first | rw [if_pos (by omega)] | rw [if_neg (by omega)]
  · clear hw
    have e1 : fmB s = false ∨ fmB s = true := by cases fmB s <;> simp
    refine fn2 (fn := Tryz.f14) Tryz.call14 Tryz.func14 rfl Tryz.ntmps14 Tryz.results14 rfl (by first | rfl | simp [V.ok, okL, C.ok, okA, okV]) ?_
    repeat' (first | (with_reducible first | apply AW.seq | apply AW.block | apply AW.scope | apply AW.skip | apply AW.ret | apply AW.exit | apply AW.label | apply q_then | apply q_thenR | apply q_thenE | apply q_bloN | apply q_bloR | apply q_bloE | apply q_strN | apply q_strR | apply q_strE | apply s_e | refine m_b rfl ?_ ?_ | refine m_g rfl ?_ | refine m_o rfl ?_ ?_ | refine v_reg ?_ | refine v_drw ?_ | refine v_rgl ?_ | refine v_drb ?_) | ((with_reducible apply i_dv); first | refine t_v AS.v ?_ | refine t_v (by first | exact u_call (hP := hd) | exact u_call (hP := formed_p _)) ?_ | refine t_w AS.w ?_ | refine t_w (by first | exact u_mut (hP := hd) | exact u_mut (hP := formed_p _)) ?_) | ((with_reducible apply i_dg); first | refine t_n ?_ | refine t_m (hs := fun hg => AS.v) (k := ?_) | refine t_m (hs := fun hg => (by first | exact u_call (hP := hd) | exact u_call (hP := formed_p _))) (k := ?_) | refine t_f ?_) | ((with_reducible apply i_ds); first | refine t_s AS.s ?_ | refine t_s (by first | exact u_mut (hP := hd) | exact u_mut (hP := formed_p _)) ?_) | ((with_reducible refine i_aw ?_); first | refine v_yes ?_ | refine v_no ?_ | (refine v_cond (fun hc => ?_) (fun hc => ?_); all_goals (try (exfalso; simp [*] at hc; done)); all_goals (try (exfalso; revert hc; simp; omega)))) | ((with_reducible refine i_rt ?_); first | refine k_b ?_ | refine k_s ?_ | refine k_i ?_ | refine k_v ?_ | refine k_c ?_ | exact r_0 | exact r_0n | ((first | refine k_2 ?_ ?_ | refine k_2c ?_ ?_); all_goals (with_reducible (first | apply un_b | apply un_i | apply un_s | apply un_a)))) | ((with_reducible apply al_id); dsimp only [List.append]) | (refine q_bloX rfl ?_) | (refine ⟨by decide +kernel, ?_⟩) | fail)
    all_goals
      unfold StatementR
      grind
end Am
namespace Am
set_option maxRecDepth 100000
set_option maxHeartbeats 4000000
def smL (l : List ByteArray) : Bool := decide (l.length ≤ 40) && l.all (fun s => decide (s.size ≤ 300))
def smN (n : NS) : Bool := smL n.names && smL n.except
mutual
def smX (levels : Int) : Ex → Bool
  | ⟨_, _, _, _, names, _, kids⟩ => decide (0 < levels) && decide (kids.length ≤ 4) && smL names && smXs (levels - 1) kids
def smXs (levels : Int) : List Ex → Bool
  | [] => true
  | x :: l => smX levels x && smXs levels l
end
theorem smXs_all (levels : Int) : ∀ l : List Ex, smXs levels l = l.all (smX levels)
  | [] => by rw [smXs]; rfl
  | x :: l => by rw [smXs, smXs_all levels l]; rfl
theorem smX_eq (levels : Int) (e : Ex) : smX levels e = (decide (0 < levels) && decide (e.kids.length ≤ 4) && smL e.names && e.kids.all (smX (levels - 1))) := by
  cases e; rw [smX, smXs_all]
def smV (l : Lv) : Bool := decide (l.sens.size ≤ 300) && decide (l.cats.length ≤ 70) && l.cats.all (fun s => decide (s.frm.size ≤ 300) && decide (s.to.size ≤ 300))
def smR (r : Rg) : Bool := smV r.lo && smV r.hi
def smC (c : Ct) : Bool := smL [c.user, c.role, c.type] && smR c.rng
def smH (s : Stm) : Bool := smL [s.name, s.result, s.text] && smL s.list && smL s.aliases && smN s.source && smN s.target && smN s.cls && smN s.perms && (smX 16 s.cond && smR s.range && smR ⟨s.level, Lv.zero⟩ && smC s.ctx)
mutual
def smSt (levels : Int) : Stm → Bool
  | ⟨a1, a2, a3, a4, a5, a6, a7, a8, a9, a10, a11, a12, a13, a14, a15, a16, a17, t, e⟩ => smH ⟨a1, a2, a3, a4, a5, a6, a7, a8, a9, a10, a11, a12, a13, a14, a15, a16, a17, t, e⟩ &&
    (decide (t.length = 0) || (decide (0 < levels - 1) && decide (t.length ≤ 12) && smAll (levels - 1) t)) && (decide (e.length = 0) || (decide (0 < levels - 1) && decide (e.length ≤ 12) && smAll (levels - 1) e))
def smAll (levels : Int) : List Stm → Bool
  | [] => true
  | x :: l => smSt levels x && smAll levels l
end
theorem smAll_all (levels : Int) : ∀ l : List Stm, smAll levels l = l.all (smSt levels)
  | [] => by rw [smAll]; rfl
  | x :: l => by rw [smAll, smAll_all levels l]; rfl
def smallS (l : List Stm) (most levels : Int) : Bool := decide (0 < levels) && decide ((l.length : Int) ≤ most) && l.all (smSt levels)
theorem smSt_eq (levels : Int) (s : Stm) : smSt levels s = (smH s && (decide (s.thn.length = 0) || smallS s.thn 12 (levels - 1)) && (decide (s.els.length = 0) || smallS s.els 12 (levels - 1))) := by
  cases s
  rw [smSt, smAll_all, smAll_all]
  simp only [smallS]
  have e : ∀ n : Nat, decide (n ≤ 12) = decide ((n : Int) ≤ 12) := fun n => decide_eq_decide.2 (by omega)
  simp only [e]
def okM (l : List Stm) : Bool := smallS l 40 14 && decide (cntW l ≤ 400)
theorem dp_mem {l : List Stm} {x : Stm} (h : x ∈ l) : dpS x ≤ dpL l := by
  induction l with
  | nil => cases h
  | cons y l ih =>
    rw [dpL]
    rcases List.mem_cons.1 h with rfl | h
    · omega
    · have := ih h; omega
theorem dp_all {l : List Stm} {d : Nat} (h : ∀ x ∈ l, dpS x ≤ d) : dpL l ≤ d := by
  induction l with
  | nil => rw [dpL]; omega
  | cons y l ih =>
    rw [dpL]
    have := ih fun x hx => h x (.tail _ hx)
    have := h y (.head _)
    omega
theorem dp_small : ∀ (n : Nat) (s : Stm) (levels : Int), SizeOf.sizeOf s < n → 1 ≤ levels → smSt levels s = true → (dpS s : Int) ≤ levels - 1
  | 0, _, _, h, _, _ => absurd h (Nat.not_lt_zero _)
  | n + 1, s, levels, h, h1, hs => by
    rw [smSt_eq, Bool.and_eq_true, Bool.and_eq_true] at hs
    obtain ⟨⟨_, ht⟩, he⟩ := hs
    have part : ∀ l : List Stm, (∀ x ∈ l, SizeOf.sizeOf x < SizeOf.sizeOf s) → (decide (l.length = 0) || smallS l 12 (levels - 1)) = true → l.length = 0 ∨ (2 ≤ levels ∧ (dpL l : Int) ≤ levels - 2) := fun l hl hh => by
      rw [Bool.or_eq_true] at hh
      rcases hh with hh | hh
      · exact .inl (of_decide_eq_true hh)
      · unfold smallS at hh
        rw [Bool.and_eq_true, Bool.and_eq_true] at hh
        have h2 := of_decide_eq_true hh.1.1
        refine .inr ⟨by omega, ?_⟩
        have : dpL l ≤ (levels - 2).toNat := dp_all fun x hx => by
          have := dp_small n x (levels - 1) (by have := hl x hx; omega) (by omega) (List.all_eq_true.1 hh.2 x hx)
          omega
        omega
    have p1 := part s.thn (fun x hx => thn_lt hx) ht
    have p2 := part s.els (fun x hx => els_lt hx) he
    have e0 : ∀ l : List Stm, l.length = 0 → dpL l = 0 := fun l h => by
      have : l = [] := List.length_eq_zero_iff.1 h
      rw [this, dpL]
    rw [dpS_eq]
    split
    · rcases p1 with p1 | p1
      · have := e0 _ p1
        rcases p2 with p2 | p2
        · rename_i hh; omega
        · omega
      · rcases p2 with p2 | p2
        · have := e0 _ p2; omega
        · omega
    · omega
theorem dpL_small {l : List Stm} {most levels : Int} (h : smallS l most levels = true) : (dpL l : Int) ≤ levels - 1 := by
  unfold smallS at h
  rw [Bool.and_eq_true, Bool.and_eq_true] at h
  have h2 := of_decide_eq_true h.1.1
  have : dpL l ≤ (levels - 1).toNat := dp_all fun x hx => by
    have := dp_small _ x levels (Nat.lt_succ_self _) (by omega) (List.all_eq_true.1 h.2 x hx)
    omega
  omega
def gr : Nat → Nat
  | 0 => 1
  | d + 1 => 1 + 24 * gr d
theorem cntL_le {l : List Stm} {g : Nat} (h : ∀ x ∈ l, 1 + cntS x ≤ g) : cntL l ≤ l.length * g := by
  induction l with
  | nil => rw [cntL]; omega
  | cons y l ih =>
    rw [cntL]
    have h1 := ih fun x hx => h x (.tail _ hx)
    have h2 := h y (.head _)
    rw [List.length_cons, Nat.add_mul]
    omega
theorem cnt_small : ∀ (n : Nat) (s : Stm) (levels : Int) (d : Nat), SizeOf.sizeOf s < n → smSt levels s = true → dpS s ≤ d → 1 + cntS s ≤ gr d
  | 0, _, _, _, h, _, _ => absurd h (Nat.not_lt_zero _)
  | n + 1, s, levels, d, h, hs, hd => by
    rw [smSt_eq, Bool.and_eq_true, Bool.and_eq_true] at hs
    obtain ⟨⟨_, ht⟩, he⟩ := hs
    rw [cntS_eq]
    rw [dpS_eq] at hd
    have e0 : ∀ l : List Stm, l.length = 0 → cntL l = 0 := fun l h => by
      have : l = [] := List.length_eq_zero_iff.1 h
      rw [this, cntL]
    split at hd
    · cases d with
      | zero => omega
      | succ d =>
        have part : ∀ l : List Stm, (∀ x ∈ l, SizeOf.sizeOf x < SizeOf.sizeOf s) → dpL l ≤ d → (decide (l.length = 0) || smallS l 12 (levels - 1)) = true → cntL l ≤ 12 * gr d := fun l hl hdl hh => by
          rw [Bool.or_eq_true] at hh
          rcases hh with hh | hh
          · rw [e0 l (of_decide_eq_true hh)]; omega
          · unfold smallS at hh
            rw [Bool.and_eq_true, Bool.and_eq_true] at hh
            have h2 := of_decide_eq_true hh.1.2
            have h3 := cntL_le (l := l) (g := gr d) fun x hx => cnt_small n x (levels - 1) d (by have := hl x hx; omega) (List.all_eq_true.1 hh.2 x hx) (Nat.le_trans (dp_mem hx) hdl)
            have h4 : l.length * gr d ≤ 12 * gr d := Nat.mul_le_mul_right _ (by omega)
            omega
        have p1 := part s.thn (fun x hx => thn_lt hx) (by omega) ht
        have p2 := part s.els (fun x hx => els_lt hx) (by omega) he
        rw [gr]
        omega
    · rename_i hh
      rw [e0 s.thn (by omega), e0 s.els (by omega)]
      cases d with
      | zero => rw [gr]; omega
      | succ d => rw [gr]; omega
theorem cnt_ok {l : List Stm} (h : okM l = true) (hd : dpL l ≤ 12) : cntL l ≤ 400 ∧ cntW l = cntL l := by
  unfold okM at h
  rw [Bool.and_eq_true] at h
  have h2 := of_decide_eq_true h.2
  have h1 := h.1
  unfold smallS at h1
  rw [Bool.and_eq_true, Bool.and_eq_true] at h1
  have hl := of_decide_eq_true h1.1.2
  have hg : gr 12 = 38106751489299841 ∨ gr 12 ≤ 40000000000000000 := by right; decide
  have h3 := cntL_le (l := l) (g := gr 12) fun x hx => cnt_small _ x 14 12 (Nat.lt_succ_self _) (List.all_eq_true.1 h1.2 x hx) (Nat.le_trans (dp_mem hx) hd)
  have h4 : l.length * gr 12 ≤ 40 * gr 12 := Nat.mul_le_mul_right _ (by omega)
  have h5 : gr 12 ≤ 40000000000000000 := by decide
  have h6 : cntL l ≤ 40 * 40000000000000000 := Nat.le_trans h3 (Nat.le_trans h4 (Nat.mul_le_mul_left _ h5))
  have e : cntW l = cntL l := by unfold cntW; rw [wrap64 (by omega) (by omega)]
  exact ⟨by omega, e⟩
theorem tl_short {sep : ByteArray} {b : Nat} : ∀ {l : List ByteArray}, (∀ x ∈ l, x.size ≤ b) → (tlB sep l).size ≤ l.length * (sep.size + b)
  | [], _ => by rw [tlB]; exact Nat.zero_le _
  | x :: l, h => by
    have h1 := tl_short (sep := sep) (b := b) (l := l) fun y hy => h y (.tail _ hy)
    have h2 := h x (.head _)
    rw [tlB, ByteArray.size_append, ByteArray.size_append, List.length_cons, Nat.add_mul]
    omega
theorem sep_short {sep : ByteArray} {b : Nat} {l : List ByteArray} (h : ∀ x ∈ l, x.size ≤ b) : (sepB sep l).size ≤ l.length * (sep.size + b) := by
  match l, h with
  | [], _ => rw [sepB]; exact Nat.zero_le _
  | x :: l, h =>
    have h1 := tl_short (sep := sep) (b := b) (l := l) fun y hy => h y (.tail _ hy)
    have h2 := h x (.head _)
    rw [sepB, ByteArray.size_append, List.length_cons, Nat.add_mul]
    omega
theorem smL_of {l : List ByteArray} (h : smL l = true) : l.length ≤ 40 ∧ ∀ x ∈ l, x.size ≤ 300 := by
  unfold smL at h
  rw [Bool.and_eq_true] at h
  exact ⟨of_decide_eq_true h.1, fun x hx => of_decide_eq_true (List.all_eq_true.1 h.2 x hx)⟩
theorem brT_size (l : List ByteArray) : (brT l).size = (sepB ⟨#[32]⟩ l).size + 4 := by
  simp only [brT, ByteArray.size_append, ba_size, List.size_toArray, List.length_cons, List.length_nil]; omega
theorem brT_short {l : List ByteArray} (h : smL l = true) : (brT l).size ≤ 12100 := by
  obtain ⟨h1, h2⟩ := smL_of h
  have h3 := sep_short (sep := ⟨#[32]⟩) h2
  have h4 : ByteArray.size ⟨#[32]⟩ = 1 := rfl
  rw [h4] at h3
  have h5 : l.length * 301 ≤ 40 * 301 := Nat.mul_le_mul_right _ h1
  rw [brT_size]; omega
theorem comma_short {l : List ByteArray} (h : smL l = true) : (sepB ⟨#[44, 32]⟩ l).size ≤ 12100 := by
  obtain ⟨h1, h2⟩ := smL_of h
  have h3 := sep_short (sep := ⟨#[44, 32]⟩) h2
  have h4 : ByteArray.size ⟨#[44, 32]⟩ = 2 := rfl
  rw [h4] at h3
  have h5 : l.length * 302 ≤ 40 * 302 := Nat.mul_le_mul_right _ h1
  omega
theorem nsL_short {n : NS} (h : smN n = true) : (nsL n).length ≤ 82 ∧ ∀ x ∈ nsL n, x.size ≤ 302 := by
  unfold smN at h
  rw [Bool.and_eq_true] at h
  obtain ⟨a1, a2⟩ := smL_of h.1
  obtain ⟨b1, b2⟩ := smL_of h.2
  have hs : ByteArray.size ⟨#[45, 32]⟩ = 2 := rfl
  constructor
  · simp only [nsL, nsL2, nsL1, List.length_append, List.length_map]
    split <;> split <;> simp only [List.length_cons, List.length_nil] <;> omega
  · intro x hx
    simp only [nsL, nsL2, nsL1, List.mem_append, List.mem_map] at hx
    rcases hx with ((hx | hx) | ⟨y, hy, rfl⟩) | hx
    · split at hx
      · simp at hx; rw [hx]; decide
      · cases hx
    · have := a2 x hx; omega
    · have := b2 y hy
      rw [ByteArray.size_append, hs]; omega
    · split at hx
      · simp at hx; rw [hx]; decide
      · cases hx
theorem nsT_short {n : NS} (h : smN n = true) : (nsT n).size ≤ 25000 := by
  obtain ⟨h1, h2⟩ := nsL_short h
  have h3 := sep_short (sep := ⟨#[32]⟩) h2
  have h4 : ByteArray.size ⟨#[32]⟩ = 1 := rfl
  rw [h4] at h3
  have h5 : (nsL n).length * 303 ≤ 82 * 303 := Nat.mul_le_mul_right _ h1
  have hb := brT_size (nsL n)
  have h6 : ByteArray.size ⟨#[126, 32]⟩ = 2 := rfl
  have hg : ((nsL n).getD 0 ⟨#[]⟩).size ≤ 302 := by
    rw [List.getD_eq_getElem?_getD]
    cases hx : (nsL n)[0]? with
    | none => exact Nat.zero_le _
    | some x => exact h2 x (List.mem_of_getElem? hx)
  unfold nsT
  split
  · rw [ByteArray.size_append, h6]; omega
  · split
    · rw [ByteArray.size_append, h6]; omega
    · split <;> omega
theorem smV_of {l : Lv} (h : smV l = true) : l.sens.size ≤ 300 ∧ l.cats.length ≤ 70 ∧ ∀ x ∈ l.cats, x.frm.size ≤ 300 ∧ x.to.size ≤ 300 := by
  unfold smV at h
  rw [Bool.and_eq_true, Bool.and_eq_true] at h
  refine ⟨of_decide_eq_true h.1.1, of_decide_eq_true h.1.2, fun x hx => ?_⟩
  have := List.all_eq_true.1 h.2 x hx
  rw [Bool.and_eq_true] at this
  exact ⟨of_decide_eq_true this.1, of_decide_eq_true this.2⟩
theorem spT_short {x : Sp} (h : x.frm.size ≤ 300 ∧ x.to.size ≤ 300) : (spT x).size ≤ 601 := by
  have h4 : ByteArray.size ⟨#[46]⟩ = 1 := rfl
  unfold spT
  split
  · omega
  · rw [ByteArray.size_append, ByteArray.size_append, h4]; omega
theorem lvT_short {l : Lv} (h : smV l = true) : (lvT l).size ≤ 43000 := by
  obtain ⟨h1, h2, h3⟩ := smV_of h
  have h4 : ByteArray.size ⟨#[58]⟩ = 1 := rfl
  have h5 : ByteArray.size ⟨#[44]⟩ = 1 := rfl
  unfold lvT
  split
  · omega
  · have h6 := sep_short (sep := ⟨#[44]⟩) (b := 601) (l := l.cats.map spT) fun y hy => by
      obtain ⟨x, hx, rfl⟩ := List.mem_map.1 hy
      exact spT_short (h3 x hx)
    rw [h5, List.length_map] at h6
    have h7 : l.cats.length * 602 ≤ 70 * 602 := Nat.mul_le_mul_right _ h2
    rw [ByteArray.size_append, ByteArray.size_append, h4]; omega
theorem rgT_short {r : Rg} (h : smR r = true) : (rgT r).size ≤ 90000 := by
  unfold smR at h
  rw [Bool.and_eq_true] at h
  have h1 := lvT_short h.1
  have h2 := lvT_short h.2
  have h4 : ByteArray.size ⟨#[45]⟩ = 1 := rfl
  unfold rgT
  split
  · omega
  · rw [ByteArray.size_append, ByteArray.size_append, h4]; omega
theorem cxT_short {c : Ct} (h : smC c = true) : (cxT c).size ≤ 91000 := by
  unfold smC at h
  rw [Bool.and_eq_true] at h
  have h1 := rgT_short h.2
  obtain ⟨_, h2⟩ := smL_of h.1
  have a := h2 c.user (by simp)
  have b := h2 c.role (by simp)
  have d := h2 c.type (by simp)
  have h4 : ByteArray.size ⟨#[58]⟩ = 1 := rfl
  simp only [cxT, ByteArray.size_append, h4]; omega
theorem opdT_size (p : Bool) (s : ByteArray) : (opdT p s).size ≤ s.size + 2 := by
  unfold opdT; split
  · simp only [ByteArray.size_append, ba_size, List.size_toArray, List.length_cons, List.length_nil]; omega
  · omega
theorem parT_size (p q : Int) (s : ByteArray) : (parT p q s).size ≤ s.size + 2 := by
  unfold parT; split
  · simp only [ByteArray.size_append, ba_size, List.size_toArray, List.length_cons, List.length_nil]; omega
  · omega
theorem exT_short : ∀ (k : Nat) (e : Ex) (limit level levels : Int), level + k = 13 → limit ≤ 15 → nodeB limit level e = true → smX levels e = true → (exT e).size + 10 ≤ 2 ^ k * 25100
  | 0, e, limit, level, levels, hk, hl, h, hs => by
    rw [nodeB_eq, Bool.and_eq_true] at h
    have := h.1
    unfold headB at this
    rw [Bool.and_eq_true, Bool.and_eq_true] at this
    have := of_decide_eq_true this.1.1
    omega
  | k + 1, e, limit, level, levels, hk, hl, h, hs => by
    rw [nodeB_eq, Bool.and_eq_true] at h
    obtain ⟨h, hkids⟩ := h
    rw [smX_eq, Bool.and_eq_true, Bool.and_eq_true] at hs
    have ih : ∀ x ∈ e.kids, (exT x).size + 10 ≤ 2 ^ k * 25100 := fun x hx => exT_short k x limit (level + 1) (levels - 1) (by omega) hl (List.all_eq_true.1 hkids x hx) (List.all_eq_true.1 hs.2 x hx)
    have hp : 1 ≤ 2 ^ k := Nat.one_le_two_pow
    rw [Nat.pow_succ]
    generalize 2 ^ k = P at *
    unfold headB at h
    rw [Bool.and_eq_true] at h
    have hn := h.2
    rw [exT_eq]
    have s4 : ByteArray.size ⟨#[32, 38, 38, 32]⟩ = 4 := rfl
    have t4 : ByteArray.size ⟨#[32, 124, 124, 32]⟩ = 4 := rfl
    have u4 : ByteArray.size ⟨#[32, 105, 110, 32]⟩ = 4 := rfl
    have s1 : ByteArray.size ⟨#[33]⟩ = 1 := rfl
    have s2 : ByteArray.size ⟨#[32]⟩ = 1 := rfl
    by_cases o2 : e.op = 2
    · obtain ⟨a, ha⟩ := one_of (l := e.kids) (by simp [o2] at hn; omega)
      have i1 := ih a (by rw [ha]; simp)
      have j1 := opdT_size (decide (a.op ≠ 2)) (exT a)
      simp only [exH, o2, ha, if_true, List.map_cons, List.map_nil, List.getD_cons_zero, ByteArray.size_append, s1]
      omega
    by_cases o3 : e.op = 3
    · obtain ⟨a, b, ha⟩ := two_of (l := e.kids) (by simp [o3] at hn; omega)
      have i1 := ih a (by rw [ha]; simp)
      have i2 := ih b (by rw [ha]; simp)
      have j1 := opdT_size (decide (a.op = 4)) (exT a)
      have j2 := opdT_size (decide (b.op = 4) || decide (b.op = 3)) (exT b)
      have e1 : exH e.op e.a e.rel e.b e.names (e.kids.map exT) (e.kids.map (·.op)) = opdT (decide (a.op = 4)) (exT a) ++ ⟨#[32, 38, 38, 32]⟩ ++ opdT (decide (b.op = 4) || decide (b.op = 3)) (exT b) := by simp [exH, o3, ha]
      rw [e1, ByteArray.size_append, ByteArray.size_append, s4]
      omega
    by_cases o4 : e.op = 4
    · obtain ⟨a, b, ha⟩ := two_of (l := e.kids) (by simp [o4] at hn; omega)
      have i1 := ih a (by rw [ha]; simp)
      have i2 := ih b (by rw [ha]; simp)
      have j2 := opdT_size (decide (b.op = 4)) (exT b)
      have e1 : exH e.op e.a e.rel e.b e.names (e.kids.map exT) (e.kids.map (·.op)) = exT a ++ ⟨#[32, 124, 124, 32]⟩ ++ opdT (decide (b.op = 4)) (exT b) := by simp [exH, o4, ha]
      rw [e1, ByteArray.size_append, ByteArray.size_append, t4]
      omega
    by_cases o9 : e.op = 9
    · have ha : 0 ≤ e.a ∧ e.a < 15 := by simp [o9] at hn; omega
      have i1 := att_le (n := e.a.toNat) (by omega)
      have i2 := nsT_short (n := ⟨false, false, false, e.names, []⟩) (by simp only [smN, hs.1.2]; rfl)
      have e1 : exH e.op e.a e.rel e.b e.names (e.kids.map exT) (e.kids.map (·.op)) = attT e.a.toNat ++ ⟨#[32, 105, 110, 32]⟩ ++ nsT ⟨false, false, false, e.names, []⟩ := by simp [exH, o9]
      rw [e1, ByteArray.size_append, ByteArray.size_append, u4]
      omega
    · have ha : e.op = 8 ∧ 0 ≤ e.a ∧ e.a < 15 ∧ 0 ≤ e.b ∧ e.b < 15 := by
        simp [o2, o3, o4, o9] at hn
        omega
      have i1 := att_le (n := e.a.toNat) (by omega)
      have i2 := att_le (n := e.b.toNat) (by omega)
      have i3 := rel_le e.rel
      have e1 : exH e.op e.a e.rel e.b e.names (e.kids.map exT) (e.kids.map (·.op)) = attT e.a.toNat ++ ⟨#[32]⟩ ++ relT e.rel ++ ⟨#[32]⟩ ++ attT e.b.toNat := by simp [exH, ha.1]
      rw [e1]
      simp only [ByteArray.size_append, s2]
      omega
theorem exT_small {e : Ex} {v : Bool} (h : consB e v = true) (hs : smX 16 e = true) : (exT e).size ≤ 268435456 := by
  have := exT_short 12 e (if v then 15 else 10) 1 16 (by omega) (by split <;> decide) h hs
  omega
theorem btI_short : ∀ (k : Nat) (e : Ex) (level levels : Int), level + k = 13 → bchkB level e = 0 → smX levels e = true → (btI e).size + 10 ≤ 2 ^ k * 25100
  | 0, e, level, levels, hk, h, hs => by
    rw [bchkB_eq] at h
    unfold bnodeB at h
    rw [if_pos (by omega : 12 < level)] at h
    simp at h
  | k + 1, e, level, levels, hk, h, hs => by
    obtain ⟨h0, h1, h2, h3⟩ := bchk_node h
    rw [smX_eq, Bool.and_eq_true, Bool.and_eq_true] at hs
    have ih : ∀ x ∈ e.kids, (btI x).size + 10 ≤ 2 ^ k * 25100 := fun x hx => btI_short k x (level + 1) (levels - 1) (by omega) (h3 x hx) (List.all_eq_true.1 hs.2 x hx)
    have hp : 1 ≤ 2 ^ k := Nat.one_le_two_pow
    rw [Nat.pow_succ]
    generalize 2 ^ k = P at *
    have s1 : ByteArray.size ⟨#[33]⟩ = 1 := rfl
    have s2 : ByteArray.size ⟨#[32]⟩ = 1 := rfl
    rw [btI_eq]
    by_cases k0 : opnB e.op = 0
    · obtain ⟨x, hx⟩ := one_of (l := e.names) (by have := h2 k0; omega)
      have hx2 := (smL_of hs.1.2).2 x (by rw [hx]; simp)
      have e1 : btH e.op e.names (e.kids.map btI) (e.kids.map (·.op)) = x := by simp [btH, k0, hx]
      rw [e1]; omega
    by_cases k1 : opnB e.op = 1
    · obtain ⟨a, ha⟩ := one_of (l := e.kids) (by omega)
      have i1 := ih a (by rw [ha]; simp)
      have j1 := parT_size (strB a.op) 5 (btI a)
      have e1 : btH e.op e.names (e.kids.map btI) (e.kids.map (·.op)) = ⟨#[33]⟩ ++ parT (strB a.op) 5 (btI a) := by simp [btH, k1, ha]
      rw [e1, ByteArray.size_append, s1]; omega
    · have k2 : opnB e.op = 2 := by
        have : opnB e.op = 0 ∨ opnB e.op = 1 ∨ opnB e.op = 2 ∨ opnB e.op = -1 := by unfold opnB; grind
        omega
      obtain ⟨a, b, ha⟩ := two_of (l := e.kids) (by omega)
      have i1 := ih a (by rw [ha]; simp)
      have i2 := ih b (by rw [ha]; simp)
      have j1 := parT_size (strB a.op) (signN e.op) (btI a)
      have j2 := parT_size (strB b.op) (signN e.op + 1) (btI b)
      have hm : (signM e.op).size ≤ 2 := by
        unfold signM
        repeat' split
        all_goals decide
      have e1 : btH e.op e.names (e.kids.map btI) (e.kids.map (·.op)) = parT (strB a.op) (signN e.op) (btI a) ++ ⟨#[32]⟩ ++ signM e.op ++ ⟨#[32]⟩ ++ parT (strB b.op) (signN e.op + 1) (btI b) := by simp [btH, k2, ha]
      rw [e1]
      simp only [ByteArray.size_append, s2]
      omega
theorem btT_small {e : Ex} (h : bchkB 1 e = 0) (hs : smX 16 e = true) : (btT e 0).size ≤ 268435456 := by
  have := btI_short 12 e 1 16 (by omega) h hs
  have h2 := parT_size (strB e.op) 0 (btI e)
  unfold btT
  omega
theorem smH_bd {s : Stm} (h : smH s = true) : Bd s := by
  unfold smH at h
  simp only [Bool.and_eq_true] at h
  obtain ⟨⟨⟨⟨⟨⟨⟨h1, h2⟩, h3⟩, h4⟩, h5⟩, h6⟩, h7⟩, ⟨⟨h8, h9⟩, h10⟩, h11⟩ := h
  have t := (smL_of h1).2
  have a := t s.name (by simp)
  have b := t s.result (by simp)
  have c := t s.text (by simp)
  have d := brT_short h2
  have e := comma_short h2
  have f := brT_short h3
  have g4 := nsT_short h4
  have g5 := nsT_short h5
  have g6 := nsT_short h6
  have g7 := nsT_short h7
  have g9 := rgT_short h9
  unfold smR at h10
  rw [Bool.and_eq_true] at h10
  have g10 : (lvT s.level).size ≤ 43000 := lvT_short h10.1
  have g11 := cxT_short h11
  exact ⟨by omega, by omega, by omega, by omega, by omega, by omega, by omega, by omega, by omega, by omega, fun hh => by
    rcases hh with hh | hh
    · exact exT_small hh h8
    · exact exT_small hh h8, fun hh => btT_small hh h8, by omega, by omega, by omega⟩
end Am
namespace Am
set_option maxRecDepth 100000
set_option maxHeartbeats 4000000
theorem fm_well (s : Stm) : fmB s = wellH (s.thn.all fmB) (s.els.all fmB) s := by rw [fmB_eq, well_fm]
theorem rok_of {tb eb : Bool} {s : Stm} (h : wellH tb eb s = true) : Rok s := by
  unfold wellH at h
  rw [Bool.and_eq_true] at h
  obtain ⟨h, -⟩ := h
  refine ⟨fun k => ?_, fun k => ?_, fun k => ?_, fun k => ?_, fun k => ?_, fun k => ?_, fun k => ?_, ?_⟩
  · simp [k, ruleQ] at h; omega
  · simp [k, ruleQ] at h; omega
  · simp [k, ruleQ] at h; exact h.2
  · simp [k, ruleQ] at h; exact h.2
  · simp [k, declQ] at h
    split at h
    · omega
    · first | omega | (simp at h; omega) | (simp only [Bool.and_eq_true, decide_eq_true_eq] at h; omega)
  · simp [k, ruleQ] at h; omega
  · simp [k, declQ] at h; omega
  · split at h
    · omega
    · split at h
      · omega
      · split at h
        · omega
        · split at h
          · omega
          · cases h
theorem kept_blk {s : Stm} (h1 : s.kind ≠ 17) (h2 : s.kind ≠ 18) : (keptS s).thn = [] ∧ (keptS s).els = [] := by
  unfold keptS
  simp only [apply_ite Stm.thn, apply_ite Stm.els, h1, h2, if_false, ite_self, Stm.zero, and_self]
theorem blk_nil {tb eb : Bool} {s : Stm} (h : wellH tb eb s = true) (h1 : s.kind ≠ 17) (h2 : s.kind ≠ 18) : s.thn = [] ∧ s.els = [] := by
  unfold wellH at h
  rw [Bool.and_eq_true] at h
  obtain ⟨-, h⟩ := h
  rw [sameK_Z _ _ (kept_kind s)] at h
  obtain ⟨k1, k2⟩ := kept_blk h1 h2
  simp only [Bool.and_eq_true, k1, k2, nil_all2] at h
  exact ⟨List.length_eq_zero_iff.1 (of_decide_eq_true h.1.2), List.length_eq_zero_iff.1 (of_decide_eq_true h.2)⟩
theorem part_small {l : List Stm} {levels : Int} (h : (decide (l.length = 0) || smallS l 12 levels) = true) : ∀ x ∈ l, smSt levels x = true := fun x hx => by
  rw [Bool.or_eq_true] at h
  rcases h with h | h
  · have := of_decide_eq_true h
    have : l = [] := List.length_eq_zero_iff.1 this
    rw [this] at hx; cases hx
  · unfold smallS at h
    rw [Bool.and_eq_true] at h
    exact List.all_eq_true.1 h.2 x hx
theorem fm_W : ∀ (n : Nat) (s : Stm) (levels : Int), SizeOf.sizeOf s < n → fmB s = true → smSt levels s = true → stW s
  | 0, _, _, h, _, _ => absurd h (Nat.not_lt_zero _)
  | n + 1, s, levels, h, hf, hs => by
    rw [smSt_eq, Bool.and_eq_true, Bool.and_eq_true] at hs
    rw [fm_well] at hf
    have hw := hf
    rw [stW_eq]
    by_cases k : s.kind = 17 ∨ s.kind = 18
    · unfold wellH at hf
      rw [Bool.and_eq_true] at hf
      have hf := hf.1
      have hq : (s.kind = 17 → bchkB 1 s.cond = 0) ∧ s.thn.all fmB = true ∧ s.els.all fmB = true := by
        rcases k with k | k
        · simp only [k, Int.reduceEq, or_self, if_false, if_true, Bool.and_eq_true] at hf
          exact ⟨fun _ => of_decide_eq_true hf.1.1.1, hf.1.2, hf.2⟩
        · simp only [k, Int.reduceEq, or_self, if_false, if_true, Bool.and_eq_true] at hf
          exact ⟨fun h => by rw [k] at h; omega, hf.1.2, hf.2⟩
      refine ⟨⟨fun a b => by omega, smH_bd hs.1.1, hq.1⟩, fun x hx => ?_, fun x hx => ?_⟩
      · exact fm_W n x (levels - 1) (by have := thn_lt hx; omega) (List.all_eq_true.1 hq.2.1 x hx) (part_small hs.1.2 x hx)
      · exact fm_W n x (levels - 1) (by have := els_lt hx; omega) (List.all_eq_true.1 hq.2.2 x hx) (part_small hs.2 x hx)
    · obtain ⟨b1, b2⟩ := blk_nil hw (by omega) (by omega)
      refine ⟨⟨fun _ _ => rok_of hw, smH_bd hs.1.1, fun h => by omega⟩, ?_, ?_⟩
      · rw [b1]; intro x hx; cases hx
      · rw [b2]; intro x hx; cases hx
theorem ruledT_le {s : Stm} (hr : Rok s) (hb : Bd s) : (ruledT s).size ≤ 2000000000 := by
  obtain ⟨r12, r13, r15, r16, r19, r21, r23, r1, r2⟩ := hr
  obtain ⟨b1, b2, b3, b4, b5, b6, b7, b8, b9, b10, b11, b12, b13, b14, b15⟩ := hb
  have u4 := kw_le (l := kwR) (by decide) s.op
  have u3 := kw_le (l := kwX) (by decide) s.op
  have u8 := kw_le (l := kwQ) (by decide) s.op
  have u5 := kw_le (l := kwF) (by decide) (s.op + 1)
  have u9 := kw_le (l := kwA) (by decide) s.op
  by_cases k15 : s.kind = 15
  · have := b11 (.inl (r15 k15))
    simp only [ruledT, k15, Int.reduceEq, if_false, if_true, ByteArray.size_append, ba_size, List.size_toArray, List.length_cons, List.length_nil]
    omega
  by_cases k16 : s.kind = 16
  · have := b11 (.inr (r16 k16))
    simp only [ruledT, k16, Int.reduceEq, if_false, if_true, ByteArray.size_append, ba_size, List.size_toArray, List.length_cons, List.length_nil]
    omega
  unfold ruledT
  rw [if_neg k15, if_neg k16]
  clear r12 r13 r15 r16 r19 r21 r23 b11 b12
  repeat' split
  all_goals
    simp only [pairT, ByteArray.size_append, ba_size, List.size_toArray, List.length_cons, List.length_nil]
    omega
theorem lineT_le {s : Stm} (hr : Rok s) (hb : Bd s) : (lineT s).size ≤ 2000000000 := by
  have hl := ruledT_le hr hb
  obtain ⟨b1, b2, b3, b4, b5, b6, b7, b8, b9, b10, b11, b12, b13, b14, b15⟩ := hb
  have f2 := boolT_le s.value
  clear hr b11 b12
  unfold lineT
  repeat' split
  all_goals
    try simp only [ByteArray.size_append, ba_size, List.size_toArray, List.length_cons, List.length_nil]
    omega
theorem headT_le {s : Stm} (hb : Bd s) (hc : s.kind = 17 → bchkB 1 s.cond = 0) : (headT s).size ≤ 300000000 := by
  unfold headT
  split
  · rename_i k
    have := hb.cond2 (hc k)
    simp only [sepB, tlB, ByteArray.size_append, ba_size, List.size_toArray, List.length_cons, List.length_nil]
    omega
  · simp only [sepB, tlB, ByteArray.size_append, ba_size, List.size_toArray, List.length_cons, List.length_nil]
    omega
theorem blk_size {lv : Nat} {l : List Stm} (h : ∀ x ∈ l, (stT lv x).size + 1 ≤ (1 + cntS x) * 4294967296) : (blkT lv l).size ≤ cntL l * 4294967296 := by
  induction l with
  | nil => rw [blkT]; exact Nat.zero_le _
  | cons x l ih =>
    have h1 := ih fun y hy => h y (.tail _ hy)
    have h2 := h x (.head _)
    have h3 : ByteArray.size ⟨#[10]⟩ = 1 := rfl
    rw [blkT, ByteArray.size_append, ByteArray.size_append, h3, cntL]
    omega
theorem st_size : ∀ (n : Nat) (s : Stm) (levels : Int) (lv : Nat), SizeOf.sizeOf s < n → stW s → smSt levels s = true → (lv : Int) + levels ≤ 100 → 0 ≤ levels → (stT lv s).size + 1 ≤ (1 + cntS s) * 4294967296
  | 0, _, _, _, h, _, _, _, _ => absurd h (Nat.not_lt_zero _)
  | n + 1, s, levels, lv, h, hW, hs, hlv, hl0 => by
    rw [smSt_eq, Bool.and_eq_true, Bool.and_eq_true] at hs
    rw [stW_eq] at hW
    obtain ⟨⟨hr, hbd, hc2⟩, w1, w2⟩ := hW
    have part : ∀ l : List Stm, (∀ x ∈ l, SizeOf.sizeOf x < SizeOf.sizeOf s) → (∀ x ∈ l, stW x) → (decide (l.length = 0) || smallS l 12 (levels - 1)) = true → (blkT (lv + 1) l).size ≤ cntL l * 4294967296 := fun l hlt hw hh => by
      refine blk_size fun x hx => ?_
      have hsm := part_small hh x hx
      have h0 : 0 ≤ levels - 1 := by
        rw [Bool.or_eq_true] at hh
        rcases hh with hh | hh
        · have := of_decide_eq_true hh
          have : l = [] := List.length_eq_zero_iff.1 this
          rw [this] at hx; cases hx
        · unfold smallS at hh
          rw [Bool.and_eq_true, Bool.and_eq_true] at hh
          have := of_decide_eq_true hh.1.1
          omega
      exact st_size n x (levels - 1) (lv + 1) (by have := hlt x hx; omega) (hw x hx) hsm (by omega) h0
    have p1 := part s.thn (fun x hx => thn_lt hx) w1 hs.1.2
    have p2 := part s.els (fun x hx => els_lt hx) w2 hs.2
    have hi := indT_size lv
    rw [cntS_eq, stT_eq]
    have t1 : ByteArray.size ⟨#[59]⟩ = 1 := rfl
    have t2 : ByteArray.size ⟨#[125]⟩ = 1 := rfl
    have t3 : ByteArray.size ⟨#[32, 101, 108, 115, 101, 32, 123, 10]⟩ = 8 := rfl
    have t4 : ByteArray.size ⟨#[]⟩ = 0 := rfl
    unfold stH
    split
    · rename_i k
      have := lineT_le (hr k.1 k.2) hbd
      rw [ByteArray.size_append, ByteArray.size_append, t1]
      omega
    · have := headT_le hbd hc2
      split
      · simp only [ByteArray.size_append, t2, t3]
        omega
      · simp only [ByteArray.size_append, t2, t4]
        omega
theorem mod_ok {m : Mo} (hs : okM m.stmts = true) (hn : m.name.size ≤ 300) (h : checkB m = 0) : (∀ x ∈ m.stmts, stW x) ∧ (modT m).size ≤ 70368744177664 := by
  have hs2 := hs
  unfold okM smallS at hs2
  rw [Bool.and_eq_true, Bool.and_eq_true] at hs2
  have hc : ¬ (m.version < 0 ∨ 9999 < m.version) ∧ ¬ (1024 < cntW m.stmts ∨ 12 < dpL m.stmts) ∧ m.stmts.all fmB = true := by
    unfold checkB at h
    split at h
    · omega
    · split at h
      · omega
      · split at h
        · omega
        · split at h
          · omega
          · rename_i h1 h2 h3
            exact ⟨h1, h2, by simpa using h3⟩
  obtain ⟨hv, hd, hf⟩ := hc
  have hW : ∀ x ∈ m.stmts, stW x := fun x hx => fm_W _ x 14 (Nat.lt_succ_self _) (List.all_eq_true.1 hf x hx) (List.all_eq_true.1 hs2.1.2 x hx)
  refine ⟨hW, ?_⟩
  have hc := (cnt_ok hs (by omega)).1
  have hb := blk_size (lv := 0) (l := m.stmts) fun x hx => st_size _ x 14 0 (Nat.lt_succ_self _) (hW x hx) (List.all_eq_true.1 hs2.1.2 x hx) (by omega) (by omega)
  have hi := it_le m.version (by omega) (by omega)
  simp only [modT, sepB, tlB, ByteArray.size_append, ba_size, List.size_toArray, List.length_cons, List.length_nil]
  omega
theorem st_ok {s : Stm} {lv : Int} (hs : okM [s] = true) (h0 : 0 ≤ lv) (h1 : lv ≤ 12) (hd : dpL [s] ≤ 12) (hf : fmB s = true) : stW s ∧ (stT lv.toNat s).size ≤ 70368744177664 := by
  have hs2 := hs
  unfold okM smallS at hs2
  rw [Bool.and_eq_true, Bool.and_eq_true] at hs2
  have hm := List.all_eq_true.1 hs2.1.2 s (by simp)
  have hW := fm_W _ s 14 (Nat.lt_succ_self _) hf hm
  have hc := (cnt_ok hs hd).1
  have := st_size _ s 14 lv.toNat (Nat.lt_succ_self _) hW hm (by omega) (by omega)
  rw [cntL, cntL] at hc
  exact ⟨hW, by omega⟩
theorem dp_ok {l : List Stm} (h : okM l = true) : dpL l ≤ 4611686018427387904 := by
  unfold okM at h
  rw [Bool.and_eq_true] at h
  have := dpL_small h.1
  omega
end Am
end Go.Proofs.YtkcojiopjkllgaaGreatDoor
