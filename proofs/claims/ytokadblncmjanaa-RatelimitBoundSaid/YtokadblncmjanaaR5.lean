/- The walk of Allow. -/
import Derived.Test.YtokadblncmjanaaR4
set_option linter.unusedSimpArgs false
set_option linter.unusedVariables false
namespace Go.Proofs.Ytokadblncmjanaa
open Go.RowKit Tk
theorem look_set_ne {k : ByteArray} {c : Bk} {k' : ByteArray} (hk : ¬ k' = k) : ∀ l : List (ByteArray × Bk), lookB k' (setB k c l) = lookB k' l
  | [] => rfl
  | p :: l => by
    have ih := look_set_ne (c := c) hk l
    unfold lookB setB at ih ⊢
    rw [List.map_cons]
    by_cases hp : k = p.1
    · rw [if_pos hp]
      have h2 : ¬ k' = p.1 := fun e => hk (e.trans hp.symm)
      rw [List.find?_cons_of_neg (by simp [hk]), List.find?_cons_of_neg (by simp [h2])]
      exact ih
    · rw [if_neg hp]
      by_cases h2 : k' = p.1
      · rw [List.find?_cons_of_pos (by simp [h2]), List.find?_cons_of_pos (by simp [h2])]
      · rw [List.find?_cons_of_neg (by simp [h2]), List.find?_cons_of_neg (by simp [h2])]
        exact ih
theorem look_set_eq {k : ByteArray} {c : Bk} : ∀ {l : List (ByteArray × Bk)}, k ∈ l.map (·.1) → lookB k (setB k c l) = some c
  | p :: l, hm => by
    unfold lookB setB
    rw [List.map_cons]
    by_cases hp : k = p.1
    · rw [if_pos hp, List.find?_cons_of_pos (by simp)]; rfl
    · rw [if_neg hp, List.find?_cons_of_neg (by simp [hp])]
      have hm' : k ∈ l.map (·.1) := by
        rw [List.map_cons, List.mem_cons] at hm
        exact hm.resolve_left hp
      exact look_set_eq hm'
theorem look_ins {k : ByteArray} {c : Bk} (k' : ByteArray) : ∀ {l : List (ByteArray × Bk)}, k ∉ l.map (·.1) → lookB k' (insB k c l) = if k' = k then some c else lookB k' l
  | [], _ => by by_cases h : k' = k <;> simp [lookB, insB, h]
  | p :: l, hn => by
    simp only [List.map_cons, List.mem_cons, not_or] at hn
    have ih := look_ins (k := k) (c := c) k' hn.2
    unfold lookB at ih ⊢
    unfold insB
    split
    · by_cases h2 : k' = p.1
      · have : ¬ k' = k := fun e => hn.1 (e.symm.trans h2)
        rw [if_neg this, List.find?_cons_of_pos (by simp [h2]), List.find?_cons_of_pos (by simp [h2])]
      · rw [List.find?_cons_of_neg (by simp [h2]), List.find?_cons_of_neg (by simp [h2])]
        exact ih
    · by_cases hk : k' = k
      · rw [if_pos hk, List.find?_cons_of_pos (by simp [hk])]; rfl
      · rw [if_neg hk, List.find?_cons_of_neg (by simp [hk])]
theorem ins_has (k : ByteArray) (c : Bk) (l : List (ByteArray × Bk)) : k ∈ (insB k c l).map (·.1) := List.mem_map.2 ⟨(k, c), insB_mem.2 (.inl rfl), rfl⟩
/-- the map behind storing a bucket -/
theorem put_bs {w : World} {m : Nat} {k : ByteArray} {c : Bk} {ml : List (ByteArray × Value)} {bs bsT : List (ByteArray × Bk)} (hM : StrMap w m (mput k (bkV c) ml)) (hg : ∀ k', mget k' ml = (lookB k' bs).map bkV) (ha : AscB bsT) (hT : ∀ k', k' ≠ k → lookB k' bsT = lookB k' bs) (hk : k ∈ bsT.map (·.1)) :
    (mput k (bkV c) ml).Perm ((setB k c bsT).map ent) := by
  refine perm_of_get hM.keys ?_ fun k' => ?_
  · rw [ent_keys, setB_keys]; exact ha.nodup
  · rw [mget_put, look_get, hg]
    by_cases h : k' = k
    · subst h
      rw [if_pos rfl, look_set_eq hk]; rfl
    · rw [if_neg h, look_set_ne h, hT k' h]
def AllowPost (b m : Nat) (A : RL × Bool) (M : Int) (w : World) (e : Ending) (w' : World) : Prop :=
  ∃ ml', e = .returned (.bool A.2) ∧ LimAt w' b m ml' A.1 (M + 1) ∧ Only [b, m] w w'
set_option maxHeartbeats 4000000 in
set_option maxRecDepth 100000 in
theorem lallow {w : World} {b m : Nat} {ml : List (ByteArray × Value)} {R : RL} {M : Int} (h : LimAt w b m ml R M) (hMM : M ≤ 1000000) (k : ByteArray) (now : Int) :
    Calls Try.prog 10 #[.pointer (some ⟨b, 0, none⟩), .string k, .int .i64 now] w (AllowPost b m (R.allow k now) M w) := by
  have hge := clock_ge R now
  have hle := clock_le h.ok now
  have hAok := allow_ok h.ok k now
  have hlen : R.bs.length ≤ 1024 := by have := h.ok.len; have := h.ok.k1; omega
  obtain ⟨c0, c1, c2, c3, c4, c5, c6⟩ := h.lb.cells
  have hblt := h.blk.lt
  have hmlt := h.map.lt
  have hfr := h.blk.free 3
  have hbm := h.ne
  have hgets := h.get
  have hH := Lib.hid h
  have hp := h.ok.par
  obtain ⟨A, hA⟩ : ∃ A, R.allow k now = A := ⟨_, rfl⟩
  rw [hA] at hAok ⊢
  unfold RL.allow at hA
  generalize hct : R.clockAt now = t at *
  have HT := Lib.hid hct
  clear hct
  dsimp only at hA
  have hB1 : Blk (w.setCell ⟨b, 3, none⟩ (.int .i64 t)) b 47 #[.int .i64 R.burst, .int .i64 R.itv, .int .i64 R.keys, .int .i64 t, .int .i64 R.alw, .int .i64 R.den, .map (some m)] := h.blk.set 3 _
  have hM1 : StrMap (w.setCell ⟨b, 3, none⟩ (.int .i64 t)) m ml := h.map.of (Below.heap_setCell w ⟨b, 3, none⟩ _ m (fun e => hbm e.symm))
  have hO1 : Only [b, m] w (w.setCell ⟨b, 3, none⟩ (.int .i64 t)) := ⟨rfl, rfl, rfl, by simp, fun x _ hx => Below.heap_setCell w ⟨b, 3, none⟩ _ x (fun e => hx (by simp [e]))⟩
  have HA := Lib.hid hA
  clear hA
  go_enter Try.func10, Try.ntmps10
  go_upto_region 5 with (first | ((with_reducible refine wpTxt_q ?_ ?_ ?_); rfl; rfl; intro _ _) | ((with_reducible refine wpTxt_w0 ?_ ?_ ?_); rfl; rfl; intro _ _) | ((with_reducible refine wpTxt_s ?_ ?_); rfl; intro _ _; go_simp) | ((with_reducible refine wpTxt_sw ?_ ?_); rfl; intro _ _; go_simp) | (with_reducible refine wpTxt_nil ?_) | ((with_reducible refine wp_region_t mixed ?_ ?_); decide +kernel; intro _ _) | (go_at_call 21; ((with_reducible refine (lmade (by assumption)).mono ?_); rintro e w' ⟨rfl, rfl⟩)) | (go_at_call 22; ((with_reducible refine (lat_eq c3 HT.out).mono ?_); rintro e w' ⟨rfl, rfl⟩)))
  clear c0 c1 c2 c3 c4 c5 c6 hfr
  have hz1 : w.heap.size ≤ (w.setCell ⟨b, 3, none⟩ (.int .i64 t)).heap.size := hO1.size
  generalize w.setCell ⟨b, 3, none⟩ (.int .i64 t) = w1 at *
  have hl := run_lookup_str w1 und_bmap und_str (zero_bk w1) hM1 k true
  rw [hgets] at hl
  have d0 := hB1.cell 0
  have d1 := hB1.cell 1
  have d2 := hB1.cell 2
  have d3 := hB1.cell 3
  have d4 := hB1.cell 4
  have d5 := hB1.cell 5
  have d6 := hB1.cell 6
  have HG := Lib.hid hgets
  have hbks := hH.out.ok.later hge
  clear hgets
  rcases hb : lookB k R.bs with _ | ⟨lf, ck, dr⟩
  · rw [hb] at hl
    simp only [Option.map_none, Option.getD_none, bkV, if_true, Option.isSome_none] at hl
    have hA := HA.out
    rw [hb] at hA
    dsimp only [RL.room] at hA
    have hnk := look_none hb
    have hM0 : 0 ≤ M := Int.le_trans h.ok.a0 h.ok.a1
    have ht0 : 0 ≤ t := Int.le_trans h.ok.t0 hge
    have hbk : BkOk R.burst t M ⟨R.burst, t, 0⟩ := ⟨by have := hp.b0; dsimp only; omega, Int.le_refl _, ht0, Int.le_refl _, Int.le_refl _, hM0⟩
    have hX8 := Blk.fresh w1 55 #[.int .i64 0, .int .i64 0, .int .i64 0]
    have hE8 : Below w1.heap.size w1 (w1.alloc (.cells #[.int .i64 0, .int .i64 0, .int .i64 0] 55)) := Ext.alloc _ _
    have hLB := hB1.low hE8
    have hMr := hM1.low hE8
    have hOr := hO1.then_ (Only.of_below hE8)
    have hg8 : w.heap.size ≤ w1.heap.size := hz1
    have hlen0 : (ml.length : Int) = R.bs.length := by rw [h.perm.length_eq, List.length_map]
    go_upto_region 7 with (first | ((with_reducible refine wpTxt_q ?_ ?_ ?_); rfl; rfl; intro _ _) | ((with_reducible refine wpTxt_w0 ?_ ?_ ?_); rfl; rfl; intro _ _) | ((with_reducible refine wpTxt_s ?_ ?_); rfl; intro _ _; go_simp) | ((with_reducible refine wpTxt_sw ?_ ?_); rfl; intro _ _; go_simp) | (with_reducible refine wpTxt_nil ?_) | ((with_reducible refine wp_region_t mixed ?_ ?_); decide +kernel; intro _ _))
    clear d0 d1 d2 d3 d4 d5 d6 hl hB1 hM1 hO1 hE8 hz1
    generalize w1.alloc (.cells #[.int .i64 0, .int .i64 0, .int .i64 0] 55) = w2 at *
    generalize w1.heap.size = g8 at *
    obtain ⟨d0, d1, d2, d3, d4, d5, d6⟩ := (LimBlk.mk (R := ⟨R.burst, R.itv, R.keys, t, [], R.alw, R.den⟩) hLB).cells
    obtain ⟨x0, x1, x2, y0, y1, y2⟩ := hX8.c3
    have hln := run_len_str (P := Try.prog) w2.drew und_bmap (show StrMap w2.drew m ml from hMr)
    rw [hlen0] at hln
    by_cases h1 : R.keys ≤ R.bs.length
    · simp only [if_pos h1] at hA
      have h1' := Lib.hid h1
      go_upto_region 9 with (first | ((with_reducible refine wpTxt_q ?_ ?_ ?_); rfl; rfl; intro _ _) | ((with_reducible refine wpTxt_w0 ?_ ?_ ?_); rfl; rfl; intro _ _) | ((with_reducible refine wpTxt_s ?_ ?_); rfl; intro _ _; go_simp) | ((with_reducible refine wpTxt_sw ?_ ?_); rfl; intro _ _; go_simp) | (with_reducible refine wpTxt_nil ?_) | ((with_reducible refine wp_region_t mixed ?_ ?_); decide +kernel; intro _ _) | (go_at_call 23; ((with_reducible refine (lforget (R := ⟨R.burst, R.itv, R.keys, t, R.bs, R.alw, R.den⟩) (w := w2.drew) ?_ ?_ h.perm hbm hp hbks hle).mono ?_); (· exact ⟨hLB⟩); (· exact hMr); rintro e w3 ⟨rfl, ml3, hM3, hP3, hO3⟩)))
      clear d0 d1 d2 d3 d4 d5 d6 x0 x1 x2 y0 y1 y2 hln
      have hLB3 := hLB.of (hO3.block b hLB.lt (by simp; omega))
      have hX3 := hX8.of (hO3.block g8 hX8.lt (by simp; omega))
      have hOr3 := hOr.trans (F' := [m]) ⟨hO3.os, hO3.tape, hO3.output, hO3.size, hO3.block⟩ (by simp)
      obtain ⟨d0, d1, d2, d3, d4, d5, d6⟩ := (LimBlk.mk (R := ⟨R.burst, R.itv, R.keys, t, [], R.alw, R.den⟩) hLB3).cells
      obtain ⟨x0, x1, x2, y0, y1, y2⟩ := hX3.c3
      have e5 := hLB3.free 5
      have hln := run_len_str (P := Try.prog) w3.drew und_bmap (show StrMap w3.drew m ml3 from hM3)
      have hlen3 : (ml3.length : Int) = (keepB R.burst R.itv t R.bs).length := by rw [hP3.length_eq, List.length_map]
      rw [hlen3] at hln
      by_cases h2 : R.keys ≤ (keepB R.burst R.itv t R.bs).length
      · rw [if_pos h2] at hA
        have HF6 := Lib.hid hA
        have h0c := h.ok.e0
        have h0d := h.ok.e1
        clear hA
        go_wp2_with (first | ((with_reducible refine wpTxt_q ?_ ?_ ?_); rfl; rfl; intro _ _) | ((with_reducible refine wpTxt_w0 ?_ ?_ ?_); rfl; rfl; intro _ _) | ((with_reducible refine wpTxt_s ?_ ?_); rfl; intro _ _; go_simp) | ((with_reducible refine wpTxt_sw ?_ ?_); rfl; intro _ _; go_simp) | (with_reducible refine wpTxt_nil ?_) | ((with_reducible refine wp_region_t mixed ?_ ?_); decide +kernel; intro _ _))
        go_ret
        rw [← HF6.out] at hAok ⊢
        refine ⟨ml3, rfl, ⟨?_, ?_, ?_, hbm, hAok⟩, ?_⟩
        · exact hLB3.set 5 _
        · exact hM3.of (Below.heap_setCell w3 ⟨b, 5, none⟩ _ m (fun e => hbm e.symm))
        · exact hP3
        · exact hOr3.then_ ⟨rfl, rfl, rfl, by simp, fun x _ hx => Below.heap_setCell w3 ⟨b, 5, none⟩ _ x (fun e => hx (by simp [e]))⟩
      · rw [if_neg h2] at hA
        have HF := Lib.hid (show RL.fin ⟨R.burst, R.itv, R.keys, t, insB k ⟨R.burst, t, 0⟩ (keepB R.burst R.itv t R.bs), R.alw, R.den⟩ k ⟨R.burst, t, 0⟩ t = A from hA)
        clear hA
        have hkl : (keepB R.burst R.itv t R.bs).length ≤ 1024 := Nat.le_trans (List.length_filter_le _ _) hlen
        go_upto_region 13 with (first | ((with_reducible refine wpTxt_q ?_ ?_ ?_); rfl; rfl; intro _ _) | ((with_reducible refine wpTxt_w0 ?_ ?_ ?_); rfl; rfl; intro _ _) | ((with_reducible refine wpTxt_s ?_ ?_); rfl; intro _ _; go_simp) | ((with_reducible refine wpTxt_sw ?_ ?_); rfl; intro _ _; go_simp) | (with_reducible refine wpTxt_nil ?_) | ((with_reducible refine wp_region_t mixed ?_ ?_); decide +kernel; intro _ _))
        obtain ⟨hXB, hOB⟩ := hX3.put3 (x' := .int .i64 R.burst) (y' := .int .i64 t) (z' := .int .i64 0)
        have hLBB := hLB3.of (hOB.block b hLB3.lt (by simp; omega))
        have hMB := hM3.of (hOB.block m hM3.lt (by simp; omega))
        have hOrB := hOr3.trans hOB (by simp; omega)
        clear d0 d1 d2 d3 d4 d5 d6 x0 x1 x2 y0 y1 y2 hln hOB hX8 hLB hMr hOr e5
        generalize ((w3.setCell ⟨g8, 0, none⟩ (.int .i64 R.burst)).setCell ⟨g8, 1, none⟩ (.int .i64 t)).setCell ⟨g8, 2, none⟩ (.int .i64 0) = w4 at *
        have hX8 := hXB.drew
        have hLB := hLBB.drew
        have hMr : StrMap w4.drew m ml3 := hMB
        have hOr : Only [b, m] w w4.drew := ⟨hOrB.os, hOrB.tape, hOrB.output, hOrB.size, hOrB.block⟩
        clear hXB hLBB hMB hOrB
        generalize w4.drew = wr at *
        have hasc3 : AscB (keepB R.burst R.itv t R.bs) := h.ok.asc.sublist List.filter_sublist
        obtain ⟨mlr, hmlr⟩ : ∃ x, x = ml3 := ⟨_, rfl⟩
        rw [← hmlr] at hMr hP3
        obtain ⟨bs0, hbs0⟩ : ∃ x, x = keepB R.burst R.itv t R.bs := ⟨_, rfl⟩
        have hgr : Hid (∀ k', mget k' mlr = (lookB k' bs0).map bkV) := by
          intro k'
          rw [hbs0, mget_perm hP3 (by rw [ent_keys]; exact hasc3.nodup), look_get]
        have hnk3 : k ∉ (keepB R.burst R.itv t R.bs).map (·.1) := fun hm => hnk (by
          obtain ⟨q, hq, rfl⟩ := List.mem_map.1 hm
          exact List.mem_map.2 ⟨q, (List.mem_filter.1 hq).1, rfl⟩)
        obtain ⟨bsT, hbsT⟩ : ∃ x, x = insB k ⟨R.burst, t, 0⟩ (keepB R.burst R.itv t R.bs) := ⟨_, rfl⟩
        have hTT : Hid (∀ k', k' ≠ k → lookB k' bsT = lookB k' bs0) := by
          intro k' hk'
          rw [hbs0, hbsT, look_ins k' hnk3, if_neg hk']
        have hkT : Hid (k ∈ bsT.map (·.1)) := by rw [hbsT]; exact ins_has _ _ _
        have hasc : AscB bsT := by rw [hbsT]; exact insB_asc hasc3 hnk3
        rw [← hbsT] at HF
        clear hmlr hbs0 hbsT hb hnk3 hnk
        obtain ⟨f, hf⟩ : ∃ f, fill R.burst R.itv ⟨R.burst, t, 0⟩ t = f := ⟨_, rfl⟩
        have hfk := fill_ok hp hbk (Int.le_refl _)
        have HF2 := HF.out
        unfold RL.fin at HF2
        dsimp only at HF2
        rw [hf] at HF2 hfk
        have HF3 := Lib.hid HF2
        have HF4 := Lib.hid (show bkV (fill R.burst R.itv ⟨R.burst, t, 0⟩ t) = .agg #[.int .i64 f.left, .int .i64 f.clock, .int .i64 f.drop] by rw [hf]; rfl)
        have h0a := h.ok.a0
        have h0b := h.ok.a1
        have h0c := h.ok.e0
        have h0d := h.ok.e1
        have h0e := hfk.l0
        have h0f := hfk.l1
        have h0g := hfk.d0
        have h0h := hfk.d1
        have h0i := hp.b1
        clear hf HF2 HF
        obtain ⟨d0, d1, d2, d3, d4, d5, d6⟩ := (LimBlk.mk (R := ⟨R.burst, R.itv, R.keys, t, [], R.alw, R.den⟩) hLB).cells
        obtain ⟨x0, x1, x2, y0, y1, y2⟩ := hX8.c3
        go_upto_region 14 with (first | ((with_reducible refine wpTxt_q ?_ ?_ ?_); rfl; rfl; intro _ _) | ((with_reducible refine wpTxt_w0 ?_ ?_ ?_); rfl; rfl; intro _ _) | ((with_reducible refine wpTxt_s ?_ ?_); rfl; intro _ _; go_simp) | ((with_reducible refine wpTxt_sw ?_ ?_); rfl; intro _ _; go_simp) | (with_reducible refine wpTxt_nil ?_) | ((with_reducible refine wp_region_t mixed ?_ ?_); decide +kernel; intro _ _) | (go_at_call 24; ((with_reducible refine (lfilled_agg ?_ ?_ hp hbk hle).mono ?_); (· exact hLB.cell 0); (· exact hLB.cell 1); unfold FillPost; rw [HF4.out]; rintro e w8 ⟨rfl, hb8⟩; have hX9 := hX8.low hb8; have hLB9 := hLB.low hb8; obtain ⟨x0, x1, x2, y0, y1, y2⟩ := hX9.c3)))
        clear x0 x1 x2 y0 y1 y2 d0 d1 d2 d3 d4 d5 d6
        have hMr9 := hMr.low hb8
        have hOr9 := hOr.then_ (Only.of_below hb8)
        obtain ⟨hXA, hOA⟩ := hX9.put3 (x' := .int .i64 f.left) (y' := .int .i64 f.clock) (z' := .int .i64 f.drop)
        have hLBA := hLB9.of (hOA.block b hLB9.lt (by simp; omega))
        have hMrA := hMr9.of (hOA.block m hMr9.lt (by simp; omega))
        have hOrA := hOr9.trans hOA (by simp; omega)
        clear hOA hX9 hLB9 hMr9 hOr9 hb8 hX8 hLB hMr hOr
        generalize ((w8.setCell ⟨g8, 0, none⟩ (.int .i64 f.left)).setCell ⟨g8, 1, none⟩ (.int .i64 f.clock)).setCell ⟨g8, 2, none⟩ (.int .i64 f.drop) = wA at *
        obtain ⟨x0, x1, x2, y0, y1, y2⟩ := hXA.c3
        obtain ⟨d0, d1, d2, d3, d4, d5, d6⟩ := (LimBlk.mk (R := ⟨R.burst, R.itv, R.keys, t, [], R.alw, R.den⟩) hLBA).cells
        have e4 := hLBA.free 4
        have e5 := hLBA.free 5
        by_cases hf0 : f.left = 0
        · obtain ⟨g1, g2⟩ := kd_t hf0
          have HF5 := HF3.out
          rw [if_pos hf0] at HF5
          have HF6 := Lib.hid HF5
          have HL0 := Lib.hid hf0
          clear hf0 HF5
          go_upto_region 17 with (first | ((with_reducible refine wpTxt_q ?_ ?_ ?_); rfl; rfl; intro _ _) | ((with_reducible refine wpTxt_w0 ?_ ?_ ?_); rfl; rfl; intro _ _) | ((with_reducible refine wpTxt_s ?_ ?_); rfl; intro _ _; go_simp) | ((with_reducible refine wpTxt_sw ?_ ?_); rfl; intro _ _; go_simp) | (with_reducible refine wpTxt_nil ?_) | ((with_reducible refine wp_region_t mixed ?_ ?_); decide +kernel; intro _ _))
          have hXB : Blk (wA.setCell ⟨g8, 2, none⟩ (.int .i64 (f.drop + 1))) g8 55 #[.int .i64 f.left, .int .i64 f.clock, .int .i64 (f.drop + 1)] := hXA.set 2 _
          have hXC := hXB.far (p := ⟨b, 5, none⟩) (by dsimp only; omega) (.int .i64 (R.den + 1))
          have hLBC : Blk ((wA.setCell ⟨g8, 2, none⟩ (.int .i64 (f.drop + 1))).setCell ⟨b, 5, none⟩ (.int .i64 (R.den + 1))) b 47 #[.int .i64 R.burst, .int .i64 R.itv, .int .i64 R.keys, .int .i64 t, .int .i64 R.alw, .int .i64 (R.den + 1), .map (some m)] := (hLBA.far (p := ⟨g8, 2, none⟩) (by dsimp only; omega) (.int .i64 (f.drop + 1))).set 5 _
          have hMC : StrMap ((wA.setCell ⟨g8, 2, none⟩ (.int .i64 (f.drop + 1))).setCell ⟨b, 5, none⟩ (.int .i64 (R.den + 1))) m mlr := hMrA.of ((Below.heap_setCell _ ⟨b, 5, none⟩ _ m (by dsimp only; omega)).trans (Below.heap_setCell _ ⟨g8, 2, none⟩ _ m (by dsimp only; omega)))
          have hOC : Only [b, m] w ((wA.setCell ⟨g8, 2, none⟩ (.int .i64 (f.drop + 1))).setCell ⟨b, 5, none⟩ (.int .i64 (R.den + 1))) := hOrA.trans (F' := [b, g8]) ⟨rfl, rfl, rfl, by simp, fun x _ hx => by
            simp only [List.mem_cons, List.not_mem_nil, or_false, not_or] at hx
            exact (Below.heap_setCell _ ⟨b, 5, none⟩ _ x hx.1).trans (Below.heap_setCell _ ⟨g8, 2, none⟩ _ x hx.2)⟩ (by simp; omega)
          clear x0 x1 x2 y0 y1 y2 d0 d1 d2 d3 d4 d5 d6 e4 e5
          generalize (wA.setCell ⟨g8, 2, none⟩ (.int .i64 (f.drop + 1))).setCell ⟨b, 5, none⟩ (.int .i64 (R.den + 1)) = wC at *
          obtain ⟨x0, x1, x2, -, -, -⟩ := hXC.c3
          have d6 := hLBC.cell 6
          obtain ⟨wD, hu, hMD, htD⟩ := run_update_str (P := Try.prog) wC.drew und_bmap und_str (show StrMap wC.drew m mlr from hMC) k (bkV ⟨f.left, f.clock, f.drop + 1⟩)
          simp only [bkV] at hu
          go_wp2_with (first | ((with_reducible refine wpTxt_q ?_ ?_ ?_); rfl; rfl; intro _ _) | ((with_reducible refine wpTxt_w0 ?_ ?_ ?_); rfl; rfl; intro _ _) | ((with_reducible refine wpTxt_s ?_ ?_); rfl; intro _ _; go_simp) | ((with_reducible refine wpTxt_sw ?_ ?_); rfl; intro _ _; go_simp) | (with_reducible refine wpTxt_nil ?_) | ((with_reducible refine wp_region_t mixed ?_ ?_); decide +kernel; intro _ _))
          go_ret
          have hpm := put_bs hMD hgr.out hasc hTT.out hkT.out
          rw [← HF6.out] at hAok ⊢
          refine ⟨_, rfl, ⟨?_, hMD, ?_, hbm, hAok⟩, hOC.then_ ⟨htD.os, htD.tape, htD.output, Nat.le_of_eq htD.size.symm, fun x _ hx => htD.block x (fun e => hx (by simp [e]))⟩⟩
          · exact hLBC.of (htD.block b hbm)
          · exact hpm
        · obtain ⟨g1, g2⟩ := kd_f hf0
          have HF5 := HF3.out
          rw [if_neg hf0] at HF5
          have HF6 := Lib.hid HF5
          have h0j : 0 < f.left := by omega
          clear hf0 HF5
          go_upto_region 22 with (first | ((with_reducible refine wpTxt_q ?_ ?_ ?_); rfl; rfl; intro _ _) | ((with_reducible refine wpTxt_w0 ?_ ?_ ?_); rfl; rfl; intro _ _) | ((with_reducible refine wpTxt_s ?_ ?_); rfl; intro _ _; go_simp) | ((with_reducible refine wpTxt_sw ?_ ?_); rfl; intro _ _; go_simp) | (with_reducible refine wpTxt_nil ?_) | ((with_reducible refine wp_region_t mixed ?_ ?_); decide +kernel; intro _ _))
          have hXB : Blk ((wA.setCell ⟨g8, 0, none⟩ (.int .i64 (f.left - 1))).setCell ⟨g8, 2, none⟩ (.int .i64 0)) g8 55 #[.int .i64 (f.left - 1), .int .i64 f.clock, .int .i64 0] := (hXA.set 0 _).set 2 _
          have hXC := hXB.far (p := ⟨b, 4, none⟩) (by dsimp only; omega) (.int .i64 (R.alw + 1))
          have hLBC : Blk (((wA.setCell ⟨g8, 0, none⟩ (.int .i64 (f.left - 1))).setCell ⟨g8, 2, none⟩ (.int .i64 0)).setCell ⟨b, 4, none⟩ (.int .i64 (R.alw + 1))) b 47 #[.int .i64 R.burst, .int .i64 R.itv, .int .i64 R.keys, .int .i64 t, .int .i64 (R.alw + 1), .int .i64 R.den, .map (some m)] := ((hLBA.far (p := ⟨g8, 0, none⟩) (by dsimp only; omega) (.int .i64 (f.left - 1))).far (p := ⟨g8, 2, none⟩) (by dsimp only; omega) (.int .i64 0)).set 4 _
          have hMC : StrMap (((wA.setCell ⟨g8, 0, none⟩ (.int .i64 (f.left - 1))).setCell ⟨g8, 2, none⟩ (.int .i64 0)).setCell ⟨b, 4, none⟩ (.int .i64 (R.alw + 1))) m mlr := hMrA.of (((Below.heap_setCell _ ⟨b, 4, none⟩ _ m (by dsimp only; omega)).trans (Below.heap_setCell _ ⟨g8, 2, none⟩ _ m (by dsimp only; omega))).trans (Below.heap_setCell _ ⟨g8, 0, none⟩ _ m (by dsimp only; omega)))
          have hOC : Only [b, m] w (((wA.setCell ⟨g8, 0, none⟩ (.int .i64 (f.left - 1))).setCell ⟨g8, 2, none⟩ (.int .i64 0)).setCell ⟨b, 4, none⟩ (.int .i64 (R.alw + 1))) := hOrA.trans (F' := [b, g8]) ⟨rfl, rfl, rfl, by simp, fun x _ hx => by
            simp only [List.mem_cons, List.not_mem_nil, or_false, not_or] at hx
            exact ((Below.heap_setCell _ ⟨b, 4, none⟩ _ x hx.1).trans (Below.heap_setCell _ ⟨g8, 2, none⟩ _ x hx.2)).trans (Below.heap_setCell _ ⟨g8, 0, none⟩ _ x hx.2)⟩ (by simp; omega)
          clear x0 x1 x2 y0 y1 y2 d0 d1 d2 d3 d4 d5 d6 e4 e5
          generalize ((wA.setCell ⟨g8, 0, none⟩ (.int .i64 (f.left - 1))).setCell ⟨g8, 2, none⟩ (.int .i64 0)).setCell ⟨b, 4, none⟩ (.int .i64 (R.alw + 1)) = wC at *
          obtain ⟨x0, x1, x2, -, -, -⟩ := hXC.c3
          have d6 := hLBC.cell 6
          obtain ⟨wD, hu, hMD, htD⟩ := run_update_str (P := Try.prog) wC.drew und_bmap und_str (show StrMap wC.drew m mlr from hMC) k (bkV ⟨f.left - 1, f.clock, 0⟩)
          simp only [bkV] at hu
          go_wp2_with (first | ((with_reducible refine wpTxt_q ?_ ?_ ?_); rfl; rfl; intro _ _) | ((with_reducible refine wpTxt_w0 ?_ ?_ ?_); rfl; rfl; intro _ _) | ((with_reducible refine wpTxt_s ?_ ?_); rfl; intro _ _; go_simp) | ((with_reducible refine wpTxt_sw ?_ ?_); rfl; intro _ _; go_simp) | (with_reducible refine wpTxt_nil ?_) | ((with_reducible refine wp_region_t mixed ?_ ?_); decide +kernel; intro _ _))
          go_ret
          have hpm := put_bs hMD hgr.out hasc hTT.out hkT.out
          rw [← HF6.out] at hAok ⊢
          refine ⟨_, rfl, ⟨?_, hMD, ?_, hbm, hAok⟩, hOC.then_ ⟨htD.os, htD.tape, htD.output, Nat.le_of_eq htD.size.symm, fun x _ hx => htD.block x (fun e => hx (by simp [e]))⟩⟩
          · exact hLBC.of (htD.block b hbm)
          · exact hpm
    · simp only [if_neg h1] at hA
      have h1' : (R.bs.length : Int) < R.keys := by omega
      have hln2 := run_len_str (P := Try.prog) w2.drew.drew und_bmap (show StrMap w2.drew.drew m ml from hMr)
      rw [hlen0] at hln2
      have HF := Lib.hid (show RL.fin ⟨R.burst, R.itv, R.keys, t, insB k ⟨R.burst, t, 0⟩ R.bs, R.alw, R.den⟩ k ⟨R.burst, t, 0⟩ t = A from hA)
      clear hA
      go_upto_region 13 with (first | ((with_reducible refine wpTxt_q ?_ ?_ ?_); rfl; rfl; intro _ _) | ((with_reducible refine wpTxt_w0 ?_ ?_ ?_); rfl; rfl; intro _ _) | ((with_reducible refine wpTxt_s ?_ ?_); rfl; intro _ _; go_simp) | ((with_reducible refine wpTxt_sw ?_ ?_); rfl; intro _ _; go_simp) | (with_reducible refine wpTxt_nil ?_) | ((with_reducible refine wp_region_t mixed ?_ ?_); decide +kernel; intro _ _))
      obtain ⟨hXB, hOB⟩ := hX8.put3 (x' := .int .i64 R.burst) (y' := .int .i64 t) (z' := .int .i64 0)
      have hLBB := hLB.of (hOB.block b hLB.lt (by simp; omega))
      have hMB := hMr.of (hOB.block m hMr.lt (by simp; omega))
      have hOrB := hOr.trans hOB (by simp; omega)
      clear d0 d1 d2 d3 d4 d5 d6 x0 x1 x2 y0 y1 y2 hln hln2 hOB hX8 hLB hMr hOr
      generalize ((w2.setCell ⟨g8, 0, none⟩ (.int .i64 R.burst)).setCell ⟨g8, 1, none⟩ (.int .i64 t)).setCell ⟨g8, 2, none⟩ (.int .i64 0) = w4 at *
      have hX8 := hXB.drew.drew
      have hLB := hLBB.drew.drew
      have hMr : StrMap w4.drew.drew m ml := hMB
      have hOr : Only [b, m] w w4.drew.drew := ⟨hOrB.os, hOrB.tape, hOrB.output, hOrB.size, hOrB.block⟩
      clear hXB hLBB hMB hOrB
      generalize w4.drew.drew = wr at *
      obtain ⟨mlr, hmlr⟩ : ∃ x, x = ml := ⟨_, rfl⟩
      rw [← hmlr] at hMr HG
      obtain ⟨bs0, hbs0⟩ : ∃ x, x = R.bs := ⟨_, rfl⟩
      have hgr : Hid (∀ k', mget k' mlr = (lookB k' bs0).map bkV) := by rw [hbs0]; exact HG
      obtain ⟨bsT, hbsT⟩ : ∃ x, x = insB k ⟨R.burst, t, 0⟩ R.bs := ⟨_, rfl⟩
      have hTT : Hid (∀ k', k' ≠ k → lookB k' bsT = lookB k' bs0) := by
        intro k' hk'
        rw [hbs0, hbsT, look_ins k' hnk, if_neg hk']
      have hkT : Hid (k ∈ bsT.map (·.1)) := by rw [hbsT]; exact ins_has _ _ _
      have hasc : AscB bsT := by rw [hbsT]; exact insB_asc h.ok.asc hnk
      rw [← hbsT] at HF
      clear hmlr hbs0 hbsT hb hnk
      obtain ⟨f, hf⟩ : ∃ f, fill R.burst R.itv ⟨R.burst, t, 0⟩ t = f := ⟨_, rfl⟩
      have hfk := fill_ok hp hbk (Int.le_refl _)
      have HF2 := HF.out
      unfold RL.fin at HF2
      dsimp only at HF2
      rw [hf] at HF2 hfk
      have HF3 := Lib.hid HF2
      have HF4 := Lib.hid (show bkV (fill R.burst R.itv ⟨R.burst, t, 0⟩ t) = .agg #[.int .i64 f.left, .int .i64 f.clock, .int .i64 f.drop] by rw [hf]; rfl)
      have h0a := h.ok.a0
      have h0b := h.ok.a1
      have h0c := h.ok.e0
      have h0d := h.ok.e1
      have h0e := hfk.l0
      have h0f := hfk.l1
      have h0g := hfk.d0
      have h0h := hfk.d1
      have h0i := hp.b1
      clear hf HF2 HF
      obtain ⟨d0, d1, d2, d3, d4, d5, d6⟩ := (LimBlk.mk (R := ⟨R.burst, R.itv, R.keys, t, [], R.alw, R.den⟩) hLB).cells
      obtain ⟨x0, x1, x2, y0, y1, y2⟩ := hX8.c3
      go_upto_region 14 with (first | ((with_reducible refine wpTxt_q ?_ ?_ ?_); rfl; rfl; intro _ _) | ((with_reducible refine wpTxt_w0 ?_ ?_ ?_); rfl; rfl; intro _ _) | ((with_reducible refine wpTxt_s ?_ ?_); rfl; intro _ _; go_simp) | ((with_reducible refine wpTxt_sw ?_ ?_); rfl; intro _ _; go_simp) | (with_reducible refine wpTxt_nil ?_) | ((with_reducible refine wp_region_t mixed ?_ ?_); decide +kernel; intro _ _) | (go_at_call 24; ((with_reducible refine (lfilled_agg ?_ ?_ hp hbk hle).mono ?_); (· exact hLB.cell 0); (· exact hLB.cell 1); unfold FillPost; rw [HF4.out]; rintro e w8 ⟨rfl, hb8⟩; have hX9 := hX8.low hb8; have hLB9 := hLB.low hb8; obtain ⟨x0, x1, x2, y0, y1, y2⟩ := hX9.c3)))
      clear x0 x1 x2 y0 y1 y2 d0 d1 d2 d3 d4 d5 d6
      have hMr9 := hMr.low hb8
      have hOr9 := hOr.then_ (Only.of_below hb8)
      obtain ⟨hXA, hOA⟩ := hX9.put3 (x' := .int .i64 f.left) (y' := .int .i64 f.clock) (z' := .int .i64 f.drop)
      have hLBA := hLB9.of (hOA.block b hLB9.lt (by simp; omega))
      have hMrA := hMr9.of (hOA.block m hMr9.lt (by simp; omega))
      have hOrA := hOr9.trans hOA (by simp; omega)
      clear hOA hX9 hLB9 hMr9 hOr9 hb8 hX8 hLB hMr hOr
      generalize ((w8.setCell ⟨g8, 0, none⟩ (.int .i64 f.left)).setCell ⟨g8, 1, none⟩ (.int .i64 f.clock)).setCell ⟨g8, 2, none⟩ (.int .i64 f.drop) = wA at *
      obtain ⟨x0, x1, x2, y0, y1, y2⟩ := hXA.c3
      obtain ⟨d0, d1, d2, d3, d4, d5, d6⟩ := (LimBlk.mk (R := ⟨R.burst, R.itv, R.keys, t, [], R.alw, R.den⟩) hLBA).cells
      have e4 := hLBA.free 4
      have e5 := hLBA.free 5
      by_cases hf0 : f.left = 0
      · obtain ⟨g1, g2⟩ := kd_t hf0
        have HF5 := HF3.out
        rw [if_pos hf0] at HF5
        have HF6 := Lib.hid HF5
        have HL0 := Lib.hid hf0
        clear hf0 HF5
        go_upto_region 17 with (first | ((with_reducible refine wpTxt_q ?_ ?_ ?_); rfl; rfl; intro _ _) | ((with_reducible refine wpTxt_w0 ?_ ?_ ?_); rfl; rfl; intro _ _) | ((with_reducible refine wpTxt_s ?_ ?_); rfl; intro _ _; go_simp) | ((with_reducible refine wpTxt_sw ?_ ?_); rfl; intro _ _; go_simp) | (with_reducible refine wpTxt_nil ?_) | ((with_reducible refine wp_region_t mixed ?_ ?_); decide +kernel; intro _ _))
        have hXB : Blk (wA.setCell ⟨g8, 2, none⟩ (.int .i64 (f.drop + 1))) g8 55 #[.int .i64 f.left, .int .i64 f.clock, .int .i64 (f.drop + 1)] := hXA.set 2 _
        have hXC := hXB.far (p := ⟨b, 5, none⟩) (by dsimp only; omega) (.int .i64 (R.den + 1))
        have hLBC : Blk ((wA.setCell ⟨g8, 2, none⟩ (.int .i64 (f.drop + 1))).setCell ⟨b, 5, none⟩ (.int .i64 (R.den + 1))) b 47 #[.int .i64 R.burst, .int .i64 R.itv, .int .i64 R.keys, .int .i64 t, .int .i64 R.alw, .int .i64 (R.den + 1), .map (some m)] := (hLBA.far (p := ⟨g8, 2, none⟩) (by dsimp only; omega) (.int .i64 (f.drop + 1))).set 5 _
        have hMC : StrMap ((wA.setCell ⟨g8, 2, none⟩ (.int .i64 (f.drop + 1))).setCell ⟨b, 5, none⟩ (.int .i64 (R.den + 1))) m mlr := hMrA.of ((Below.heap_setCell _ ⟨b, 5, none⟩ _ m (by dsimp only; omega)).trans (Below.heap_setCell _ ⟨g8, 2, none⟩ _ m (by dsimp only; omega)))
        have hOC : Only [b, m] w ((wA.setCell ⟨g8, 2, none⟩ (.int .i64 (f.drop + 1))).setCell ⟨b, 5, none⟩ (.int .i64 (R.den + 1))) := hOrA.trans (F' := [b, g8]) ⟨rfl, rfl, rfl, by simp, fun x _ hx => by
          simp only [List.mem_cons, List.not_mem_nil, or_false, not_or] at hx
          exact (Below.heap_setCell _ ⟨b, 5, none⟩ _ x hx.1).trans (Below.heap_setCell _ ⟨g8, 2, none⟩ _ x hx.2)⟩ (by simp; omega)
        clear x0 x1 x2 y0 y1 y2 d0 d1 d2 d3 d4 d5 d6 e4 e5
        generalize (wA.setCell ⟨g8, 2, none⟩ (.int .i64 (f.drop + 1))).setCell ⟨b, 5, none⟩ (.int .i64 (R.den + 1)) = wC at *
        obtain ⟨x0, x1, x2, -, -, -⟩ := hXC.c3
        have d6 := hLBC.cell 6
        obtain ⟨wD, hu, hMD, htD⟩ := run_update_str (P := Try.prog) wC.drew und_bmap und_str (show StrMap wC.drew m mlr from hMC) k (bkV ⟨f.left, f.clock, f.drop + 1⟩)
        simp only [bkV] at hu
        go_wp2_with (first | ((with_reducible refine wpTxt_q ?_ ?_ ?_); rfl; rfl; intro _ _) | ((with_reducible refine wpTxt_w0 ?_ ?_ ?_); rfl; rfl; intro _ _) | ((with_reducible refine wpTxt_s ?_ ?_); rfl; intro _ _; go_simp) | ((with_reducible refine wpTxt_sw ?_ ?_); rfl; intro _ _; go_simp) | (with_reducible refine wpTxt_nil ?_) | ((with_reducible refine wp_region_t mixed ?_ ?_); decide +kernel; intro _ _))
        go_ret
        have hpm := put_bs hMD hgr.out hasc hTT.out hkT.out
        rw [← HF6.out] at hAok ⊢
        refine ⟨_, rfl, ⟨?_, hMD, ?_, hbm, hAok⟩, hOC.then_ ⟨htD.os, htD.tape, htD.output, Nat.le_of_eq htD.size.symm, fun x _ hx => htD.block x (fun e => hx (by simp [e]))⟩⟩
        · exact hLBC.of (htD.block b hbm)
        · exact hpm
      · obtain ⟨g1, g2⟩ := kd_f hf0
        have HF5 := HF3.out
        rw [if_neg hf0] at HF5
        have HF6 := Lib.hid HF5
        have h0j : 0 < f.left := by omega
        clear hf0 HF5
        go_upto_region 22 with (first | ((with_reducible refine wpTxt_q ?_ ?_ ?_); rfl; rfl; intro _ _) | ((with_reducible refine wpTxt_w0 ?_ ?_ ?_); rfl; rfl; intro _ _) | ((with_reducible refine wpTxt_s ?_ ?_); rfl; intro _ _; go_simp) | ((with_reducible refine wpTxt_sw ?_ ?_); rfl; intro _ _; go_simp) | (with_reducible refine wpTxt_nil ?_) | ((with_reducible refine wp_region_t mixed ?_ ?_); decide +kernel; intro _ _))
        have hXB : Blk ((wA.setCell ⟨g8, 0, none⟩ (.int .i64 (f.left - 1))).setCell ⟨g8, 2, none⟩ (.int .i64 0)) g8 55 #[.int .i64 (f.left - 1), .int .i64 f.clock, .int .i64 0] := (hXA.set 0 _).set 2 _
        have hXC := hXB.far (p := ⟨b, 4, none⟩) (by dsimp only; omega) (.int .i64 (R.alw + 1))
        have hLBC : Blk (((wA.setCell ⟨g8, 0, none⟩ (.int .i64 (f.left - 1))).setCell ⟨g8, 2, none⟩ (.int .i64 0)).setCell ⟨b, 4, none⟩ (.int .i64 (R.alw + 1))) b 47 #[.int .i64 R.burst, .int .i64 R.itv, .int .i64 R.keys, .int .i64 t, .int .i64 (R.alw + 1), .int .i64 R.den, .map (some m)] := ((hLBA.far (p := ⟨g8, 0, none⟩) (by dsimp only; omega) (.int .i64 (f.left - 1))).far (p := ⟨g8, 2, none⟩) (by dsimp only; omega) (.int .i64 0)).set 4 _
        have hMC : StrMap (((wA.setCell ⟨g8, 0, none⟩ (.int .i64 (f.left - 1))).setCell ⟨g8, 2, none⟩ (.int .i64 0)).setCell ⟨b, 4, none⟩ (.int .i64 (R.alw + 1))) m mlr := hMrA.of (((Below.heap_setCell _ ⟨b, 4, none⟩ _ m (by dsimp only; omega)).trans (Below.heap_setCell _ ⟨g8, 2, none⟩ _ m (by dsimp only; omega))).trans (Below.heap_setCell _ ⟨g8, 0, none⟩ _ m (by dsimp only; omega)))
        have hOC : Only [b, m] w (((wA.setCell ⟨g8, 0, none⟩ (.int .i64 (f.left - 1))).setCell ⟨g8, 2, none⟩ (.int .i64 0)).setCell ⟨b, 4, none⟩ (.int .i64 (R.alw + 1))) := hOrA.trans (F' := [b, g8]) ⟨rfl, rfl, rfl, by simp, fun x _ hx => by
          simp only [List.mem_cons, List.not_mem_nil, or_false, not_or] at hx
          exact ((Below.heap_setCell _ ⟨b, 4, none⟩ _ x hx.1).trans (Below.heap_setCell _ ⟨g8, 2, none⟩ _ x hx.2)).trans (Below.heap_setCell _ ⟨g8, 0, none⟩ _ x hx.2)⟩ (by simp; omega)
        clear x0 x1 x2 y0 y1 y2 d0 d1 d2 d3 d4 d5 d6 e4 e5
        generalize ((wA.setCell ⟨g8, 0, none⟩ (.int .i64 (f.left - 1))).setCell ⟨g8, 2, none⟩ (.int .i64 0)).setCell ⟨b, 4, none⟩ (.int .i64 (R.alw + 1)) = wC at *
        obtain ⟨x0, x1, x2, -, -, -⟩ := hXC.c3
        have d6 := hLBC.cell 6
        obtain ⟨wD, hu, hMD, htD⟩ := run_update_str (P := Try.prog) wC.drew und_bmap und_str (show StrMap wC.drew m mlr from hMC) k (bkV ⟨f.left - 1, f.clock, 0⟩)
        simp only [bkV] at hu
        go_wp2_with (first | ((with_reducible refine wpTxt_q ?_ ?_ ?_); rfl; rfl; intro _ _) | ((with_reducible refine wpTxt_w0 ?_ ?_ ?_); rfl; rfl; intro _ _) | ((with_reducible refine wpTxt_s ?_ ?_); rfl; intro _ _; go_simp) | ((with_reducible refine wpTxt_sw ?_ ?_); rfl; intro _ _; go_simp) | (with_reducible refine wpTxt_nil ?_) | ((with_reducible refine wp_region_t mixed ?_ ?_); decide +kernel; intro _ _))
        go_ret
        have hpm := put_bs hMD hgr.out hasc hTT.out hkT.out
        rw [← HF6.out] at hAok ⊢
        refine ⟨_, rfl, ⟨?_, hMD, ?_, hbm, hAok⟩, hOC.then_ ⟨htD.os, htD.tape, htD.output, Nat.le_of_eq htD.size.symm, fun x _ hx => htD.block x (fun e => hx (by simp [e]))⟩⟩
        · exact hLBC.of (htD.block b hbm)
        · exact hpm
  · rw [hb] at hl
    have hbk := hbks _ (look_mem hb)
    simp only [Option.map_some, Option.getD_some, bkV, if_true, Option.isSome_some] at hl
    have hA := HA.out
    rw [hb] at hA
    have HF := Lib.hid (show RL.fin ⟨R.burst, R.itv, R.keys, t, R.bs, R.alw, R.den⟩ k ⟨lf, ck, dr⟩ t = A from hA)
    clear hA
    go_upto_region 13 with (first | ((with_reducible refine wpTxt_q ?_ ?_ ?_); rfl; rfl; intro _ _) | ((with_reducible refine wpTxt_w0 ?_ ?_ ?_); rfl; rfl; intro _ _) | ((with_reducible refine wpTxt_s ?_ ?_); rfl; intro _ _; go_simp) | ((with_reducible refine wpTxt_sw ?_ ?_); rfl; intro _ _; go_simp) | (with_reducible refine wpTxt_nil ?_) | ((with_reducible refine wp_region_t mixed ?_ ?_); decide +kernel; intro _ _))
    have hX8 := Blk.fresh w1 55 #[.int .i64 lf, .int .i64 ck, .int .i64 dr]
    have hE8 : Below w1.heap.size w1 (w1.alloc (.cells #[.int .i64 lf, .int .i64 ck, .int .i64 dr] 55)) := Ext.alloc _ _
    have hLB : Blk (w1.alloc (.cells #[.int .i64 lf, .int .i64 ck, .int .i64 dr] 55)) b 47 #[.int .i64 R.burst, .int .i64 R.itv, .int .i64 R.keys, .int .i64 t, .int .i64 R.alw, .int .i64 R.den, .map (some m)] := hB1.low hE8
    have hMr := hM1.low hE8
    have hOr := hO1.then_ (Only.of_below hE8)
    have hg8 : w.heap.size ≤ w1.heap.size := hz1
    obtain ⟨mlr, hmlr⟩ : ∃ x, x = ml := ⟨_, rfl⟩
    rw [← hmlr] at hMr HG
    obtain ⟨bs0, hbs0⟩ : ∃ x, x = R.bs := ⟨_, rfl⟩
    have hgr : Hid (∀ k', mget k' mlr = (lookB k' bs0).map bkV) := by rw [hbs0]; exact HG
    obtain ⟨bsT, hbsT⟩ : ∃ x, x = R.bs := ⟨_, rfl⟩
    have hTT : Hid (∀ k', k' ≠ k → lookB k' bsT = lookB k' bs0) := by rw [hbs0, hbsT]; exact fun _ _ => rfl
    have hkT : Hid (k ∈ bsT.map (·.1)) := by rw [hbsT]; exact List.mem_map.2 ⟨_, look_mem hb, rfl⟩
    have hasc : AscB bsT := by rw [hbsT]; exact hH.out.ok.asc
    rw [← hbsT] at HF
    clear hmlr hbs0 hbsT hb hB1 hM1 d0 d1 d2 d3 d4 d5 d6 hO1 hE8 hz1 hl
    generalize w1.alloc (.cells #[.int .i64 lf, .int .i64 ck, .int .i64 dr] 55) = wr at *
    generalize w1.heap.size = g8 at *
    obtain ⟨f, hf⟩ : ∃ f, fill R.burst R.itv ⟨lf, ck, dr⟩ t = f := ⟨_, rfl⟩
    have hfk := fill_ok hp hbk (Int.le_refl _)
    have HF2 := HF.out
    unfold RL.fin at HF2
    dsimp only at HF2
    rw [hf] at HF2 hfk
    have HF3 := Lib.hid HF2
    have HF4 := Lib.hid (show bkV (fill R.burst R.itv ⟨lf, ck, dr⟩ t) = .agg #[.int .i64 f.left, .int .i64 f.clock, .int .i64 f.drop] by rw [hf]; rfl)
    have h0a := h.ok.a0
    have h0b := h.ok.a1
    have h0c := h.ok.e0
    have h0d := h.ok.e1
    have h0e := hfk.l0
    have h0f := hfk.l1
    have h0g := hfk.d0
    have h0h := hfk.d1
    have h0i := hp.b1
    clear hf HF2 HF
    obtain ⟨d0, d1, d2, d3, d4, d5, d6⟩ := (LimBlk.mk (R := ⟨R.burst, R.itv, R.keys, t, [], R.alw, R.den⟩) hLB).cells
    obtain ⟨x0, x1, x2, y0, y1, y2⟩ := hX8.c3
    go_upto_region 14 with (first | ((with_reducible refine wpTxt_q ?_ ?_ ?_); rfl; rfl; intro _ _) | ((with_reducible refine wpTxt_w0 ?_ ?_ ?_); rfl; rfl; intro _ _) | ((with_reducible refine wpTxt_s ?_ ?_); rfl; intro _ _; go_simp) | ((with_reducible refine wpTxt_sw ?_ ?_); rfl; intro _ _; go_simp) | (with_reducible refine wpTxt_nil ?_) | ((with_reducible refine wp_region_t mixed ?_ ?_); decide +kernel; intro _ _) | (go_at_call 24; ((with_reducible refine (lfilled_agg ?_ ?_ hp hbk hle).mono ?_); (· exact hLB.cell 0); (· exact hLB.cell 1); unfold FillPost; rw [HF4.out]; rintro e w8 ⟨rfl, hb8⟩; have hX9 := hX8.low hb8; have hLB9 := hLB.low hb8; obtain ⟨x0, x1, x2, y0, y1, y2⟩ := hX9.c3)))
    clear x0 x1 x2 y0 y1 y2 d0 d1 d2 d3 d4 d5 d6
    have hMr9 := hMr.low hb8
    have hOr9 := hOr.then_ (Only.of_below hb8)
    obtain ⟨hXA, hOA⟩ := hX9.put3 (x' := .int .i64 f.left) (y' := .int .i64 f.clock) (z' := .int .i64 f.drop)
    have hLBA := hLB9.of (hOA.block b hLB9.lt (by simp; omega))
    have hMrA := hMr9.of (hOA.block m hMr9.lt (by simp; omega))
    have hOrA := hOr9.trans hOA (by simp; omega)
    clear hOA hX9 hLB9 hMr9 hOr9 hb8 hX8 hLB hMr hOr
    generalize ((w8.setCell ⟨g8, 0, none⟩ (.int .i64 f.left)).setCell ⟨g8, 1, none⟩ (.int .i64 f.clock)).setCell ⟨g8, 2, none⟩ (.int .i64 f.drop) = wA at *
    obtain ⟨x0, x1, x2, y0, y1, y2⟩ := hXA.c3
    obtain ⟨d0, d1, d2, d3, d4, d5, d6⟩ := (LimBlk.mk (R := ⟨R.burst, R.itv, R.keys, t, [], R.alw, R.den⟩) hLBA).cells
    have e4 := hLBA.free 4
    have e5 := hLBA.free 5
    by_cases hf0 : f.left = 0
    · obtain ⟨g1, g2⟩ := kd_t hf0
      have HF5 := HF3.out
      rw [if_pos hf0] at HF5
      have HF6 := Lib.hid HF5
      have HL0 := Lib.hid hf0
      clear hf0 HF5
      go_upto_region 17 with (first | ((with_reducible refine wpTxt_q ?_ ?_ ?_); rfl; rfl; intro _ _) | ((with_reducible refine wpTxt_w0 ?_ ?_ ?_); rfl; rfl; intro _ _) | ((with_reducible refine wpTxt_s ?_ ?_); rfl; intro _ _; go_simp) | ((with_reducible refine wpTxt_sw ?_ ?_); rfl; intro _ _; go_simp) | (with_reducible refine wpTxt_nil ?_) | ((with_reducible refine wp_region_t mixed ?_ ?_); decide +kernel; intro _ _))
      have hXB : Blk (wA.setCell ⟨g8, 2, none⟩ (.int .i64 (f.drop + 1))) g8 55 #[.int .i64 f.left, .int .i64 f.clock, .int .i64 (f.drop + 1)] := hXA.set 2 _
      have hXC := hXB.far (p := ⟨b, 5, none⟩) (by dsimp only; omega) (.int .i64 (R.den + 1))
      have hLBC : Blk ((wA.setCell ⟨g8, 2, none⟩ (.int .i64 (f.drop + 1))).setCell ⟨b, 5, none⟩ (.int .i64 (R.den + 1))) b 47 #[.int .i64 R.burst, .int .i64 R.itv, .int .i64 R.keys, .int .i64 t, .int .i64 R.alw, .int .i64 (R.den + 1), .map (some m)] := (hLBA.far (p := ⟨g8, 2, none⟩) (by dsimp only; omega) (.int .i64 (f.drop + 1))).set 5 _
      have hMC : StrMap ((wA.setCell ⟨g8, 2, none⟩ (.int .i64 (f.drop + 1))).setCell ⟨b, 5, none⟩ (.int .i64 (R.den + 1))) m mlr := hMrA.of ((Below.heap_setCell _ ⟨b, 5, none⟩ _ m (by dsimp only; omega)).trans (Below.heap_setCell _ ⟨g8, 2, none⟩ _ m (by dsimp only; omega)))
      have hOC : Only [b, m] w ((wA.setCell ⟨g8, 2, none⟩ (.int .i64 (f.drop + 1))).setCell ⟨b, 5, none⟩ (.int .i64 (R.den + 1))) := hOrA.trans (F' := [b, g8]) ⟨rfl, rfl, rfl, by simp, fun x _ hx => by
        simp only [List.mem_cons, List.not_mem_nil, or_false, not_or] at hx
        exact (Below.heap_setCell _ ⟨b, 5, none⟩ _ x hx.1).trans (Below.heap_setCell _ ⟨g8, 2, none⟩ _ x hx.2)⟩ (by simp; omega)
      clear x0 x1 x2 y0 y1 y2 d0 d1 d2 d3 d4 d5 d6 e4 e5
      generalize (wA.setCell ⟨g8, 2, none⟩ (.int .i64 (f.drop + 1))).setCell ⟨b, 5, none⟩ (.int .i64 (R.den + 1)) = wC at *
      obtain ⟨x0, x1, x2, -, -, -⟩ := hXC.c3
      have d6 := hLBC.cell 6
      obtain ⟨wD, hu, hMD, htD⟩ := run_update_str (P := Try.prog) wC.drew und_bmap und_str (show StrMap wC.drew m mlr from hMC) k (bkV ⟨f.left, f.clock, f.drop + 1⟩)
      simp only [bkV] at hu
      go_wp2_with (first | ((with_reducible refine wpTxt_q ?_ ?_ ?_); rfl; rfl; intro _ _) | ((with_reducible refine wpTxt_w0 ?_ ?_ ?_); rfl; rfl; intro _ _) | ((with_reducible refine wpTxt_s ?_ ?_); rfl; intro _ _; go_simp) | ((with_reducible refine wpTxt_sw ?_ ?_); rfl; intro _ _; go_simp) | (with_reducible refine wpTxt_nil ?_) | ((with_reducible refine wp_region_t mixed ?_ ?_); decide +kernel; intro _ _))
      go_ret
      have hpm := put_bs hMD hgr.out hasc hTT.out hkT.out
      rw [← HF6.out] at hAok ⊢
      refine ⟨_, rfl, ⟨?_, hMD, ?_, hbm, hAok⟩, hOC.then_ ⟨htD.os, htD.tape, htD.output, Nat.le_of_eq htD.size.symm, fun x _ hx => htD.block x (fun e => hx (by simp [e]))⟩⟩
      · exact hLBC.of (htD.block b hbm)
      · exact hpm
    · obtain ⟨g1, g2⟩ := kd_f hf0
      have HF5 := HF3.out
      rw [if_neg hf0] at HF5
      have HF6 := Lib.hid HF5
      have h0j : 0 < f.left := by omega
      clear hf0 HF5
      go_upto_region 22 with (first | ((with_reducible refine wpTxt_q ?_ ?_ ?_); rfl; rfl; intro _ _) | ((with_reducible refine wpTxt_w0 ?_ ?_ ?_); rfl; rfl; intro _ _) | ((with_reducible refine wpTxt_s ?_ ?_); rfl; intro _ _; go_simp) | ((with_reducible refine wpTxt_sw ?_ ?_); rfl; intro _ _; go_simp) | (with_reducible refine wpTxt_nil ?_) | ((with_reducible refine wp_region_t mixed ?_ ?_); decide +kernel; intro _ _))
      have hXB : Blk ((wA.setCell ⟨g8, 0, none⟩ (.int .i64 (f.left - 1))).setCell ⟨g8, 2, none⟩ (.int .i64 0)) g8 55 #[.int .i64 (f.left - 1), .int .i64 f.clock, .int .i64 0] := (hXA.set 0 _).set 2 _
      have hXC := hXB.far (p := ⟨b, 4, none⟩) (by dsimp only; omega) (.int .i64 (R.alw + 1))
      have hLBC : Blk (((wA.setCell ⟨g8, 0, none⟩ (.int .i64 (f.left - 1))).setCell ⟨g8, 2, none⟩ (.int .i64 0)).setCell ⟨b, 4, none⟩ (.int .i64 (R.alw + 1))) b 47 #[.int .i64 R.burst, .int .i64 R.itv, .int .i64 R.keys, .int .i64 t, .int .i64 (R.alw + 1), .int .i64 R.den, .map (some m)] := ((hLBA.far (p := ⟨g8, 0, none⟩) (by dsimp only; omega) (.int .i64 (f.left - 1))).far (p := ⟨g8, 2, none⟩) (by dsimp only; omega) (.int .i64 0)).set 4 _
      have hMC : StrMap (((wA.setCell ⟨g8, 0, none⟩ (.int .i64 (f.left - 1))).setCell ⟨g8, 2, none⟩ (.int .i64 0)).setCell ⟨b, 4, none⟩ (.int .i64 (R.alw + 1))) m mlr := hMrA.of (((Below.heap_setCell _ ⟨b, 4, none⟩ _ m (by dsimp only; omega)).trans (Below.heap_setCell _ ⟨g8, 2, none⟩ _ m (by dsimp only; omega))).trans (Below.heap_setCell _ ⟨g8, 0, none⟩ _ m (by dsimp only; omega)))
      have hOC : Only [b, m] w (((wA.setCell ⟨g8, 0, none⟩ (.int .i64 (f.left - 1))).setCell ⟨g8, 2, none⟩ (.int .i64 0)).setCell ⟨b, 4, none⟩ (.int .i64 (R.alw + 1))) := hOrA.trans (F' := [b, g8]) ⟨rfl, rfl, rfl, by simp, fun x _ hx => by
        simp only [List.mem_cons, List.not_mem_nil, or_false, not_or] at hx
        exact ((Below.heap_setCell _ ⟨b, 4, none⟩ _ x hx.1).trans (Below.heap_setCell _ ⟨g8, 2, none⟩ _ x hx.2)).trans (Below.heap_setCell _ ⟨g8, 0, none⟩ _ x hx.2)⟩ (by simp; omega)
      clear x0 x1 x2 y0 y1 y2 d0 d1 d2 d3 d4 d5 d6 e4 e5
      generalize ((wA.setCell ⟨g8, 0, none⟩ (.int .i64 (f.left - 1))).setCell ⟨g8, 2, none⟩ (.int .i64 0)).setCell ⟨b, 4, none⟩ (.int .i64 (R.alw + 1)) = wC at *
      obtain ⟨x0, x1, x2, -, -, -⟩ := hXC.c3
      have d6 := hLBC.cell 6
      obtain ⟨wD, hu, hMD, htD⟩ := run_update_str (P := Try.prog) wC.drew und_bmap und_str (show StrMap wC.drew m mlr from hMC) k (bkV ⟨f.left - 1, f.clock, 0⟩)
      simp only [bkV] at hu
      go_wp2_with (first | ((with_reducible refine wpTxt_q ?_ ?_ ?_); rfl; rfl; intro _ _) | ((with_reducible refine wpTxt_w0 ?_ ?_ ?_); rfl; rfl; intro _ _) | ((with_reducible refine wpTxt_s ?_ ?_); rfl; intro _ _; go_simp) | ((with_reducible refine wpTxt_sw ?_ ?_); rfl; intro _ _; go_simp) | (with_reducible refine wpTxt_nil ?_) | ((with_reducible refine wp_region_t mixed ?_ ?_); decide +kernel; intro _ _))
      go_ret
      have hpm := put_bs hMD hgr.out hasc hTT.out hkT.out
      rw [← HF6.out] at hAok ⊢
      refine ⟨_, rfl, ⟨?_, hMD, ?_, hbm, hAok⟩, hOC.then_ ⟨htD.os, htD.tape, htD.output, Nat.le_of_eq htD.size.symm, fun x _ hx => htD.block x (fun e => hx (by simp [e]))⟩⟩
      · exact hLBC.of (htD.block b hbm)
      · exact hpm
end Go.Proofs.Ytokadblncmjanaa
