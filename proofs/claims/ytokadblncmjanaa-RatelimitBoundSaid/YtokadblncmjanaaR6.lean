/- The walks of New, Keys and Copy. -/
import Derived.Test.YtokadblncmjanaaR5
set_option linter.unusedSimpArgs false
set_option linter.unusedVariables false
namespace Go.Proofs.Ytokadblncmjanaa
open Go.RowKit Tk
def R0 (bu it ks : Int) : RL := ⟨bu, it, ks, 0, [], 0, 0⟩
def NewOk (bu it ks : Int) : Prop := Par bu it ∧ 1 ≤ ks ∧ ks ≤ 1024
theorem R0_ok {bu it ks : Int} (h : NewOk bu it ks) : (R0 bu it ks).ok 0 :=
  ⟨h.1, h.2.1, h.2.2, Int.le_refl _, by show (0 : Int) ≤ big; decide, by show (0 : Int) ≤ ks; have := h.2.1; omega, List.Pairwise.nil, by simp [R0], Int.le_refl _, Int.le_refl _, Int.le_refl _, Int.le_refl _⟩
def LNew (R : RL) (M : Int) (w : World) (e : Ending) (w' : World) : Prop := ∃ b m ml, e = .returned (.pointer (some ⟨b, 0, none⟩)) ∧ LimAt w' b m ml R M ∧ Below w.heap.size w w' ∧ w.heap.size ≤ b ∧ w.heap.size ≤ m
set_option maxHeartbeats 1000000 in
theorem lnew {bu it ks : Int} (h : NewOk bu it ks) (w : World) : Calls Try.prog 8 #[.int .i64 bu, .int .i64 it, .int .i64 ks] w (LNew (R0 bu it ks) 0 w) := by
  have hok := R0_ok h
  obtain ⟨⟨b0, b1, i0, i1⟩, k0, k1⟩ := h
  go_enter Try.func8, Try.ntmps8
  go_wp2_with (first | ((with_reducible refine wpTxt_q ?_ ?_ ?_); rfl; rfl; intro _ _) | ((with_reducible refine wpTxt_w0 ?_ ?_ ?_); rfl; rfl; intro _ _) | ((with_reducible refine wpTxt_s ?_ ?_); rfl; intro _ _; go_simp) | ((with_reducible refine wpTxt_sw ?_ ?_); rfl; intro _ _; go_simp) | (with_reducible refine wpTxt_nil ?_) | ((with_reducible refine wp_region_t mixed ?_ ?_); decide +kernel; intro _ _))
  go_ret
  have hM : StrMap (w.alloc (.map #[] 0)) w.heap.size [] := StrMap.made w
  refine ⟨_, w.heap.size, [], rfl, ⟨Blk.at_ _ _ _ _ (by simp), hM.of (Below.heap_alloc _ _ _ (by simp)), List.Perm.refl _, by omega, hok⟩, by (repeat (first | with_reducible assumption | with_reducible exact Below.refl _ _ | ((with_reducible refine Below.setCell ?_ ?_ _); rotate_left; (· first | omega | (simp only [World.size_alloc, World.size_drew, World.size_setCell]; omega) | (dsimp only; omega))) | ((with_reducible refine Below.alloc ?_ ?_ _); rotate_left; (· first | omega | (simp only [World.size_alloc, World.size_drew, World.size_setCell]; omega))) | ((with_reducible refine Below.drewN' ?_ _)) | ((with_reducible refine Below.drew ?_)))), by omega, Nat.le_refl _⟩
set_option maxHeartbeats 2000000 in
theorem lnew_no {bu it ks : Int} (h : ¬ NewOk bu it ks) (w : World) : Calls Try.prog 8 #[.int .i64 bu, .int .i64 it, .int .i64 ks] w fun e w' => e = .returned (.pointer none) ∧ w = w' := by
  have h2 : bu < 1 ∨ (1 ≤ bu ∧ 1000000 < bu) ∨ (1 ≤ bu ∧ bu ≤ 1000000 ∧ it < 1) ∨ (1 ≤ bu ∧ bu ≤ 1000000 ∧ 1 ≤ it ∧ 1000000 < it) ∨ (1 ≤ bu ∧ bu ≤ 1000000 ∧ 1 ≤ it ∧ it ≤ 1000000 ∧ ks < 1) ∨ (1 ≤ bu ∧ bu ≤ 1000000 ∧ 1 ≤ it ∧ it ≤ 1000000 ∧ 1 ≤ ks ∧ 1024 < ks) := by
    by_cases a1 : bu < 1
    · exact .inl a1
    by_cases a2 : 1000000 < bu
    · exact .inr (.inl ⟨by omega, a2⟩)
    by_cases a3 : it < 1
    · exact .inr (.inr (.inl ⟨by omega, by omega, a3⟩))
    by_cases a4 : 1000000 < it
    · exact .inr (.inr (.inr (.inl ⟨by omega, by omega, by omega, a4⟩)))
    by_cases a5 : ks < 1
    · exact .inr (.inr (.inr (.inr (.inl ⟨by omega, by omega, by omega, by omega, a5⟩))))
    by_cases a6 : 1024 < ks
    · exact .inr (.inr (.inr (.inr (.inr ⟨by omega, by omega, by omega, by omega, by omega, a6⟩))))
    exact absurd ⟨⟨by omega, by omega, by omega, by omega⟩, by omega, by omega⟩ h
  clear h
  rcases h2 with h | ⟨h, h1⟩ | ⟨h, h1, h2⟩ | ⟨h, h1, h2, h3⟩ | ⟨h, h1, h2, h3, h4⟩ | ⟨h, h1, h2, h3, h4, h5⟩
  all_goals
    go_enter Try.func8, Try.ntmps8
    go_wp2_with (first | ((with_reducible refine wpTxt_q ?_ ?_ ?_); rfl; rfl; intro _ _) | ((with_reducible refine wpTxt_w0 ?_ ?_ ?_); rfl; rfl; intro _ _) | ((with_reducible refine wpTxt_s ?_ ?_); rfl; intro _ _; go_simp) | ((with_reducible refine wpTxt_sw ?_ ?_); rfl; intro _ _; go_simp) | (with_reducible refine wpTxt_nil ?_) | ((with_reducible refine wp_region_t mixed ?_ ?_); decide +kernel; intro _ _))
    go_ret
    exact ⟨rfl, rfl⟩
theorem bs_asc {l : List (ByteArray × Bk)} (h : AscB l) : Asc (l.map (·.1)) := by
  unfold Asc
  rw [List.pairwise_map]
  exact h.imp fun {a b} hab => List.le_of_lt hab
set_option maxHeartbeats 2000000 in
set_option maxRecDepth 100000 in
theorem lkeys {w : World} {b m : Nat} {ml : List (ByteArray × Value)} {R : RL} {M : Int} (h : LimAt w b m ml R M) : Calls Try.prog 19 #[.pointer (some ⟨b, 0, none⟩)] w fun e w' => ∃ v', e = .returned v' ∧ Row w' v' (R.bs.map (·.1)) ∧ Below w.heap.size w w' := by
  have hlen : R.bs.length ≤ 1024 := by have := h.ok.len; have := h.ok.k1; omega
  have hascR := bs_asc h.ok.asc
  obtain ⟨bs0, hml, hbs0⟩ := perm_map_inv ent h.perm R.bs rfl
  obtain ⟨w6, hr6, hI6, hb6, hs6⟩ := run_range_map (P := Try.prog) w und_bmap h.map
  rw [hml] at hI6
  have hblt := h.blk.lt
  have hmlt := h.map.lt
  have hB6 : LimBlk w6 b m R := ⟨h.blk.low hb6⟩
  have hM6 := h.map.low hb6
  have hbm := h.ne
  obtain ⟨c0, c1, c2, c3, c4, c5, c6⟩ := h.lb.cells
  clear hml
  go_enter Try.func19, Try.ntmps19
  go_wp2_with (first | ((with_reducible refine wpTxt_q ?_ ?_ ?_); rfl; rfl; intro _ _) | ((with_reducible refine wpTxt_w0 ?_ ?_ ?_); rfl; rfl; intro _ _) | ((with_reducible refine wpTxt_s ?_ ?_); rfl; intro _ _; go_simp) | ((with_reducible refine wpTxt_sw ?_ ?_); rfl; intro _ _; go_simp) | (with_reducible refine wpTxt_nil ?_) | ((with_reducible refine wp_region_t mixed ?_ ?_); decide +kernel; intro _ _) | (go_at_call 21; ((with_reducible refine (lmade (by assumption)).mono ?_); rintro e w' ⟨rfl, rfl⟩)))
  clear c0 c1 c2 c3 c4 c5 c6 hr6
  go_loopw [3] (fun v wr => ∃ (left seen : List (ByteArray × Bk)) (ys : List ByteArray), Hid ((left ++ seen).Perm R.bs) ∧ Row wr v ys ∧ ys.length = seen.length ∧ Hid (ys.Perm (seen.map (·.1))) ∧ MIter wr w.heap.size m (left.map ent) ∧ Only [w.heap.size] w6 wr ∧ ∀ x ∈ ownB v, w.heap.size + 1 ≤ x) (fun _ wr => remains wr w.heap.size)
  case atStart => exact ⟨bs0, [], [], by rw [List.append_nil]; exact hbs0, World.ownsRow_nil _ _ _ _, rfl, List.Perm.refl _, hI6, Only.refl _ _, by simp [ownB, Value.ownBlock]⟩
  case round =>
    obtain ⟨left, seen, ys, hPs, hRr, hyl, hPy, hI, hO, hown⟩ := hrel
    have hBr : LimBlk wr b m R := ⟨hB6.blk.of (hO.block b (by omega) (by simp; omega))⟩
    have hMr : StrMap wr m ml := hM6.of (hO.block m (by omega) (by simp; omega))
    have hBw : Below w.heap.size w wr := hb6.trans (hO.below (by simp) hb6.size)
    have hls : left.length + seen.length = R.bs.length := by have := hPs.out.length_eq; rw [List.length_append] at this; exact this
    have HY := Lib.hid hyl
    have hyl2 : ys.length ≤ 1024 := by omega
    clear hyl
    obtain ⟨vo, vc, rfl, hv1, hv2⟩ := hRr.len
    by_cases hne : left = []
    · subst hne
      have hn := fun ty => run_next_end (P := Try.prog) wr ty hI
      rw [List.nil_append] at hPs
      have HS := Lib.hid (hascR.sortS ((hPs.out.map (·.1)).symm.trans hPy.out.symm))
      go_wp2_with (first | ((with_reducible refine wpTxt_q ?_ ?_ ?_); rfl; rfl; intro _ _) | ((with_reducible refine wpTxt_w0 ?_ ?_ ?_); rfl; rfl; intro _ _) | ((with_reducible refine wpTxt_s ?_ ?_); rfl; intro _ _; go_simp) | ((with_reducible refine wpTxt_sw ?_ ?_); rfl; intro _ _; go_simp) | (with_reducible refine wpTxt_nil ?_) | ((with_reducible refine wp_region_t mixed ?_ ?_); decide +kernel; intro _ _) | (go_at_call 31; ((with_reducible refine (sort_any hRr ?_).mono ?_); (· omega); rintro e w8 ⟨rfl, hR8, hg8⟩)))
      go_ret
      refine ⟨_, rfl, by rw [HS.out]; exact hR8, ?_⟩
      exact hBw.grown hg8 hBw.size (fun x hx => by have := hown x (mem_ownB.2 hx); omega)
    · obtain ⟨i, hi, w7, hn, hAt, htn⟩ := run_next_some (P := Try.prog) wr hI (by simpa using hne)
      have hi' : i < left.length := by simpa using hi
      rw [← map_erase] at hAt
      simp only [List.getElem_map] at hn hAt
      have he := run_entry (P := Try.prog) w7 hAt
      have hlp := left_perm left i hi'
      obtain ⟨p, hpe⟩ : ∃ p, left[i] = p := ⟨_, rfl⟩
      rw [hpe] at hn hAt he hlp
      obtain ⟨kk, lf, ck, dr⟩ := p
      simp only [ent, bkV] at hn he
      have hM7 := hMr.of (htn.block m (by omega))
      have hz7 : w.heap.size < w7.heap.size := by have := htn.size; have := hO.size; omega
      have hPs' : (left.eraseIdx i ++ (kk, ⟨lf, ck, dr⟩) :: seen).Perm R.bs := (hlp seen).trans hPs.out
      have hOO := hO.turned htn (by simp)
      have hR7 : Row w7 (.slice vo ys.length vc) ys := hRr.kept fun x hx => htn.block x (by have := hown x hx; omega)
      go_wp2_with (first | (at_builtin; refine wpList_app rfl (.tmp 17) (.tmp 19) rfl info_str und_strs rfl (by decide) strC_l strC_one (.slice vo ys.length vc) _ ys [kk] rfl rfl ?_ ?_ ?_ ?_ ?_; (· exact hR7.o.low (by (repeat (first | with_reducible assumption | with_reducible exact Below.refl _ _ | ((with_reducible refine Below.setCell ?_ ?_ _); rotate_left; (· first | omega | (simp only [World.size_alloc, World.size_drew, World.size_setCell]; omega) | (dsimp only; omega))) | ((with_reducible refine Below.alloc ?_ ?_ _); rotate_left; (· first | omega | (simp only [World.size_alloc, World.size_drew, World.size_setCell]; omega))) | ((with_reducible refine Below.drewN' ?_ _)) | ((with_reducible refine Below.drew ?_)))))); (· exact RRow.blk (xs := [kk]) strC_l (Blk.fresh _ _ _) rfl (by show 1 ≤ maxLen; decide)); (· simp only [maxLen, List.length_singleton]; omega); (· simp only [List.length_singleton]; omega); intro v8 w8 hA8) | ((with_reducible refine wpTxt_q ?_ ?_ ?_); rfl; rfl; intro _ _) | ((with_reducible refine wpTxt_w0 ?_ ?_ ?_); rfl; rfl; intro _ _) | ((with_reducible refine wpTxt_s ?_ ?_); rfl; intro _ _; go_simp) | ((with_reducible refine wpTxt_sw ?_ ?_); rfl; intro _ _; go_simp) | (with_reducible refine wpTxt_nil ?_) | ((with_reducible refine wp_region_t mixed ?_ ?_); decide +kernel; intro _ _))
      obtain ⟨hb8, ho8⟩ := hA8.below (B := w.heap.size + 1) ((Below.refl (w.heap.size + 1) w7).alloc (by omega) _) (fun x hx => hown x (mem_ownB.2 hx)) (by simp; omega)
      have hR8 := Row.of hA8.row
      have hI8 : MIter w8 w.heap.size m ((left.eraseIdx i).map ent) := hAt.iter.of (hb8.block _ (by omega)) (hb8.block _ (by omega))
      go_roundw
      case rel => exact ⟨left.eraseIdx i, _, _, hPs', hR8, by rw [List.length_append, HY.out]; rfl, (List.perm_append_singleton _ _).trans (hPy.out.cons kk), hI8, ⟨hb8.os.trans hOO.os, hb8.tape.trans hOO.tape, hb8.output.trans hOO.output, Nat.le_trans hOO.size hb8.size, fun x hx hn' => (hb8.block x (by omega)).trans (hOO.block x hx hn')⟩, fun x hx => ho8 x (mem_ownB.1 hx)⟩
      case measure =>
        rw [hI8.remains, hI.remains, List.length_map, List.length_map, List.length_eraseIdx_of_lt hi']; omega
set_option maxHeartbeats 4000000 in
set_option maxRecDepth 100000 in
theorem lcopy {w : World} {b m : Nat} {ml : List (ByteArray × Value)} {R : RL} {M : Int} (h : LimAt w b m ml R M) : Calls Try.prog 17 #[.pointer (some ⟨b, 0, none⟩)] w (LNew R M w) := by
  obtain ⟨bs0, hml, hbs0⟩ := perm_map_inv ent h.perm R.bs rfl
  have hblt := h.blk.lt
  have hmlt := h.map.lt
  have hbm := h.ne
  obtain ⟨c0, c1, c2, c3, c4, c5, c6⟩ := h.lb.cells
  go_enter Try.func17, Try.ntmps17
  go_upto_region 5 with (first | ((with_reducible refine wpTxt_q ?_ ?_ ?_); rfl; rfl; intro _ _) | ((with_reducible refine wpTxt_w0 ?_ ?_ ?_); rfl; rfl; intro _ _) | ((with_reducible refine wpTxt_s ?_ ?_); rfl; intro _ _; go_simp) | ((with_reducible refine wpTxt_sw ?_ ?_); rfl; intro _ _; go_simp) | (with_reducible refine wpTxt_nil ?_) | ((with_reducible refine wp_region_t mixed ?_ ?_); decide +kernel; intro _ _) | (go_at_call 21; ((with_reducible refine (lmade (by assumption)).mono ?_); rintro e w' ⟨rfl, rfl⟩)))
  have hX := (Blk.fresh w 47 #[.int .i64 R.burst, .int .i64 R.itv, .int .i64 R.keys, .int .i64 R.time, .int .i64 R.alw, .int .i64 R.den, .map (some (w.heap.size + 1))]).alloc (.map #[] 0)
  have hM2 := StrMap.made (w.alloc (.cells #[.int .i64 R.burst, .int .i64 R.itv, .int .i64 R.keys, .int .i64 R.time, .int .i64 R.alw, .int .i64 R.den, .map (some (w.heap.size + 1))] 47))
  have hB5 : Below w.heap.size w ((w.alloc (.cells #[.int .i64 R.burst, .int .i64 R.itv, .int .i64 R.keys, .int .i64 R.time, .int .i64 R.alw, .int .i64 R.den, .map (some (w.heap.size + 1))] 47)).alloc (.map #[] 0)) := by (repeat (first | with_reducible assumption | with_reducible exact Below.refl _ _ | ((with_reducible refine Below.setCell ?_ ?_ _); rotate_left; (· first | omega | (simp only [World.size_alloc, World.size_drew, World.size_setCell]; omega) | (dsimp only; omega))) | ((with_reducible refine Below.alloc ?_ ?_ _); rotate_left; (· first | omega | (simp only [World.size_alloc, World.size_drew, World.size_setCell]; omega))) | ((with_reducible refine Below.drewN' ?_ _)) | ((with_reducible refine Below.drew ?_))))
  have hs5 : ((w.alloc (.cells #[.int .i64 R.burst, .int .i64 R.itv, .int .i64 R.keys, .int .i64 R.time, .int .i64 R.alw, .int .i64 R.den, .map (some (w.heap.size + 1))] 47)).alloc (.map #[] 0)).heap.size = w.heap.size + 2 := by simp
  simp only [World.size_alloc] at hM2
  generalize (w.alloc (.cells #[.int .i64 R.burst, .int .i64 R.itv, .int .i64 R.keys, .int .i64 R.time, .int .i64 R.alw, .int .i64 R.den, .map (some (w.heap.size + 1))] 47)).alloc (.map #[] 0) = w5 at *
  have hT5 : LimBlk w5 b m R := ⟨h.blk.low hB5⟩
  have hM5 := h.map.low hB5
  obtain ⟨w6, hr6, hI6, hb6, hs6⟩ := run_range_map (P := Try.prog) w5 und_bmap hM5
  rw [hml] at hI6
  have hIT := hI6
  rw [hs5] at hr6 hI6 hs6
  have hX6 := hX.low hb6
  have hM6 := hM2.low hb6
  have hB6 := hB5.trans (hb6.mono hB5.size)
  clear c0 c1 c2 c3 c4 c5 c6
  obtain ⟨c0, c1, c2, c3, c4, c5, c6⟩ := hT5.cells
  replace hs5 := Lib.hid hs5
  replace hml := Lib.hid hml
  go_wp2_with (first | ((with_reducible refine wpTxt_q ?_ ?_ ?_); rfl; rfl; intro _ _) | ((with_reducible refine wpTxt_w0 ?_ ?_ ?_); rfl; rfl; intro _ _) | ((with_reducible refine wpTxt_s ?_ ?_); rfl; intro _ _; go_simp) | ((with_reducible refine wpTxt_sw ?_ ?_); rfl; intro _ _; go_simp) | (with_reducible refine wpTxt_nil ?_) | ((with_reducible refine wp_region_t mixed ?_ ?_); decide +kernel; intro _ _))
  clear c0 c1 c2 c3 c4 c5 c6 hr6
  go_loopw [4] (fun _ wr => ∃ (left done : List (ByteArray × Bk)), Hid ((left ++ done).Perm R.bs) ∧ MIter wr (w.heap.size + 2) m (left.map ent) ∧ StrMap wr (w.heap.size + 1) (done.map ent) ∧ Only [w.heap.size + 2, w.heap.size + 1] w6 wr) (fun _ wr => remains wr (w.heap.size + 2))
  case atStart => exact ⟨bs0, [], by rw [List.append_nil]; exact hbs0, hI6, hM6, Only.refl _ _⟩
  case round =>
    obtain ⟨left, done, hPs, hI, hM, hO⟩ := hrel
    have hXr := hX6.of (hO.block _ hX6.lt (by simp))
    have d6 := hXr.cell 6
    by_cases hne : left = []
    · subst hne
      have hn := fun ty => run_next_end (P := Try.prog) wr ty hI
      rw [List.nil_append] at hPs
      go_wp2_with (first | ((with_reducible refine wpTxt_q ?_ ?_ ?_); rfl; rfl; intro _ _) | ((with_reducible refine wpTxt_w0 ?_ ?_ ?_); rfl; rfl; intro _ _) | ((with_reducible refine wpTxt_s ?_ ?_); rfl; intro _ _; go_simp) | ((with_reducible refine wpTxt_sw ?_ ?_); rfl; intro _ _; go_simp) | (with_reducible refine wpTxt_nil ?_) | ((with_reducible refine wp_region_t mixed ?_ ?_); decide +kernel; intro _ _))
      go_ret
      exact ⟨_, w.heap.size + 1, done.map ent, rfl, ⟨hXr, hM, hPs.out.map ent, by omega, h.ok⟩, hB6.trans (hO.below (by simp) hB6.size), Nat.le_refl _, by omega⟩
    · obtain ⟨i, hi, w7, hn, hAt, htn⟩ := run_next_some (P := Try.prog) wr hI (by simpa using hne)
      have hi' : i < left.length := by simpa using hi
      rw [← map_erase] at hAt
      simp only [List.getElem_map] at hn hAt
      have he := run_entry (P := Try.prog) w7 hAt
      have hlp := left_perm left i hi'
      obtain ⟨p, hpe⟩ : ∃ p, left[i] = p := ⟨_, rfl⟩
      rw [hpe] at hn hAt he hlp
      obtain ⟨kk, lf, ck, dr⟩ := p
      simp only [ent, bkV] at hn he
      have hM7 := hM.of (htn.block _ (by omega))
      have hX7 := hXr.of (htn.block _ (by omega))
      have hPs' : (left.eraseIdx i ++ (kk, ⟨lf, ck, dr⟩) :: done).Perm R.bs := (hlp done).trans hPs.out
      have hPn : (left.eraseIdx i ++ (done ++ [(kk, (⟨lf, ck, dr⟩ : Bk))])).Perm R.bs := (List.Perm.append_left _ (List.perm_append_singleton (kk, (⟨lf, ck, dr⟩ : Bk)) done)).trans hPs'
      have hOO := hO.turned htn (by simp)
      have hx7 : Below w7.heap.size w7 (w7.alloc (.cells #[.int .i64 lf, .int .i64 ck, .int .i64 dr] 55)) := Ext.alloc _ _
      have hM8 := hM7.low hx7
      have hnew : kk ∉ (done.map ent).map (·.1) := by
        have hk : ((left.eraseIdx i ++ (kk, ⟨lf, ck, dr⟩) :: done).map (·.1)).Nodup := (hPs'.map _).nodup_iff.2 h.ok.asc.nodup
        rw [List.map_append, List.nodup_append, List.map_cons, List.nodup_cons] at hk
        rw [ent_keys]
        exact hk.2.1.1
      obtain ⟨w8, hu, hM9, ht8⟩ := run_update_str (P := Try.prog) (w7.alloc (.cells #[.int .i64 lf, .int .i64 ck, .int .i64 dr] 55)) und_bmap und_str hM8 kk (bkV ⟨lf, ck, dr⟩)
      rw [mput_new hnew] at hM9
      simp only [bkV] at hu
      have f6 := hX7.cell 6
      have hz7 : w.heap.size < w7.heap.size := hX7.lt
      have hitl := hAt.iter.lt
      go_wp2_with (first | ((with_reducible refine wpTxt_q ?_ ?_ ?_); rfl; rfl; intro _ _) | ((with_reducible refine wpTxt_w0 ?_ ?_ ?_); rfl; rfl; intro _ _) | ((with_reducible refine wpTxt_s ?_ ?_); rfl; intro _ _; go_simp) | ((with_reducible refine wpTxt_sw ?_ ?_); rfl; intro _ _; go_simp) | (with_reducible refine wpTxt_nil ?_) | ((with_reducible refine wp_region_t mixed ?_ ?_); decide +kernel; intro _ _))
      have hI8 : MIter w8 (w.heap.size + 2) m ((left.eraseIdx i).map ent) := hAt.iter.of ((ht8.block _ (by omega)).trans (hx7.block _ (by omega))) ((ht8.block _ (by omega)).trans (hx7.block _ (by omega)))
      go_roundw
      case rel => exact ⟨left.eraseIdx i, done ++ [(kk, (⟨lf, ck, dr⟩ : Bk))], Lib.hid hPn, hI8, by rw [List.map_append]; exact hM9, (hOO.then_ (Only.of_below hx7)).turned ht8 (by simp)⟩
      case measure =>
        rw [hI8.remains, hI.remains, List.length_map, List.length_map, List.length_eraseIdx_of_lt hi']; omega
end Go.Proofs.Ytokadblncmjanaa
