/- The walks of room, Left, Dropped, Total. -/
import Derived.Test.YtokadblncmjanaaR3
set_option linter.unusedSimpArgs false
set_option linter.unusedVariables false
namespace Go.Proofs.Ytokadblncmjanaa
open Go.RowKit Tk
def roomB (R : RL) (t : Int) : Bool := decide ((R.bs.length : Int) < R.keys) || decide (((keepB R.burst R.itv t R.bs).length : Int) < R.keys)
set_option maxHeartbeats 4000000 in
set_option maxRecDepth 100000 in
theorem lroom {w : World} {b m : Nat} {ml : List (ByteArray × Value)} {R : RL} {t M : Int} (hB : LimBlk w b m R) (hM : StrMap w m ml) (hP : ml.Perm (R.bs.map ent)) (hbm : b ≠ m) (hp : Par R.burst R.itv) (hk : ∀ p ∈ R.bs, BkOk R.burst t M p.2) (ht : t ≤ big) (hlen : R.bs.length ≤ 1024) :
    Calls Try.prog 30 #[.pointer (some ⟨b, 0, none⟩), .int .i64 t] w fun e w' => e = .returned (.bool (roomB R t)) ∧ Below w.heap.size w w' := by
  obtain ⟨bs0, rfl, hbs0⟩ := perm_map_inv ent hP R.bs rfl
  obtain ⟨w6, hr6, hI6, hb6, hs6⟩ := run_range_map (P := Try.prog) w und_bmap hM
  have hB6 : LimBlk w6 b m R := ⟨hB.blk.low hb6⟩
  have hM6 := hM.low hb6
  have hblt := hB.blk.lt
  have hmlt := hM.lt
  obtain ⟨c0, c1, c2, c3, c4, c5, c6⟩ := hB.cells
  go_enter Try.func30, Try.ntmps30
  go_wp2_with (first | ((with_reducible refine wpTxt_q ?_ ?_ ?_); rfl; rfl; intro _ _) | ((with_reducible refine wpTxt_w0 ?_ ?_ ?_); rfl; rfl; intro _ _) | ((with_reducible refine wpTxt_s ?_ ?_); rfl; intro _ _; go_simp) | ((with_reducible refine wpTxt_sw ?_ ?_); rfl; intro _ _; go_simp) | (with_reducible refine wpTxt_nil ?_) | ((with_reducible refine wp_region_t mixed ?_ ?_); decide +kernel; intro _ _))
  clear c0 c1 c2 c3 c4 c5 c6 hr6
  go_loopw [5] (fun n wr => ∃ (left seen : List (ByteArray × Bk)), n = .int .i64 (keepB R.burst R.itv t seen).length ∧ Hid ((left ++ seen).Perm R.bs) ∧ MIter wr w.heap.size m (left.map ent) ∧ Only [w.heap.size] w6 wr) (fun _ wr => remains wr w.heap.size)
  case atStart => exact ⟨bs0, [], rfl, by rw [List.append_nil]; exact hbs0, hI6, Only.refl _ _⟩
  case round =>
    obtain ⟨left, seen, rfl, hPs, hI, hO⟩ := hrel
    have hBr : LimBlk wr b m R := ⟨hB6.blk.of (hO.block b (by omega) (by simp; omega))⟩
    have hMr : StrMap wr m (bs0.map ent) := hM6.of (hO.block m (by omega) (by simp; omega))
    have hBw : Below w.heap.size w wr := hb6.trans (hO.below (by simp) hb6.size)
    have hls : seen.length ≤ 1024 := by have := hPs.out.length_eq; rw [List.length_append] at this; omega
    have hkl : (keepB R.burst R.itv t seen).length ≤ seen.length := List.length_filter_le _ _
    obtain ⟨c0, c1, c2, c3, c4, c5, c6⟩ := hBr.cells
    by_cases hne : left = []
    · subst hne
      have hn := fun ty => run_next_end (P := Try.prog) wr ty hI
      rw [List.nil_append] at hPs
      have hln := run_len_str (P := Try.prog) wr.drew und_bmap (show StrMap wr.drew m (bs0.map ent) from hMr)
      have hl0 : ((bs0.map ent).length : Int) = R.bs.length := by rw [List.length_map, hbs0.length_eq]
      rw [hl0] at hln
      have hl1 : (((keepB R.burst R.itv t seen).length : Nat) : Int) = (keepB R.burst R.itv t R.bs).length := by
        unfold keepB
        rw [(hPs.out.filter fun p : ByteArray × Bk => !fullB R.burst R.itv p.2 t).length_eq]
      rw [hl1]
      clear hl0 hl1
      by_cases h1 : (R.bs.length : Int) < R.keys
      · go_wp2_with (first | ((with_reducible refine wpTxt_q ?_ ?_ ?_); rfl; rfl; intro _ _) | ((with_reducible refine wpTxt_w0 ?_ ?_ ?_); rfl; rfl; intro _ _) | ((with_reducible refine wpTxt_s ?_ ?_); rfl; intro _ _; go_simp) | ((with_reducible refine wpTxt_sw ?_ ?_); rfl; intro _ _; go_simp) | (with_reducible refine wpTxt_nil ?_) | ((with_reducible refine wp_region_t mixed ?_ ?_); decide +kernel; intro _ _))
        go_ret
        exact ⟨ret_bool (by unfold roomB; simp [h1]), hBw.drew⟩
      · go_wp2_with (first | ((with_reducible refine wpTxt_q ?_ ?_ ?_); rfl; rfl; intro _ _) | ((with_reducible refine wpTxt_w0 ?_ ?_ ?_); rfl; rfl; intro _ _) | ((with_reducible refine wpTxt_s ?_ ?_); rfl; intro _ _; go_simp) | ((with_reducible refine wpTxt_sw ?_ ?_); rfl; intro _ _; go_simp) | (with_reducible refine wpTxt_nil ?_) | ((with_reducible refine wp_region_t mixed ?_ ?_); decide +kernel; intro _ _))
        go_ret
        exact ⟨ret_bool (by unfold roomB; rw [decide_eq_false (Int.not_lt.2 h1), Bool.false_or]), hBw.drew⟩
    · obtain ⟨i, hi, w7, hn, hAt, htn⟩ := run_next_some (P := Try.prog) wr hI (by simpa using hne)
      have hi' : i < left.length := by simpa using hi
      rw [← map_erase] at hAt
      simp only [List.getElem_map] at hn hAt
      have he := run_entry (P := Try.prog) w7 hAt
      have hB7 : LimBlk w7 b m R := ⟨hBr.blk.of (htn.block b (by omega))⟩
      have hM7 := hMr.of (htn.block m (by omega))
      have hki := hk left[i] (hPs.out.subset (List.mem_append.2 (.inl (List.getElem_mem hi'))))
      have hlp := left_perm left i hi'
      obtain ⟨p, hpe⟩ : ∃ p, left[i] = p := ⟨_, rfl⟩
      rw [hpe] at hn hAt he hki hlp
      obtain ⟨kk, lf, ck, dr⟩ := p
      simp only [ent, bkV] at hn he
      clear c0 c1 c2 c3 c4 c5 c6
      obtain ⟨e0, e1, e2, e3, e4, e5, e6⟩ := hB7.cells
      have hz7 : w.heap.size < w7.heap.size := by have := htn.size; have := hO.size; omega
      have hx7 : Below w7.heap.size w7 (w7.alloc (.cells #[.int .i64 lf, .int .i64 ck, .int .i64 dr] 55)) := Ext.alloc _ _
      have hPs' : (left.eraseIdx i ++ (kk, ⟨lf, ck, dr⟩) :: seen).Perm R.bs := (hlp seen).trans hPs.out
      have hOO := hO.turned htn (by simp)
      cases hfu : fullB R.burst R.itv ⟨lf, ck, dr⟩ t
      · have hkp : (keepB R.burst R.itv t ((kk, ⟨lf, ck, dr⟩) :: seen)).length = (keepB R.burst R.itv t seen).length + 1 := by
          unfold keepB; rw [List.filter_cons_of_pos (by simp [hfu])]; rfl
        have HK := Lib.hid hkp
        have HFu := Lib.hid hfu
        clear hkp
        go_wp2_with (first | ((with_reducible refine wpTxt_q ?_ ?_ ?_); rfl; rfl; intro _ _) | ((with_reducible refine wpTxt_w0 ?_ ?_ ?_); rfl; rfl; intro _ _) | ((with_reducible refine wpTxt_s ?_ ?_); rfl; intro _ _; go_simp) | ((with_reducible refine wpTxt_sw ?_ ?_); rfl; intro _ _; go_simp) | (with_reducible refine wpTxt_nil ?_) | ((with_reducible refine wp_region_t mixed ?_ ?_); decide +kernel; intro _ _) | (go_at_call 32; ((with_reducible refine (lfull_agg ?_ ?_ hp hki ht).mono ?_); (· exact (hB7.blk.alloc _).cell 0); (· exact (hB7.blk.alloc _).cell 1); rintro e w8 ⟨rfl, hb8⟩)))
        have hx8 : Below w7.heap.size w7 w8 := hx7.trans (hb8.mono hx7.size)
        have hI8 : MIter w8 w.heap.size m ((left.eraseIdx i).map ent) := hAt.iter.of (hx8.block _ hM7.lt) (hx8.block _ hz7)
        go_roundw
        case rel => exact ⟨left.eraseIdx i, _, by rw [HK.out]; go_num, hPs', hI8, hOO.then_ (Only.of_below hx8)⟩
        case measure =>
          rw [hI8.remains, hI.remains, List.length_map, List.length_map, List.length_eraseIdx_of_lt hi']; omega
      · have hkp : (keepB R.burst R.itv t ((kk, ⟨lf, ck, dr⟩) :: seen)).length = (keepB R.burst R.itv t seen).length := by
          unfold keepB; rw [List.filter_cons_of_neg (by simp [hfu])]
        have HK := Lib.hid hkp
        clear hkp
        go_wp2_with (first | ((with_reducible refine wpTxt_q ?_ ?_ ?_); rfl; rfl; intro _ _) | ((with_reducible refine wpTxt_w0 ?_ ?_ ?_); rfl; rfl; intro _ _) | ((with_reducible refine wpTxt_s ?_ ?_); rfl; intro _ _; go_simp) | ((with_reducible refine wpTxt_sw ?_ ?_); rfl; intro _ _; go_simp) | (with_reducible refine wpTxt_nil ?_) | ((with_reducible refine wp_region_t mixed ?_ ?_); decide +kernel; intro _ _) | (go_at_call 32; ((with_reducible refine (lfull_agg ?_ ?_ hp hki ht).mono ?_); (· exact (hB7.blk.alloc _).cell 0); (· exact (hB7.blk.alloc _).cell 1); rintro e w8 ⟨rfl, hb8⟩)))
        have hx8 : Below w7.heap.size w7 w8 := hx7.trans (hb8.mono hx7.size)
        have hI8 : MIter w8 w.heap.size m ((left.eraseIdx i).map ent) := hAt.iter.of (hx8.block _ hM7.lt) (hx8.block _ hz7)
        go_roundw
        case rel => exact ⟨left.eraseIdx i, _, by rw [HK.out], hPs', hI8, hOO.then_ (Only.of_below hx8)⟩
        case measure =>
          rw [hI8.remains, hI.remains, List.length_map, List.length_map, List.length_eraseIdx_of_lt hi']; omega
theorem look_get (k : ByteArray) (l : List (ByteArray × Bk)) : mget k (l.map ent) = (lookB k l).map bkV := by
  unfold mget lookB
  induction l with
  | nil => rfl
  | cons p l ih =>
    by_cases h : k = p.1
    · simp [ent, h]
    · simp only [List.map_cons, ent, List.find?_cons, h, decide_false]
      exact ih
theorem LimAt.lb {w : World} {b m : Nat} {ml : List (ByteArray × Value)} {R : RL} {M : Int} (h : LimAt w b m ml R M) : LimBlk w b m R := ⟨h.blk⟩
theorem LimAt.get {w : World} {b m : Nat} {ml : List (ByteArray × Value)} {R : RL} {M : Int} (h : LimAt w b m ml R M) (k : ByteArray) : mget k ml = (lookB k R.bs).map bkV := by
  rw [mget_perm h.perm (by rw [ent_keys]; exact h.ok.asc.nodup), look_get]
theorem RL.ok.later {M t : Int} {R : RL} (h : R.ok M) (ht : R.time ≤ t) : ∀ p ∈ R.bs, BkOk R.burst t M p.2 := fun p hp => (h.bks p hp).later ht (Int.le_refl _)
set_option maxHeartbeats 400000 in
theorem ltotal {w : World} {b m : Nat} {ml : List (ByteArray × Value)} {R : RL} {M : Int} (h : LimAt w b m ml R M) : Calls Try.prog 16 #[.pointer (some ⟨b, 0, none⟩)] w fun e w' => e = .returned (.tuple #[.int .i64 R.alw, .int .i64 R.den]) ∧ Below w.heap.size w w' := by
  obtain ⟨c0, c1, c2, c3, c4, c5, c6⟩ := h.lb.cells
  go_enter Try.func16, Try.ntmps16
  go_wp2_with (first | ((with_reducible refine wpTxt_q ?_ ?_ ?_); rfl; rfl; intro _ _) | ((with_reducible refine wpTxt_w0 ?_ ?_ ?_); rfl; rfl; intro _ _) | ((with_reducible refine wpTxt_s ?_ ?_); rfl; intro _ _; go_simp) | ((with_reducible refine wpTxt_sw ?_ ?_); rfl; intro _ _; go_simp) | (with_reducible refine wpTxt_nil ?_) | ((with_reducible refine wp_region_t mixed ?_ ?_); decide +kernel; intro _ _) | (go_at_call 21; ((with_reducible refine (lmade (by assumption)).mono ?_); rintro e w' ⟨rfl, rfl⟩)))
  exact bodyPost_ret (v := .tuple #[.int .i64 R.alw, .int .i64 R.den]) (by simp [results, Try.f16, go_sem]) rfl ⟨rfl, by (repeat (first | with_reducible assumption | with_reducible exact Below.refl _ _ | ((with_reducible refine Below.setCell ?_ ?_ _); rotate_left; (· first | omega | (simp only [World.size_alloc, World.size_drew, World.size_setCell]; omega) | (dsimp only; omega))) | ((with_reducible refine Below.alloc ?_ ?_ _); rotate_left; (· first | omega | (simp only [World.size_alloc, World.size_drew, World.size_setCell]; omega))) | ((with_reducible refine Below.drewN' ?_ _)) | ((with_reducible refine Below.drew ?_))))⟩
set_option maxHeartbeats 400000 in
theorem ldropped {w : World} {b m : Nat} {ml : List (ByteArray × Value)} {R : RL} {M : Int} (h : LimAt w b m ml R M) (k : ByteArray) : Calls Try.prog 18 #[.pointer (some ⟨b, 0, none⟩), .string k] w fun e w' => e = .returned (.int .i64 (R.dropped k)) ∧ w = w' := by
  obtain ⟨c0, c1, c2, c3, c4, c5, c6⟩ := h.lb.cells
  have hl := run_lookup_str w und_bmap und_str (zero_bk w) h.map k false
  rw [h.get] at hl
  unfold RL.dropped
  cases hb : lookB k R.bs with
  | none =>
    rw [hb] at hl
    simp only [Option.map_none, Option.getD_none, bkV, Bool.false_eq_true, if_false] at hl
    go_enter Try.func18, Try.ntmps18
    go_wp2_with (first | ((with_reducible refine wpTxt_q ?_ ?_ ?_); rfl; rfl; intro _ _) | ((with_reducible refine wpTxt_w0 ?_ ?_ ?_); rfl; rfl; intro _ _) | ((with_reducible refine wpTxt_s ?_ ?_); rfl; intro _ _; go_simp) | ((with_reducible refine wpTxt_sw ?_ ?_); rfl; intro _ _; go_simp) | (with_reducible refine wpTxt_nil ?_) | ((with_reducible refine wp_region_t mixed ?_ ?_); decide +kernel; intro _ _) | (go_at_call 21; ((with_reducible refine (lmade (by assumption)).mono ?_); rintro e w' ⟨rfl, rfl⟩)))
    go_ret
    exact ⟨rfl, rfl⟩
  | some q =>
    rw [hb] at hl
    obtain ⟨lf, ck, dr⟩ := q
    simp only [Option.map_some, Option.getD_some, bkV, Bool.false_eq_true, if_false] at hl
    go_enter Try.func18, Try.ntmps18
    go_wp2_with (first | ((with_reducible refine wpTxt_q ?_ ?_ ?_); rfl; rfl; intro _ _) | ((with_reducible refine wpTxt_w0 ?_ ?_ ?_); rfl; rfl; intro _ _) | ((with_reducible refine wpTxt_s ?_ ?_); rfl; intro _ _; go_simp) | ((with_reducible refine wpTxt_sw ?_ ?_); rfl; intro _ _; go_simp) | (with_reducible refine wpTxt_nil ?_) | ((with_reducible refine wp_region_t mixed ?_ ?_); decide +kernel; intro _ _) | (go_at_call 21; ((with_reducible refine (lmade (by assumption)).mono ?_); rintro e w' ⟨rfl, rfl⟩)))
    go_ret
    exact ⟨rfl, rfl⟩
theorem lfilled_agg {w : World} {b : Nat} {bu it t M lf ck dr : Int} (c0 : w.cell? ⟨b, 0, none⟩ = some (.int .i64 bu)) (c1 : w.cell? ⟨b, 1, none⟩ = some (.int .i64 it)) (hp : Par bu it) (hb : BkOk bu t M ⟨lf, ck, dr⟩) (ht : t ≤ big) :
    Calls Try.prog 24 #[.pointer (some ⟨b, 0, none⟩), .agg #[.int .i64 lf, .int .i64 ck, .int .i64 dr], .int .i64 t] w (FillPost bu it ⟨lf, ck, dr⟩ t w) := lfilled (bk := ⟨lf, ck, dr⟩) c0 c1 hp hb ht
theorem lat_eq {w : World} {b : Nat} {R : RL} {now t : Int} (c3 : w.cell? ⟨b, 3, none⟩ = some (.int .i64 R.time)) (he : R.clockAt now = t) : Calls Try.prog 22 #[.pointer (some ⟨b, 0, none⟩), .int .i64 now] w fun e w' => e = .returned (.int .i64 t) ∧ w = w' := by
  have := lat c3 now
  rwa [he] at this
set_option maxHeartbeats 1000000 in
set_option maxRecDepth 100000 in
theorem lleft {w : World} {b m : Nat} {ml : List (ByteArray × Value)} {R : RL} {M : Int} (h : LimAt w b m ml R M) (k : ByteArray) (now : Int) : Calls Try.prog 15 #[.pointer (some ⟨b, 0, none⟩), .string k, .int .i64 now] w fun e w' => e = .returned (.int .i64 (R.left k now)) ∧ Below w.heap.size w w' := by
  obtain ⟨c0, c1, c2, c3, c4, c5, c6⟩ := h.lb.cells
  have hl := run_lookup_str w und_bmap und_str (zero_bk w) h.map k true
  rw [h.get] at hl
  have hge := clock_ge R now
  have hle := clock_le h.ok now
  have hlen : R.bs.length ≤ 1024 := by have := h.ok.len; have := h.ok.k1; omega
  have hbl := h.blk.lt
  unfold RL.left
  generalize hct : R.clockAt now = t at *
  have HT := Lib.hid hct
  clear hct
  dsimp only
  cases hb : lookB k R.bs with
  | none =>
    rw [hb] at hl
    simp only [Option.map_none, Option.getD_none, bkV, if_true, Option.isSome_none] at hl
    have hxr : Below w.heap.size w (w.alloc (.cells #[.int .i64 0, .int .i64 0, .int .i64 0] 55)) := Ext.alloc _ _
    have hroom : (if R.keys ≤ R.bs.length ∧ R.keys ≤ (keepB R.burst R.itv t R.bs).length then (0 : Int) else R.burst) = if roomB R t = true then R.burst else 0 := by
      unfold roomB
      by_cases h1 : R.keys ≤ R.bs.length <;> by_cases h2 : R.keys ≤ (keepB R.burst R.itv t R.bs).length <;> simp [h1, h2] <;> omega
    rw [hroom]
    have HR := Lib.hid hroom
    clear hroom
    cases hrb : roomB R t
    all_goals
      have HRB := Lib.hid hrb
      go_enter Try.func15, Try.ntmps15
      go_wp2_with (first | ((with_reducible refine wpTxt_q ?_ ?_ ?_); rfl; rfl; intro _ _) | ((with_reducible refine wpTxt_w0 ?_ ?_ ?_); rfl; rfl; intro _ _) | ((with_reducible refine wpTxt_s ?_ ?_); rfl; intro _ _; go_simp) | ((with_reducible refine wpTxt_sw ?_ ?_); rfl; intro _ _; go_simp) | (with_reducible refine wpTxt_nil ?_) | ((with_reducible refine wp_region_t mixed ?_ ?_); decide +kernel; intro _ _) | (go_at_call 21; ((with_reducible refine (lmade (by assumption)).mono ?_); rintro e w' ⟨rfl, rfl⟩)) | (go_at_call 22; ((with_reducible refine (lat_eq c3 HT.out).mono ?_); rintro e w' ⟨rfl, rfl⟩)) | (go_at_call 30; ((with_reducible refine (lroom ?_ ?_ h.perm h.ne h.ok.par (h.ok.later hge) hle hlen).mono ?_); (· exact ⟨h.blk.low hxr⟩); (· exact h.map.low hxr); rintro e w8 ⟨rfl, hb8⟩; obtain ⟨v0, v1, v2, v3, v4, v5, v6⟩ := (LimBlk.mk ((h.blk.low hxr).low hb8)).cells)))
      go_ret
      exact ⟨ret_int rfl, hxr.trans (hb8.mono hxr.size)⟩
  | some q =>
    rw [hb] at hl
    have hbk := h.ok.later hge _ (look_mem hb)
    obtain ⟨lf, ck, dr⟩ := q
    simp only [Option.map_some, Option.getD_some, bkV, if_true, Option.isSome_some] at hl
    have hxr : Below w.heap.size w (w.alloc (.cells #[.int .i64 lf, .int .i64 ck, .int .i64 dr] 55)) := Ext.alloc _ _
    obtain ⟨f, hf⟩ : ∃ f, fill R.burst R.itv ⟨lf, ck, dr⟩ t = f := ⟨_, rfl⟩
    dsimp only
    rw [hf]
    have HF := Lib.hid (show bkV (fill R.burst R.itv ⟨lf, ck, dr⟩ t) = .agg #[.int .i64 f.left, .int .i64 f.clock, .int .i64 f.drop] by rw [hf]; rfl)
    clear hf hb
    go_enter Try.func15, Try.ntmps15
    go_wp2_with (first | ((with_reducible refine wpTxt_q ?_ ?_ ?_); rfl; rfl; intro _ _) | ((with_reducible refine wpTxt_w0 ?_ ?_ ?_); rfl; rfl; intro _ _) | ((with_reducible refine wpTxt_s ?_ ?_); rfl; intro _ _; go_simp) | ((with_reducible refine wpTxt_sw ?_ ?_); rfl; intro _ _; go_simp) | (with_reducible refine wpTxt_nil ?_) | ((with_reducible refine wp_region_t mixed ?_ ?_); decide +kernel; intro _ _) | (go_at_call 21; ((with_reducible refine (lmade (by assumption)).mono ?_); rintro e w' ⟨rfl, rfl⟩)) | (go_at_call 22; ((with_reducible refine (lat_eq c3 HT.out).mono ?_); rintro e w' ⟨rfl, rfl⟩)) | (go_at_call 24; ((with_reducible refine (lfilled_agg ?_ ?_ h.ok.par hbk hle).mono ?_); (· exact (h.blk.low hxr).cell 0); (· exact (h.blk.low hxr).cell 1); unfold FillPost; rw [HF.out]; rintro e w8 ⟨rfl, hb8⟩)))
    go_ret
    exact ⟨rfl, hxr.trans (hb8.mono hxr.size)⟩
end Go.Proofs.Ytokadblncmjanaa
