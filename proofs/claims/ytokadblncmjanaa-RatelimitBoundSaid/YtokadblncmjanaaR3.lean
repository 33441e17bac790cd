/- The walks of full, forget and room. -/
import Derived.Test.YtokadblncmjanaaR2
set_option linter.unusedSimpArgs false
set_option linter.unusedVariables false
namespace Go.Proofs.Ytokadblncmjanaa
open Go.RowKit Tk
set_option maxHeartbeats 1000000 in
set_option maxRecDepth 100000 in
theorem lfull {w : World} {b : Nat} {bu it t M : Int} {bk : Bk} (c0 : w.cell? ⟨b, 0, none⟩ = some (.int .i64 bu)) (c1 : w.cell? ⟨b, 1, none⟩ = some (.int .i64 it)) (hp : Par bu it) (hb : BkOk bu t M bk) (ht : t ≤ big) :
    Calls Try.prog 32 #[.pointer (some ⟨b, 0, none⟩), bkV bk, .int .i64 t] w fun e w' => e = .returned (.bool (fullB bu it bk t)) ∧ Below w.heap.size w w' := by
  have hbw : b < w.heap.size := World.block_lt_of_cell? w _ c0
  have C0 := Lib.hid c0
  have C1 := Lib.hid c1
  obtain ⟨f, hf⟩ : ∃ f, fill bu it bk t = f := ⟨_, rfl⟩
  have HF := Lib.hid hf
  have hfu : fullB bu it bk t = (f.left == bu) := by unfold fullB; rw [hf]; rfl
  rw [hfu]
  clear hf hfu c0 c1
  obtain ⟨lf, ck, dr⟩ := bk
  unfold bkV
  dsimp only
  go_enter Try.func32, Try.ntmps32
  go_upto_region 1 with (first | ((with_reducible refine wpTxt_q ?_ ?_ ?_); rfl; rfl; intro _ _) | ((with_reducible refine wpTxt_w0 ?_ ?_ ?_); rfl; rfl; intro _ _) | ((with_reducible refine wpTxt_s ?_ ?_); rfl; intro _ _; go_simp) | ((with_reducible refine wpTxt_sw ?_ ?_); rfl; intro _ _; go_simp) | (with_reducible refine wpTxt_nil ?_) | ((with_reducible refine wp_region_t mixed ?_ ?_); decide +kernel; intro _ _))
  have hX := Blk.fresh w 55 #[.int .i64 lf, .int .i64 ck, .int .i64 dr]
  have hB1 := Ext.alloc w (.cells #[.int .i64 lf, .int .i64 ck, .int .i64 dr] 55)
  generalize w.alloc (.cells #[.int .i64 lf, .int .i64 ck, .int .i64 dr] 55) = w1 at *
  have hB1 : Below w.heap.size w w1 := hB1
  refine wp_region_e (spOf [(3, spVal (bkV f))]) [0, 1, 2, 3, 4, 5, 6, 7, 8, 9, 10] [] mixed ?_ ?_
  · decide +kernel
  · intro K ws hws hK
    have hxw : Below w1.heap.size w1 ws := by rw [hws]; (repeat (first | with_reducible assumption | with_reducible exact Below.refl _ _ | ((with_reducible refine Below.setCell ?_ ?_ _); rotate_left; (· first | omega | (simp only [World.size_alloc, World.size_drew, World.size_setCell]; omega) | (dsimp only; omega))) | ((with_reducible refine Below.alloc ?_ ?_ _); rotate_left; (· first | omega | (simp only [World.size_alloc, World.size_drew, World.size_setCell]; omega))) | ((with_reducible refine Below.drewN' ?_ _)) | ((with_reducible refine Below.drew ?_))))
    have hBs : Below w.heap.size w ws := hB1.trans (hxw.mono hB1.size)
    clear hws
    dsimp only [pickE, pickL, List.getElem?_cons_succ, List.getElem?_cons_zero] at hK ⊢
    go_wp2_with (first | ((with_reducible refine wpE_q ?_ ?_ ?_); rfl; rfl; intro wq hq _ _; obtain ⟨x0, x1, x2, -, -, -⟩ := ((hX.low hxw).low hq).c3) | ((with_reducible refine wpE_s ?_ ?_); rfl; intro wq hq _ _; obtain ⟨x0, x1, x2, -, -, -⟩ := ((hX.low hxw).low hq).c3; go_simp))
    refine wpE_w (spVal (bkV f)) _ rfl rfl rfl rfl rfl ⟨_, rfl⟩ ?_ ?_
    · intro wq hq K2 hK2
      have hBq : Below w.heap.size w wq := hBs.trans (hq.mono hBs.size)
      go_wp2_with fail
      refine (lfilled (bk := ⟨lf, ck, dr⟩) ((hBq.cell (p := ⟨b, 0, none⟩) hbw).trans C0.out) ((hBq.cell (p := ⟨b, 1, none⟩) hbw).trans C1.out) hp hb ht).mono ?_
      rintro e w' ⟨rfl, hb'⟩
      rw [HF.out]
      go_wp2_with fail
      exact good_val hb'
    · rintro v rfl
      obtain ⟨fl, fc, fd⟩ := f
      unfold bkV
      dsimp only
      go_wp2_with (first | ((with_reducible refine wpE_q ?_ ?_ ?_); rfl; rfl; intro wq hq _ _; have c0 := ((hBs.trans (hq.mono hBs.size)).cell (p := ⟨b, 0, none⟩) hbw).trans C0.out) | ((with_reducible refine wpE_s ?_ ?_); rfl; intro wq hq _ _; have c0 := ((hBs.trans (hq.mono hBs.size)).cell (p := ⟨b, 0, none⟩) hbw).trans C0.out; go_simp))
      refine wpE_nil (fun w4 hx4 hΦ hfp hdis => ?_)
      have hB4 : Below w.heap.size w w4 := hBs.trans (hx4.mono hBs.size)
      clear hΦ hfp hdis
      refine hK _ _ ?_
      clear hK
      go_wp2_with (first | ((with_reducible refine wpTxt_q ?_ ?_ ?_); rfl; rfl; intro _ _) | ((with_reducible refine wpTxt_w0 ?_ ?_ ?_); rfl; rfl; intro _ _) | ((with_reducible refine wpTxt_s ?_ ?_); rfl; intro _ _; go_simp) | ((with_reducible refine wpTxt_sw ?_ ?_); rfl; intro _ _; go_simp) | (with_reducible refine wpTxt_nil ?_) | ((with_reducible refine wp_region_t mixed ?_ ?_); decide +kernel; intro _ _))
      go_ret
      exact ⟨rfl, hB4⟩
theorem lfull_agg {w : World} {b : Nat} {bu it t M lf ck dr : Int} (c0 : w.cell? ⟨b, 0, none⟩ = some (.int .i64 bu)) (c1 : w.cell? ⟨b, 1, none⟩ = some (.int .i64 it)) (hp : Par bu it) (hb : BkOk bu t M ⟨lf, ck, dr⟩) (ht : t ≤ big) :
    Calls Try.prog 32 #[.pointer (some ⟨b, 0, none⟩), .agg #[.int .i64 lf, .int .i64 ck, .int .i64 dr], .int .i64 t] w fun e w' => e = .returned (.bool (fullB bu it ⟨lf, ck, dr⟩ t)) ∧ Below w.heap.size w w' := lfull (bk := ⟨lf, ck, dr⟩) c0 c1 hp hb ht
theorem perm_map_inv {α β : Type} (f : α → β) : ∀ {l k : List β}, l.Perm k → ∀ m : List α, k = m.map f → ∃ m' : List α, l = m'.map f ∧ m'.Perm m := by
  intro l k h
  induction h with
  | nil => intro m e; exact ⟨[], rfl, by cases m with | nil => exact List.Perm.refl _ | cons => simp at e⟩
  | cons x h ih =>
    intro m e
    match m, e with
    | a :: m, e =>
      simp only [List.map_cons, List.cons.injEq] at e
      obtain ⟨m', e1, e2⟩ := ih m e.2
      exact ⟨a :: m', by rw [List.map_cons, ← e1, e.1], e2.cons a⟩
  | swap x y l =>
    intro m e
    match m, e with
    | a :: c :: m, e =>
      simp only [List.map_cons, List.cons.injEq] at e
      obtain ⟨e1, e2, e3⟩ := e
      exact ⟨c :: a :: m, by simp only [List.map_cons, ← e1, ← e2, ← e3], List.Perm.swap _ _ _⟩
  | trans h1 h2 ih1 ih2 =>
    intro m e
    obtain ⟨m2, e2, p2⟩ := ih2 m e
    obtain ⟨m1, e1, p1⟩ := ih1 m2 e2
    exact ⟨m1, e1, p1.trans p2⟩
theorem ent_keys (l : List (ByteArray × Bk)) : (l.map ent).map (·.1) = l.map (·.1) := by rw [List.map_map]; rfl
theorem mdel_perm {k : ByteArray} {l m : List (ByteArray × Value)} (h : l.Perm m) : (mdel k l).Perm (mdel k m) := h.filter _
theorem mdel_head {p : ByteArray × Value} {m : List (ByteArray × Value)} (hn : p.1 ∉ m.map (·.1)) : mdel p.1 (p :: m) = m := by
  unfold mdel
  rw [List.filter_cons_of_neg (by simp), List.filter_eq_self.2]
  intro q hq
  have : ¬ p.1 = q.1 := fun e => hn (by rw [e]; exact List.mem_map.2 ⟨q, hq, rfl⟩)
  simpa using this
theorem left_perm (left : List (ByteArray × Bk)) (i : Nat) (hi : i < left.length) (r : List (ByteArray × Bk)) : (left.eraseIdx i ++ left[i] :: r).Perm (left ++ r) :=
  List.perm_middle.trans ((erase_perm left i hi).append_right r)
structure LimBlk (w : World) (b m : Nat) (R : RL) : Prop where
  blk : Blk w b 47 #[.int .i64 R.burst, .int .i64 R.itv, .int .i64 R.keys, .int .i64 R.time, .int .i64 R.alw, .int .i64 R.den, .map (some m)]
theorem LimBlk.cells {w : World} {b m : Nat} {R : RL} (h : LimBlk w b m R) : w.cell? ⟨b, 0, none⟩ = some (.int .i64 R.burst) ∧ w.cell? ⟨b, 1, none⟩ = some (.int .i64 R.itv) ∧ w.cell? ⟨b, 2, none⟩ = some (.int .i64 R.keys) ∧ w.cell? ⟨b, 3, none⟩ = some (.int .i64 R.time) ∧
    w.cell? ⟨b, 4, none⟩ = some (.int .i64 R.alw) ∧ w.cell? ⟨b, 5, none⟩ = some (.int .i64 R.den) ∧ w.cell? ⟨b, 6, none⟩ = some (.map (some m)) :=
  ⟨h.blk.cell 0, h.blk.cell 1, h.blk.cell 2, h.blk.cell 3, h.blk.cell 4, h.blk.cell 5, h.blk.cell 6⟩
def ForgetPost (b m : Nat) (R : RL) (t : Int) (w : World) (e : Ending) (w' : World) : Prop := e = .returned (.tuple #[]) ∧ ∃ ml', StrMap w' m ml' ∧ ml'.Perm ((keepB R.burst R.itv t R.bs).map ent) ∧ Only [m] w w'
set_option maxHeartbeats 4000000 in
set_option maxRecDepth 100000 in
theorem lforget {w : World} {b m : Nat} {ml : List (ByteArray × Value)} {R : RL} {t M : Int} (hB : LimBlk w b m R) (hM : StrMap w m ml) (hP : ml.Perm (R.bs.map ent)) (hbm : b ≠ m) (hp : Par R.burst R.itv) (hk : ∀ p ∈ R.bs, BkOk R.burst t M p.2) (ht : t ≤ big) :
    Calls Try.prog 23 #[.pointer (some ⟨b, 0, none⟩), .int .i64 t] w (ForgetPost b m R t w) := by
  have hkeys := hM.keys
  obtain ⟨bs0, rfl, hbs0⟩ := perm_map_inv ent hP R.bs rfl
  obtain ⟨w6, hr6, hI6, hb6, hs6⟩ := run_range_map (P := Try.prog) w und_bmap hM
  have hB6 : LimBlk w6 b m R := ⟨hB.blk.low hb6⟩
  have hM6 := hM.low hb6
  have hblt := hB.blk.lt
  have hmlt := hM.lt
  obtain ⟨c0, c1, c2, c3, c4, c5, c6⟩ := hB.cells
  go_enter Try.func23, Try.ntmps23
  go_wp2_with (first | ((with_reducible refine wpTxt_q ?_ ?_ ?_); rfl; rfl; intro _ _) | ((with_reducible refine wpTxt_w0 ?_ ?_ ?_); rfl; rfl; intro _ _) | ((with_reducible refine wpTxt_s ?_ ?_); rfl; intro _ _; go_simp) | ((with_reducible refine wpTxt_sw ?_ ?_); rfl; intro _ _; go_simp) | (with_reducible refine wpTxt_nil ?_) | ((with_reducible refine wp_region_t mixed ?_ ?_); decide +kernel; intro _ _))
  clear c0 c1 c2 c3 c4 c5 c6 hr6
  go_loopw [4] (fun _ wr => ∃ (left seen : List (ByteArray × Bk)) (mlr : List (ByteArray × Value)), Hid ((left ++ seen).Perm R.bs) ∧ MIter wr w.heap.size m (left.map ent) ∧ StrMap wr m mlr ∧ Hid (mlr.Perm ((left ++ keepB R.burst R.itv t seen).map ent)) ∧ Only [w.heap.size, m] w6 wr) (fun _ wr => remains wr w.heap.size)
  case atStart => exact ⟨bs0, [], _, by rw [List.append_nil]; exact hbs0, hI6, hM6, by simp only [keepB, List.filter_nil, List.append_nil]; exact List.Perm.refl _, Only.refl _ _⟩
  case round =>
    obtain ⟨left, seen, mlr, hPs, hI, hMr, hPm, hO⟩ := hrel
    have hBr : LimBlk wr b m R := ⟨hB6.blk.of (hO.block b (by omega) (by simp; omega))⟩
    obtain ⟨c0, c1, c2, c3, c4, c5, c6⟩ := hBr.cells
    by_cases hne : left = []
    · subst hne
      have hn := fun ty => run_next_end (P := Try.prog) wr ty hI
      go_wp2_with (first | ((with_reducible refine wpTxt_q ?_ ?_ ?_); rfl; rfl; intro _ _) | ((with_reducible refine wpTxt_w0 ?_ ?_ ?_); rfl; rfl; intro _ _) | ((with_reducible refine wpTxt_s ?_ ?_); rfl; intro _ _; go_simp) | ((with_reducible refine wpTxt_sw ?_ ?_); rfl; intro _ _; go_simp) | (with_reducible refine wpTxt_nil ?_) | ((with_reducible refine wp_region_t mixed ?_ ?_); decide +kernel; intro _ _))
      rw [List.nil_append] at hPs hPm
      refine bodyPost_end (v := .tuple #[]) (by simp [results, Try.f23, go_sem]) rfl ⟨rfl, mlr, hMr, hPm.out.trans ((hPs.out.filter _).map ent), ?_⟩
      exact ((Only.of_below (F := [m]) hb6).trans hO fun x hx => by
        rcases List.mem_cons.1 hx with rfl | hx
        · exact .inr (Nat.le_refl _)
        · exact .inl hx)
    · obtain ⟨i, hi, w7, hn, hAt, htn⟩ := run_next_some (P := Try.prog) wr hI (by simpa using hne)
      have hi' : i < left.length := by simpa using hi
      rw [← map_erase] at hAt
      simp only [List.getElem_map] at hn hAt
      have he := run_entry (P := Try.prog) w7 hAt
      have hB7 : LimBlk w7 b m R := ⟨hBr.blk.of (htn.block b (by omega))⟩
      have hM7 := hMr.of (htn.block m (by omega))
      have hki := hk left[i] (hPs.out.subset (List.mem_append.2 (.inl (List.getElem_mem hi'))))
      have hlp := left_perm left i hi'
      obtain ⟨p, hpe⟩ : ∃ p, left[i] = p := ⟨_, rfl⟩
      rw [hpe] at hn hAt he hki hlp
      obtain ⟨kk, lf, ck, dr⟩ := p
      simp only [ent, bkV] at hn he
      clear c0 c1 c2 c3 c4 c5 c6
      obtain ⟨c0, c1, c2, c3, c4, c5, c6⟩ := hBr.cells
      obtain ⟨e0, e1, e2, e3, e4, e5, e6⟩ := hB7.cells
      have hz7 : w.heap.size < w7.heap.size := by have := htn.size; have := hO.size; omega
      go_upto_region 3 with (first | ((with_reducible refine wpTxt_q ?_ ?_ ?_); rfl; rfl; intro _ _) | ((with_reducible refine wpTxt_w0 ?_ ?_ ?_); rfl; rfl; intro _ _) | ((with_reducible refine wpTxt_s ?_ ?_); rfl; intro _ _; go_simp) | ((with_reducible refine wpTxt_sw ?_ ?_); rfl; intro _ _; go_simp) | (with_reducible refine wpTxt_nil ?_) | ((with_reducible refine wp_region_t mixed ?_ ?_); decide +kernel; intro _ _))
      have hB7a := hB7.blk.alloc (.cells #[.int .i64 lf, .int .i64 ck, .int .i64 dr] 55)
      have hx7 := Ext.alloc w7 (.cells #[.int .i64 lf, .int .i64 ck, .int .i64 dr] 55)
      have hx7 : Below w7.heap.size w7 _ := hx7
      have hPs' : (left.eraseIdx i ++ (kk, ⟨lf, ck, dr⟩) :: seen).Perm R.bs := (hlp seen).trans hPs.out
      have hOO := hO.turned htn (by simp)
      cases hfu : fullB R.burst R.itv ⟨lf, ck, dr⟩ t
      · have hkp : keepB R.burst R.itv t ((kk, ⟨lf, ck, dr⟩) :: seen) = (kk, ⟨lf, ck, dr⟩) :: keepB R.burst R.itv t seen := by
          unfold keepB; rw [List.filter_cons_of_pos (by simp [hfu])]
        have HK := Lib.hid hkp
        have HP2 : Hid (mlr.Perm ((left.eraseIdx i ++ keepB R.burst R.itv t ((kk, ⟨lf, ck, dr⟩) :: seen)).map ent)) := by
          rw [hkp]
          exact hPm.out.trans ((hlp _).symm.map ent)
        clear hkp
        go_wp2_with (first | ((with_reducible refine wpTxt_q ?_ ?_ ?_); rfl; rfl; intro _ _) | ((with_reducible refine wpTxt_w0 ?_ ?_ ?_); rfl; rfl; intro _ _) | ((with_reducible refine wpTxt_s ?_ ?_); rfl; intro _ _; go_simp) | ((with_reducible refine wpTxt_sw ?_ ?_); rfl; intro _ _; go_simp) | (with_reducible refine wpTxt_nil ?_) | ((with_reducible refine wp_region_t mixed ?_ ?_); decide +kernel; intro _ _) | (go_at_call 32; ((with_reducible refine (lfull_agg ?_ ?_ hp hki ht).mono ?_); (· exact (hB7.blk.alloc _).cell 0); (· exact (hB7.blk.alloc _).cell 1); rintro e w8 ⟨rfl, hb8⟩)))
        have hx8 : Below w7.heap.size w7 w8 := hx7.trans (hb8.mono hx7.size)
        have hI8 : MIter w8 w.heap.size m ((left.eraseIdx i).map ent) := hAt.iter.of (hx8.block _ hM7.lt) (hx8.block _ hz7)
        go_roundw
        case rel => exact ⟨left.eraseIdx i, _, mlr, hPs', hI8, hM7.of (hx8.block _ hM7.lt), HP2, hOO.then_ (Only.of_below hx8)⟩
        case measure =>
          rw [hI8.remains, hI.remains, List.length_map, List.length_map, List.length_eraseIdx_of_lt hi']; omega
      · have hkp : keepB R.burst R.itv t ((kk, ⟨lf, ck, dr⟩) :: seen) = keepB R.burst R.itv t seen := by
          unfold keepB; rw [List.filter_cons_of_neg (by simp [hfu])]
        have HK := Lib.hid hkp
        clear hkp
        have hnk : kk ∉ ((left.eraseIdx i ++ keepB R.burst R.itv t seen).map ent).map (·.1) := by
          have h1 : ((mlr).map (·.1)).Nodup := hMr.keys
          have h2 := ((hPm.out.trans ((hlp (keepB R.burst R.itv t seen)).symm.map ent)).map (·.1)).nodup_iff.1 h1
          rw [List.map_append, List.map_cons] at h2
          have h3 := (List.perm_middle.map (fun p : ByteArray × Value => p.1)).nodup_iff.1 h2
          rw [List.map_cons] at h3
          have h4 := (List.nodup_cons.1 h3).1
          rw [← List.map_append] at h4
          exact h4
        have hdel : (mdel kk mlr).Perm ((left.eraseIdx i ++ keepB R.burst R.itv t ((kk, ⟨lf, ck, dr⟩) :: seen)).map ent) := by
          rw [HK.out]
          have h1 := mdel_perm (k := kk) (hPm.out.trans ((hlp (keepB R.burst R.itv t seen)).symm.map ent))
          rw [List.map_append, List.map_cons] at h1
          have h2 := h1.trans (mdel_perm List.perm_middle)
          have h3 : mdel kk (ent (kk, ⟨lf, ck, dr⟩) :: ((left.eraseIdx i).map ent ++ (keepB R.burst R.itv t seen).map ent)) = _ := mdel_head (p := ent (kk, ⟨lf, ck, dr⟩)) (by rw [← List.map_append]; exact hnk)
          rw [h3, ← List.map_append] at h2
          exact h2
        have HD := Lib.hid hdel
        clear hdel
        go_wp2_with (first | ((with_reducible refine wpTxt_q ?_ ?_ ?_); rfl; rfl; intro _ _) | ((with_reducible refine wpTxt_w0 ?_ ?_ ?_); rfl; rfl; intro _ _) | ((with_reducible refine wpTxt_s ?_ ?_); rfl; intro _ _; go_simp) | ((with_reducible refine wpTxt_sw ?_ ?_); rfl; intro _ _; go_simp) | (with_reducible refine wpTxt_nil ?_) | ((with_reducible refine wp_region_t mixed ?_ ?_); decide +kernel; intro _ _) | (go_at_call 32; ((with_reducible refine (lfull_agg ?_ ?_ hp hki ht).mono ?_); (· exact (hB7.blk.alloc _).cell 0); (· exact (hB7.blk.alloc _).cell 1); rintro e w8 ⟨rfl, hb8⟩; have hx8 : Below w7.heap.size w7 w8 := hx7.trans (hb8.mono hx7.size); have hB8 : LimBlk w8 b m R := ⟨hB7.blk.low hx8⟩; obtain ⟨u0, u1, u2, u3, u4', u5', u6'⟩ := hB8.cells; obtain ⟨w9, hd, hM9, ht9, hA9⟩ := run_delete_str (P := Try.prog) w8 und_bmap und_str 9 (hM7.low hx8) kk)))
        have hI9 := hA9 w.heap.size _ _ (hAt.of (hx8.block _ hM7.lt) (hx8.block _ hz7)) rfl
        go_roundw
        case rel => exact ⟨left.eraseIdx i, _, _, hPs', hI9, hM9, HD, (hOO.then_ (Only.of_below hx8)).turned ht9 (by simp)⟩
        case measure =>
          rw [hI9.remains, hI.remains, List.length_map, List.length_map, List.length_eraseIdx_of_lt hi']; omega
end Go.Proofs.Ytokadblncmjanaa
