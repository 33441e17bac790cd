/- The walk of the reference's forget. -/
import Derived.Test.YtokadblncmjanaaR9
set_option linter.unusedSimpArgs false
set_option linter.unusedVariables false
namespace Go.Proofs.Ytokadblncmjanaa
open Go.RowKit Tk
@[go_sem] theorem run_rb1 (k : ByteArray) (l c d : Int) (w : World) : (Instr.field 70 (.agg #[.string k, .int .i64 l, .int .i64 c, .int .i64 d]) 1).run Try.prog w = .ok (.int .i64 l) w := by kernel_rfl
def SPost (R : RL) (r : Value → Value) (w : World) (e : Ending) (w' : World) : Prop := ∃ so c, e = .returned (r (sv R (.slice so R.bs.length c))) ∧ BRow w' (.slice so R.bs.length c) R.bs ∧ Below w.heap.size w w'
theorem keep_snoc {bu it t : Int} {l : List (ByteArray × Bk)} {j : Nat} (h : j < l.length) : keepB bu it t (l.take (j + 1)) = keepB bu it t (l.take j) ++ if fullB bu it l[j].2 t = true then [] else [l[j]] := by
  unfold keepB
  rw [List.take_succ_eq_append_getElem h, List.filter_append]
  cases hf : fullB bu it l[j].2 t <;> simp [hf]
theorem full_lt {bu it t M : Int} {b : Bk} (hp : Par bu it) (hb : BkOk bu t M b) : ((fill bu it b t).left < bu) ↔ fullB bu it b t = false := by
  have := (fill_ok hp hb (Int.le_refl _)).l1
  unfold fullB
  rw [decide_eq_false_iff_not]
  omega
theorem Blk.c7 {w : World} {g : Nat} {t : TypeId} {a b c d e f h : Value} (hb : Blk w g t #[a, b, c, d, e, f, h]) : w.cell? ⟨g, 0, none⟩ = some a ∧ w.cell? ⟨g, 1, none⟩ = some b ∧ w.cell? ⟨g, 2, none⟩ = some c ∧ w.cell? ⟨g, 3, none⟩ = some d ∧ w.cell? ⟨g, 4, none⟩ = some e ∧ w.cell? ⟨g, 5, none⟩ = some f ∧ w.cell? ⟨g, 6, none⟩ = some h :=
  ⟨hb.cell 0, hb.cell 1, hb.cell 2, hb.cell 3, hb.cell 4, hb.cell 5, hb.cell 6⟩
def RL.keep (R : RL) (t : Int) : RL := { R with bs := keepB R.burst R.itv t R.bs }
set_option maxHeartbeats 4000000 in
set_option maxRecDepth 100000 in
theorem q31forget_any {R : RL} {v : Value} {t M : Int} (w : World) (h : BRow w v R.bs) (hl : R.bs.length ≤ 2000) (hp : Par R.burst R.itv) (hk : ∀ p ∈ R.bs, BkOk R.burst t M p.2) (ht : t ≤ big) :
    Calls Try.prog 37 #[sv R v, .int .i64 t] w (SPost (R.keep t) id w) := by
  obtain ⟨so, c, rfl, n1, n2⟩ := ORow.len h
  unfold maxLen at n2
  unfold sv
  go_enter Try.func37, Try.ntmps37
  go_wp2_with (first | ((with_reducible refine wpTxt_q ?_ ?_ ?_); rfl; rfl; intro _ _) | ((with_reducible refine wpTxt_w0 ?_ ?_ ?_); rfl; rfl; intro _ _) | ((with_reducible refine wpTxt_s ?_ ?_); rfl; intro _ _; go_simp) | ((with_reducible refine wpTxt_sw ?_ ?_); rfl; intro _ _; go_simp) | (with_reducible refine wpTxt_nil ?_) | ((with_reducible refine wp_region_t mixed ?_ ?_); decide +kernel; intro _ _))
  have hX := (Blk.fresh w 33 #[.int .i64 R.burst, .int .i64 R.itv, .int .i64 R.keys, .int .i64 R.time, .slice so R.bs.length c, .int .i64 R.alw, .int .i64 R.den]).alloc (.cells #[.int .i64 0, .int .i64 0, .int .i64 0, .int .i64 0, .slice none 0 0, .int .i64 0, .int .i64 0] 33)
  have hY : Blk ((w.alloc (.cells #[.int .i64 R.burst, .int .i64 R.itv, .int .i64 R.keys, .int .i64 R.time, .slice so R.bs.length c, .int .i64 R.alw, .int .i64 R.den] 33)).alloc (.cells #[.int .i64 0, .int .i64 0, .int .i64 0, .int .i64 0, .slice none 0 0, .int .i64 0, .int .i64 0] 33)) (w.heap.size + 1) 33 #[.int .i64 0, .int .i64 0, .int .i64 0, .int .i64 0, .slice none 0 0, .int .i64 0, .int .i64 0] := Blk.at_ _ _ _ _ (by simp)
  have hE : Below w.heap.size w ((w.alloc (.cells #[.int .i64 R.burst, .int .i64 R.itv, .int .i64 R.keys, .int .i64 R.time, .slice so R.bs.length c, .int .i64 R.alw, .int .i64 R.den] 33)).alloc (.cells #[.int .i64 0, .int .i64 0, .int .i64 0, .int .i64 0, .slice none 0 0, .int .i64 0, .int .i64 0] 33)) := by (repeat (first | with_reducible assumption | with_reducible exact Below.refl _ _ | ((with_reducible refine Below.setCell ?_ ?_ _); rotate_left; (· first | omega | (simp only [World.size_alloc, World.size_drew, World.size_setCell]; omega) | (dsimp only; omega))) | ((with_reducible refine Below.alloc ?_ ?_ _); rotate_left; (· first | omega | (simp only [World.size_alloc, World.size_drew, World.size_setCell]; omega))) | ((with_reducible refine Below.drewN' ?_ _)) | ((with_reducible refine Below.drew ?_))))
  have hs1 : ((w.alloc (.cells #[.int .i64 R.burst, .int .i64 R.itv, .int .i64 R.keys, .int .i64 R.time, .slice so R.bs.length c, .int .i64 R.alw, .int .i64 R.den] 33)).alloc (.cells #[.int .i64 0, .int .i64 0, .int .i64 0, .int .i64 0, .slice none 0 0, .int .i64 0, .int .i64 0] 33)).heap.size = w.heap.size + 2 := by simp
  generalize (w.alloc (.cells #[.int .i64 R.burst, .int .i64 R.itv, .int .i64 R.keys, .int .i64 R.time, .slice so R.bs.length c, .int .i64 R.alw, .int .i64 R.den] 33)).alloc (.cells #[.int .i64 0, .int .i64 0, .int .i64 0, .int .i64 0, .slice none 0 0, .int .i64 0, .int .i64 0] 33) = w1 at *
  have hz1 : w.heap.size + 1 < w1.heap.size := by omega
  replace hs1 := Lib.hid hs1
  go_loopw [5, 6] (fun v i wr => ∃ (j : Nat), i = .int .i64 j ∧ j ≤ R.bs.length ∧ BRow wr v (keepB R.burst R.itv t (R.bs.take j)) ∧ Below w1.heap.size w1 wr ∧ ∀ x, v.ownBlock = some x → w1.heap.size ≤ x) (fun _ i _ => R.bs.length - (intOf i).toNat)
  case atStart => exact ⟨0, rfl, Nat.zero_le _, ORow.nil _ _ _ _, Below.refl _ _, by simp [Value.ownBlock]⟩
  case round =>
    obtain ⟨j, rfl, hj, hR, hB, hown⟩ := hrel
    have hXr := hX.low hB
    obtain ⟨vo, vc, rfl, hv1, hv2⟩ := ORow.len hR
    have hBw : Below w.heap.size w wr := hE.trans (hB.mono (by omega))
    have hkl : (keepB R.burst R.itv t (R.bs.take j)).length ≤ j := Nat.le_trans (List.length_filter_le _ _) (by rw [List.length_take]; omega)
    by_cases hlt : j < R.bs.length
    · obtain ⟨g, e3, hg, k0, k1, k2, k3⟩ := (h.low hBw).cells hlt
      subst e3
      have hki := hk R.bs[j] (List.getElem_mem hlt)
      have HT := Lib.hid (keep_snoc (bu := R.burst) (it := R.itv) (t := t) hlt)
      have hfl := full_lt hp hki
      obtain ⟨pj, hpj⟩ : ∃ p, R.bs[j] = p := ⟨_, rfl⟩
      rw [hpj] at k0 k1 k2 k3 hki HT hfl
      obtain ⟨kk, lf, ck, dr⟩ := pj
      dsimp only at k0 k1 k2 k3 hki hfl
      clear hpj
      have d4 := hXr.cell 4
      go_upto_region 5 with (first | ((with_reducible refine wpTxt_q ?_ ?_ ?_); rfl; rfl; intro _ _) | ((with_reducible refine wpTxt_w0 ?_ ?_ ?_); rfl; rfl; intro _ _) | ((with_reducible refine wpTxt_s ?_ ?_); rfl; intro _ _; go_simp) | ((with_reducible refine wpTxt_sw ?_ ?_); rfl; intro _ _; go_simp) | (with_reducible refine wpTxt_nil ?_) | ((with_reducible refine wp_region_t mixed ?_ ?_); decide +kernel; intro _ _))
      clear d4
      obtain ⟨f, hf⟩ : ∃ f, fill R.burst R.itv ⟨lf, ck, dr⟩ t = f := ⟨_, rfl⟩
      have hfu : fullB R.burst R.itv ⟨lf, ck, dr⟩ t = (f.left == R.burst) := by unfold fullB; rw [hf]; rfl
      rw [hf] at hfl
      have HF := Lib.hid hf
      have hXr2 := Lib.hid hXr
      have HK := Lib.hid (show wr.cell? ⟨g, j * 4, none⟩ = some (.string kk) ∧ wr.cell? ⟨g, j * 4 + 1, none⟩ = some (.int .i64 lf) ∧ wr.cell? ⟨g, j * 4 + 2, none⟩ = some (.int .i64 ck) ∧ wr.cell? ⟨g, j * 4 + 3, none⟩ = some (.int .i64 dr) from ⟨k0, k1, k2, k3⟩)
      clear k0 k1 k2 k3 hf
      obtain ⟨fl, fc, fd⟩ := f
      dsimp only at hfl hfu
      have HFL := Lib.hid hfl
      have HFU := Lib.hid hfu
      clear hfl hfu
      refine wp_region_e (spOf [(7, spVal (.agg #[.string kk, .int .i64 fl, .int .i64 fc, .int .i64 fd]))]) [0, 1, 2, 3, 4, 5, 6, 7, 8, 9, 10, 11] [] mixed ?_ ?_
      · decide +kernel
      intro K ws hws hK
      have hxw : Below wr.heap.size wr ws := by rw [hws]; (repeat (first | with_reducible assumption | with_reducible exact Below.refl _ _ | ((with_reducible refine Below.setCell ?_ ?_ _); rotate_left; (· first | omega | (simp only [World.size_alloc, World.size_drew, World.size_setCell]; omega) | (dsimp only; omega))) | ((with_reducible refine Below.alloc ?_ ?_ _); rotate_left; (· first | omega | (simp only [World.size_alloc, World.size_drew, World.size_setCell]; omega))) | ((with_reducible refine Below.drewN' ?_ _)) | ((with_reducible refine Below.drew ?_))))
      clear hws
      dsimp only [pickE, pickL, List.getElem?_cons_succ, List.getElem?_cons_zero] at hK ⊢
      go_wp2_with (first | ((with_reducible refine wpE_q ?_ ?_ ?_); rfl; rfl; intro wq hq _ _; have hwq := hxw.trans (hq.mono hxw.size); obtain ⟨x0, x1, x2, x3, x4, x5, x6⟩ := (hXr2.out.low hwq).c7; have k0 := (hwq.cell (p := ⟨g, j * 4, none⟩) hg).trans HK.out.1; have k1 := (hwq.cell (p := ⟨g, j * 4 + 1, none⟩) hg).trans HK.out.2.1; have k2 := (hwq.cell (p := ⟨g, j * 4 + 2, none⟩) hg).trans HK.out.2.2.1; have k3 := (hwq.cell (p := ⟨g, j * 4 + 3, none⟩) hg).trans HK.out.2.2.2) | ((with_reducible refine wpE_s ?_ ?_); rfl; intro wq hq _ _; have hwq := hxw.trans (hq.mono hxw.size); obtain ⟨x0, x1, x2, x3, x4, x5, x6⟩ := (hXr2.out.low hwq).c7; have k0 := (hwq.cell (p := ⟨g, j * 4, none⟩) hg).trans HK.out.1; have k1 := (hwq.cell (p := ⟨g, j * 4 + 1, none⟩) hg).trans HK.out.2.1; have k2 := (hwq.cell (p := ⟨g, j * 4 + 2, none⟩) hg).trans HK.out.2.2.1; have k3 := (hwq.cell (p := ⟨g, j * 4 + 3, none⟩) hg).trans HK.out.2.2.2; go_simp))
      refine wpE_w (spVal (.agg #[.string kk, .int .i64 fl, .int .i64 fc, .int .i64 fd])) _ rfl rfl rfl rfl rfl ⟨_, rfl⟩ ?_ ?_
      · intro wq hq K2 hK2
        go_wp2_with fail
        refine (q31filled_any kk _ hp hki ht).mono ?_
        unfold RFill
        rw [HF.out]
        rintro e w' ⟨rfl, hb'⟩
        go_wp2_with fail
        exact good_val hb'
      rintro v rfl
      go_wp2_with (first | ((with_reducible refine wpE_q ?_ ?_ ?_); rfl; rfl; intro wq hq _ _; have hwq := hxw.trans (hq.mono hxw.size); obtain ⟨x0, x1, x2, x3, x4, x5, x6⟩ := (hXr2.out.low hwq).c7) | ((with_reducible refine wpE_s ?_ ?_); rfl; intro wq hq _ _; have hwq := hxw.trans (hq.mono hxw.size); obtain ⟨x0, x1, x2, x3, x4, x5, x6⟩ := (hXr2.out.low hwq).c7; go_simp))
      refine wpE_nil (fun w4 hx4 hΦ hfp hdis => ?_)
      have hB4 : Below wr.heap.size wr w4 := hxw.trans (hx4.mono hxw.size)
      clear hΦ hfp hdis
      refine hK _ _ ?_
      clear hK
      obtain ⟨x0, x1, x2, x3, x4, x5, x6⟩ := (hXr2.out.low hB4).c7
      have k0 := (hB4.cell (p := ⟨g, j * 4, none⟩) hg).trans HK.out.1
      have k1 := (hB4.cell (p := ⟨g, j * 4 + 1, none⟩) hg).trans HK.out.2.1
      have k2 := (hB4.cell (p := ⟨g, j * 4 + 2, none⟩) hg).trans HK.out.2.2.1
      have k3 := (hB4.cell (p := ⟨g, j * 4 + 3, none⟩) hg).trans HK.out.2.2.2
      have hR4 := hR.low hB4
      have hB14 := hB.trans (hB4.mono hB.size)
      have hz4 := hB4.size
      have hzr := hB.size
      by_cases hlo : fl < R.burst
      · have hfF := HFL.out.1 hlo
        rw [hfF] at HT
        have HT2 := HT.out
        rw [if_neg (by simp)] at HT2
        have HT3 := Lib.hid HT2
        clear HT2 hfF
        go_wp2_with (first | (at_builtin; refine wpList_app rfl (.tmp 26) (.tmp 32) rfl info_bk und_bks rfl (by decide) bkC_len bkC_one (.slice vo (keepB R.burst R.itv t (R.bs.take j)).length vc) _ (keepB R.burst R.itv t (R.bs.take j)) [(kk, (⟨lf, ck, dr⟩ : Bk))] rfl rfl ?_ ?_ ?_ ?_ ?_; (· exact ORow.low hR4 (by (repeat (first | with_reducible assumption | with_reducible exact Below.refl _ _ | ((with_reducible refine Below.setCell ?_ ?_ _); rotate_left; (· first | omega | (simp only [World.size_alloc, World.size_drew, World.size_setCell]; omega) | (dsimp only; omega))) | ((with_reducible refine Below.alloc ?_ ?_ _); rotate_left; (· first | omega | (simp only [World.size_alloc, World.size_drew, World.size_setCell]; omega))) | ((with_reducible refine Below.drewN' ?_ _)) | ((with_reducible refine Below.drew ?_)))))); (· exact RRow.blk (xs := [(kk, (⟨lf, ck, dr⟩ : Bk))]) bkC_len (Blk.fresh _ _ _) rfl (by show 1 ≤ maxLen; decide)); (· simp only [maxLen, List.length_singleton]; omega); (· simp only [List.length_singleton]; omega); intro v8 w8 hA8) | ((with_reducible refine wpTxt_q ?_ ?_ ?_); rfl; rfl; intro _ _) | ((with_reducible refine wpTxt_w0 ?_ ?_ ?_); rfl; rfl; intro _ _) | ((with_reducible refine wpTxt_s ?_ ?_); rfl; intro _ _; go_simp) | ((with_reducible refine wpTxt_sw ?_ ?_); rfl; intro _ _; go_simp) | (with_reducible refine wpTxt_nil ?_) | ((with_reducible refine wp_region_t mixed ?_ ?_); decide +kernel; intro _ _))
        rw [← HT3.out] at hA8
        obtain ⟨hb8, ho8⟩ := hA8.below (B := w1.heap.size) (w0 := w1) (hB14.alloc (by omega) _) hown (by simp; omega)
        go_roundw
        case rel => exact ⟨j + 1, by go_num, by omega, hA8.row, hb8, ho8⟩
        case measure => simp [intOf]; omega
      · have hfF : fullB R.burst R.itv ⟨lf, ck, dr⟩ t = true := by
          cases hc : fullB R.burst R.itv ⟨lf, ck, dr⟩ t with
          | true => rfl
          | false => exact absurd (HFL.out.2 hc) hlo
        have HT2 := HT.out
        rw [hfF, if_pos rfl, List.append_nil] at HT2
        have HT3 := Lib.hid HT2
        clear HT2 hfF
        go_wp2_with (first | ((with_reducible refine wpTxt_q ?_ ?_ ?_); rfl; rfl; intro _ _) | ((with_reducible refine wpTxt_w0 ?_ ?_ ?_); rfl; rfl; intro _ _) | ((with_reducible refine wpTxt_s ?_ ?_); rfl; intro _ _; go_simp) | ((with_reducible refine wpTxt_sw ?_ ?_); rfl; intro _ _; go_simp) | (with_reducible refine wpTxt_nil ?_) | ((with_reducible refine wp_region_t mixed ?_ ?_); decide +kernel; intro _ _))
        go_roundw
        case rel => exact ⟨j + 1, by go_num, by omega, by rw [HT3.out]; exact hR4, hB14, hown⟩
        case measure => simp [intOf]; omega
    · have hjj : R.bs.take j = R.bs := List.take_of_length_le (by omega)
      rw [hjj] at hR hkl ⊢
      have hjl : j = R.bs.length := by omega
      subst hjl
      clear hjj
      obtain ⟨x0, x1, x2, x3, x4, x5, x6⟩ := hXr.c7
      have f4 := hXr.free 4
      have hYr := hY.low hB
      obtain ⟨y0, y1, y2, y3, y4, y5, y6⟩ := hYr.c7
      have g0 := hYr.free 0
      have g1 := hYr.free 1
      have g2 := hYr.free 2
      have g3 := hYr.free 3
      have g4 := hYr.free 4
      have g5 := hYr.free 5
      have g6 := hYr.free 6
      go_wp2_with (first | ((with_reducible refine wpTxt_q ?_ ?_ ?_); rfl; rfl; intro _ _) | ((with_reducible refine wpTxt_w0 ?_ ?_ ?_); rfl; rfl; intro _ _) | ((with_reducible refine wpTxt_s ?_ ?_); rfl; intro _ _; go_simp) | ((with_reducible refine wpTxt_sw ?_ ?_); rfl; intro _ _; go_simp) | (with_reducible refine wpTxt_nil ?_) | ((with_reducible refine wp_region_t mixed ?_ ?_); decide +kernel; intro _ _))
      refine bodyPost_ret (v := .agg #[.int .i64 R.burst, .int .i64 R.itv, .int .i64 R.keys, .int .i64 R.time, .slice vo (keepB R.burst R.itv t R.bs).length vc, .int .i64 R.alw, .int .i64 R.den]) (by simp [results, Try.f37, go_sem, *]) rfl ⟨vo, vc, rfl, ORow.kept hR fun x hx => ?_, by (repeat (first | with_reducible assumption | with_reducible exact Below.refl _ _ | ((with_reducible refine Below.setCell ?_ ?_ _); rotate_left; (· first | omega | (simp only [World.size_alloc, World.size_drew, World.size_setCell]; omega) | (dsimp only; omega))) | ((with_reducible refine Below.alloc ?_ ?_ _); rotate_left; (· first | omega | (simp only [World.size_alloc, World.size_drew, World.size_setCell]; omega))) | ((with_reducible refine Below.drewN' ?_ _)) | ((with_reducible refine Below.drew ?_))))⟩
      have := hown x (by rw [List.take_length]; exact hx)
      exact (show SameAt [x] wr _ from by (repeat (first | with_reducible assumption | with_reducible exact SameAt.refl _ _ | with_reducible exact SameAt.un _ _ | with_reducible exact SameAt.unN _ _ _ | ((with_reducible refine SameAt.set ?_ ?_ _); rotate_left; (· simp only [List.mem_cons, List.not_mem_nil, or_false, forall_eq_or_imp, forall_eq, ne_eq]; omega)) | ((with_reducible refine SameAt.drewN ?_ _)) | ((with_reducible refine SameAt.drew ?_))))) x (by simp)
end Go.Proofs.Ytokadblncmjanaa
