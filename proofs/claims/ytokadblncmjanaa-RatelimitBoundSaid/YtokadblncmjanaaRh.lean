/- The walk of the reference's Left. -/
import Derived.Test.YtokadblncmjanaaRf
set_option linter.unusedSimpArgs false
set_option linter.unusedVariables false
namespace Go.Proofs.Ytokadblncmjanaa
open Go.RowKit Tk
@[go_sem] theorem run_rs4 (a b c d e f : Int) (so : Option Addr) (n m : Nat) (w : World) : (Instr.field 33 (.agg #[.int .i64 a, .int .i64 b, .int .i64 c, .int .i64 d, .slice so n m, .int .i64 e, .int .i64 f]) 4).run Try.prog w = .ok (.slice so n m) w := by kernel_rfl
theorem keep_len (bu it t : Int) (l : List (ByteArray × Bk)) : (keepB bu it t l).length ≤ l.length := List.length_filter_le _ _
def spPhi (φ : Value → Prop) : Sp := { φ := φ }
theorem good_phi {φ : Value → Prop} {v : Value} {w w' : World} (hv : φ v) (h : Ext w w') : (spPhi φ).Good v w w' := ⟨hv, trivial, h, fun b hb => by cases hb⟩
def SvOf (R : RL) (v : Value) : Prop := ∃ so c, v = sv R (.slice so R.bs.length c)
set_option maxHeartbeats 4000000 in
set_option maxRecDepth 100000 in
theorem q31Left_any {R : RL} {v : Value} {M : Int} (k : ByteArray) (now : Int) (w : World) (h : BRow w v R.bs) (hl : R.bs.length ≤ 2000) (hp : Par R.burst R.itv) (hk0 : ∀ p ∈ R.bs, BkOk R.burst R.time M p.2) (hti : R.time ≤ big) :
    Calls Try.prog 28 #[sv R v, .string k, .int .i64 now] w (IPost (R.left k now) w) := by
  obtain ⟨so, c, rfl, n1, n2⟩ := ORow.len h
  unfold maxLen at n2
  have hge := clock_ge R now
  have ht : R.clockAt now ≤ big := by unfold RL.clockAt; omega
  have hk : ∀ p ∈ R.bs, BkOk R.burst (R.clockAt now) M p.2 := fun p hp => (hk0 p hp).later hge (Int.le_refl _)
  unfold RL.left sv
  dsimp only
  rw [show R.clockAt now = max R.time (min now big) from rfl] at *
  generalize htt : max R.time (min now big) = t at *
  clear hge hk0 hti
  cases hb : lookB k R.bs with
  | none =>
    have HI := Lib.hid (look_noidx 0 hb)
    clear hb
    have hkl := keep_len R.burst R.itv t R.bs
    dsimp only
    by_cases h1 : R.keys ≤ R.bs.length
    · by_cases h2 : R.keys ≤ (keepB R.burst R.itv t R.bs).length
      · rw [if_pos ⟨h1, h2⟩]
        go_enter Try.func28, Try.ntmps28
        go_upto_region 5 with (first | ((with_reducible refine wpTxt_q ?_ ?_ ?_); rfl; rfl; intro _ _) | ((with_reducible refine wpTxt_w0 ?_ ?_ ?_); rfl; rfl; intro _ _) | ((with_reducible refine wpTxt_s ?_ ?_); rfl; intro _ _; go_simp) | ((with_reducible refine wpTxt_sw ?_ ?_); rfl; intro _ _; go_simp) | (with_reducible refine wpTxt_nil ?_) | ((with_reducible refine wp_region_t mixed ?_ ?_); decide +kernel; intro _ _) | (go_at_call 33; ((with_reducible refine (q31clock_any now _).mono ?_); rintro e w7 ⟨rfl, hb7⟩; obtain ⟨hc7, hf7⟩ := bcell hb7; have hz7 : w.heap.size < w7.heap.size := (by have := hb7.size; simp at this; omega); have hL7 := (show Below w.heap.size w _ by (repeat (first | with_reducible assumption | with_reducible exact Below.refl _ _ | ((with_reducible refine Below.setCell ?_ ?_ _); rotate_left; (· first | omega | (simp only [World.size_alloc, World.size_drew, World.size_setCell]; omega) | (dsimp only; omega))) | ((with_reducible refine Below.alloc ?_ ?_ _); rotate_left; (· first | omega | (simp only [World.size_alloc, World.size_drew, World.size_setCell]; omega))) | ((with_reducible refine Below.drewN' ?_ _)) | ((with_reducible refine Below.drew ?_))))).trans (hb7.mono (by simp)); have h7 := h.low hL7; have hX7 := (Blk.fresh w 33 #[.int .i64 R.burst, .int .i64 R.itv, .int .i64 R.keys, .int .i64 R.time, .slice _ R.bs.length c, .int .i64 R.alw, .int .i64 R.den]).low hb7; clear hc7 hf7; obtain ⟨x0, x1, x2, x3, x4, x5, x6⟩ := hX7.c7)) | (go_at_call 35; ((with_reducible refine (q31find_any k _ h7 hl).mono ?_); unfold IPost; rw [HI.out]; rintro e w8 ⟨rfl, hb8⟩; have hz8 : w.heap.size < w8.heap.size := (by have := hb8.size; omega); have hL8 := hL7.trans (hb8.mono hL7.size); have h8 := h.low hL8; have hX8 := hX7.low hb8; clear x0 x1 x2 x3 x4 x5 x6 hb7 hb8; obtain ⟨x0, x1, x2, x3, x4, x5, x6⟩ := hX8.c7)))
        have HX := Lib.hid hX8
        have H8 := Lib.hid h8
        clear x0 x1 x2 x3 x4 x5 x6 h7 h8 hX7 hX8
        refine wp_region_e (spOf [(9, spPhi (SvOf (R.keep t)))]) [0, 1, 2, 3, 4, 5, 6, 7, 8, 9, 10, 11, 12, 13, 14, 15] [] mixed ?_ ?_
        · decide +kernel
        intro K ws hws hK
        have hxw : Below w8.heap.size w8 ws := by rw [hws]; (repeat (first | with_reducible assumption | with_reducible exact Below.refl _ _ | ((with_reducible refine Below.setCell ?_ ?_ _); rotate_left; (· first | omega | (simp only [World.size_alloc, World.size_drew, World.size_setCell]; omega) | (dsimp only; omega))) | ((with_reducible refine Below.alloc ?_ ?_ _); rotate_left; (· first | omega | (simp only [World.size_alloc, World.size_drew, World.size_setCell]; omega))) | ((with_reducible refine Below.drewN' ?_ _)) | ((with_reducible refine Below.drew ?_))))
        clear hws
        dsimp only [pickE, pickL, List.getElem?_cons_succ, List.getElem?_cons_zero] at hK ⊢
        go_wp2_with (first | ((with_reducible refine wpE_q ?_ ?_ ?_); rfl; rfl; intro wq hq _ _; have hwq := hxw.trans (hq.mono hxw.size); obtain ⟨x0, x1, x2, x3, x4, x5, x6⟩ := (HX.out.low hwq).c7) | ((with_reducible refine wpE_s ?_ ?_); rfl; intro wq hq _ _; have hwq := hxw.trans (hq.mono hxw.size); obtain ⟨x0, x1, x2, x3, x4, x5, x6⟩ := (HX.out.low hwq).c7; go_simp))
        refine wpE_w (spPhi (SvOf (R.keep t))) _ rfl rfl ?_ rfl rfl ⟨_, none, 0, rfl⟩ ?_ ?_
        · go_simp
        · intro wq hq K2 hK2
          go_wp2_with fail
          have hwq := hxw.trans (hq.mono hxw.size)
          refine (q31forget_any (R := R) _ (H8.out.low hwq) hl hp hk ht).mono ?_
          unfold SPost
          rintro e w9 ⟨so9, c9, rfl, -, hb9⟩
          go_wp2_with fail
          exact good_phi ⟨so9, c9, rfl⟩ hb9
        rintro v ⟨so9, c9, rfl⟩
        have hkb : (R.keep t).bs.length = (keepB R.burst R.itv t R.bs).length := rfl
        rw [hkb]
        unfold sv
        clear hkb
        go_wp2_with (first | ((with_reducible refine wpE_q ?_ ?_ ?_); rfl; rfl; intro wq hq _ _; have hwq := hxw.trans (hq.mono hxw.size); obtain ⟨x0, x1, x2, x3, x4, x5, x6⟩ := (HX.out.low hwq).c7) | ((with_reducible refine wpE_s ?_ ?_); rfl; intro wq hq _ _; have hwq := hxw.trans (hq.mono hxw.size); obtain ⟨x0, x1, x2, x3, x4, x5, x6⟩ := (HX.out.low hwq).c7; go_simp))
        refine wpE_nil (fun w4 hx4 hΦ hfp hdis => ?_)
        have hB4 : Below w8.heap.size w8 w4 := hxw.trans (hx4.mono hxw.size)
        clear hΦ hfp hdis
        refine hK _ _ ?_
        clear hK
        obtain ⟨x0, x1, x2, x3, x4, x5, x6⟩ := (HX.out.low hB4).c7
        go_wp2_with (first | ((with_reducible refine wpTxt_q ?_ ?_ ?_); rfl; rfl; intro _ _) | ((with_reducible refine wpTxt_w0 ?_ ?_ ?_); rfl; rfl; intro _ _) | ((with_reducible refine wpTxt_s ?_ ?_); rfl; intro _ _; go_simp) | ((with_reducible refine wpTxt_sw ?_ ?_); rfl; intro _ _; go_simp) | (with_reducible refine wpTxt_nil ?_) | ((with_reducible refine wp_region_t mixed ?_ ?_); decide +kernel; intro _ _))
        go_ret
        exact ⟨rfl, hL8.trans (hB4.mono hL8.size)⟩
      · rw [if_neg (fun e => h2 e.2)]
        go_enter Try.func28, Try.ntmps28
        go_upto_region 5 with (first | ((with_reducible refine wpTxt_q ?_ ?_ ?_); rfl; rfl; intro _ _) | ((with_reducible refine wpTxt_w0 ?_ ?_ ?_); rfl; rfl; intro _ _) | ((with_reducible refine wpTxt_s ?_ ?_); rfl; intro _ _; go_simp) | ((with_reducible refine wpTxt_sw ?_ ?_); rfl; intro _ _; go_simp) | (with_reducible refine wpTxt_nil ?_) | ((with_reducible refine wp_region_t mixed ?_ ?_); decide +kernel; intro _ _) | (go_at_call 33; ((with_reducible refine (q31clock_any now _).mono ?_); rintro e w7 ⟨rfl, hb7⟩; obtain ⟨hc7, hf7⟩ := bcell hb7; have hz7 : w.heap.size < w7.heap.size := (by have := hb7.size; simp at this; omega); have hL7 := (show Below w.heap.size w _ by (repeat (first | with_reducible assumption | with_reducible exact Below.refl _ _ | ((with_reducible refine Below.setCell ?_ ?_ _); rotate_left; (· first | omega | (simp only [World.size_alloc, World.size_drew, World.size_setCell]; omega) | (dsimp only; omega))) | ((with_reducible refine Below.alloc ?_ ?_ _); rotate_left; (· first | omega | (simp only [World.size_alloc, World.size_drew, World.size_setCell]; omega))) | ((with_reducible refine Below.drewN' ?_ _)) | ((with_reducible refine Below.drew ?_))))).trans (hb7.mono (by simp)); have h7 := h.low hL7; have hX7 := (Blk.fresh w 33 #[.int .i64 R.burst, .int .i64 R.itv, .int .i64 R.keys, .int .i64 R.time, .slice _ R.bs.length c, .int .i64 R.alw, .int .i64 R.den]).low hb7; clear hc7 hf7; obtain ⟨x0, x1, x2, x3, x4, x5, x6⟩ := hX7.c7)) | (go_at_call 35; ((with_reducible refine (q31find_any k _ h7 hl).mono ?_); unfold IPost; rw [HI.out]; rintro e w8 ⟨rfl, hb8⟩; have hz8 : w.heap.size < w8.heap.size := (by have := hb8.size; omega); have hL8 := hL7.trans (hb8.mono hL7.size); have h8 := h.low hL8; have hX8 := hX7.low hb8; clear x0 x1 x2 x3 x4 x5 x6 hb7 hb8; obtain ⟨x0, x1, x2, x3, x4, x5, x6⟩ := hX8.c7)))
        have HX := Lib.hid hX8
        have H8 := Lib.hid h8
        clear x0 x1 x2 x3 x4 x5 x6 h7 h8 hX7 hX8
        refine wp_region_e (spOf [(9, spPhi (SvOf (R.keep t)))]) [0, 1, 2, 3, 4, 5, 6, 7, 8, 9, 10, 11, 12, 13, 14, 15] [] mixed ?_ ?_
        · decide +kernel
        intro K ws hws hK
        have hxw : Below w8.heap.size w8 ws := by rw [hws]; (repeat (first | with_reducible assumption | with_reducible exact Below.refl _ _ | ((with_reducible refine Below.setCell ?_ ?_ _); rotate_left; (· first | omega | (simp only [World.size_alloc, World.size_drew, World.size_setCell]; omega) | (dsimp only; omega))) | ((with_reducible refine Below.alloc ?_ ?_ _); rotate_left; (· first | omega | (simp only [World.size_alloc, World.size_drew, World.size_setCell]; omega))) | ((with_reducible refine Below.drewN' ?_ _)) | ((with_reducible refine Below.drew ?_))))
        clear hws
        dsimp only [pickE, pickL, List.getElem?_cons_succ, List.getElem?_cons_zero] at hK ⊢
        go_wp2_with (first | ((with_reducible refine wpE_q ?_ ?_ ?_); rfl; rfl; intro wq hq _ _; have hwq := hxw.trans (hq.mono hxw.size); obtain ⟨x0, x1, x2, x3, x4, x5, x6⟩ := (HX.out.low hwq).c7) | ((with_reducible refine wpE_s ?_ ?_); rfl; intro wq hq _ _; have hwq := hxw.trans (hq.mono hxw.size); obtain ⟨x0, x1, x2, x3, x4, x5, x6⟩ := (HX.out.low hwq).c7; go_simp))
        refine wpE_w (spPhi (SvOf (R.keep t))) _ rfl rfl ?_ rfl rfl ⟨_, none, 0, rfl⟩ ?_ ?_
        · go_simp
        · intro wq hq K2 hK2
          go_wp2_with fail
          have hwq := hxw.trans (hq.mono hxw.size)
          refine (q31forget_any (R := R) _ (H8.out.low hwq) hl hp hk ht).mono ?_
          unfold SPost
          rintro e w9 ⟨so9, c9, rfl, -, hb9⟩
          go_wp2_with fail
          exact good_phi ⟨so9, c9, rfl⟩ hb9
        rintro v ⟨so9, c9, rfl⟩
        have hkb : (R.keep t).bs.length = (keepB R.burst R.itv t R.bs).length := rfl
        rw [hkb]
        unfold sv
        clear hkb
        go_wp2_with (first | ((with_reducible refine wpE_q ?_ ?_ ?_); rfl; rfl; intro wq hq _ _; have hwq := hxw.trans (hq.mono hxw.size); obtain ⟨x0, x1, x2, x3, x4, x5, x6⟩ := (HX.out.low hwq).c7) | ((with_reducible refine wpE_s ?_ ?_); rfl; intro wq hq _ _; have hwq := hxw.trans (hq.mono hxw.size); obtain ⟨x0, x1, x2, x3, x4, x5, x6⟩ := (HX.out.low hwq).c7; go_simp))
        refine wpE_nil (fun w4 hx4 hΦ hfp hdis => ?_)
        have hB4 : Below w8.heap.size w8 w4 := hxw.trans (hx4.mono hxw.size)
        clear hΦ hfp hdis
        refine hK _ _ ?_
        clear hK
        obtain ⟨x0, x1, x2, x3, x4, x5, x6⟩ := (HX.out.low hB4).c7
        go_wp2_with (first | ((with_reducible refine wpTxt_q ?_ ?_ ?_); rfl; rfl; intro _ _) | ((with_reducible refine wpTxt_w0 ?_ ?_ ?_); rfl; rfl; intro _ _) | ((with_reducible refine wpTxt_s ?_ ?_); rfl; intro _ _; go_simp) | ((with_reducible refine wpTxt_sw ?_ ?_); rfl; intro _ _; go_simp) | (with_reducible refine wpTxt_nil ?_) | ((with_reducible refine wp_region_t mixed ?_ ?_); decide +kernel; intro _ _))
        go_ret
        exact ⟨rfl, hL8.trans (hB4.mono hL8.size)⟩
    · rw [if_neg (fun e => h1 e.1)]
      go_enter Try.func28, Try.ntmps28
      go_upto_region 5 with (first | ((with_reducible refine wpTxt_q ?_ ?_ ?_); rfl; rfl; intro _ _) | ((with_reducible refine wpTxt_w0 ?_ ?_ ?_); rfl; rfl; intro _ _) | ((with_reducible refine wpTxt_s ?_ ?_); rfl; intro _ _; go_simp) | ((with_reducible refine wpTxt_sw ?_ ?_); rfl; intro _ _; go_simp) | (with_reducible refine wpTxt_nil ?_) | ((with_reducible refine wp_region_t mixed ?_ ?_); decide +kernel; intro _ _) | (go_at_call 33; ((with_reducible refine (q31clock_any now _).mono ?_); rintro e w7 ⟨rfl, hb7⟩; obtain ⟨hc7, hf7⟩ := bcell hb7; have hz7 : w.heap.size < w7.heap.size := (by have := hb7.size; simp at this; omega); have hL7 := (show Below w.heap.size w _ by (repeat (first | with_reducible assumption | with_reducible exact Below.refl _ _ | ((with_reducible refine Below.setCell ?_ ?_ _); rotate_left; (· first | omega | (simp only [World.size_alloc, World.size_drew, World.size_setCell]; omega) | (dsimp only; omega))) | ((with_reducible refine Below.alloc ?_ ?_ _); rotate_left; (· first | omega | (simp only [World.size_alloc, World.size_drew, World.size_setCell]; omega))) | ((with_reducible refine Below.drewN' ?_ _)) | ((with_reducible refine Below.drew ?_))))).trans (hb7.mono (by simp)); have h7 := h.low hL7; have hX7 := (Blk.fresh w 33 #[.int .i64 R.burst, .int .i64 R.itv, .int .i64 R.keys, .int .i64 R.time, .slice _ R.bs.length c, .int .i64 R.alw, .int .i64 R.den]).low hb7; clear hc7 hf7; obtain ⟨x0, x1, x2, x3, x4, x5, x6⟩ := hX7.c7)) | (go_at_call 35; ((with_reducible refine (q31find_any k _ h7 hl).mono ?_); unfold IPost; rw [HI.out]; rintro e w8 ⟨rfl, hb8⟩; have hz8 : w.heap.size < w8.heap.size := (by have := hb8.size; omega); have hL8 := hL7.trans (hb8.mono hL7.size); have h8 := h.low hL8; have hX8 := hX7.low hb8; clear x0 x1 x2 x3 x4 x5 x6 hb7 hb8; obtain ⟨x0, x1, x2, x3, x4, x5, x6⟩ := hX8.c7)))
      have HX := Lib.hid hX8
      clear x0 x1 x2 x3 x4 x5 x6 h7 h8 hX7 hX8
      refine wp_region_e (spOf []) [0, 1, 2, 3, 4, 5, 6, 7, 8, 9, 10, 11, 12, 13, 14, 15] [] mixed ?_ ?_
      · decide +kernel
      intro K ws hws hK
      have hxw : Below w8.heap.size w8 ws := by rw [hws]; (repeat (first | with_reducible assumption | with_reducible exact Below.refl _ _ | ((with_reducible refine Below.setCell ?_ ?_ _); rotate_left; (· first | omega | (simp only [World.size_alloc, World.size_drew, World.size_setCell]; omega) | (dsimp only; omega))) | ((with_reducible refine Below.alloc ?_ ?_ _); rotate_left; (· first | omega | (simp only [World.size_alloc, World.size_drew, World.size_setCell]; omega))) | ((with_reducible refine Below.drewN' ?_ _)) | ((with_reducible refine Below.drew ?_))))
      clear hws
      dsimp only [pickE, pickL, List.getElem?_cons_succ, List.getElem?_cons_zero] at hK ⊢
      go_wp2_with (first | ((with_reducible refine wpE_q ?_ ?_ ?_); rfl; rfl; intro wq hq _ _; have hwq := hxw.trans (hq.mono hxw.size); obtain ⟨x0, x1, x2, x3, x4, x5, x6⟩ := (HX.out.low hwq).c7) | ((with_reducible refine wpE_s ?_ ?_); rfl; intro wq hq _ _; have hwq := hxw.trans (hq.mono hxw.size); obtain ⟨x0, x1, x2, x3, x4, x5, x6⟩ := (HX.out.low hwq).c7; go_simp))
      refine wpE_no ?_ ?_
      · go_simp
      go_wp2_with (first | ((with_reducible refine wpE_q ?_ ?_ ?_); rfl; rfl; intro wq hq _ _; have hwq := hxw.trans (hq.mono hxw.size); obtain ⟨x0, x1, x2, x3, x4, x5, x6⟩ := (HX.out.low hwq).c7) | ((with_reducible refine wpE_s ?_ ?_); rfl; intro wq hq _ _; have hwq := hxw.trans (hq.mono hxw.size); obtain ⟨x0, x1, x2, x3, x4, x5, x6⟩ := (HX.out.low hwq).c7; go_simp))
      refine wpE_nil (fun w4 hx4 hΦ hfp hdis => ?_)
      have hB4 : Below w8.heap.size w8 w4 := hxw.trans (hx4.mono hxw.size)
      clear hΦ hfp hdis
      refine hK _ _ ?_
      clear hK
      obtain ⟨x0, x1, x2, x3, x4, x5, x6⟩ := (HX.out.low hB4).c7
      go_wp2_with (first | ((with_reducible refine wpTxt_q ?_ ?_ ?_); rfl; rfl; intro _ _) | ((with_reducible refine wpTxt_w0 ?_ ?_ ?_); rfl; rfl; intro _ _) | ((with_reducible refine wpTxt_s ?_ ?_); rfl; intro _ _; go_simp) | ((with_reducible refine wpTxt_sw ?_ ?_); rfl; intro _ _; go_simp) | (with_reducible refine wpTxt_nil ?_) | ((with_reducible refine wp_region_t mixed ?_ ?_); decide +kernel; intro _ _))
      go_ret
      exact ⟨rfl, hL8.trans (hB4.mono hL8.size)⟩
  | some q =>
    obtain ⟨i, hi, e1, e2⟩ := look_idx 0 hb
    rw [Nat.zero_add] at e2
    have HI := Lib.hid e2
    have hki := hk _ (look_mem hb)
    obtain ⟨g, e3, hg, k0, k1, k2, k3⟩ := h.cells hi
    subst e3
    rw [e1] at k0 k1 k2 k3
    dsimp only at k0 k1 k2 k3 hki
    obtain ⟨lf, ck, dr⟩ := q
    dsimp only at k0 k1 k2 k3
    clear hb e1 e2
    obtain ⟨f, hf⟩ : ∃ f, fill R.burst R.itv ⟨lf, ck, dr⟩ t = f := ⟨_, rfl⟩
    dsimp only
    rw [hf]
    have HF := Lib.hid hf
    clear hf
    have hg' : g < w.heap.size + 1 := by omega
    go_enter Try.func28, Try.ntmps28
    go_upto_region 4 with (first | ((with_reducible refine wpTxt_q ?_ ?_ ?_); rfl; rfl; intro _ _) | ((with_reducible refine wpTxt_w0 ?_ ?_ ?_); rfl; rfl; intro _ _) | ((with_reducible refine wpTxt_s ?_ ?_); rfl; intro _ _; go_simp) | ((with_reducible refine wpTxt_sw ?_ ?_); rfl; intro _ _; go_simp) | (with_reducible refine wpTxt_nil ?_) | ((with_reducible refine wp_region_t mixed ?_ ?_); decide +kernel; intro _ _) | (go_at_call 33; ((with_reducible refine (q31clock_any now _).mono ?_); rintro e w7 ⟨rfl, hb7⟩; obtain ⟨hc7, hf7⟩ := bcell hb7; have hz7 : w.heap.size < w7.heap.size := (by have := hb7.size; simp at this; omega); have hL7 := (show Below w.heap.size w _ by (repeat (first | with_reducible assumption | with_reducible exact Below.refl _ _ | ((with_reducible refine Below.setCell ?_ ?_ _); rotate_left; (· first | omega | (simp only [World.size_alloc, World.size_drew, World.size_setCell]; omega) | (dsimp only; omega))) | ((with_reducible refine Below.alloc ?_ ?_ _); rotate_left; (· first | omega | (simp only [World.size_alloc, World.size_drew, World.size_setCell]; omega))) | ((with_reducible refine Below.drewN' ?_ _)) | ((with_reducible refine Below.drew ?_))))).trans (hb7.mono (by simp)); have h7 := h.low hL7; have hX7 := (Blk.fresh w 33 #[.int .i64 R.burst, .int .i64 R.itv, .int .i64 R.keys, .int .i64 R.time, .slice _ R.bs.length c, .int .i64 R.alw, .int .i64 R.den]).low hb7; clear hc7 hf7; obtain ⟨x0, x1, x2, x3, x4, x5, x6⟩ := hX7.c7)) | (go_at_call 35; ((with_reducible refine (q31find_any k _ h7 hl).mono ?_); unfold IPost; rw [HI.out]; rintro e w8 ⟨rfl, hb8⟩; have hz8 : w.heap.size < w8.heap.size := (by have := hb8.size; omega); have hL8 := hL7.trans (hb8.mono hL7.size); have h8 := h.low hL8; have hX8 := hX7.low hb8; clear x0 x1 x2 x3 x4 x5 x6 hb7 hb8; obtain ⟨x0, x1, x2, x3, x4, x5, x6⟩ := hX8.c7)))
    have HX := Lib.hid hX8
    have HK := Lib.hid (show w.cell? ⟨g, i * 4, none⟩ = some (.string k) ∧ w.cell? ⟨g, i * 4 + 1, none⟩ = some (.int .i64 lf) ∧ w.cell? ⟨g, i * 4 + 2, none⟩ = some (.int .i64 ck) ∧ w.cell? ⟨g, i * 4 + 3, none⟩ = some (.int .i64 dr) from ⟨k0, k1, k2, k3⟩)
    clear x0 x1 x2 x3 x4 x5 x6 h7 h8 hX7 hX8 k0 k1 k2 k3
    obtain ⟨fl, fc, fd⟩ := f
    refine wp_region_e (spOf [(7, spVal (.agg #[.string k, .int .i64 fl, .int .i64 fc, .int .i64 fd]))]) [0, 1, 2, 3, 4, 5, 6, 7, 8, 9] [] mixed ?_ ?_
    · decide +kernel
    intro K ws hws hK
    have hxw : Below w8.heap.size w8 ws := by rw [hws]; (repeat (first | with_reducible assumption | with_reducible exact Below.refl _ _ | ((with_reducible refine Below.setCell ?_ ?_ _); rotate_left; (· first | omega | (simp only [World.size_alloc, World.size_drew, World.size_setCell]; omega) | (dsimp only; omega))) | ((with_reducible refine Below.alloc ?_ ?_ _); rotate_left; (· first | omega | (simp only [World.size_alloc, World.size_drew, World.size_setCell]; omega))) | ((with_reducible refine Below.drewN' ?_ _)) | ((with_reducible refine Below.drew ?_))))
    clear hws
    dsimp only [pickE, pickL, List.getElem?_cons_succ, List.getElem?_cons_zero] at hK ⊢
    go_wp2_with (first | ((with_reducible refine wpE_q ?_ ?_ ?_); rfl; rfl; intro wq hq _ _; have hwq := hxw.trans (hq.mono hxw.size); have hwz := hL8.trans (hwq.mono hL8.size); obtain ⟨x0, x1, x2, x3, x4, x5, x6⟩ := (HX.out.low hwq).c7; have k0 := (hwz.cell (p := ⟨g, i * 4, none⟩) hg).trans HK.out.1; have k1 := (hwz.cell (p := ⟨g, i * 4 + 1, none⟩) hg).trans HK.out.2.1; have k2 := (hwz.cell (p := ⟨g, i * 4 + 2, none⟩) hg).trans HK.out.2.2.1; have k3 := (hwz.cell (p := ⟨g, i * 4 + 3, none⟩) hg).trans HK.out.2.2.2) | ((with_reducible refine wpE_s ?_ ?_); rfl; intro wq hq _ _; have hwq := hxw.trans (hq.mono hxw.size); have hwz := hL8.trans (hwq.mono hL8.size); obtain ⟨x0, x1, x2, x3, x4, x5, x6⟩ := (HX.out.low hwq).c7; have k0 := (hwz.cell (p := ⟨g, i * 4, none⟩) hg).trans HK.out.1; have k1 := (hwz.cell (p := ⟨g, i * 4 + 1, none⟩) hg).trans HK.out.2.1; have k2 := (hwz.cell (p := ⟨g, i * 4 + 2, none⟩) hg).trans HK.out.2.2.1; have k3 := (hwz.cell (p := ⟨g, i * 4 + 3, none⟩) hg).trans HK.out.2.2.2; go_simp))
    refine wpE_w (spVal (.agg #[.string k, .int .i64 fl, .int .i64 fc, .int .i64 fd])) _ rfl rfl rfl rfl rfl ⟨_, rfl⟩ ?_ ?_
    · intro wq hq K2 hK2
      go_wp2_with fail
      refine (q31filled_any k _ hp hki ht).mono ?_
      unfold RFill
      rw [HF.out]
      rintro e w9 ⟨rfl, hb9⟩
      go_wp2_with fail
      exact good_val hb9
    rintro v rfl
    go_wp2_with (first | ((with_reducible refine wpE_q ?_ ?_ ?_); rfl; rfl; intro wq hq _ _; have hwq := hxw.trans (hq.mono hxw.size); obtain ⟨x0, x1, x2, x3, x4, x5, x6⟩ := (HX.out.low hwq).c7) | ((with_reducible refine wpE_s ?_ ?_); rfl; intro wq hq _ _; have hwq := hxw.trans (hq.mono hxw.size); obtain ⟨x0, x1, x2, x3, x4, x5, x6⟩ := (HX.out.low hwq).c7; go_simp))
    refine wpE_nil (fun w4 hx4 hΦ hfp hdis => ?_)
    have hB4 : Below w8.heap.size w8 w4 := hxw.trans (hx4.mono hxw.size)
    clear hΦ hfp hdis
    refine hK _ _ ?_
    clear hK
    obtain ⟨x0, x1, x2, x3, x4, x5, x6⟩ := (HX.out.low hB4).c7
    go_wp2_with (first | ((with_reducible refine wpTxt_q ?_ ?_ ?_); rfl; rfl; intro _ _) | ((with_reducible refine wpTxt_w0 ?_ ?_ ?_); rfl; rfl; intro _ _) | ((with_reducible refine wpTxt_s ?_ ?_); rfl; intro _ _; go_simp) | ((with_reducible refine wpTxt_sw ?_ ?_); rfl; intro _ _; go_simp) | (with_reducible refine wpTxt_nil ?_) | ((with_reducible refine wp_region_t mixed ?_ ?_); decide +kernel; intro _ _))
    go_ret
    exact ⟨rfl, hL8.trans (hB4.mono hL8.size)⟩
end Go.Proofs.Ytokadblncmjanaa
