/- A limiter as it lies in memory; the walks of its small functions. -/
import Derived.Test.YtokadblncmjanaaR1
import Derived.Test.YtokadblncmjanaaRw
set_option linter.unusedSimpArgs false
set_option linter.unusedVariables false
namespace Go.Proofs.Ytokadblncmjanaa
open Go.RowKit Tk
def bkV (b : Bk) : Value := .agg #[.int .i64 b.left, .int .i64 b.clock, .int .i64 b.drop]
def ent (p : ByteArray × Bk) : ByteArray × Value := (p.1, bkV p.2)
structure LimAt (w : World) (b m : Nat) (ml : List (ByteArray × Value)) (R : RL) (M : Int) : Prop where
  blk : Blk w b 47 #[.int .i64 R.burst, .int .i64 R.itv, .int .i64 R.keys, .int .i64 R.time, .int .i64 R.alw, .int .i64 R.den, .map (some m)]
  map : StrMap w m ml
  perm : ml.Perm (R.bs.map ent)
  ne : b ≠ m
  ok : R.ok M
theorem und_bmap : Try.prog.underlying 45 = some (.map 9 55) := by kernel_rfl
theorem zero_bk (w : World) : (zeroValue 55).run Try.prog w = .ok (bkV ⟨0, 0, 0⟩) w := by kernel_rfl
@[go_sem] theorem bneq_some (m : Nat) (w : World) : (binOp .neq 45 (.map (some m)) (.map none)).run Try.prog w = .ok (.bool true) w := by kernel_rfl
@[go_sem] theorem bneq_none (w : World) : (binOp .neq 45 (.map none) (.map none)).run Try.prog w = .ok (.bool false) w := by kernel_rfl
set_option maxHeartbeats 400000 in
theorem lmade {w : World} {b m : Nat} (c6 : w.cell? ⟨b, 6, none⟩ = some (.map (some m))) : Calls Try.prog 21 #[.pointer (some ⟨b, 0, none⟩)] w fun e w' => e = .returned (.bool true) ∧ w = w' := by
  go_enter Try.func21, Try.ntmps21
  go_wp2
  all_goals (go_ret; exact ⟨rfl, rfl⟩)
set_option maxHeartbeats 400000 in
theorem lmade_zero {w : World} {b : Nat} (c6 : w.cell? ⟨b, 6, none⟩ = some (.map none)) : Calls Try.prog 21 #[.pointer (some ⟨b, 0, none⟩)] w fun e w' => e = .returned (.bool false) ∧ w = w' := by
  go_enter Try.func21, Try.ntmps21
  go_wp2
  all_goals (go_ret; exact ⟨rfl, rfl⟩)
set_option maxHeartbeats 400000 in
theorem lmade_nil (w : World) : Calls Try.prog 21 #[.pointer none] w fun e w' => e = .returned (.bool false) ∧ w = w' := by
  go_enter Try.func21, Try.ntmps21
  go_wp2
  all_goals (go_ret; exact ⟨rfl, rfl⟩)
set_option maxHeartbeats 400000 in
theorem lat {w : World} {b : Nat} {R : RL} (c3 : w.cell? ⟨b, 3, none⟩ = some (.int .i64 R.time)) (now : Int) : Calls Try.prog 22 #[.pointer (some ⟨b, 0, none⟩), .int .i64 now] w fun e w' => e = .returned (.int .i64 (R.clockAt now)) ∧ w = w' := by
  go_enter Try.func22, Try.ntmps22
  go_wp2
  go_ret
  exact ⟨ret_int (by unfold RL.clockAt big; rfl), rfl⟩
@[go_sem] theorem run_bk0 (l c d : Int) (w : World) : (Instr.field 55 (.agg #[.int .i64 l, .int .i64 c, .int .i64 d]) 0).run Try.prog w = .ok (.int .i64 l) w := by kernel_rfl
@[go_sem] theorem run_bk2 (l c d : Int) (w : World) : (Instr.field 55 (.agg #[.int .i64 l, .int .i64 c, .int .i64 d]) 2).run Try.prog w = .ok (.int .i64 d) w := by kernel_rfl
/-- the value that filled returns -/
def FillPost (bu it : Int) (bk : Bk) (t : Int) (w : World) (e : Ending) (w' : World) : Prop := e = .returned (bkV (fill bu it bk t)) ∧ Below w.heap.size w w'
set_option maxHeartbeats 1000000 in
theorem lfilled {w : World} {b : Nat} {bu it t M : Int} {bk : Bk} (c0 : w.cell? ⟨b, 0, none⟩ = some (.int .i64 bu)) (c1 : w.cell? ⟨b, 1, none⟩ = some (.int .i64 it)) (hp : Par bu it) (hb : BkOk bu t M bk) (ht : t ≤ big) :
    Calls Try.prog 24 #[.pointer (some ⟨b, 0, none⟩), bkV bk, .int .i64 t] w (FillPost bu it bk t w) := by
  have hbw : b < w.heap.size := World.block_lt_of_cell? w _ c0
  obtain ⟨p1, p2, p3, p4⟩ := hp
  obtain ⟨lf, ck, dr⟩ := bk
  obtain ⟨l0, l1, k0, k1, -, -⟩ := hb
  dsimp only at l0 l1 k0 k1
  have hq0 : 0 ≤ (t - ck) / it := Int.ediv_nonneg (by omega) (by omega)
  have hm : (t - ck) / it * it ≤ t - ck := Int.ediv_mul_le _ (by omega)
  have hm0 : 0 ≤ (t - ck) / it * it := Int.mul_nonneg hq0 (by omega)
  have hq1 : (t - ck) / it ≤ t - ck := Int.ediv_le_self _ (by omega)
  have ht2 : t ≤ 1125899906842624 := ht
  unfold FillPost fill bkV
  dsimp only
  by_cases hlt : bu - lf < (t - ck) / it
  · rw [if_pos hlt]
    obtain ⟨r, hr⟩ : ∃ r, bu - lf = r := ⟨_, rfl⟩
    have hr0 : 0 ≤ r := by omega
    have hr1 : r ≤ 1000000 := by omega
    have hri : r * it ≤ t - ck := by
      have : r * it ≤ (t - ck) / it * it := Int.mul_le_mul_of_nonneg_right (by omega) (by omega)
      omega
    have hri0 : 0 ≤ r * it := Int.mul_nonneg hr0 (by omega)
    have hmin : min ((t - ck) / it) r = r := by omega
    have hsum : lf + r = bu := by omega
    obtain ⟨d, hd⟩ : ∃ d, r * it = d := ⟨_, rfl⟩
    rw [hd] at hri hri0
    have h10 : 0 ≤ t - ck := by omega
    have h11 : 0 < it := by omega
    clear hm hm0 hq1 hlt
    go_enter Try.func24, Try.ntmps24
    go_wp2_with (first | ((with_reducible refine wpTxt_q ?_ ?_ ?_); rfl; rfl; intro _ _) | ((with_reducible refine wpTxt_w0 ?_ ?_ ?_); rfl; rfl; intro _ _) | ((with_reducible refine wpTxt_s ?_ ?_); rfl; intro _ _; go_simp) | ((with_reducible refine wpTxt_sw ?_ ?_); rfl; intro _ _; go_simp) | (with_reducible refine wpTxt_nil ?_) | ((with_reducible refine wp_region_t mixed ?_ ?_); decide +kernel; intro _ _))
    refine bodyPost_ret (v := .agg #[.int .i64 bu, .int .i64 t, .int .i64 dr]) (by simp [results, Try.f24, go_sem, *]) rfl ⟨rfl, by (repeat (first | with_reducible assumption | with_reducible exact Below.refl _ _ | ((with_reducible refine Below.setCell ?_ ?_ _); rotate_left; (· first | omega | (simp only [World.size_alloc, World.size_drew, World.size_setCell]; omega) | (dsimp only; omega))) | ((with_reducible refine Below.alloc ?_ ?_ _); rotate_left; (· first | omega | (simp only [World.size_alloc, World.size_drew, World.size_setCell]; omega))) | ((with_reducible refine Below.drewN' ?_ _)) | ((with_reducible refine Below.drew ?_))))⟩
  · rw [if_neg hlt]
    obtain ⟨q, hq⟩ : ∃ q, (t - ck) / it = q := ⟨_, rfl⟩
    rw [hq] at hq0 hm hm0 hq1 hlt ⊢
    obtain ⟨d, hd⟩ : ∃ d, q * it = d := ⟨_, rfl⟩
    rw [hd] at hm hm0 ⊢
    have hmin : min q (bu - lf) = q := by omega
    obtain ⟨l2, hl2⟩ : ∃ l2, lf + q = l2 := ⟨_, rfl⟩
    rw [hl2]
    have hl3 : 0 ≤ l2 := by omega
    have hl4 : l2 ≤ bu := by omega
    have h10 : 0 ≤ t - ck := by omega
    have h11 : 0 < it := by omega
    clear hlt hq1
    by_cases hfull : l2 = bu
    · rw [if_pos hfull]
      obtain ⟨g1, g2⟩ := kd_t hfull
      have hfl := Lib.hid hfull
      clear hfull
      go_enter Try.func24, Try.ntmps24
      go_wp2_with (first | ((with_reducible refine wpTxt_q ?_ ?_ ?_); rfl; rfl; intro _ _) | ((with_reducible refine wpTxt_w0 ?_ ?_ ?_); rfl; rfl; intro _ _) | ((with_reducible refine wpTxt_s ?_ ?_); rfl; intro _ _; go_simp) | ((with_reducible refine wpTxt_sw ?_ ?_); rfl; intro _ _; go_simp) | (with_reducible refine wpTxt_nil ?_) | ((with_reducible refine wp_region_t mixed ?_ ?_); decide +kernel; intro _ _))
      refine bodyPost_ret (v := .agg #[.int .i64 l2, .int .i64 t, .int .i64 dr]) (by simp [results, Try.f24, go_sem, *]) rfl ⟨rfl, by (repeat (first | with_reducible assumption | with_reducible exact Below.refl _ _ | ((with_reducible refine Below.setCell ?_ ?_ _); rotate_left; (· first | omega | (simp only [World.size_alloc, World.size_drew, World.size_setCell]; omega) | (dsimp only; omega))) | ((with_reducible refine Below.alloc ?_ ?_ _); rotate_left; (· first | omega | (simp only [World.size_alloc, World.size_drew, World.size_setCell]; omega))) | ((with_reducible refine Below.drewN' ?_ _)) | ((with_reducible refine Below.drew ?_))))⟩
    · rw [if_neg hfull]
      obtain ⟨g1, g2⟩ := kd_f hfull
      clear hfull
      go_enter Try.func24, Try.ntmps24
      go_wp2_with (first | ((with_reducible refine wpTxt_q ?_ ?_ ?_); rfl; rfl; intro _ _) | ((with_reducible refine wpTxt_w0 ?_ ?_ ?_); rfl; rfl; intro _ _) | ((with_reducible refine wpTxt_s ?_ ?_); rfl; intro _ _; go_simp) | ((with_reducible refine wpTxt_sw ?_ ?_); rfl; intro _ _; go_simp) | (with_reducible refine wpTxt_nil ?_) | ((with_reducible refine wp_region_t mixed ?_ ?_); decide +kernel; intro _ _))
      refine bodyPost_ret (v := .agg #[.int .i64 l2, .int .i64 (ck + d), .int .i64 dr]) (by simp [results, Try.f24, go_sem, *]) rfl ⟨rfl, by (repeat (first | with_reducible assumption | with_reducible exact Below.refl _ _ | ((with_reducible refine Below.setCell ?_ ?_ _); rotate_left; (· first | omega | (simp only [World.size_alloc, World.size_drew, World.size_setCell]; omega) | (dsimp only; omega))) | ((with_reducible refine Below.alloc ?_ ?_ _); rotate_left; (· first | omega | (simp only [World.size_alloc, World.size_drew, World.size_setCell]; omega))) | ((with_reducible refine Below.drewN' ?_ _)) | ((with_reducible refine Below.drew ?_))))⟩
end Go.Proofs.Ytokadblncmjanaa
