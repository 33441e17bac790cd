/- The walks of the reference's Keys, Dropped, forget. -/
import Derived.Test.YtokadblncmjanaaR8
set_option linter.unusedSimpArgs false
set_option linter.unusedVariables false
namespace Go.Proofs.Ytokadblncmjanaa
open Go.RowKit Tk
theorem look_idx {k : ByteArray} : ∀ {l : List (ByteArray × Bk)} {b : Bk} (j : Nat), lookB k l = some b → ∃ i, ∃ (hi : i < l.length), l[i] = (k, b) ∧ idxB k l j = ((j + i : Nat) : Int)
  | [], b, j, h => by simp [lookB] at h
  | p :: l, b, j, h => by
    unfold lookB at h
    by_cases hk : k = p.1
    · rw [List.find?_cons_of_pos (by simp [hk])] at h
      simp only [Option.map_some, Option.some.injEq] at h
      exact ⟨0, by simp, by simp [hk, ← h], by simp [idxB, hk]⟩
    · rw [List.find?_cons_of_neg (by simp [hk])] at h
      obtain ⟨i, hi, e1, e2⟩ := look_idx (j + 1) (show lookB k l = some b from h)
      refine ⟨i + 1, by simpa using hi, by simpa using e1, ?_⟩
      simp only [idxB, if_neg hk, e2]
      congr 1; omega
theorem look_noidx {k : ByteArray} : ∀ {l : List (ByteArray × Bk)} (j : Nat), lookB k l = none → idxB k l j = -1
  | [], _, _ => rfl
  | p :: l, j, h => by
    unfold lookB at h
    by_cases hk : k = p.1
    · rw [List.find?_cons_of_pos (by simp [hk])] at h; cases h
    · rw [List.find?_cons_of_neg (by simp [hk])] at h
      simp only [idxB, if_neg hk]
      exact look_noidx (j + 1) h
theorem BRow.low {w w1 : World} {v : Value} {l : List (ByteArray × Bk)} (h : BRow w v l) (hb : Below w.heap.size w w1) : BRow w1 v l := ORow.low h hb
theorem BRow.cells {w : World} {so : Option Addr} {n c : Nat} {l : List (ByteArray × Bk)} (h : BRow w (.slice so n c) l) {i : Nat} (hi : i < l.length) : ∃ g, so = some ⟨g, 0, none⟩ ∧ g < w.heap.size ∧ w.cell? ⟨g, i * 4, none⟩ = some (.string l[i].1) ∧ w.cell? ⟨g, i * 4 + 1, none⟩ = some (.int .i64 l[i].2.left) ∧
    w.cell? ⟨g, i * 4 + 2, none⟩ = some (.int .i64 l[i].2.clock) ∧ w.cell? ⟨g, i * 4 + 3, none⟩ = some (.int .i64 l[i].2.drop) := by
  obtain ⟨g, cap', e, -, -, hg, hc⟩ := ORow.at bkC_len h (by omega)
  injection e with e1 e2 e3
  exact ⟨g, e1, hg, hc i hi 0 (by omega), hc i hi 1 (by omega), hc i hi 2 (by omega), hc i hi 3 (by omega)⟩
set_option maxHeartbeats 1000000 in
set_option maxRecDepth 100000 in
theorem q31Dropped_any {R : RL} {v : Value} (k : ByteArray) (w : World) (h : BRow w v R.bs) (hl : R.bs.length ≤ 2000) : Calls Try.prog 29 #[sv R v, .string k] w (IPost (R.dropped k) w) := by
  obtain ⟨so, c, rfl, n1, n2⟩ := ORow.len h
  unfold maxLen at n2
  unfold RL.dropped sv
  cases hb : lookB k R.bs with
  | none =>
    have HI := Lib.hid (look_noidx 0 hb)
    clear hb
    go_enter Try.func29, Try.ntmps29
    go_wp2_with (first | ((with_reducible refine wpTxt_q ?_ ?_ ?_); rfl; rfl; intro _ _) | ((with_reducible refine wpTxt_w0 ?_ ?_ ?_); rfl; rfl; intro _ _) | ((with_reducible refine wpTxt_s ?_ ?_); rfl; intro _ _; go_simp) | ((with_reducible refine wpTxt_sw ?_ ?_); rfl; intro _ _; go_simp) | (with_reducible refine wpTxt_nil ?_) | ((with_reducible refine wp_region_t mixed ?_ ?_); decide +kernel; intro _ _) | (go_at_call 35; ((with_reducible refine (q31find_any k _ ?_ hl).mono ?_); (· exact h.low (by (repeat (first | with_reducible assumption | with_reducible exact Below.refl _ _ | ((with_reducible refine Below.setCell ?_ ?_ _); rotate_left; (· first | omega | (simp only [World.size_alloc, World.size_drew, World.size_setCell]; omega) | (dsimp only; omega))) | ((with_reducible refine Below.alloc ?_ ?_ _); rotate_left; (· first | omega | (simp only [World.size_alloc, World.size_drew, World.size_setCell]; omega))) | ((with_reducible refine Below.drewN' ?_ _)) | ((with_reducible refine Below.drew ?_)))))); unfold IPost; rw [HI.out]; rintro e w8 ⟨rfl, hb8⟩; obtain ⟨hc8, hf8⟩ := bcell hb8; have hz8 : w.heap.size < w8.heap.size := (by have := hb8.size; simp at this; omega))))
    go_ret
    exact ⟨rfl, (show Below w.heap.size w _ by (repeat (first | with_reducible assumption | with_reducible exact Below.refl _ _ | ((with_reducible refine Below.setCell ?_ ?_ _); rotate_left; (· first | omega | (simp only [World.size_alloc, World.size_drew, World.size_setCell]; omega) | (dsimp only; omega))) | ((with_reducible refine Below.alloc ?_ ?_ _); rotate_left; (· first | omega | (simp only [World.size_alloc, World.size_drew, World.size_setCell]; omega))) | ((with_reducible refine Below.drewN' ?_ _)) | ((with_reducible refine Below.drew ?_))))).trans (hb8.mono (by simp))⟩
  | some q =>
    obtain ⟨i, hi, e1, e2⟩ := look_idx 0 hb
    rw [Nat.zero_add] at e2
    have HI := Lib.hid e2
    obtain ⟨g, e3, hg, k0, k1, k2, k3⟩ := h.cells hi
    subst e3
    rw [e1] at k0 k1 k2 k3
    dsimp only at k0 k1 k2 k3
    clear hb e1 e2
    have hg' : g < w.heap.size + 1 := by omega
    go_enter Try.func29, Try.ntmps29
    go_wp2_with (first | ((with_reducible refine wpTxt_q ?_ ?_ ?_); rfl; rfl; intro _ _) | ((with_reducible refine wpTxt_w0 ?_ ?_ ?_); rfl; rfl; intro _ _) | ((with_reducible refine wpTxt_s ?_ ?_); rfl; intro _ _; go_simp) | ((with_reducible refine wpTxt_sw ?_ ?_); rfl; intro _ _; go_simp) | (with_reducible refine wpTxt_nil ?_) | ((with_reducible refine wp_region_t mixed ?_ ?_); decide +kernel; intro _ _) | (go_at_call 35; ((with_reducible refine (q31find_any k _ ?_ hl).mono ?_); (· exact h.low (by (repeat (first | with_reducible assumption | with_reducible exact Below.refl _ _ | ((with_reducible refine Below.setCell ?_ ?_ _); rotate_left; (· first | omega | (simp only [World.size_alloc, World.size_drew, World.size_setCell]; omega) | (dsimp only; omega))) | ((with_reducible refine Below.alloc ?_ ?_ _); rotate_left; (· first | omega | (simp only [World.size_alloc, World.size_drew, World.size_setCell]; omega))) | ((with_reducible refine Below.drewN' ?_ _)) | ((with_reducible refine Below.drew ?_)))))); unfold IPost; rw [HI.out]; rintro e w8 ⟨rfl, hb8⟩; obtain ⟨hc8, hf8⟩ := bcell hb8; have hz8 : w.heap.size < w8.heap.size := (by have := hb8.size; simp at this; omega))))
    go_ret
    exact ⟨rfl, (show Below w.heap.size w _ by (repeat (first | with_reducible assumption | with_reducible exact Below.refl _ _ | ((with_reducible refine Below.setCell ?_ ?_ _); rotate_left; (· first | omega | (simp only [World.size_alloc, World.size_drew, World.size_setCell]; omega) | (dsimp only; omega))) | ((with_reducible refine Below.alloc ?_ ?_ _); rotate_left; (· first | omega | (simp only [World.size_alloc, World.size_drew, World.size_setCell]; omega))) | ((with_reducible refine Below.drewN' ?_ _)) | ((with_reducible refine Below.drew ?_))))).trans (hb8.mono (by simp))⟩
set_option maxHeartbeats 2000000 in
set_option maxRecDepth 100000 in
theorem q31Keys_any {R : RL} {v : Value} (w : World) (h : BRow w v R.bs) (hl : R.bs.length ≤ 2000) : Calls Try.prog 27 #[sv R v] w fun e w' => ∃ v', e = .returned v' ∧ Row w' v' (R.bs.map (·.1)) ∧ Below w.heap.size w w' := by
  obtain ⟨so, c, rfl, n1, n2⟩ := ORow.len h
  unfold maxLen at n2
  unfold sv
  go_enter Try.func27, Try.ntmps27
  go_wp2_with (first | ((with_reducible refine wpTxt_q ?_ ?_ ?_); rfl; rfl; intro _ _) | ((with_reducible refine wpTxt_w0 ?_ ?_ ?_); rfl; rfl; intro _ _) | ((with_reducible refine wpTxt_s ?_ ?_); rfl; intro _ _; go_simp) | ((with_reducible refine wpTxt_sw ?_ ?_); rfl; intro _ _; go_simp) | (with_reducible refine wpTxt_nil ?_) | ((with_reducible refine wp_region_t mixed ?_ ?_); decide +kernel; intro _ _))
  have hX := Blk.fresh w 33 #[.int .i64 R.burst, .int .i64 R.itv, .int .i64 R.keys, .int .i64 R.time, .slice so R.bs.length c, .int .i64 R.alw, .int .i64 R.den]
  have hE : Below w.heap.size w (w.alloc (.cells #[.int .i64 R.burst, .int .i64 R.itv, .int .i64 R.keys, .int .i64 R.time, .slice so R.bs.length c, .int .i64 R.alw, .int .i64 R.den] 33)) := Ext.alloc _ _
  generalize hw1 : w.alloc (.cells #[.int .i64 R.burst, .int .i64 R.itv, .int .i64 R.keys, .int .i64 R.time, .slice so R.bs.length c, .int .i64 R.alw, .int .i64 R.den] 33) = w1 at *
  have hs1 : w1.heap.size = w.heap.size + 1 := by rw [← hw1]; simp
  have HS1 := Lib.hid hs1
  have hz1 : w.heap.size < w1.heap.size := by omega
  clear hw1 hs1
  go_loopw [3, 4] (fun v i wr => ∃ (j : Nat), i = .int .i64 j ∧ j ≤ R.bs.length ∧ Row wr v ((R.bs.take j).map (·.1)) ∧ Below w1.heap.size w1 wr ∧ ∀ x ∈ ownB v, w1.heap.size ≤ x) (fun _ i _ => R.bs.length - (intOf i).toNat)
  case atStart => exact ⟨0, rfl, Nat.zero_le _, World.ownsRow_nil _ _ _ _, Below.refl _ _, by simp [ownB, Value.ownBlock]⟩
  case round =>
    obtain ⟨j, rfl, hj, hR, hB, hown⟩ := hrel
    have hXr := hX.low hB
    have d4 := hXr.cell 4
    obtain ⟨vo, vc, rfl, hv1, hv2⟩ := hR.len
    have hBw : Below w.heap.size w wr := hE.trans (hB.mono (by omega))
    have hln : ((R.bs.take j).map (·.1)).length = j := by rw [List.length_map, List.length_take]; omega
    by_cases hlt : j < R.bs.length
    · obtain ⟨g, e3, hg, k0, k1, k2, k3⟩ := (h.low hBw).cells hlt
      subst e3
      have HT := Lib.hid (show (R.bs.take (j + 1)).map (·.1) = (R.bs.take j).map (·.1) ++ [R.bs[j].1] by rw [List.take_succ_eq_append_getElem hlt, List.map_append]; rfl)
      generalize R.bs[j].1 = kk at k0 HT
      clear k1 k2 k3
      have hRo := hR
      rw [hln] at hRo
      have HLN := Lib.hid hln
      rw [hln]
      clear hln
      go_wp2_with (first | (at_builtin; refine wpList_app rfl (.tmp 12) (.tmp 19) rfl info_str und_strs rfl (by decide) strC_l strC_one (.slice vo j vc) _ ((R.bs.take j).map (·.1)) [kk] rfl rfl ?_ ?_ ?_ ?_ ?_; (· exact hRo.o.low (by (repeat (first | with_reducible assumption | with_reducible exact Below.refl _ _ | ((with_reducible refine Below.setCell ?_ ?_ _); rotate_left; (· first | omega | (simp only [World.size_alloc, World.size_drew, World.size_setCell]; omega) | (dsimp only; omega))) | ((with_reducible refine Below.alloc ?_ ?_ _); rotate_left; (· first | omega | (simp only [World.size_alloc, World.size_drew, World.size_setCell]; omega))) | ((with_reducible refine Below.drewN' ?_ _)) | ((with_reducible refine Below.drew ?_)))))); (· exact RRow.blk (xs := [kk]) strC_l (Blk.fresh _ _ _) rfl (by show 1 ≤ maxLen; decide)); (· rw [HLN.out]; simp only [maxLen, List.length_singleton]; omega); (· rw [HLN.out]; simp only [List.length_singleton]; omega); intro v8 w8 hA8) | ((with_reducible refine wpTxt_q ?_ ?_ ?_); rfl; rfl; intro _ _) | ((with_reducible refine wpTxt_w0 ?_ ?_ ?_); rfl; rfl; intro _ _) | ((with_reducible refine wpTxt_s ?_ ?_); rfl; intro _ _; go_simp) | ((with_reducible refine wpTxt_sw ?_ ?_); rfl; intro _ _; go_simp) | (with_reducible refine wpTxt_nil ?_) | ((with_reducible refine wp_region_t mixed ?_ ?_); decide +kernel; intro _ _))
      rw [← HT.out] at hA8
      have hzr := hB.size
      rw [HLN.out] at hown
      obtain ⟨hb8, ho8⟩ := hA8.below (B := w1.heap.size) (w0 := w1) (hB.alloc hzr _) (fun x hx => hown x (mem_ownB.2 hx)) (by simp; omega)
      have hR8 := Row.of hA8.row
      go_roundw
      case rel => exact ⟨j + 1, by go_num, by omega, hR8, hb8, fun x hx => ho8 x (mem_ownB.1 hx)⟩
      case measure => simp [intOf]; omega
    · have hjj : R.bs.take j = R.bs := List.take_of_length_le (by omega)
      rw [hjj] at hR ⊢
      have hjl : j = R.bs.length := by omega
      subst hjl
      clear hjj hln
      go_wp2_with (first | ((with_reducible refine wpTxt_q ?_ ?_ ?_); rfl; rfl; intro _ _) | ((with_reducible refine wpTxt_w0 ?_ ?_ ?_); rfl; rfl; intro _ _) | ((with_reducible refine wpTxt_s ?_ ?_); rfl; intro _ _; go_simp) | ((with_reducible refine wpTxt_sw ?_ ?_); rfl; intro _ _; go_simp) | (with_reducible refine wpTxt_nil ?_) | ((with_reducible refine wp_region_t mixed ?_ ?_); decide +kernel; intro _ _))
      go_ret
      exact ⟨_, rfl, hR, hBw⟩
end Go.Proofs.Ytokadblncmjanaa
