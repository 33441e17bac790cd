/- The walks of the functions that look at each byte of a string. -/
import Derived.Test.YtffflmghfcgkfaaTa
set_option linter.unusedSimpArgs false
set_option linter.unusedVariables false
namespace Go.Proofs.Ytffflmghfcgkfaa
open Go.RowKit Tk

theorem numB_val (s : ByteArray) (h : 0 < s.size) (ha : s.data.toList.all dgB = true) : numB s.data.toList = (decide (s.size ≤ 9) && (decide (s.size ≤ 1) || !decide ((s[0].toNat : Int) = 48))) := by
  unfold numB; rw [getD_of s h, isEmpty_of s h, ha]; simp [bi]; rfl
theorem numB_bad (s : ByteArray) (k : Nat) (h : k < s.size) (hk : dgB s[k] = false) : numB s.data.toList = false := by
  unfold numB; rw [all_stop s k h hk]; simp
theorem numB_no (s : ByteArray) (h : 9 < s.size ∨ ¬ 0 < s.size) : numB s.data.toList = false := by
  rcases h with h | h
  · simp [numB]; omega
  · rw [isEmpty_no s h]; rfl
theorem numB_zero (s : ByteArray) (h : 1 < s.size) (hk : (s[0].toNat : Int) = 48) : numB s.data.toList = false := by
  unfold numB; rw [getD_of s (by omega)]; simp [bi, hk]; omega
theorem numB_ok (s : ByteArray) (k : Nat) (h : 0 < s.size) (h9 : ¬ 9 < s.size) (hz : s.size ≤ 1 ∨ ¬ (s[0].toNat : Int) = 48) (hk : s.size ≤ k) (ha : (s.data.toList.take k).all dgB = true) : numB s.data.toList = true := by
  rw [numB_val s h (all_done s k hk ha)]; simp; omega


set_option maxHeartbeats 400000 in
theorem numeral_any (s : ByteArray) (hs : s.size ≤ maxLen) (w : World) : Calls Try.prog 41 #[.string s] w fun e w' => e = .returned (.bool (numB s.data.toList)) ∧ w = w' := by
  unfold maxLen at hs
  by_cases h0 : 0 < s.size
  · obtain ⟨he1, he2⟩ := some_of h0
    by_cases h9 : 9 < s.size
    · go_enter Try.func41, Try.ntmps41
      go_wp2_with (first | ((with_reducible refine wpTxt_q ?_ ?_ ?_); rfl; rfl; intro _ _) | ((with_reducible refine wpTxt_w0 ?_ ?_ ?_); rfl; rfl; intro _ _) | ((with_reducible refine wpTxt_s ?_ ?_); rfl; intro _ _; go_simp) | ((with_reducible refine wpTxt_sw ?_ ?_); rfl; intro _ _; go_simp) | (with_reducible refine wpTxt_nil ?_) | ((with_reducible refine wp_region_t mixed ?_ ?_); decide +kernel; intro _ _))
      go_ret
      exact ⟨ret_bool (numB_no s (.inl h9)).symm, rfl⟩
    · by_cases hz : 1 < s.size ∧ (s[0].toNat : Int) = 48
      · obtain ⟨h1, hz⟩ := hz
        have hb : ((s[0].toNat : Int) == 48) = true := by simpa using hz
        have HZ := Lib.hid hz
        clear hz
        go_enter Try.func41, Try.ntmps41
        go_wp2_with (first | ((with_reducible refine wpTxt_q ?_ ?_ ?_); rfl; rfl; intro _ _) | ((with_reducible refine wpTxt_w0 ?_ ?_ ?_); rfl; rfl; intro _ _) | ((with_reducible refine wpTxt_s ?_ ?_); rfl; intro _ _; go_simp) | ((with_reducible refine wpTxt_sw ?_ ?_); rfl; intro _ _; go_simp) | (with_reducible refine wpTxt_nil ?_) | ((with_reducible refine wp_region_t mixed ?_ ?_); decide +kernel; intro _ _))
        go_ret
        exact ⟨ret_bool (numB_zero s h1 HZ.out).symm, rfl⟩
      · have hz' : s.size ≤ 1 ∨ 1 < s.size ∧ ((s[0].toNat : Int) == 48) = false := by
          by_cases h1 : 1 < s.size
          · exact .inr ⟨h1, by simp; intro h; exact hz ⟨h1, h⟩⟩
          · exact .inl (by omega)
        have hz2 : s.size ≤ 1 ∨ ¬ (s[0].toNat : Int) = 48 := by
          by_cases h1 : 1 < s.size
          · exact .inr fun h => hz ⟨h1, h⟩
          · exact .inl (by omega)
        have HZ := Lib.hid hz2
        clear hz hz2
        rcases hz' with h1 | ⟨h1, hb⟩
        all_goals
          go_enter Try.func41, Try.ntmps41
          go_wp2_with (first | ((with_reducible refine wpTxt_q ?_ ?_ ?_); rfl; rfl; intro _ _) | ((with_reducible refine wpTxt_w0 ?_ ?_ ?_); rfl; rfl; intro _ _) | ((with_reducible refine wpTxt_s ?_ ?_); rfl; intro _ _; go_simp) | ((with_reducible refine wpTxt_sw ?_ ?_); rfl; intro _ _; go_simp) | (with_reducible refine wpTxt_nil ?_) | ((with_reducible refine wp_region_t mixed ?_ ?_); decide +kernel; intro _ _))
          go_loop [23] (fun i => ∃ k : Nat, k ≤ s.size ∧ i = .int .i64 k ∧ Hid ((s.data.toList.take k).all dgB = true)) (fun i => s.size - (intOf i).toNat)
          case atStart => exact ⟨0, by omega, rfl, by simp [Hid]⟩
          case round =>
            obtain ⟨k, hk, rfl, hall⟩ := hrel
            by_cases hlt : k < s.size
            · by_cases hg : digB (s[k].toNat : Int) = true
              · go_wp2_with (first | ((with_reducible refine wpTxt_q ?_ ?_ ?_); rfl; rfl; intro _ _) | ((with_reducible refine wpTxt_w0 ?_ ?_ ?_); rfl; rfl; intro _ _) | ((with_reducible refine wpTxt_s ?_ ?_); rfl; intro _ _; go_simp) | ((with_reducible refine wpTxt_sw ?_ ?_); rfl; intro _ _; go_simp) | (with_reducible refine wpTxt_nil ?_) | ((with_reducible refine wp_region_t mixed ?_ ?_); decide +kernel; intro _ _) | (go_at_call 55; ((with_reducible refine (digit_any _ _).mono ?_); rintro e w' ⟨rfl, rfl⟩)))
                go_round
                case rel => exact ⟨k + 1, by omega, by go_num, all_step s k hlt hall.out hg⟩
                case measure => simp [intOf]; omega
              · have hg2 : digB (s[k].toNat : Int) = false := by simpa using hg
                go_wp2_with (first | ((with_reducible refine wpTxt_q ?_ ?_ ?_); rfl; rfl; intro _ _) | ((with_reducible refine wpTxt_w0 ?_ ?_ ?_); rfl; rfl; intro _ _) | ((with_reducible refine wpTxt_s ?_ ?_); rfl; intro _ _; go_simp) | ((with_reducible refine wpTxt_sw ?_ ?_); rfl; intro _ _; go_simp) | (with_reducible refine wpTxt_nil ?_) | ((with_reducible refine wp_region_t mixed ?_ ?_); decide +kernel; intro _ _) | (go_at_call 55; ((with_reducible refine (digit_any _ _).mono ?_); rintro e w' ⟨rfl, rfl⟩)))
                go_ret
                exact ⟨ret_bool (numB_bad s k hlt hg2).symm, rfl⟩
            · go_wp2
              go_ret
              exact ⟨ret_bool (numB_ok s k h0 h9 HZ.out (by omega) hall.out).symm, rfl⟩
  · have he := none_of h0
    go_enter Try.func41, Try.ntmps41
    go_wp2_with (first | ((with_reducible refine wpTxt_q ?_ ?_ ?_); rfl; rfl; intro _ _) | ((with_reducible refine wpTxt_w0 ?_ ?_ ?_); rfl; rfl; intro _ _) | ((with_reducible refine wpTxt_s ?_ ?_); rfl; intro _ _; go_simp) | ((with_reducible refine wpTxt_sw ?_ ?_); rfl; intro _ _; go_simp) | (with_reducible refine wpTxt_nil ?_) | ((with_reducible refine wp_region_t mixed ?_ ?_); decide +kernel; intro _ _))
    go_ret
    exact ⟨ret_bool (numB_no s (.inr h0)).symm, rfl⟩

set_option maxHeartbeats 400000 in
theorem rnumber_any (s : ByteArray) (hs : s.size ≤ maxLen) (w : World) : Calls Try.prog 44 #[.string s] w fun e w' => e = .returned (.bool (numB s.data.toList)) ∧ w = w' := by
  unfold maxLen at hs
  go_enter Try.func44, Try.ntmps44
  go_wp2_with (first | ((with_reducible refine wpTxt_q ?_ ?_ ?_); rfl; rfl; intro _ _) | ((with_reducible refine wpTxt_w0 ?_ ?_ ?_); rfl; rfl; intro _ _) | ((with_reducible refine wpTxt_s ?_ ?_); rfl; intro _ _; go_simp) | ((with_reducible refine wpTxt_sw ?_ ?_); rfl; intro _ _; go_simp) | (with_reducible refine wpTxt_nil ?_) | ((with_reducible refine wp_region_t mixed ?_ ?_); decide +kernel; intro _ _))
  go_loop [3] (fun i => ∃ k : Nat, k ≤ s.size ∧ i = .int .i64 k ∧ Hid ((s.data.toList.take k).all dgB = true)) (fun i => s.size - (intOf i).toNat)
  case atStart => exact ⟨0, by omega, rfl, by simp [Hid]⟩
  case round =>
    obtain ⟨k, hk, rfl, hall⟩ := hrel
    by_cases hlt : k < s.size
    · by_cases hg : digB (s[k].toNat : Int) = true
      · go_wp2_with (first | ((with_reducible refine wpTxt_q ?_ ?_ ?_); rfl; rfl; intro _ _) | ((with_reducible refine wpTxt_w0 ?_ ?_ ?_); rfl; rfl; intro _ _) | ((with_reducible refine wpTxt_s ?_ ?_); rfl; intro _ _; go_simp) | ((with_reducible refine wpTxt_sw ?_ ?_); rfl; intro _ _; go_simp) | (with_reducible refine wpTxt_nil ?_) | ((with_reducible refine wp_region_t mixed ?_ ?_); decide +kernel; intro _ _) | (go_at_call 62; ((with_reducible refine (rDigit_any _ _).mono ?_); rintro e w' ⟨rfl, rfl⟩)))
        go_round
        case rel => exact ⟨k + 1, by omega, by go_num, all_step s k hlt hall.out hg⟩
        case measure => simp [intOf]; omega
      · have hg2 : digB (s[k].toNat : Int) = false := by simpa using hg
        go_wp2_with (first | ((with_reducible refine wpTxt_q ?_ ?_ ?_); rfl; rfl; intro _ _) | ((with_reducible refine wpTxt_w0 ?_ ?_ ?_); rfl; rfl; intro _ _) | ((with_reducible refine wpTxt_s ?_ ?_); rfl; intro _ _; go_simp) | ((with_reducible refine wpTxt_sw ?_ ?_); rfl; intro _ _; go_simp) | (with_reducible refine wpTxt_nil ?_) | ((with_reducible refine wp_region_t mixed ?_ ?_); decide +kernel; intro _ _) | (go_at_call 62; ((with_reducible refine (rDigit_any _ _).mono ?_); rintro e w' ⟨rfl, rfl⟩)))
        go_ret
        exact ⟨ret_bool (numB_bad s k hlt hg2).symm, rfl⟩
    · by_cases h0 : 0 < s.size
      · by_cases h9 : 9 < s.size
        · go_wp2
          go_ret
          exact ⟨ret_bool (numB_no s (.inl h9)).symm, rfl⟩
        · by_cases h1 : s.size = 1
          · have h1b : ((s.size : Int) == 1) = true := by simp; omega
            have H1 := Lib.hid h1
            clear h1
            go_wp2
            go_ret
            exact ⟨ret_bool (numB_ok s k h0 h9 (.inl (by have := H1.out; omega)) (by omega) hall.out).symm, rfl⟩
          · have h1b : ((s.size : Int) == 1) = false := by simp; omega
            by_cases hz : (s[0].toNat : Int) = 48
            · have hb : ((s[0].toNat : Int) != 48) = false := by simpa using hz
              have HZ := Lib.hid hz
              clear hz
              go_wp2
              go_ret
              exact ⟨ret_bool (numB_zero s (by omega) HZ.out).symm, rfl⟩
            · have hb : ((s[0].toNat : Int) != 48) = true := by simpa using hz
              have HZ := Lib.hid hz
              clear hz
              go_wp2
              go_ret
              exact ⟨ret_bool (numB_ok s k h0 h9 (.inr HZ.out) (by omega) hall.out).symm, rfl⟩
      · go_wp2
        go_ret
        exact ⟨ret_bool (numB_no s (.inr h0)).symm, rfl⟩

theorem quoB_no (s : ByteArray) (h : 256 < s.size) : quoB s.data.toList = false := by simp [quoB]; omega
theorem quoB_bad (s : ByteArray) (k : Nat) (h : k < s.size) (hk : ptB s[k] = false) : quoB s.data.toList = false := by
  unfold quoB; rw [all_stop s k h hk]; simp
theorem quoB_ok (s : ByteArray) (k : Nat) (h9 : ¬ 256 < s.size) (hk : s.size ≤ k) (ha : (s.data.toList.take k).all ptB = true) : quoB s.data.toList = true := by
  unfold quoB; rw [all_done s k hk ha]; simp; omega

set_option maxHeartbeats 400000 in
theorem quotable_any (s : ByteArray) (hs : s.size ≤ maxLen) (w : World) : Calls Try.prog 42 #[.string s] w fun e w' => e = .returned (.bool (quoB s.data.toList)) ∧ w = w' := by
  unfold maxLen at hs
  by_cases h9 : 256 < s.size
  · go_enter Try.func42, Try.ntmps42
    go_wp2_with (first | ((with_reducible refine wpTxt_q ?_ ?_ ?_); rfl; rfl; intro _ _) | ((with_reducible refine wpTxt_w0 ?_ ?_ ?_); rfl; rfl; intro _ _) | ((with_reducible refine wpTxt_s ?_ ?_); rfl; intro _ _; go_simp) | ((with_reducible refine wpTxt_sw ?_ ?_); rfl; intro _ _; go_simp) | (with_reducible refine wpTxt_nil ?_) | ((with_reducible refine wp_region_t mixed ?_ ?_); decide +kernel; intro _ _))
    go_ret
    exact ⟨ret_bool (quoB_no s h9).symm, rfl⟩
  · go_enter Try.func42, Try.ntmps42
    go_wp2_with (first | ((with_reducible refine wpTxt_q ?_ ?_ ?_); rfl; rfl; intro _ _) | ((with_reducible refine wpTxt_w0 ?_ ?_ ?_); rfl; rfl; intro _ _) | ((with_reducible refine wpTxt_s ?_ ?_); rfl; intro _ _; go_simp) | ((with_reducible refine wpTxt_sw ?_ ?_); rfl; intro _ _; go_simp) | (with_reducible refine wpTxt_nil ?_) | ((with_reducible refine wp_region_t mixed ?_ ?_); decide +kernel; intro _ _))
    go_loop [9] (fun i => ∃ k : Nat, k ≤ s.size ∧ i = .int .i64 k ∧ Hid ((s.data.toList.take k).all ptB = true)) (fun i => s.size - (intOf i).toNat)
    case atStart => exact ⟨0, by omega, rfl, by simp [Hid]⟩
    case round =>
      obtain ⟨k, hk, rfl, hall⟩ := hrel
      by_cases hlt : k < s.size
      · by_cases hg : prtB (s[k].toNat : Int) = true
        · go_wp2_with (first | ((with_reducible refine wpTxt_q ?_ ?_ ?_); rfl; rfl; intro _ _) | ((with_reducible refine wpTxt_w0 ?_ ?_ ?_); rfl; rfl; intro _ _) | ((with_reducible refine wpTxt_s ?_ ?_); rfl; intro _ _; go_simp) | ((with_reducible refine wpTxt_sw ?_ ?_); rfl; intro _ _; go_simp) | (with_reducible refine wpTxt_nil ?_) | ((with_reducible refine wp_region_t mixed ?_ ?_); decide +kernel; intro _ _) | (go_at_call 64; ((with_reducible refine (printable_any _ _).mono ?_); rintro e w' ⟨rfl, rfl⟩)))
          go_round
          case rel => exact ⟨k + 1, by omega, by go_num, all_step s k hlt hall.out hg⟩
          case measure => simp [intOf]; omega
        · have hg2 : prtB (s[k].toNat : Int) = false := by simpa using hg
          go_wp2_with (first | ((with_reducible refine wpTxt_q ?_ ?_ ?_); rfl; rfl; intro _ _) | ((with_reducible refine wpTxt_w0 ?_ ?_ ?_); rfl; rfl; intro _ _) | ((with_reducible refine wpTxt_s ?_ ?_); rfl; intro _ _; go_simp) | ((with_reducible refine wpTxt_sw ?_ ?_); rfl; intro _ _; go_simp) | (with_reducible refine wpTxt_nil ?_) | ((with_reducible refine wp_region_t mixed ?_ ?_); decide +kernel; intro _ _) | (go_at_call 64; ((with_reducible refine (printable_any _ _).mono ?_); rintro e w' ⟨rfl, rfl⟩)))
          go_ret
          exact ⟨ret_bool (quoB_bad s k hlt hg2).symm, rfl⟩
      · go_wp2
        go_ret
        exact ⟨ret_bool (quoB_ok s k h9 (by omega) hall.out).symm, rfl⟩

set_option maxHeartbeats 400000 in
theorem rQuoted_any (s : ByteArray) (hs : s.size ≤ maxLen) (w : World) : Calls Try.prog 45 #[.string s] w fun e w' => e = .returned (.bool (quoB s.data.toList)) ∧ w = w' := by
  unfold maxLen at hs
  go_enter Try.func45, Try.ntmps45
  go_wp2_with (first | ((with_reducible refine wpTxt_q ?_ ?_ ?_); rfl; rfl; intro _ _) | ((with_reducible refine wpTxt_w0 ?_ ?_ ?_); rfl; rfl; intro _ _) | ((with_reducible refine wpTxt_s ?_ ?_); rfl; intro _ _; go_simp) | ((with_reducible refine wpTxt_sw ?_ ?_); rfl; intro _ _; go_simp) | (with_reducible refine wpTxt_nil ?_) | ((with_reducible refine wp_region_t mixed ?_ ?_); decide +kernel; intro _ _))
  go_loop [3] (fun i => ∃ k : Nat, k ≤ s.size ∧ i = .int .i64 k ∧ Hid ((s.data.toList.take k).all ptB = true)) (fun i => s.size - (intOf i).toNat)
  case atStart => exact ⟨0, by omega, rfl, by simp [Hid]⟩
  case round =>
    obtain ⟨k, hk, rfl, hall⟩ := hrel
    by_cases hlt : k < s.size
    · by_cases hg : prtB (s[k].toNat : Int) = true
      · have hp := hg
        simp only [prtB, decide_eq_true_eq] at hp
        obtain ⟨hp1, hp2, hp3⟩ := hp
        have hp3b : ((s[k].toNat : Int) == 34) = false := by simpa using hp3
        have HG := Lib.hid hg
        clear hg hp3
        go_wp2
        go_round
        case rel => exact ⟨k + 1, by omega, by go_num, all_step s k hlt hall.out HG.out⟩
        case measure => simp [intOf]; omega
      · have hg2 : prtB (s[k].toNat : Int) = false := by simpa using hg
        have hp := hg2
        simp only [prtB, decide_eq_false_iff_not] at hp
        have HG := Lib.hid hg2
        clear hg hg2
        have hc : (s[k].toNat : Int) < 32 ∨ (32 ≤ (s[k].toNat : Int) ∧ 126 < (s[k].toNat : Int)) ∨ (32 ≤ (s[k].toNat : Int) ∧ (s[k].toNat : Int) ≤ 126 ∧ ((s[k].toNat : Int) == 34) = true) := by
          simp only [beq_iff_eq]; omega
        clear hp
        rcases hc with h1 | ⟨h1, h2⟩ | ⟨h1, h2, h3⟩
        all_goals
          go_wp2
          go_ret
          exact ⟨ret_bool (quoB_bad s k hlt HG.out).symm, rfl⟩
    · by_cases h9 : 256 < s.size
      · go_wp2
        go_ret
        exact ⟨ret_bool (by rw [quoB_no s h9]; simp; omega), rfl⟩
      · go_wp2
        go_ret
        exact ⟨ret_bool (by rw [quoB_ok s k h9 (by omega) hall.out]; simp; omega), rfl⟩

set_option maxHeartbeats 400000 in
theorem rName_any (s : ByteArray) (hs : s.size ≤ maxLen) (w : World) : Calls Try.prog 40 #[.string s] w fun e w' => e = .returned (.bool (nameB s.data.toList)) ∧ w = w' := by
  unfold maxLen at hs
  go_enter Try.func40, Try.ntmps40
  go_wp2_with (first | ((with_reducible refine wpTxt_q ?_ ?_ ?_); rfl; rfl; intro _ _) | ((with_reducible refine wpTxt_w0 ?_ ?_ ?_); rfl; rfl; intro _ _) | ((with_reducible refine wpTxt_s ?_ ?_); rfl; intro _ _; go_simp) | ((with_reducible refine wpTxt_sw ?_ ?_); rfl; intro _ _; go_simp) | (with_reducible refine wpTxt_nil ?_) | ((with_reducible refine wp_region_t mixed ?_ ?_); decide +kernel; intro _ _))
  go_loop [3] (fun i => ∃ k : Nat, k ≤ s.size ∧ i = .int .i64 k ∧ Hid ((s.data.toList.take k).all nmB = true ∧ ∀ h : 0 < s.size, 0 < k → dgB s[0] = false)) (fun i => s.size - (intOf i).toNat)
  case atStart => exact ⟨0, by omega, rfl, by simp [Hid]⟩
  case round =>
    obtain ⟨k, hk, rfl, hall⟩ := hrel
    by_cases hlt : k < s.size
    · by_cases hl : letB (s[k].toNat : Int) = true
      · go_wp2_with (first | ((with_reducible refine wpTxt_q ?_ ?_ ?_); rfl; rfl; intro _ _) | ((with_reducible refine wpTxt_w0 ?_ ?_ ?_); rfl; rfl; intro _ _) | ((with_reducible refine wpTxt_s ?_ ?_); rfl; intro _ _; go_simp) | ((with_reducible refine wpTxt_sw ?_ ?_); rfl; intro _ _; go_simp) | (with_reducible refine wpTxt_nil ?_) | ((with_reducible refine wp_region_t mixed ?_ ?_); decide +kernel; intro _ _) | (go_at_call 60; ((with_reducible refine (rLetter_any _ _).mono ?_); rintro e w' ⟨rfl, rfl⟩)) | (go_at_call 62; ((with_reducible refine (rDigit_any _ _).mono ?_); rintro e w' ⟨rfl, rfl⟩)))
        go_round
        case rel =>
          refine ⟨k + 1, by omega, by go_num, all_step s k hlt hall.out.1 (by simp [nmB, bi, hl]), fun h0 _ => ?_⟩
          by_cases hk0 : k = 0
          · subst hk0
            simp only [letB, Bool.or_eq_true, decide_eq_true_eq] at hl
            exact decide_eq_false (fun h => by unfold bi at h; omega)
          · exact hall.out.2 h0 (by omega)
        case measure => simp [intOf]; omega
      · have hl2 : letB (s[k].toNat : Int) = false := by simpa using hl
        by_cases hk0 : k = 0
        · have hk0b : ((k : Int) == 0) = true := by simp; omega
          have HK := Lib.hid hk0
          clear hk0
          go_wp2_with (first | ((with_reducible refine wpTxt_q ?_ ?_ ?_); rfl; rfl; intro _ _) | ((with_reducible refine wpTxt_w0 ?_ ?_ ?_); rfl; rfl; intro _ _) | ((with_reducible refine wpTxt_s ?_ ?_); rfl; intro _ _; go_simp) | ((with_reducible refine wpTxt_sw ?_ ?_); rfl; intro _ _; go_simp) | (with_reducible refine wpTxt_nil ?_) | ((with_reducible refine wp_region_t mixed ?_ ?_); decide +kernel; intro _ _) | (go_at_call 60; ((with_reducible refine (rLetter_any _ _).mono ?_); rintro e w' ⟨rfl, rfl⟩)) | (go_at_call 62; ((with_reducible refine (rDigit_any _ _).mono ?_); rintro e w' ⟨rfl, rfl⟩)))
          go_ret
          refine ⟨ret_bool ?_, rfl⟩
          have := HK.out
          subst this
          cases hd : dgB s[0]
          · exact (nameB_bad s 0 hlt (by unfold nmB; unfold bi; rw [hl2]; exact hd)).symm
          · exact (nameB_dig s hlt hd).symm
        · have hk0b : ((k : Int) == 0) = false := by simp; omega
          by_cases hg : digB (s[k].toNat : Int) = true
          · go_wp2_with (first | ((with_reducible refine wpTxt_q ?_ ?_ ?_); rfl; rfl; intro _ _) | ((with_reducible refine wpTxt_w0 ?_ ?_ ?_); rfl; rfl; intro _ _) | ((with_reducible refine wpTxt_s ?_ ?_); rfl; intro _ _; go_simp) | ((with_reducible refine wpTxt_sw ?_ ?_); rfl; intro _ _; go_simp) | (with_reducible refine wpTxt_nil ?_) | ((with_reducible refine wp_region_t mixed ?_ ?_); decide +kernel; intro _ _) | (go_at_call 60; ((with_reducible refine (rLetter_any _ _).mono ?_); rintro e w' ⟨rfl, rfl⟩)) | (go_at_call 62; ((with_reducible refine (rDigit_any _ _).mono ?_); rintro e w' ⟨rfl, rfl⟩)))
            go_round
            case rel => exact ⟨k + 1, by omega, by go_num, all_step s k hlt hall.out.1 (by simp [nmB, bi, hg]), fun h0 _ => hall.out.2 h0 (by omega)⟩
            case measure => simp [intOf]; omega
          · have hg2 : digB (s[k].toNat : Int) = false := by simpa using hg
            go_wp2_with (first | ((with_reducible refine wpTxt_q ?_ ?_ ?_); rfl; rfl; intro _ _) | ((with_reducible refine wpTxt_w0 ?_ ?_ ?_); rfl; rfl; intro _ _) | ((with_reducible refine wpTxt_s ?_ ?_); rfl; intro _ _; go_simp) | ((with_reducible refine wpTxt_sw ?_ ?_); rfl; intro _ _; go_simp) | (with_reducible refine wpTxt_nil ?_) | ((with_reducible refine wp_region_t mixed ?_ ?_); decide +kernel; intro _ _) | (go_at_call 60; ((with_reducible refine (rLetter_any _ _).mono ?_); rintro e w' ⟨rfl, rfl⟩)) | (go_at_call 62; ((with_reducible refine (rDigit_any _ _).mono ?_); rintro e w' ⟨rfl, rfl⟩)))
            go_ret
            exact ⟨ret_bool (nameB_bad s k hlt (by simp [nmB, bi, hl2, hg2])).symm, rfl⟩
    · by_cases h0 : 0 < s.size
      · by_cases h32 : 32 < s.size
        · go_wp2
          go_ret
          exact ⟨ret_bool (by rw [nameB_long s h32]; simp; omega), rfl⟩
        · go_wp2
          go_ret
          exact ⟨ret_bool (by rw [nameB_ok s k h0 h32 (hall.out.2 h0 (by omega)) (by omega) hall.out.1]; simp; omega), rfl⟩
      · go_wp2
        go_ret
        exact ⟨ret_bool (by rw [isEmpty_no s h0]; simp [nameB]; try omega), rfl⟩
end Go.Proofs.Ytffflmghfcgkfaa
