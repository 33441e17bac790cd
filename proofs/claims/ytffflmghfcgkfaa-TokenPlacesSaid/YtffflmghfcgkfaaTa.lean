/- The walks of the small functions on bytes and strings. -/
import Derived.Test.YtffflmghfcgkfaaRows
import Derived.Test.YtffflmghfcgkfaaCan
import Derived.Test.YtffflmghfcgkfaaTk
import Derived.WalkKit
import Derived.WalkSpells
import Derived.WalkLawsBesides
import Derived.Lib.Hide
set_option linter.unusedSimpArgs false
set_option linter.unusedVariables false
namespace Go.Proofs.Ytffflmghfcgkfaa
open Go.RowKit Tk
theorem mixed : Try.prog.follows .mixedOrders = true := by kernel_rfl
@[go_sem] theorem wrap32_byte (c : UInt8) : wrap32 (c.toNat : Int) = (c.toNat : Int) := by
  have := c.toNat_lt; exact IntWalk.wrap32_in _ ⟨by omega, by omega⟩
@[go_sem] theorem wrap64_byte (c : UInt8) : wrap64 (c.toNat : Int) = (c.toNat : Int) := by
  have := c.toNat_lt; exact IntWalk.wrap64_in _ ⟨by omega, by omega⟩
@[go_sem] theorem kwrap32_byte (c : UInt8) : IntKind.i32.wrap (c.toNat : Int) = (c.toNat : Int) := by
  have := c.toNat_lt; exact IntWalk.i32_in _ ⟨by omega, by omega⟩
@[go_sem] theorem kwrap64_byte (c : UInt8) : IntKind.i64.wrap (c.toNat : Int) = (c.toNat : Int) := by
  have := c.toNat_lt; exact IntWalk.i64_in _ ⟨by omega, by omega⟩
theorem ret_bool {a b : Bool} (h : a = b) : Ending.returned (.bool a) = .returned (.bool b) := by rw [h]
theorem ret_int {k : IntKind} {a b : Int} (h : a = b) : Ending.returned (.int k a) = .returned (.int k b) := by rw [h]
theorem bl (s : ByteArray) : s.toList = s.data.toList := by rw [ByteArray.toList_eq]
theorem some_of {s : ByteArray} (h : 0 < s.size) : ¬ s.toList = [] ∧ s.toList.isEmpty = false := by
  have := isEmpty_of s h
  rw [bl]
  exact ⟨fun h' => (by rw [h'] at this; cases this), this⟩
theorem none_of {s : ByteArray} (h : ¬ 0 < s.size) : s.toList = [] := by rw [bl]; exact isEmpty_no s h

set_option maxHeartbeats 400000 in
theorem digit_any (c : Int) (w : World) : Calls Try.prog 55 #[.int .i32 c] w fun e w' => e = .returned (.bool (digB c)) ∧ w = w' := by
  go_enter Try.func55, Try.ntmps55
  go_wp2
  all_goals (go_ret; exact ⟨ret_bool (by simp [digB]; omega), rfl⟩)
set_option maxHeartbeats 400000 in
theorem rDigit_any (c : Int) (w : World) : Calls Try.prog 62 #[.int .u8 c] w fun e w' => e = .returned (.bool (digB c)) ∧ w = w' := by
  go_enter Try.func62, Try.ntmps62
  go_wp2
  all_goals (go_ret; exact ⟨ret_bool (by simp [digB]; omega), rfl⟩)
set_option maxHeartbeats 400000 in
theorem letter_any (c : Int) (w : World) : Calls Try.prog 53 #[.int .i32 c] w fun e w' => e = .returned (.bool (letB c)) ∧ w = w' := by
  go_enter Try.func53, Try.ntmps53
  go_wp2
  all_goals (go_ret; exact ⟨ret_bool (by rw [Bool.eq_iff_iff]; simp [letB]; omega), rfl⟩)
set_option maxHeartbeats 400000 in
theorem rLetter_any (c : Int) (w : World) : Calls Try.prog 60 #[.int .u8 c] w fun e w' => e = .returned (.bool (letB c)) ∧ w = w' := by
  go_enter Try.func60, Try.ntmps60
  go_wp2
  all_goals (go_ret; exact ⟨ret_bool (by rw [Bool.eq_iff_iff]; simp [letB]; omega), rfl⟩)
set_option maxHeartbeats 400000 in
theorem printable_any (c : Int) (w : World) : Calls Try.prog 64 #[.int .i32 c] w fun e w' => e = .returned (.bool (prtB c)) ∧ w = w' := by
  go_enter Try.func64, Try.ntmps64
  go_wp2
  all_goals (go_ret; exact ⟨ret_bool (by rw [Bool.eq_iff_iff]; simp [prtB]; omega), rfl⟩)

theorem nameB_long (s : ByteArray) (h : 32 < s.size) : nameB s.data.toList = false := by simp [nameB]; omega
theorem nameB_dig (s : ByteArray) (h : 0 < s.size) (hd : dgB s[0] = true) : nameB s.data.toList = false := by
  unfold nameB; rw [getD_of s h, hd]; simp
theorem nameB_bad (s : ByteArray) (k : Nat) (h : k < s.size) (hk : nmB s[k] = false) : nameB s.data.toList = false := by
  unfold nameB; rw [all_stop s k h hk]; simp
theorem nameB_ok (s : ByteArray) (k : Nat) (h : 0 < s.size) (h2 : ¬ 32 < s.size) (hd : dgB s[0] = false) (hk : s.size ≤ k) (ha : (s.data.toList.take k).all nmB = true) : nameB s.data.toList = true := by
  unfold nameB; rw [getD_of s h, hd, all_done s k hk ha, isEmpty_of s h]; simp; omega

set_option maxHeartbeats 400000 in
theorem named_any (s : ByteArray) (hs : s.size ≤ maxLen) (w : World) : Calls Try.prog 39 #[.string s] w fun e w' => e = .returned (.bool (nameB s.data.toList)) ∧ w = w' := by
  unfold maxLen at hs
  by_cases h0 : 0 < s.size
  · obtain ⟨he1, he2⟩ := some_of h0
    by_cases h32 : 32 < s.size
    · go_enter Try.func39, Try.ntmps39
      go_wp2_with (first | ((with_reducible refine wpTxt_q ?_ ?_ ?_); rfl; rfl; intro _ _) | ((with_reducible refine wpTxt_w0 ?_ ?_ ?_); rfl; rfl; intro _ _) | ((with_reducible refine wpTxt_s ?_ ?_); rfl; intro _ _; go_simp) | ((with_reducible refine wpTxt_sw ?_ ?_); rfl; intro _ _; go_simp) | (with_reducible refine wpTxt_nil ?_) | ((with_reducible refine wp_region_t mixed ?_ ?_); decide +kernel; intro _ _) | (go_at_call 55; ((with_reducible refine (digit_any _ _).mono ?_); rintro e w' ⟨rfl, rfl⟩)))
      go_ret
      exact ⟨ret_bool (nameB_long s h32).symm, rfl⟩
    · by_cases hd : digB (s[0].toNat : Int) = true
      · go_enter Try.func39, Try.ntmps39
        go_wp2_with (first | ((with_reducible refine wpTxt_q ?_ ?_ ?_); rfl; rfl; intro _ _) | ((with_reducible refine wpTxt_w0 ?_ ?_ ?_); rfl; rfl; intro _ _) | ((with_reducible refine wpTxt_s ?_ ?_); rfl; intro _ _; go_simp) | ((with_reducible refine wpTxt_sw ?_ ?_); rfl; intro _ _; go_simp) | (with_reducible refine wpTxt_nil ?_) | ((with_reducible refine wp_region_t mixed ?_ ?_); decide +kernel; intro _ _) | (go_at_call 55; ((with_reducible refine (digit_any _ _).mono ?_); rintro e w' ⟨rfl, rfl⟩)))
        go_ret
        exact ⟨ret_bool (nameB_dig s h0 hd).symm, rfl⟩
      · have hd2 : digB (s[0].toNat : Int) = false := by simpa using hd
        clear hd
        go_enter Try.func39, Try.ntmps39
        go_wp2_with (first | ((with_reducible refine wpTxt_q ?_ ?_ ?_); rfl; rfl; intro _ _) | ((with_reducible refine wpTxt_w0 ?_ ?_ ?_); rfl; rfl; intro _ _) | ((with_reducible refine wpTxt_s ?_ ?_); rfl; intro _ _; go_simp) | ((with_reducible refine wpTxt_sw ?_ ?_); rfl; intro _ _; go_simp) | (with_reducible refine wpTxt_nil ?_) | ((with_reducible refine wp_region_t mixed ?_ ?_); decide +kernel; intro _ _) | (go_at_call 55; ((with_reducible refine (digit_any _ _).mono ?_); rintro e w' ⟨rfl, rfl⟩)))
        go_loop [20] (fun i => ∃ k : Nat, k ≤ s.size ∧ i = .int .i64 k ∧ Hid ((s.data.toList.take k).all nmB = true)) (fun i => s.size - (intOf i).toNat)
        case atStart => exact ⟨0, by omega, rfl, by simp [Hid]⟩
        case round =>
          obtain ⟨k, hk, rfl, hall⟩ := hrel
          by_cases hlt : k < s.size
          · by_cases hn : nmB s[k] = true
            · have hcase : letB (s[k].toNat : Int) = true ∨ letB (s[k].toNat : Int) = false ∧ digB (s[k].toNat : Int) = true := by
                cases hl : letB (s[k].toNat : Int)
                · simp [nmB, bi, hl] at hn; exact .inr ⟨rfl, hn⟩
                · exact .inl rfl
              have HN := Lib.hid hn
              clear hn
              rcases hcase with hl | ⟨hl, hg⟩
              all_goals
                go_wp2_with (first | ((with_reducible refine wpTxt_q ?_ ?_ ?_); rfl; rfl; intro _ _) | ((with_reducible refine wpTxt_w0 ?_ ?_ ?_); rfl; rfl; intro _ _) | ((with_reducible refine wpTxt_s ?_ ?_); rfl; intro _ _; go_simp) | ((with_reducible refine wpTxt_sw ?_ ?_); rfl; intro _ _; go_simp) | (with_reducible refine wpTxt_nil ?_) | ((with_reducible refine wp_region_t mixed ?_ ?_); decide +kernel; intro _ _) | (go_at_call 55; ((with_reducible refine (digit_any _ _).mono ?_); rintro e w' ⟨rfl, rfl⟩)) | (go_at_call 53; ((with_reducible refine (letter_any _ _).mono ?_); rintro e w' ⟨rfl, rfl⟩)))
                go_round
                case rel => exact ⟨k + 1, by omega, by go_num, all_step s k hlt hall.out HN.out⟩
                case measure => simp [intOf]; omega
            · have hn2 : nmB s[k] = false := by simpa using hn
              have hl : letB (s[k].toNat : Int) = false := by simp [nmB, bi] at hn2; exact hn2.1
              have hg : digB (s[k].toNat : Int) = false := by simp [nmB, bi] at hn2; exact hn2.2
              have HN := Lib.hid hn2
              clear hn2 hn
              go_wp2_with (first | ((with_reducible refine wpTxt_q ?_ ?_ ?_); rfl; rfl; intro _ _) | ((with_reducible refine wpTxt_w0 ?_ ?_ ?_); rfl; rfl; intro _ _) | ((with_reducible refine wpTxt_s ?_ ?_); rfl; intro _ _; go_simp) | ((with_reducible refine wpTxt_sw ?_ ?_); rfl; intro _ _; go_simp) | (with_reducible refine wpTxt_nil ?_) | ((with_reducible refine wp_region_t mixed ?_ ?_); decide +kernel; intro _ _) | (go_at_call 55; ((with_reducible refine (digit_any _ _).mono ?_); rintro e w' ⟨rfl, rfl⟩)) | (go_at_call 53; ((with_reducible refine (letter_any _ _).mono ?_); rintro e w' ⟨rfl, rfl⟩)))
              go_ret
              exact ⟨ret_bool (nameB_bad s k hlt HN.out).symm, rfl⟩
          · go_wp2
            go_ret
            exact ⟨ret_bool (nameB_ok s k h0 h32 hd2 (by omega) hall.out).symm, rfl⟩
  · have he := none_of h0
    go_enter Try.func39, Try.ntmps39
    go_wp2_with (first | ((with_reducible refine wpTxt_q ?_ ?_ ?_); rfl; rfl; intro _ _) | ((with_reducible refine wpTxt_w0 ?_ ?_ ?_); rfl; rfl; intro _ _) | ((with_reducible refine wpTxt_s ?_ ?_); rfl; intro _ _; go_simp) | ((with_reducible refine wpTxt_sw ?_ ?_); rfl; intro _ _; go_simp) | (with_reducible refine wpTxt_nil ?_) | ((with_reducible refine wp_region_t mixed ?_ ?_); decide +kernel; intro _ _) | (go_at_call 55; ((with_reducible refine (digit_any _ _).mono ?_); rintro e w' ⟨rfl, rfl⟩)))
    go_ret
    exact ⟨ret_bool (by rw [isEmpty_no s h0]; rfl), rfl⟩
end Go.Proofs.Ytffflmghfcgkfaa
