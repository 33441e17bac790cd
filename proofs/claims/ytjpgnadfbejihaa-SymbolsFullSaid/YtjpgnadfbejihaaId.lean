/- Cut by cut.py from the texts of another seat. -/
import Derived.Test.YtjpgnadfbejihaaRows
import Derived.Test.YtjpgnadfbejihaaCan
import Derived.Test.YtjpgnadfbejihaaTk
import Derived.WalkKit
import Derived.WalkSpells
import Derived.WalkLawsBesides
import Derived.Lib.Hide
set_option linter.unusedSimpArgs false
set_option linter.unusedVariables false
namespace Go.Proofs.Ytjpgnadfbejihaa
open Go.RowKit Tk
theorem mixed : Try.prog.follows .mixedOrders = true := by kernel_rfl
@[go_sem] theorem wrap32_byte (c : UInt8) : wrap32 (c.toNat : Int) = (c.toNat : Int) := by
  have := c.toNat_lt; exact IntWalk.wrap32_in _ ⟨by omega, by omega⟩
@[go_sem] theorem wrap64_byte (c : UInt8) : wrap64 (c.toNat : Int) = (c.toNat : Int) := by
  have := c.toNat_lt; exact IntWalk.wrap64_in _ ⟨by omega, by omega⟩
@[go_sem] theorem kwrap32_byte (c : UInt8) : IntKind.i32.wrap (c.toNat : Int) = (c.toNat : Int) := by
  have := c.toNat_lt; exact IntWalk.i32_in _ ⟨by omega, by omega⟩
@[go_sem] theorem kwrap64_byte (c : UInt8) : IntKind.i64.wrap (c.toNat : Int) = (c.toNat : Int) := by
  have := c.toNat_lt; exact IntWalk.i64_in _ ⟨by omega, by omega⟩
theorem ret_bool {a b : Bool} (h : a = b) : Ending.returned (.bool a) = .returned (.bool b) := by rw [h]
theorem ret_int {k : IntKind} {a b : Int} (h : a = b) : Ending.returned (.int k a) = .returned (.int k b) := by rw [h]
theorem bl (s : ByteArray) : s.toList = s.data.toList := by rw [ByteArray.toList_eq]
theorem some_of {s : ByteArray} (h : 0 < s.size) : ¬ s.toList = [] ∧ s.toList.isEmpty = false := by
  have := isEmpty_of s h
  rw [bl]
  exact ⟨fun h' => (by rw [h'] at this; cases this), this⟩
theorem none_of {s : ByteArray} (h : ¬ 0 < s.size) : s.toList = [] := by rw [bl]; exact isEmpty_no s h
set_option maxHeartbeats 400000 in
theorem digit_any (c : Int) (w : World) : Calls Try.prog 41 #[.int .i32 c] w fun e w' => e = .returned (.bool (digB c)) ∧ w = w' := by
  go_enter Try.func41, Try.ntmps41
  go_wp2
  all_goals (go_ret; exact ⟨ret_bool (by simp [digB]; omega), rfl⟩)
set_option maxHeartbeats 400000 in
theorem rDigit_any (c : Int) (w : World) : Calls Try.prog 55 #[.int .u8 c] w fun e w' => e = .returned (.bool (digB c)) ∧ w = w' := by
  go_enter Try.func55, Try.ntmps55
  go_wp2
  all_goals (go_ret; exact ⟨ret_bool (by simp [digB]; omega), rfl⟩)
set_option maxHeartbeats 400000 in
theorem letter_any (c : Int) (w : World) : Calls Try.prog 42 #[.int .i32 c] w fun e w' => e = .returned (.bool (letB c)) ∧ w = w' := by
  go_enter Try.func42, Try.ntmps42
  go_wp2
  all_goals (go_ret; exact ⟨ret_bool (by rw [Bool.eq_iff_iff]; simp [letB]; omega), rfl⟩)
set_option maxHeartbeats 400000 in
theorem rLetter_any (c : Int) (w : World) : Calls Try.prog 54 #[.int .u8 c] w fun e w' => e = .returned (.bool (letB c)) ∧ w = w' := by
  go_enter Try.func54, Try.ntmps54
  go_wp2
  all_goals (go_ret; exact ⟨ret_bool (by rw [Bool.eq_iff_iff]; simp [letB]; omega), rfl⟩)
theorem nameB_long (s : ByteArray) (h : 32 < s.size) : nameB s.data.toList = false := by simp [nameB]; omega
theorem nameB_dig (s : ByteArray) (h : 0 < s.size) (hd : dgB s[0] = true) : nameB s.data.toList = false := by
  unfold nameB; rw [getD_of s h, hd]; simp
theorem nameB_bad (s : ByteArray) (k : Nat) (h : k < s.size) (hk : nmB s[k] = false) : nameB s.data.toList = false := by
  unfold nameB; rw [all_stop s k h hk]; simp
theorem nameB_ok (s : ByteArray) (k : Nat) (h : 0 < s.size) (h2 : ¬ 32 < s.size) (hd : dgB s[0] = false) (hk : s.size ≤ k) (ha : (s.data.toList.take k).all nmB = true) : nameB s.data.toList = true := by
  unfold nameB; rw [getD_of s h, hd, all_done s k hk ha, isEmpty_of s h]; simp; omega
set_option maxHeartbeats 400000 in
theorem named_any (s : ByteArray) (hs : s.size ≤ maxLen) (w : World) : Calls Try.prog 35 #[.string s] w fun e w' => e = .returned (.bool (nameB s.data.toList)) ∧ w = w' := by
  unfold maxLen at hs
  by_cases h0 : 0 < s.size
  · obtain ⟨he1, he2⟩ := some_of h0
    by_cases h32 : 32 < s.size
    · go_enter Try.func35, Try.ntmps35
      go_wp2_with (first | ((with_reducible refine wpTxt_q ?_ ?_ ?_); rfl; rfl; intro _ _) | ((with_reducible refine wpTxt_w0 ?_ ?_ ?_); rfl; rfl; intro _ _) | ((with_reducible refine wpTxt_s ?_ ?_); rfl; intro _ _; go_simp) | ((with_reducible refine wpTxt_sw ?_ ?_); rfl; intro _ _; go_simp) | (with_reducible refine wpTxt_nil ?_) | ((with_reducible refine wp_region_t mixed ?_ ?_); decide +kernel; intro _ _) | (go_at_call 41; ((with_reducible refine (digit_any _ _).mono ?_); rintro e w' ⟨rfl, rfl⟩)))
      go_ret
      exact ⟨ret_bool (nameB_long s h32).symm, rfl⟩
    · by_cases hd : digB (s[0].toNat : Int) = true
      · go_enter Try.func35, Try.ntmps35
        go_wp2_with (first | ((with_reducible refine wpTxt_q ?_ ?_ ?_); rfl; rfl; intro _ _) | ((with_reducible refine wpTxt_w0 ?_ ?_ ?_); rfl; rfl; intro _ _) | ((with_reducible refine wpTxt_s ?_ ?_); rfl; intro _ _; go_simp) | ((with_reducible refine wpTxt_sw ?_ ?_); rfl; intro _ _; go_simp) | (with_reducible refine wpTxt_nil ?_) | ((with_reducible refine wp_region_t mixed ?_ ?_); decide +kernel; intro _ _) | (go_at_call 41; ((with_reducible refine (digit_any _ _).mono ?_); rintro e w' ⟨rfl, rfl⟩)))
        go_ret
        exact ⟨ret_bool (nameB_dig s h0 hd).symm, rfl⟩
      · have hd2 : digB (s[0].toNat : Int) = false := by simpa using hd
        clear hd
        go_enter Try.func35, Try.ntmps35
        go_wp2_with (first | ((with_reducible refine wpTxt_q ?_ ?_ ?_); rfl; rfl; intro _ _) | ((with_reducible refine wpTxt_w0 ?_ ?_ ?_); rfl; rfl; intro _ _) | ((with_reducible refine wpTxt_s ?_ ?_); rfl; intro _ _; go_simp) | ((with_reducible refine wpTxt_sw ?_ ?_); rfl; intro _ _; go_simp) | (with_reducible refine wpTxt_nil ?_) | ((with_reducible refine wp_region_t mixed ?_ ?_); decide +kernel; intro _ _) | (go_at_call 41; ((with_reducible refine (digit_any _ _).mono ?_); rintro e w' ⟨rfl, rfl⟩)))
        go_loop [20] (fun i => ∃ k : Nat, k ≤ s.size ∧ i = .int .i64 k ∧ Hid ((s.data.toList.take k).all nmB = true)) (fun i => s.size - (intOf i).toNat)
        case atStart => exact ⟨0, by omega, rfl, by simp [Hid]⟩
        case round =>
          obtain ⟨k, hk, rfl, hall⟩ := hrel
          by_cases hlt : k < s.size
          · by_cases hn : nmB s[k] = true
            · have hcase : letB (s[k].toNat : Int) = true ∨ letB (s[k].toNat : Int) = false ∧ digB (s[k].toNat : Int) = true := by
                cases hl : letB (s[k].toNat : Int)
                · simp [nmB, bi, hl] at hn; exact .inr ⟨rfl, hn⟩
                · exact .inl rfl
              have HN := Lib.hid hn
              clear hn
              rcases hcase with hl | ⟨hl, hg⟩
              all_goals
                go_wp2_with (first | ((with_reducible refine wpTxt_q ?_ ?_ ?_); rfl; rfl; intro _ _) | ((with_reducible refine wpTxt_w0 ?_ ?_ ?_); rfl; rfl; intro _ _) | ((with_reducible refine wpTxt_s ?_ ?_); rfl; intro _ _; go_simp) | ((with_reducible refine wpTxt_sw ?_ ?_); rfl; intro _ _; go_simp) | (with_reducible refine wpTxt_nil ?_) | ((with_reducible refine wp_region_t mixed ?_ ?_); decide +kernel; intro _ _) | (go_at_call 41; ((with_reducible refine (digit_any _ _).mono ?_); rintro e w' ⟨rfl, rfl⟩)) | (go_at_call 42; ((with_reducible refine (letter_any _ _).mono ?_); rintro e w' ⟨rfl, rfl⟩)))
                go_round
                case rel => exact ⟨k + 1, by omega, by go_num, all_step s k hlt hall.out HN.out⟩
                case measure => simp [intOf]; omega
            · have hn2 : nmB s[k] = false := by simpa using hn
              have hl : letB (s[k].toNat : Int) = false := by simp [nmB, bi] at hn2; exact hn2.1
              have hg : digB (s[k].toNat : Int) = false := by simp [nmB, bi] at hn2; exact hn2.2
              have HN := Lib.hid hn2
              clear hn2 hn
              go_wp2_with (first | ((with_reducible refine wpTxt_q ?_ ?_ ?_); rfl; rfl; intro _ _) | ((with_reducible refine wpTxt_w0 ?_ ?_ ?_); rfl; rfl; intro _ _) | ((with_reducible refine wpTxt_s ?_ ?_); rfl; intro _ _; go_simp) | ((with_reducible refine wpTxt_sw ?_ ?_); rfl; intro _ _; go_simp) | (with_reducible refine wpTxt_nil ?_) | ((with_reducible refine wp_region_t mixed ?_ ?_); decide +kernel; intro _ _) | (go_at_call 41; ((with_reducible refine (digit_any _ _).mono ?_); rintro e w' ⟨rfl, rfl⟩)) | (go_at_call 42; ((with_reducible refine (letter_any _ _).mono ?_); rintro e w' ⟨rfl, rfl⟩)))
              go_ret
              exact ⟨ret_bool (nameB_bad s k hlt HN.out).symm, rfl⟩
          · go_wp2
            go_ret
            exact ⟨ret_bool (nameB_ok s k h0 h32 hd2 (by omega) hall.out).symm, rfl⟩
  · have he := none_of h0
    go_enter Try.func35, Try.ntmps35
    go_wp2_with (first | ((with_reducible refine wpTxt_q ?_ ?_ ?_); rfl; rfl; intro _ _) | ((with_reducible refine wpTxt_w0 ?_ ?_ ?_); rfl; rfl; intro _ _) | ((with_reducible refine wpTxt_s ?_ ?_); rfl; intro _ _; go_simp) | ((with_reducible refine wpTxt_sw ?_ ?_); rfl; intro _ _; go_simp) | (with_reducible refine wpTxt_nil ?_) | ((with_reducible refine wp_region_t mixed ?_ ?_); decide +kernel; intro _ _) | (go_at_call 41; ((with_reducible refine (digit_any _ _).mono ?_); rintro e w' ⟨rfl, rfl⟩)))
    go_ret
    exact ⟨ret_bool (by rw [isEmpty_no s h0]; rfl), rfl⟩
theorem numB_val (s : ByteArray) (h : 0 < s.size) (ha : s.data.toList.all dgB = true) : numB s.data.toList = (decide (s.size ≤ 9) && (decide (s.size ≤ 1) || !decide ((s[0].toNat : Int) = 48))) := by
  unfold numB; rw [getD_of s h, isEmpty_of s h, ha]; simp [bi]; rfl
theorem numB_bad (s : ByteArray) (k : Nat) (h : k < s.size) (hk : dgB s[k] = false) : numB s.data.toList = false := by
  unfold numB; rw [all_stop s k h hk]; simp
theorem numB_no (s : ByteArray) (h : 9 < s.size ∨ ¬ 0 < s.size) : numB s.data.toList = false := by
  rcases h with h | h
  · simp [numB]; omega
  · rw [isEmpty_no s h]; rfl
theorem numB_zero (s : ByteArray) (h : 1 < s.size) (hk : (s[0].toNat : Int) = 48) : numB s.data.toList = false := by
  unfold numB; rw [getD_of s (by omega)]; simp [bi, hk]; omega
theorem numB_ok (s : ByteArray) (k : Nat) (h : 0 < s.size) (h9 : ¬ 9 < s.size) (hz : s.size ≤ 1 ∨ ¬ (s[0].toNat : Int) = 48) (hk : s.size ≤ k) (ha : (s.data.toList.take k).all dgB = true) : numB s.data.toList = true := by
  rw [numB_val s h (all_done s k hk ha)]; simp; omega
theorem quoB_no (s : ByteArray) (h : 256 < s.size) : quoB s.data.toList = false := by simp [quoB]; omega
theorem quoB_bad (s : ByteArray) (k : Nat) (h : k < s.size) (hk : ptB s[k] = false) : quoB s.data.toList = false := by
  unfold quoB; rw [all_stop s k h hk]; simp
theorem quoB_ok (s : ByteArray) (k : Nat) (h9 : ¬ 256 < s.size) (hk : s.size ≤ k) (ha : (s.data.toList.take k).all ptB = true) : quoB s.data.toList = true := by
  unfold quoB; rw [all_done s k hk ha]; simp; omega
set_option maxHeartbeats 400000 in
theorem rName_any (s : ByteArray) (hs : s.size ≤ maxLen) (w : World) : Calls Try.prog 39 #[.string s] w fun e w' => e = .returned (.bool (nameB s.data.toList)) ∧ w = w' := by
  unfold maxLen at hs
  go_enter Try.func39, Try.ntmps39
  go_wp2_with (first | ((with_reducible refine wpTxt_q ?_ ?_ ?_); rfl; rfl; intro _ _) | ((with_reducible refine wpTxt_w0 ?_ ?_ ?_); rfl; rfl; intro _ _) | ((with_reducible refine wpTxt_s ?_ ?_); rfl; intro _ _; go_simp) | ((with_reducible refine wpTxt_sw ?_ ?_); rfl; intro _ _; go_simp) | (with_reducible refine wpTxt_nil ?_) | ((with_reducible refine wp_region_t mixed ?_ ?_); decide +kernel; intro _ _))
  go_loop [3] (fun i => ∃ k : Nat, k ≤ s.size ∧ i = .int .i64 k ∧ Hid ((s.data.toList.take k).all nmB = true ∧ ∀ h : 0 < s.size, 0 < k → dgB s[0] = false)) (fun i => s.size - (intOf i).toNat)
  case atStart => exact ⟨0, by omega, rfl, by simp [Hid]⟩
  case round =>
    obtain ⟨k, hk, rfl, hall⟩ := hrel
    by_cases hlt : k < s.size
    · by_cases hl : letB (s[k].toNat : Int) = true
      · go_wp2_with (first | ((with_reducible refine wpTxt_q ?_ ?_ ?_); rfl; rfl; intro _ _) | ((with_reducible refine wpTxt_w0 ?_ ?_ ?_); rfl; rfl; intro _ _) | ((with_reducible refine wpTxt_s ?_ ?_); rfl; intro _ _; go_simp) | ((with_reducible refine wpTxt_sw ?_ ?_); rfl; intro _ _; go_simp) | (with_reducible refine wpTxt_nil ?_) | ((with_reducible refine wp_region_t mixed ?_ ?_); decide +kernel; intro _ _) | (go_at_call 54; ((with_reducible refine (rLetter_any _ _).mono ?_); rintro e w' ⟨rfl, rfl⟩)) | (go_at_call 55; ((with_reducible refine (rDigit_any _ _).mono ?_); rintro e w' ⟨rfl, rfl⟩)))
        go_round
        case rel =>
          refine ⟨k + 1, by omega, by go_num, all_step s k hlt hall.out.1 (by simp [nmB, bi, hl]), fun h0 _ => ?_⟩
          by_cases hk0 : k = 0
          · subst hk0
            simp only [letB, Bool.or_eq_true, decide_eq_true_eq] at hl
            exact decide_eq_false (fun h => by unfold bi at h; omega)
          · exact hall.out.2 h0 (by omega)
        case measure => simp [intOf]; omega
      · have hl2 : letB (s[k].toNat : Int) = false := by simpa using hl
        by_cases hk0 : k = 0
        · have hk0b : ((k : Int) == 0) = true := by simp; omega
          have HK := Lib.hid hk0
          clear hk0
          go_wp2_with (first | ((with_reducible refine wpTxt_q ?_ ?_ ?_); rfl; rfl; intro _ _) | ((with_reducible refine wpTxt_w0 ?_ ?_ ?_); rfl; rfl; intro _ _) | ((with_reducible refine wpTxt_s ?_ ?_); rfl; intro _ _; go_simp) | ((with_reducible refine wpTxt_sw ?_ ?_); rfl; intro _ _; go_simp) | (with_reducible refine wpTxt_nil ?_) | ((with_reducible refine wp_region_t mixed ?_ ?_); decide +kernel; intro _ _) | (go_at_call 54; ((with_reducible refine (rLetter_any _ _).mono ?_); rintro e w' ⟨rfl, rfl⟩)) | (go_at_call 55; ((with_reducible refine (rDigit_any _ _).mono ?_); rintro e w' ⟨rfl, rfl⟩)))
          go_ret
          refine ⟨ret_bool ?_, rfl⟩
          have := HK.out
          subst this
          cases hd : dgB s[0]
          · exact (nameB_bad s 0 hlt (by unfold nmB; unfold bi; rw [hl2]; exact hd)).symm
          · exact (nameB_dig s hlt hd).symm
        · have hk0b : ((k : Int) == 0) = false := by simp; omega
          by_cases hg : digB (s[k].toNat : Int) = true
          · go_wp2_with (first | ((with_reducible refine wpTxt_q ?_ ?_ ?_); rfl; rfl; intro _ _) | ((with_reducible refine wpTxt_w0 ?_ ?_ ?_); rfl; rfl; intro _ _) | ((with_reducible refine wpTxt_s ?_ ?_); rfl; intro _ _; go_simp) | ((with_reducible refine wpTxt_sw ?_ ?_); rfl; intro _ _; go_simp) | (with_reducible refine wpTxt_nil ?_) | ((with_reducible refine wp_region_t mixed ?_ ?_); decide +kernel; intro _ _) | (go_at_call 54; ((with_reducible refine (rLetter_any _ _).mono ?_); rintro e w' ⟨rfl, rfl⟩)) | (go_at_call 55; ((with_reducible refine (rDigit_any _ _).mono ?_); rintro e w' ⟨rfl, rfl⟩)))
            go_round
            case rel => exact ⟨k + 1, by omega, by go_num, all_step s k hlt hall.out.1 (by simp [nmB, bi, hg]), fun h0 _ => hall.out.2 h0 (by omega)⟩
            case measure => simp [intOf]; omega
          · have hg2 : digB (s[k].toNat : Int) = false := by simpa using hg
            go_wp2_with (first | ((with_reducible refine wpTxt_q ?_ ?_ ?_); rfl; rfl; intro _ _) | ((with_reducible refine wpTxt_w0 ?_ ?_ ?_); rfl; rfl; intro _ _) | ((with_reducible refine wpTxt_s ?_ ?_); rfl; intro _ _; go_simp) | ((with_reducible refine wpTxt_sw ?_ ?_); rfl; intro _ _; go_simp) | (with_reducible refine wpTxt_nil ?_) | ((with_reducible refine wp_region_t mixed ?_ ?_); decide +kernel; intro _ _) | (go_at_call 54; ((with_reducible refine (rLetter_any _ _).mono ?_); rintro e w' ⟨rfl, rfl⟩)) | (go_at_call 55; ((with_reducible refine (rDigit_any _ _).mono ?_); rintro e w' ⟨rfl, rfl⟩)))
            go_ret
            exact ⟨ret_bool (nameB_bad s k hlt (by simp [nmB, bi, hl2, hg2])).symm, rfl⟩
    · by_cases h0 : 0 < s.size
      · by_cases h32 : 32 < s.size
        · go_wp2
          go_ret
          exact ⟨ret_bool (by rw [nameB_long s h32]; simp; omega), rfl⟩
        · go_wp2
          go_ret
          exact ⟨ret_bool (by rw [nameB_ok s k h0 h32 (hall.out.2 h0 (by omega)) (by omega) hall.out.1]; simp; omega), rfl⟩
      · go_wp2
        go_ret
        exact ⟨ret_bool (by rw [isEmpty_no s h0]; simp [nameB]; try omega), rfl⟩
theorem ext_list (s : ByteArray) (f k : Nat) : (s.extract f k).toList = (s.data.toList.drop f).take (k - f) := by
  rw [bl]; simp [ByteArray.data_extract]
set_option maxHeartbeats 400000 in
theorem within_any (s ws : ByteArray) (hw : ws.size ≤ maxLen) (w : World) : Calls Try.prog 56 #[.string s, .string ws] w fun e w' => e = .returned (.bool (inWords s.data.toList ws.data.toList)) ∧ w = w' := by
  unfold maxLen at hw
  go_enter Try.func56, Try.ntmps56
  go_wp2_with (first | ((with_reducible refine wpTxt_q ?_ ?_ ?_); rfl; rfl; intro _ _) | ((with_reducible refine wpTxt_w0 ?_ ?_ ?_); rfl; rfl; intro _ _) | ((with_reducible refine wpTxt_s ?_ ?_); rfl; intro _ _; go_simp) | ((with_reducible refine wpTxt_sw ?_ ?_); rfl; intro _ _; go_simp) | (with_reducible refine wpTxt_nil ?_) | ((with_reducible refine wp_region_t mixed ?_ ?_); decide +kernel; intro _ _))
  go_loop [5, 6] (fun x i => ∃ f k : Nat, k ≤ ws.size ∧ f ≤ k ∧ x = .int .i64 f ∧ i = .int .i64 k ∧ Hid (inRest s.data.toList ws.data.toList f k = inWords s.data.toList ws.data.toList)) (fun _ i => ws.size - (intOf i).toNat)
  case atStart => exact ⟨0, 0, by omega, by omega, rfl, rfl, inRest_start _ _⟩
  case round =>
    obtain ⟨f, k, hk, hf, rfl, rfl, hall⟩ := hrel
    by_cases hlt : k < ws.size
    · by_cases hb : (ws[k].toNat : Int) = 32
      · have hbb : ((ws[k].toNat : Int) != 32) = false := by simpa using hb
        have hb2 : ws.data.toList[k]'(by rw [sz]; exact hlt) = 32 := by
          rw [at_ ws k hlt]; apply UInt8.toNat_inj.1; simp; omega
        have HB := Lib.hid hb2
        clear hb hb2
        have hL : k < ws.data.toList.length := by rw [sz]; exact hlt
        go_wp2
        · have h1 : (ws.extract f k).toList = s.toList := by assumption
          have h2 : (!s.toList.isEmpty) = true := by assumption
          go_ret
          refine ⟨ret_bool ?_, rfl⟩
          rw [← hall.out]
          rw [ext_list, bl] at h1
          rw [bl] at h2
          exact (inRest_hit _ _ f k hL HB.out h1 (by simpa using h2)).symm
        all_goals
          go_round
          case rel =>
            refine ⟨k + 1, k + 1, by omega, by omega, by go_num, by go_num, ?_⟩
            refine (inRest_miss _ _ f k hL HB.out ?_).symm.trans hall.out
            rintro ⟨h1, h2⟩
            rw [← ext_list, ← bl] at h1
            rw [← bl] at h2
            first
              | (have h3 : ¬ (ws.extract f k).toList = s.toList := by assumption
                 exact h3 h1)
              | (have h3 : (!s.toList.isEmpty) = false := by assumption
                 rw [h2] at h3; cases h3)
          case measure => simp [intOf]; omega
      · have hbb : ((ws[k].toNat : Int) != 32) = true := by simpa using hb
        have HB := Lib.hid hb
        clear hb
        go_wp2
        go_round
        case rel =>
          refine ⟨f, k + 1, by omega, by omega, rfl, by go_num, ?_⟩
          refine (inRest_other _ _ f k hf (by rw [sz]; exact hlt) ?_).symm.trans hall.out
          rw [at_ ws k hlt]
          intro h
          exact HB.out (by rw [h]; rfl)
        case measure => simp [intOf]; omega
    · go_wp2
      go_ret
      exact ⟨ret_bool (by rw [← hall.out, inRest_end]; rw [sz]; omega), rfl⟩
theorem inWords_kw (l ws : List UInt8) (h : words [] ws = kwList) : inWords l ws = kwB l := by
  unfold inWords kwB
  rw [h]
  cases l with
  | nil => decide
  | cons => simp
set_option maxHeartbeats 400000 in
set_option maxRecDepth 100000 in
theorem rKeyword_any (s : ByteArray) (w : World) : Calls Try.prog 40 #[.string s] w fun e w' => e = .returned (.bool (kwB s.data.toList)) ∧ w = w' := by
  go_enter Try.func40, Try.ntmps40
  go_wp2_with (first | (go_at_call 56; ((with_reducible refine (within_any _ _ ?_ _).mono ?_); (· decide +kernel); rintro e w' ⟨rfl, rfl⟩)))
  go_ret
  exact ⟨ret_bool (inWords_kw _ _ (by decide +kernel)), rfl⟩
theorem kw_in (s : ByteArray) (h : kwB s.data.toList = true) : s.toList = [109, 111, 100, 117, 108, 101] ∨ s.toList = [99, 108, 97, 115, 115] ∨ s.toList = [116, 121, 112, 101] ∨ s.toList = [97, 108, 105, 97, 115] ∨ s.toList = [116, 121, 112, 101, 97, 116, 116, 114, 105, 98, 117, 116, 101] ∨ s.toList = [97, 116, 116, 114, 105, 98, 117, 116, 101] ∨ s.toList = [114, 111, 108, 101] ∨ s.toList = [116, 121, 112, 101, 115] ∨ s.toList = [114, 111, 108, 101, 97, 108, 108, 111, 119] ∨ s.toList = [114, 111, 108, 101, 95, 116, 114, 97, 110, 115, 105, 116, 105, 111, 110] ∨ s.toList = [117, 115, 101, 114] ∨ s.toList = [114, 111, 108, 101, 115] ∨ s.toList = [108, 101, 118, 101, 108] ∨ s.toList = [114, 97, 110, 103, 101] ∨ s.toList = [98, 111, 111, 108] ∨ s.toList = [116, 114, 117, 101] ∨ s.toList = [102, 97, 108, 115, 101] ∨ s.toList = [115, 101, 110, 115, 105, 116, 105, 118, 105, 116, 121] ∨ s.toList = [99, 97, 116, 101, 103, 111, 114, 121] ∨ s.toList = [97, 108, 108, 111, 119] ∨ s.toList = [97, 117, 100, 105, 116, 97, 108, 108, 111, 119] ∨ s.toList = [100, 111, 110, 116, 97, 117, 100, 105, 116] ∨ s.toList = [110, 101, 118, 101, 114, 97, 108, 108, 111, 119] ∨ s.toList = [116, 121, 112, 101, 95, 116, 114, 97, 110, 115, 105, 116, 105, 111, 110] ∨ s.toList = [116, 121, 112, 101, 95, 99, 104, 97, 110, 103, 101] ∨ s.toList = [116, 121, 112, 101, 95, 109, 101, 109, 98, 101, 114] ∨ s.toList = [114, 97, 110, 103, 101, 95, 116, 114, 97, 110, 115, 105, 116, 105, 111, 110] ∨ s.toList = [99, 111, 110, 115, 116, 114, 97, 105, 110] ∨ s.toList = [118, 97, 108, 105, 100, 97, 116, 101, 116, 114, 97, 110, 115] ∨ s.toList = [105, 102] ∨ s.toList = [101, 108, 115, 101] ∨ s.toList = [111, 112, 116, 105, 111, 110, 97, 108] ∨ s.toList = [114, 101, 113, 117, 105, 114, 101] ∨ s.toList = [115, 105, 100] ∨ s.toList = [102, 105, 108, 101, 99, 111, 110] ∨ s.toList = [112, 101, 114, 109, 105, 115, 115, 105, 118, 101] ∨ s.toList = [97, 115, 115, 101, 114, 116] ∨ s.toList = [115, 101, 108, 102] ∨ s.toList = [105, 110] := by
  rw [bl]
  simpa [kwB, kwList] using h
theorem kw_out (s : ByteArray) (h : kwB s.data.toList = false) (x : List UInt8) (hx : x ∈ kwList) : (s.toList == x) = false := by
  rw [bl]
  cases he : s.data.toList == x
  · rfl
  · rw [beq_iff_eq] at he
    rw [← he] at hx
    have : kwB s.data.toList = true := by simpa [kwB] using hx
    rw [this] at h
    cases h
set_option maxHeartbeats 2000000 in
theorem tKeyword_any (s : ByteArray) (w : World) : Calls Try.prog 36 #[.string s] w fun e w' => e = .returned (.bool (kwB s.data.toList)) ∧ w = w' := by
  cases hk : kwB s.data.toList
  · have h0 := kw_out s hk [109, 111, 100, 117, 108, 101] (by decide +kernel)
    have h1 := kw_out s hk [99, 108, 97, 115, 115] (by decide +kernel)
    have h2 := kw_out s hk [116, 121, 112, 101] (by decide +kernel)
    have h3 := kw_out s hk [97, 108, 105, 97, 115] (by decide +kernel)
    have h4 := kw_out s hk [116, 121, 112, 101, 97, 116, 116, 114, 105, 98, 117, 116, 101] (by decide +kernel)
    have h5 := kw_out s hk [97, 116, 116, 114, 105, 98, 117, 116, 101] (by decide +kernel)
    have h6 := kw_out s hk [114, 111, 108, 101] (by decide +kernel)
    have h7 := kw_out s hk [116, 121, 112, 101, 115] (by decide +kernel)
    have h8 := kw_out s hk [114, 111, 108, 101, 97, 108, 108, 111, 119] (by decide +kernel)
    have h9 := kw_out s hk [114, 111, 108, 101, 95, 116, 114, 97, 110, 115, 105, 116, 105, 111, 110] (by decide +kernel)
    have h10 := kw_out s hk [117, 115, 101, 114] (by decide +kernel)
    have h11 := kw_out s hk [114, 111, 108, 101, 115] (by decide +kernel)
    have h12 := kw_out s hk [108, 101, 118, 101, 108] (by decide +kernel)
    have h13 := kw_out s hk [114, 97, 110, 103, 101] (by decide +kernel)
    have h14 := kw_out s hk [98, 111, 111, 108] (by decide +kernel)
    have h15 := kw_out s hk [116, 114, 117, 101] (by decide +kernel)
    have h16 := kw_out s hk [102, 97, 108, 115, 101] (by decide +kernel)
    have h17 := kw_out s hk [115, 101, 110, 115, 105, 116, 105, 118, 105, 116, 121] (by decide +kernel)
    have h18 := kw_out s hk [99, 97, 116, 101, 103, 111, 114, 121] (by decide +kernel)
    have h19 := kw_out s hk [97, 108, 108, 111, 119] (by decide +kernel)
    have h20 := kw_out s hk [97, 117, 100, 105, 116, 97, 108, 108, 111, 119] (by decide +kernel)
    have h21 := kw_out s hk [100, 111, 110, 116, 97, 117, 100, 105, 116] (by decide +kernel)
    have h22 := kw_out s hk [110, 101, 118, 101, 114, 97, 108, 108, 111, 119] (by decide +kernel)
    have h23 := kw_out s hk [116, 121, 112, 101, 95, 116, 114, 97, 110, 115, 105, 116, 105, 111, 110] (by decide +kernel)
    have h24 := kw_out s hk [116, 121, 112, 101, 95, 99, 104, 97, 110, 103, 101] (by decide +kernel)
    have h25 := kw_out s hk [116, 121, 112, 101, 95, 109, 101, 109, 98, 101, 114] (by decide +kernel)
    have h26 := kw_out s hk [114, 97, 110, 103, 101, 95, 116, 114, 97, 110, 115, 105, 116, 105, 111, 110] (by decide +kernel)
    have h27 := kw_out s hk [99, 111, 110, 115, 116, 114, 97, 105, 110] (by decide +kernel)
    have h28 := kw_out s hk [118, 97, 108, 105, 100, 97, 116, 101, 116, 114, 97, 110, 115] (by decide +kernel)
    have h29 := kw_out s hk [105, 102] (by decide +kernel)
    have h30 := kw_out s hk [101, 108, 115, 101] (by decide +kernel)
    have h31 := kw_out s hk [111, 112, 116, 105, 111, 110, 97, 108] (by decide +kernel)
    have h32 := kw_out s hk [114, 101, 113, 117, 105, 114, 101] (by decide +kernel)
    have h33 := kw_out s hk [115, 105, 100] (by decide +kernel)
    have h34 := kw_out s hk [102, 105, 108, 101, 99, 111, 110] (by decide +kernel)
    have h35 := kw_out s hk [112, 101, 114, 109, 105, 115, 115, 105, 118, 101] (by decide +kernel)
    have h36 := kw_out s hk [97, 115, 115, 101, 114, 116] (by decide +kernel)
    have h37 := kw_out s hk [115, 101, 108, 102] (by decide +kernel)
    have h38 := kw_out s hk [105, 110] (by decide +kernel)
    clear hk
    go_enter Try.func36, Try.ntmps36
    go_wp2_with fail
    go_ret
    exact ⟨rfl, rfl⟩
  · rcases kw_in s hk with h | h | h | h | h | h | h | h | h | h | h | h | h | h | h | h | h | h | h | h | h | h | h | h | h | h | h | h | h | h | h | h | h | h | h | h | h | h | h
    all_goals
      clear hk
      go_enter Try.func36, Try.ntmps36
      go_wp2_with fail
      go_ret
      exact ⟨rfl, rfl⟩
set_option maxHeartbeats 400000 in
theorem tIdentifier_any (s : ByteArray) (hs : s.size ≤ maxLen) (w : World) : Calls Try.prog 29 #[.string s] w fun e w' => e = .returned (.bool (nameB s.data.toList && !kwB s.data.toList)) ∧ w = w' := by
  cases hn : nameB s.data.toList
  all_goals
    go_enter Try.func29, Try.ntmps29
    go_wp2_with (first | (go_at_call 35; ((with_reducible refine (named_any _ (by assumption) _).mono ?_); rintro e w' ⟨rfl, rfl⟩)) | (go_at_call 36; ((with_reducible refine (tKeyword_any _ _).mono ?_); rintro e w' ⟨rfl, rfl⟩)))
    go_ret
    exact ⟨rfl, rfl⟩
set_option maxHeartbeats 400000 in
theorem rIdentifier_any (s : ByteArray) (hs : s.size ≤ maxLen) (w : World) : Calls Try.prog 34 #[.string s] w fun e w' => e = .returned (.bool (nameB s.data.toList && !kwB s.data.toList)) ∧ w = w' := by
  cases hn : nameB s.data.toList
  all_goals
    go_enter Try.func34, Try.ntmps34
    go_wp2_with (first | (go_at_call 39; ((with_reducible refine (rName_any _ (by assumption) _).mono ?_); rintro e w' ⟨rfl, rfl⟩)) | (go_at_call 40; ((with_reducible refine (rKeyword_any _ _).mono ?_); rintro e w' ⟨rfl, rfl⟩)))
    go_ret
    exact ⟨rfl, rfl⟩
end Go.Proofs.Ytjpgnadfbejihaa
