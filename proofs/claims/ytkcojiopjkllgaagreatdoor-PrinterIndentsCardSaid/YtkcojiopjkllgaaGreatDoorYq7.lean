import Derived.Test.YtkcojiopjkllgaaGreatDoorRows
import Derived.Test.YtkcojiopjkllgaaGreatDoorYq5
import Derived.Test.YtkcojiopjkllgaaGreatDoorYq1
import Derived.WalkKit
import Derived.WalkSpells
import Derived.WalkLawsBesides
import Derived.Lib.Hide
import Derived.Test.YtkcojiopjkllgaaGreatDoorYq6
set_option linter.unusedSimpArgs false
set_option linter.unusedVariables false
set_option linter.unusedSectionVars false
namespace Go.Proofs.YtkcojiopjkllgaaGreatDoor
open Go.RowKit Tk
set_option maxHeartbeats 400000 in
theorem digit_any (c : Int) (w : World) : Calls Tryz.prog 145 #[.int .i32 c] w fun e w' => e = .returned (.bool (digB c)) ∧ w = w' := by
  go_enter Tryz.func145, Tryz.ntmps145
  go_wp2
  all_goals (go_ret; exact ⟨ret_bool (by simp [digB]; omega), rfl⟩)
set_option maxHeartbeats 400000 in
theorem rDigit_any (c : Int) (w : World) : Calls Tryz.prog 148 #[.int .u8 c] w fun e w' => e = .returned (.bool (digB c)) ∧ w = w' := by
  go_enter Tryz.func148, Tryz.ntmps148
  go_wp2
  all_goals (go_ret; exact ⟨ret_bool (by simp [digB]; omega), rfl⟩)
set_option maxHeartbeats 400000 in
theorem letter_any (c : Int) (w : World) : Calls Tryz.prog 146 #[.int .i32 c] w fun e w' => e = .returned (.bool (letB c)) ∧ w = w' := by
  go_enter Tryz.func146, Tryz.ntmps146
  go_wp2
  all_goals (go_ret; exact ⟨ret_bool (by rw [Bool.eq_iff_iff]; simp [letB]; omega), rfl⟩)
set_option maxHeartbeats 400000 in
theorem rLetter_any (c : Int) (w : World) : Calls Tryz.prog 147 #[.int .u8 c] w fun e w' => e = .returned (.bool (letB c)) ∧ w = w' := by
  go_enter Tryz.func147, Tryz.ntmps147
  go_wp2
  all_goals (go_ret; exact ⟨ret_bool (by rw [Bool.eq_iff_iff]; simp [letB]; omega), rfl⟩)
theorem nameB_long (s : ByteArray) (h : 32 < s.size) : nameB s.data.toList = false := by simp [nameB]; omega
theorem nameB_dig (s : ByteArray) (h : 0 < s.size) (hd : dgB s[0] = true) : nameB s.data.toList = false := by
  unfold nameB; rw [getD_of s h, hd]; simp
theorem nameB_bad (s : ByteArray) (k : Nat) (h : k < s.size) (hk : nmB s[k] = false) : nameB s.data.toList = false := by
  unfold nameB; rw [all_stop s k h hk]; simp
theorem nameB_ok (s : ByteArray) (k : Nat) (h : 0 < s.size) (h2 : ¬ 32 < s.size) (hd : dgB s[0] = false) (hk : s.size ≤ k) (ha : (s.data.toList.take k).all nmB = true) : nameB s.data.toList = true := by
  unfold nameB; rw [getD_of s h, hd, all_done s k hk ha, isEmpty_of s h]; simp; omega
set_option maxHeartbeats 400000 in
theorem named_any (s : ByteArray) (hs : s.size ≤ maxLen) (w : World) : Calls Tryz.prog 92 #[.string s] w fun e w' => e = .returned (.bool (nameB s.data.toList)) ∧ w = w' := by
  unfold maxLen at hs
  by_cases h0 : 0 < s.size
  · obtain ⟨he1, he2⟩ := some_of h0
    by_cases h32 : 32 < s.size
    · go_enter Tryz.func92, Tryz.ntmps92
      go_wp2_with (first | ((with_reducible refine wpTxt_q ?_ ?_ ?_); rfl; rfl; intro _ _) | ((with_reducible refine wpTxt_w0 ?_ ?_ ?_); rfl; rfl; intro _ _) | ((with_reducible refine wpTxt_s ?_ ?_); rfl; intro _ _; go_simp) | ((with_reducible refine wpTxt_sw ?_ ?_); rfl; intro _ _; go_simp) | (with_reducible refine wpTxt_nil ?_) | ((with_reducible refine wp_region_t mixed ?_ ?_); decide +kernel; intro _ _) | (go_at_call 145; ((with_reducible refine (digit_any _ _).mono ?_); rintro e w' ⟨rfl, rfl⟩)))
      go_ret
      exact ⟨ret_bool (nameB_long s h32).symm, rfl⟩
    · by_cases hd : digB (s[0].toNat : Int) = true
      · go_enter Tryz.func92, Tryz.ntmps92
        go_wp2_with (first | ((with_reducible refine wpTxt_q ?_ ?_ ?_); rfl; rfl; intro _ _) | ((with_reducible refine wpTxt_w0 ?_ ?_ ?_); rfl; rfl; intro _ _) | ((with_reducible refine wpTxt_s ?_ ?_); rfl; intro _ _; go_simp) | ((with_reducible refine wpTxt_sw ?_ ?_); rfl; intro _ _; go_simp) | (with_reducible refine wpTxt_nil ?_) | ((with_reducible refine wp_region_t mixed ?_ ?_); decide +kernel; intro _ _) | (go_at_call 145; ((with_reducible refine (digit_any _ _).mono ?_); rintro e w' ⟨rfl, rfl⟩)))
        go_ret
        exact ⟨ret_bool (nameB_dig s h0 hd).symm, rfl⟩
      · have hd2 : digB (s[0].toNat : Int) = false := by simpa using hd
        clear hd
        go_enter Tryz.func92, Tryz.ntmps92
        go_wp2_with (first | ((with_reducible refine wpTxt_q ?_ ?_ ?_); rfl; rfl; intro _ _) | ((with_reducible refine wpTxt_w0 ?_ ?_ ?_); rfl; rfl; intro _ _) | ((with_reducible refine wpTxt_s ?_ ?_); rfl; intro _ _; go_simp) | ((with_reducible refine wpTxt_sw ?_ ?_); rfl; intro _ _; go_simp) | (with_reducible refine wpTxt_nil ?_) | ((with_reducible refine wp_region_t mixed ?_ ?_); decide +kernel; intro _ _) | (go_at_call 145; ((with_reducible refine (digit_any _ _).mono ?_); rintro e w' ⟨rfl, rfl⟩)))
        go_loop [20] (fun i => ∃ k : Nat, k ≤ s.size ∧ i = .int .i64 k ∧ Hid ((s.data.toList.take k).all nmB = true)) (fun i => s.size - (intOf i).toNat)
        case atStart => exact ⟨0, by omega, rfl, by simp [Hid]⟩
        case round =>
          obtain ⟨k, hk, rfl, hall⟩ := hrel
          by_cases hlt : k < s.size
          · by_cases hn : nmB s[k] = true
            · have hcase : letB (s[k].toNat : Int) = true ∨ letB (s[k].toNat : Int) = false ∧ digB (s[k].toNat : Int) = true := by
                cases hl : letB (s[k].toNat : Int)
                · simp [nmB, bi, hl] at hn; exact .inr ⟨rfl, hn⟩
                · exact .inl rfl
              have HN := Lib.hid hn
              clear hn
              rcases hcase with hl | ⟨hl, hg⟩
              all_goals
                go_wp2_with (first | ((with_reducible refine wpTxt_q ?_ ?_ ?_); rfl; rfl; intro _ _) | ((with_reducible refine wpTxt_w0 ?_ ?_ ?_); rfl; rfl; intro _ _) | ((with_reducible refine wpTxt_s ?_ ?_); rfl; intro _ _; go_simp) | ((with_reducible refine wpTxt_sw ?_ ?_); rfl; intro _ _; go_simp) | (with_reducible refine wpTxt_nil ?_) | ((with_reducible refine wp_region_t mixed ?_ ?_); decide +kernel; intro _ _) | (go_at_call 145; ((with_reducible refine (digit_any _ _).mono ?_); rintro e w' ⟨rfl, rfl⟩)) | (go_at_call 146; ((with_reducible refine (letter_any _ _).mono ?_); rintro e w' ⟨rfl, rfl⟩)))
                go_round
                case rel => exact ⟨k + 1, by omega, by go_num, all_step s k hlt hall.out HN.out⟩
                case measure => simp [intOf]; omega
            · have hn2 : nmB s[k] = false := by simpa using hn
              have hl : letB (s[k].toNat : Int) = false := by simp [nmB, bi] at hn2; exact hn2.1
              have hg : digB (s[k].toNat : Int) = false := by simp [nmB, bi] at hn2; exact hn2.2
              have HN := Lib.hid hn2
              clear hn2 hn
              go_wp2_with (first | ((with_reducible refine wpTxt_q ?_ ?_ ?_); rfl; rfl; intro _ _) | ((with_reducible refine wpTxt_w0 ?_ ?_ ?_); rfl; rfl; intro _ _) | ((with_reducible refine wpTxt_s ?_ ?_); rfl; intro _ _; go_simp) | ((with_reducible refine wpTxt_sw ?_ ?_); rfl; intro _ _; go_simp) | (with_reducible refine wpTxt_nil ?_) | ((with_reducible refine wp_region_t mixed ?_ ?_); decide +kernel; intro _ _) | (go_at_call 145; ((with_reducible refine (digit_any _ _).mono ?_); rintro e w' ⟨rfl, rfl⟩)) | (go_at_call 146; ((with_reducible refine (letter_any _ _).mono ?_); rintro e w' ⟨rfl, rfl⟩)))
              go_ret
              exact ⟨ret_bool (nameB_bad s k hlt HN.out).symm, rfl⟩
          · go_wp2
            go_ret
            exact ⟨ret_bool (nameB_ok s k h0 h32 hd2 (by omega) hall.out).symm, rfl⟩
  · have he := none_of h0
    go_enter Tryz.func92, Tryz.ntmps92
    go_wp2_with (first | ((with_reducible refine wpTxt_q ?_ ?_ ?_); rfl; rfl; intro _ _) | ((with_reducible refine wpTxt_w0 ?_ ?_ ?_); rfl; rfl; intro _ _) | ((with_reducible refine wpTxt_s ?_ ?_); rfl; intro _ _; go_simp) | ((with_reducible refine wpTxt_sw ?_ ?_); rfl; intro _ _; go_simp) | (with_reducible refine wpTxt_nil ?_) | ((with_reducible refine wp_region_t mixed ?_ ?_); decide +kernel; intro _ _) | (go_at_call 145; ((with_reducible refine (digit_any _ _).mono ?_); rintro e w' ⟨rfl, rfl⟩)))
    go_ret
    exact ⟨ret_bool (by rw [isEmpty_no s h0]; rfl), rfl⟩
set_option maxHeartbeats 400000 in
theorem rName_any (s : ByteArray) (hs : s.size ≤ maxLen) (w : World) : Calls Tryz.prog 94 #[.string s] w fun e w' => e = .returned (.bool (nameB s.data.toList)) ∧ w = w' := by
  unfold maxLen at hs
  go_enter Tryz.func94, Tryz.ntmps94
  go_wp2_with (first | ((with_reducible refine wpTxt_q ?_ ?_ ?_); rfl; rfl; intro _ _) | ((with_reducible refine wpTxt_w0 ?_ ?_ ?_); rfl; rfl; intro _ _) | ((with_reducible refine wpTxt_s ?_ ?_); rfl; intro _ _; go_simp) | ((with_reducible refine wpTxt_sw ?_ ?_); rfl; intro _ _; go_simp) | (with_reducible refine wpTxt_nil ?_) | ((with_reducible refine wp_region_t mixed ?_ ?_); decide +kernel; intro _ _))
  go_loop [3] (fun i => ∃ k : Nat, k ≤ s.size ∧ i = .int .i64 k ∧ Hid ((s.data.toList.take k).all nmB = true ∧ ∀ h : 0 < s.size, 0 < k → dgB s[0] = false)) (fun i => s.size - (intOf i).toNat)
  case atStart => exact ⟨0, by omega, rfl, by simp [Hid]⟩
  case round =>
    obtain ⟨k, hk, rfl, hall⟩ := hrel
    by_cases hlt : k < s.size
    · by_cases hl : letB (s[k].toNat : Int) = true
      · go_wp2_with (first | ((with_reducible refine wpTxt_q ?_ ?_ ?_); rfl; rfl; intro _ _) | ((with_reducible refine wpTxt_w0 ?_ ?_ ?_); rfl; rfl; intro _ _) | ((with_reducible refine wpTxt_s ?_ ?_); rfl; intro _ _; go_simp) | ((with_reducible refine wpTxt_sw ?_ ?_); rfl; intro _ _; go_simp) | (with_reducible refine wpTxt_nil ?_) | ((with_reducible refine wp_region_t mixed ?_ ?_); decide +kernel; intro _ _) | (go_at_call 147; ((with_reducible refine (rLetter_any _ _).mono ?_); rintro e w' ⟨rfl, rfl⟩)) | (go_at_call 148; ((with_reducible refine (rDigit_any _ _).mono ?_); rintro e w' ⟨rfl, rfl⟩)))
        go_round
        case rel =>
          refine ⟨k + 1, by omega, by go_num, all_step s k hlt hall.out.1 (by simp [nmB, bi, hl]), fun h0 _ => ?_⟩
          by_cases hk0 : k = 0
          · subst hk0
            simp only [letB, Bool.or_eq_true, decide_eq_true_eq] at hl
            exact decide_eq_false (fun h => by unfold bi at h; omega)
          · exact hall.out.2 h0 (by omega)
        case measure => simp [intOf]; omega
      · have hl2 : letB (s[k].toNat : Int) = false := by simpa using hl
        by_cases hk0 : k = 0
        · have hk0b : ((k : Int) == 0) = true := by simp; omega
          have HK := Lib.hid hk0
          clear hk0
          go_wp2_with (first | ((with_reducible refine wpTxt_q ?_ ?_ ?_); rfl; rfl; intro _ _) | ((with_reducible refine wpTxt_w0 ?_ ?_ ?_); rfl; rfl; intro _ _) | ((with_reducible refine wpTxt_s ?_ ?_); rfl; intro _ _; go_simp) | ((with_reducible refine wpTxt_sw ?_ ?_); rfl; intro _ _; go_simp) | (with_reducible refine wpTxt_nil ?_) | ((with_reducible refine wp_region_t mixed ?_ ?_); decide +kernel; intro _ _) | (go_at_call 147; ((with_reducible refine (rLetter_any _ _).mono ?_); rintro e w' ⟨rfl, rfl⟩)) | (go_at_call 148; ((with_reducible refine (rDigit_any _ _).mono ?_); rintro e w' ⟨rfl, rfl⟩)))
          go_ret
          refine ⟨ret_bool ?_, rfl⟩
          have := HK.out
          subst this
          cases hd : dgB s[0]
          · exact (nameB_bad s 0 hlt (by unfold nmB; unfold bi; rw [hl2]; exact hd)).symm
          · exact (nameB_dig s hlt hd).symm
        · have hk0b : ((k : Int) == 0) = false := by simp; omega
          by_cases hg : digB (s[k].toNat : Int) = true
          · go_wp2_with (first | ((with_reducible refine wpTxt_q ?_ ?_ ?_); rfl; rfl; intro _ _) | ((with_reducible refine wpTxt_w0 ?_ ?_ ?_); rfl; rfl; intro _ _) | ((with_reducible refine wpTxt_s ?_ ?_); rfl; intro _ _; go_simp) | ((with_reducible refine wpTxt_sw ?_ ?_); rfl; intro _ _; go_simp) | (with_reducible refine wpTxt_nil ?_) | ((with_reducible refine wp_region_t mixed ?_ ?_); decide +kernel; intro _ _) | (go_at_call 147; ((with_reducible refine (rLetter_any _ _).mono ?_); rintro e w' ⟨rfl, rfl⟩)) | (go_at_call 148; ((with_reducible refine (rDigit_any _ _).mono ?_); rintro e w' ⟨rfl, rfl⟩)))
            go_round
            case rel => exact ⟨k + 1, by omega, by go_num, all_step s k hlt hall.out.1 (by simp [nmB, bi, hg]), fun h0 _ => hall.out.2 h0 (by omega)⟩
            case measure => simp [intOf]; omega
          · have hg2 : digB (s[k].toNat : Int) = false := by simpa using hg
            go_wp2_with (first | ((with_reducible refine wpTxt_q ?_ ?_ ?_); rfl; rfl; intro _ _) | ((with_reducible refine wpTxt_w0 ?_ ?_ ?_); rfl; rfl; intro _ _) | ((with_reducible refine wpTxt_s ?_ ?_); rfl; intro _ _; go_simp) | ((with_reducible refine wpTxt_sw ?_ ?_); rfl; intro _ _; go_simp) | (with_reducible refine wpTxt_nil ?_) | ((with_reducible refine wp_region_t mixed ?_ ?_); decide +kernel; intro _ _) | (go_at_call 147; ((with_reducible refine (rLetter_any _ _).mono ?_); rintro e w' ⟨rfl, rfl⟩)) | (go_at_call 148; ((with_reducible refine (rDigit_any _ _).mono ?_); rintro e w' ⟨rfl, rfl⟩)))
            go_ret
            exact ⟨ret_bool (nameB_bad s k hlt (by simp [nmB, bi, hl2, hg2])).symm, rfl⟩
    · by_cases h0 : 0 < s.size
      · by_cases h32 : 32 < s.size
        · go_wp2
          go_ret
          exact ⟨ret_bool (by rw [nameB_long s h32]; simp; omega), rfl⟩
        · go_wp2
          go_ret
          exact ⟨ret_bool (by rw [nameB_ok s k h0 h32 (hall.out.2 h0 (by omega)) (by omega) hall.out.1]; simp; omega), rfl⟩
      · go_wp2
        go_ret
        exact ⟨ret_bool (by rw [isEmpty_no s h0]; simp [nameB]; try omega), rfl⟩
theorem ext_list (s : ByteArray) (f k : Nat) : (s.extract f k).toList = (s.data.toList.drop f).take (k - f) := by
  rw [bl]; simp [ByteArray.data_extract]
set_option maxHeartbeats 400000 in
theorem within_any (s ws : ByteArray) (hw : ws.size ≤ maxLen) (w : World) : Calls Tryz.prog 149 #[.string s, .string ws] w fun e w' => e = .returned (.bool (inWords s.data.toList ws.data.toList)) ∧ w = w' := by
  unfold maxLen at hw
  go_enter Tryz.func149, Tryz.ntmps149
  go_wp2_with (first | ((with_reducible refine wpTxt_q ?_ ?_ ?_); rfl; rfl; intro _ _) | ((with_reducible refine wpTxt_w0 ?_ ?_ ?_); rfl; rfl; intro _ _) | ((with_reducible refine wpTxt_s ?_ ?_); rfl; intro _ _; go_simp) | ((with_reducible refine wpTxt_sw ?_ ?_); rfl; intro _ _; go_simp) | (with_reducible refine wpTxt_nil ?_) | ((with_reducible refine wp_region_t mixed ?_ ?_); decide +kernel; intro _ _))
  go_loop [5, 6] (fun x i => ∃ f k : Nat, k ≤ ws.size ∧ f ≤ k ∧ x = .int .i64 f ∧ i = .int .i64 k ∧ Hid (inRest s.data.toList ws.data.toList f k = inWords s.data.toList ws.data.toList)) (fun _ i => ws.size - (intOf i).toNat)
  case atStart => exact ⟨0, 0, by omega, by omega, rfl, rfl, inRest_start _ _⟩
  case round =>
    obtain ⟨f, k, hk, hf, rfl, rfl, hall⟩ := hrel
    by_cases hlt : k < ws.size
    · by_cases hb : (ws[k].toNat : Int) = 32
      · have hbb : ((ws[k].toNat : Int) != 32) = false := by simpa using hb
        have hb2 : ws.data.toList[k]'(by rw [sz]; exact hlt) = 32 := by
          rw [at_ ws k hlt]; apply UInt8.toNat_inj.1; simp; omega
        have HB := Lib.hid hb2
        clear hb hb2
        have hL : k < ws.data.toList.length := by rw [sz]; exact hlt
        go_wp2
        · have h1 : (ws.extract f k).toList = s.toList := by assumption
          have h2 : (!s.toList.isEmpty) = true := by assumption
          go_ret
          refine ⟨ret_bool ?_, rfl⟩
          rw [← hall.out]
          rw [ext_list, bl] at h1
          rw [bl] at h2
          exact (inRest_hit _ _ f k hL HB.out h1 (by simpa using h2)).symm
        all_goals
          go_round
          case rel =>
            refine ⟨k + 1, k + 1, by omega, by omega, by go_num, by go_num, ?_⟩
            refine (inRest_miss _ _ f k hL HB.out ?_).symm.trans hall.out
            rintro ⟨h1, h2⟩
            rw [← ext_list, ← bl] at h1
            rw [← bl] at h2
            first
              | (have h3 : ¬ (ws.extract f k).toList = s.toList := by assumption
                 exact h3 h1)
              | (have h3 : (!s.toList.isEmpty) = false := by assumption
                 rw [h2] at h3; cases h3)
          case measure => simp [intOf]; omega
      · have hbb : ((ws[k].toNat : Int) != 32) = true := by simpa using hb
        have HB := Lib.hid hb
        clear hb
        go_wp2
        go_round
        case rel =>
          refine ⟨f, k + 1, by omega, by omega, rfl, by go_num, ?_⟩
          refine (inRest_other _ _ f k hf (by rw [sz]; exact hlt) ?_).symm.trans hall.out
          rw [at_ ws k hlt]
          intro h
          exact HB.out (by rw [h]; rfl)
        case measure => simp [intOf]; omega
    · go_wp2
      go_ret
      exact ⟨ret_bool (by rw [← hall.out, inRest_end]; rw [sz]; omega), rfl⟩
theorem inWords_kw (l ws : List UInt8) (h : words [] ws = kwList) : inWords l ws = kwB l := by
  unfold inWords kwB
  rw [h]
  cases l with
  | nil => decide
  | cons => simp
set_option maxHeartbeats 400000 in
set_option maxRecDepth 100000 in
theorem rKeyword_any (s : ByteArray) (w : World) : Calls Tryz.prog 95 #[.string s] w fun e w' => e = .returned (.bool (kwB s.data.toList)) ∧ w = w' := by
  go_enter Tryz.func95, Tryz.ntmps95
  go_wp2_with (first | (go_at_call 149; ((with_reducible refine (within_any _ _ ?_ _).mono ?_); (· decide +kernel); rintro e w' ⟨rfl, rfl⟩)))
  go_ret
  exact ⟨ret_bool (inWords_kw _ _ (by decide +kernel)), rfl⟩
theorem kw_in (s : ByteArray) (h : kwB s.data.toList = true) : s.toList = [109, 111, 100, 117, 108, 101] ∨ s.toList = [99, 108, 97, 115, 115] ∨ s.toList = [116, 121, 112, 101] ∨ s.toList = [97, 108, 105, 97, 115] ∨ s.toList = [116, 121, 112, 101, 97, 116, 116, 114, 105, 98, 117, 116, 101] ∨ s.toList = [97, 116, 116, 114, 105, 98, 117, 116, 101] ∨ s.toList = [114, 111, 108, 101] ∨ s.toList = [116, 121, 112, 101, 115] ∨ s.toList = [114, 111, 108, 101, 97, 108, 108, 111, 119] ∨ s.toList = [114, 111, 108, 101, 95, 116, 114, 97, 110, 115, 105, 116, 105, 111, 110] ∨ s.toList = [117, 115, 101, 114] ∨ s.toList = [114, 111, 108, 101, 115] ∨ s.toList = [108, 101, 118, 101, 108] ∨ s.toList = [114, 97, 110, 103, 101] ∨ s.toList = [98, 111, 111, 108] ∨ s.toList = [116, 114, 117, 101] ∨ s.toList = [102, 97, 108, 115, 101] ∨ s.toList = [115, 101, 110, 115, 105, 116, 105, 118, 105, 116, 121] ∨ s.toList = [99, 97, 116, 101, 103, 111, 114, 121] ∨ s.toList = [97, 108, 108, 111, 119] ∨ s.toList = [97, 117, 100, 105, 116, 97, 108, 108, 111, 119] ∨ s.toList = [100, 111, 110, 116, 97, 117, 100, 105, 116] ∨ s.toList = [110, 101, 118, 101, 114, 97, 108, 108, 111, 119] ∨ s.toList = [116, 121, 112, 101, 95, 116, 114, 97, 110, 115, 105, 116, 105, 111, 110] ∨ s.toList = [116, 121, 112, 101, 95, 99, 104, 97, 110, 103, 101] ∨ s.toList = [116, 121, 112, 101, 95, 109, 101, 109, 98, 101, 114] ∨ s.toList = [114, 97, 110, 103, 101, 95, 116, 114, 97, 110, 115, 105, 116, 105, 111, 110] ∨ s.toList = [99, 111, 110, 115, 116, 114, 97, 105, 110] ∨ s.toList = [118, 97, 108, 105, 100, 97, 116, 101, 116, 114, 97, 110, 115] ∨ s.toList = [105, 102] ∨ s.toList = [101, 108, 115, 101] ∨ s.toList = [111, 112, 116, 105, 111, 110, 97, 108] ∨ s.toList = [114, 101, 113, 117, 105, 114, 101] ∨ s.toList = [115, 105, 100] ∨ s.toList = [102, 105, 108, 101, 99, 111, 110] ∨ s.toList = [112, 101, 114, 109, 105, 115, 115, 105, 118, 101] ∨ s.toList = [97, 115, 115, 101, 114, 116] ∨ s.toList = [115, 101, 108, 102] ∨ s.toList = [105, 110] := by
  rw [bl]
  simpa [kwB, kwList] using h
theorem kw_out (s : ByteArray) (h : kwB s.data.toList = false) (x : List UInt8) (hx : x ∈ kwList) : (s.toList == x) = false := by
  rw [bl]
  cases he : s.data.toList == x
  · rfl
  · rw [beq_iff_eq] at he
    rw [← he] at hx
    have : kwB s.data.toList = true := by simpa [kwB] using hx
    rw [this] at h
    cases h
set_option maxHeartbeats 2000000 in
theorem tKeyword_any (s : ByteArray) (w : World) : Calls Tryz.prog 93 #[.string s] w fun e w' => e = .returned (.bool (kwB s.data.toList)) ∧ w = w' := by
  cases hk : kwB s.data.toList
  · have h0 := kw_out s hk [109, 111, 100, 117, 108, 101] (by decide +kernel)
    have h1 := kw_out s hk [99, 108, 97, 115, 115] (by decide +kernel)
    have h2 := kw_out s hk [116, 121, 112, 101] (by decide +kernel)
    have h3 := kw_out s hk [97, 108, 105, 97, 115] (by decide +kernel)
    have h4 := kw_out s hk [116, 121, 112, 101, 97, 116, 116, 114, 105, 98, 117, 116, 101] (by decide +kernel)
    have h5 := kw_out s hk [97, 116, 116, 114, 105, 98, 117, 116, 101] (by decide +kernel)
    have h6 := kw_out s hk [114, 111, 108, 101] (by decide +kernel)
    have h7 := kw_out s hk [116, 121, 112, 101, 115] (by decide +kernel)
    have h8 := kw_out s hk [114, 111, 108, 101, 97, 108, 108, 111, 119] (by decide +kernel)
    have h9 := kw_out s hk [114, 111, 108, 101, 95, 116, 114, 97, 110, 115, 105, 116, 105, 111, 110] (by decide +kernel)
    have h10 := kw_out s hk [117, 115, 101, 114] (by decide +kernel)
    have h11 := kw_out s hk [114, 111, 108, 101, 115] (by decide +kernel)
    have h12 := kw_out s hk [108, 101, 118, 101, 108] (by decide +kernel)
    have h13 := kw_out s hk [114, 97, 110, 103, 101] (by decide +kernel)
    have h14 := kw_out s hk [98, 111, 111, 108] (by decide +kernel)
    have h15 := kw_out s hk [116, 114, 117, 101] (by decide +kernel)
    have h16 := kw_out s hk [102, 97, 108, 115, 101] (by decide +kernel)
    have h17 := kw_out s hk [115, 101, 110, 115, 105, 116, 105, 118, 105, 116, 121] (by decide +kernel)
    have h18 := kw_out s hk [99, 97, 116, 101, 103, 111, 114, 121] (by decide +kernel)
    have h19 := kw_out s hk [97, 108, 108, 111, 119] (by decide +kernel)
    have h20 := kw_out s hk [97, 117, 100, 105, 116, 97, 108, 108, 111, 119] (by decide +kernel)
    have h21 := kw_out s hk [100, 111, 110, 116, 97, 117, 100, 105, 116] (by decide +kernel)
    have h22 := kw_out s hk [110, 101, 118, 101, 114, 97, 108, 108, 111, 119] (by decide +kernel)
    have h23 := kw_out s hk [116, 121, 112, 101, 95, 116, 114, 97, 110, 115, 105, 116, 105, 111, 110] (by decide +kernel)
    have h24 := kw_out s hk [116, 121, 112, 101, 95, 99, 104, 97, 110, 103, 101] (by decide +kernel)
    have h25 := kw_out s hk [116, 121, 112, 101, 95, 109, 101, 109, 98, 101, 114] (by decide +kernel)
    have h26 := kw_out s hk [114, 97, 110, 103, 101, 95, 116, 114, 97, 110, 115, 105, 116, 105, 111, 110] (by decide +kernel)
    have h27 := kw_out s hk [99, 111, 110, 115, 116, 114, 97, 105, 110] (by decide +kernel)
    have h28 := kw_out s hk [118, 97, 108, 105, 100, 97, 116, 101, 116, 114, 97, 110, 115] (by decide +kernel)
    have h29 := kw_out s hk [105, 102] (by decide +kernel)
    have h30 := kw_out s hk [101, 108, 115, 101] (by decide +kernel)
    have h31 := kw_out s hk [111, 112, 116, 105, 111, 110, 97, 108] (by decide +kernel)
    have h32 := kw_out s hk [114, 101, 113, 117, 105, 114, 101] (by decide +kernel)
    have h33 := kw_out s hk [115, 105, 100] (by decide +kernel)
    have h34 := kw_out s hk [102, 105, 108, 101, 99, 111, 110] (by decide +kernel)
    have h35 := kw_out s hk [112, 101, 114, 109, 105, 115, 115, 105, 118, 101] (by decide +kernel)
    have h36 := kw_out s hk [97, 115, 115, 101, 114, 116] (by decide +kernel)
    have h37 := kw_out s hk [115, 101, 108, 102] (by decide +kernel)
    have h38 := kw_out s hk [105, 110] (by decide +kernel)
    clear hk
    go_enter Tryz.func93, Tryz.ntmps93
    go_wp2_with fail
    go_ret
    exact ⟨rfl, rfl⟩
  · rcases kw_in s hk with h | h | h | h | h | h | h | h | h | h | h | h | h | h | h | h | h | h | h | h | h | h | h | h | h | h | h | h | h | h | h | h | h | h | h | h | h | h | h
    all_goals
      clear hk
      go_enter Tryz.func93, Tryz.ntmps93
      go_wp2_with fail
      go_ret
      exact ⟨rfl, rfl⟩
set_option maxHeartbeats 400000 in
theorem tIdentifier_any (s : ByteArray) (hs : s.size ≤ maxLen) (w : World) : Calls Tryz.prog 46 #[.string s] w fun e w' => e = .returned (.bool (nameB s.data.toList && !kwB s.data.toList)) ∧ w = w' := by
  cases hn : nameB s.data.toList
  all_goals
    go_enter Tryz.func46, Tryz.ntmps46
    go_wp2_with (first | (go_at_call 92; ((with_reducible refine (named_any _ (by assumption) _).mono ?_); rintro e w' ⟨rfl, rfl⟩)) | (go_at_call 93; ((with_reducible refine (tKeyword_any _ _).mono ?_); rintro e w' ⟨rfl, rfl⟩)))
    go_ret
    exact ⟨rfl, rfl⟩
set_option maxHeartbeats 400000 in
theorem rIdentifier_any (s : ByteArray) (hs : s.size ≤ maxLen) (w : World) : Calls Tryz.prog 48 #[.string s] w fun e w' => e = .returned (.bool (nameB s.data.toList && !kwB s.data.toList)) ∧ w = w' := by
  cases hn : nameB s.data.toList
  all_goals
    go_enter Tryz.func48, Tryz.ntmps48
    go_wp2_with (first | (go_at_call 94; ((with_reducible refine (rName_any _ (by assumption) _).mono ?_); rintro e w' ⟨rfl, rfl⟩)) | (go_at_call 95; ((with_reducible refine (rKeyword_any _ _).mono ?_); rintro e w' ⟨rfl, rfl⟩)))
    go_ret
    exact ⟨rfl, rfl⟩
end Go.Proofs.YtkcojiopjkllgaaGreatDoor
namespace Go.Proofs.YtkcojiopjkllgaaGreatDoor
namespace Am
open Tk
set_option maxRecDepth 100000
def idB (s : ByteArray) : Bool := nameB s.data.toList && !kwB s.data.toList
theorem ident_p (s : ByteArray) : Pure Tryz.prog 46 [.c (sS s)] (.c (sB (idB s))) :=
  Pure.of_calls (vs := [.string s]) Tryz.call46 (.sc rfl) fun hs w => tIdentifier_any s (of_decide_eq_true (hs _ (.head _))) w
section
variable {α : Type} {l : List α} {p : α → Bool} {j : Nat} {x : α}
theorem all_step (hx : l[j]? = some x) (ha : (l.take j).all p = true) (hp : p x = true) : (l.take (j + 1)).all p = true := by
  rw [List.take_add_one, hx, List.all_append, ha]; simp [hp]
theorem all_no (hx : l[j]? = some x) (hp : p x = false) : l.all p = false := by
  rw [Bool.eq_false_iff]; intro h
  have := List.all_eq_true.1 h x (List.mem_of_getElem? hx)
  rw [hp] at this; cases this
theorem all_end (ha : (l.take j).all p = true) (hj : l.length ≤ j) : l.all p = true := by rwa [List.take_of_length_le hj] at ha
end
theorem all_string_p {l : List ByteArray} {p : ByteArray → Bool} {f : Nat} (h : ∀ s ∈ l, Pure Tryz.prog f [.c (sS s)] (.c (sB (p s)))) : Pure Tryz.prog 108 [.c (strL l), .c (.fn f [])] (.c (sB (l.all p))) := by
  refine fn2 (fn := Tryz.f108) Tryz.call108 Tryz.func108 rfl Tryz.ntmps108 Tryz.results108 rfl (by first | rfl | simp [V.ok, okL, C.ok, okA, okV]) ?_
  refine AW.fact (t := 0) rfl (fun κ w x hr => repV_l hr) fun hn => ?_
  repeat' (first | (with_reducible first | apply AW.seq | apply AW.block | apply AW.scope | apply AW.skip | apply AW.ret | apply AW.exit | apply AW.label | apply q_then | apply q_thenR | apply q_thenE | apply q_bloN | apply q_bloR | apply q_bloE | apply q_strN | apply q_strR | apply q_strE | apply s_e | refine m_b rfl ?_ ?_ | refine m_g rfl ?_ | refine m_o rfl ?_ ?_ | refine v_reg ?_ | refine v_drw ?_ | refine v_rgl ?_ | refine v_drb ?_) | ((with_reducible apply i_dv); first | refine t_v AS.v ?_ | refine t_w AS.w ?_) | ((with_reducible apply i_dg); first | refine t_n ?_ | refine t_m (hs := fun hg => AS.v) (k := ?_) | refine t_f ?_) | ((with_reducible apply i_ds); first | refine t_s AS.s ?_) | ((with_reducible refine i_aw ?_); first | refine v_yes ?_ | refine v_no ?_ | (refine v_cond (fun hc => ?_) (fun hc => ?_); all_goals (try (exfalso; simp [*] at hc; done)); all_goals (try (exfalso; revert hc; simp; omega)))) | ((with_reducible refine i_rt ?_); first | refine k_b ?_ | refine k_s ?_ | refine k_i ?_ | refine k_v ?_ | refine k_c ?_ | exact r_0 | exact r_0n | ((first | refine k_2 ?_ ?_ | refine k_2c ?_ ?_); all_goals (with_reducible (first | apply un_b | apply un_i | apply un_s | apply un_a)))) | ((with_reducible apply al_id); dsimp only [List.append]) | (refine q_bloX rfl ?_) | (refine ⟨by decide +kernel, ?_⟩) | fail)
  refine AW.loop (fun n σ => ∃ j, n = l.length - j ∧ j ≤ l.length ∧ (l.take j).all p = true ∧ σ = mk [(1, .c (.fn f [])), (7, .c (.lst none 1 (l.map oneS))), (8, .c (sI (l.map oneS).length)), (9, .c (sI j))] []) l.length ?_ ?_
  · exact ⟨_, wk_mk (by (repeat (first | exact all_nil | ((refine all_cons ⟨_, rfl, .inl rfl, ?_⟩ ?_); (· (first | rfl | exact okRow rfl | (simp [V.ok, okL, C.ok, okA, HO.ok]; done) | (change okL _ _ = true; assumption)))))); done) (by (repeat (first | exact all_nil | ((refine all_cons ⟨_, rfl, .inl rfl, ?_⟩ ?_); (· (first | rfl | exact okRow rfl | (simp [V.ok, okL, C.ok, okA, HO.ok]; done) | (change okL _ _ = true; assumption)))))); done) (by exact fun h => h), 0, rfl, Nat.zero_le _, rfl, rfl⟩
  rintro n σ ⟨j, rfl, hj, ha, rfl⟩
  by_cases hlt : j < l.length
  · obtain ⟨x, hx⟩ : ∃ x, l[j]? = some x := ⟨_, List.getElem?_eq_getElem hlt⟩
    have hp := h x (List.mem_of_getElem? hx)
    repeat' (first | (with_reducible first | apply AW.seq | apply AW.block | apply AW.scope | apply AW.skip | apply AW.ret | apply AW.exit | apply AW.label | apply q_then | apply q_thenR | apply q_thenE | apply q_bloN | apply q_bloR | apply q_bloE | apply q_strN | apply q_strR | apply q_strE | apply s_e | refine m_b rfl ?_ ?_ | refine m_g rfl ?_ | refine m_o rfl ?_ ?_ | refine v_reg ?_ | refine v_drw ?_ | refine v_rgl ?_ | refine v_drb ?_) | ((with_reducible apply i_dv); first | refine t_v AS.v ?_ | refine t_v (by first | exact u_call (hP := hp)) ?_ | refine t_w AS.w ?_) | ((with_reducible apply i_dg); first | refine t_n ?_ | refine t_m (hs := fun hg => AS.v) (k := ?_) | refine t_m (hs := fun hg => (by first | exact u_call (hP := hp))) (k := ?_) | refine t_f ?_) | ((with_reducible apply i_ds); first | refine t_s AS.s ?_) | ((with_reducible refine i_aw ?_); first | refine v_yes ?_ | refine v_no ?_ | (refine v_cond (fun hc => ?_) (fun hc => ?_); all_goals (try (exfalso; simp [*] at hc; done)); all_goals (try (exfalso; revert hc; simp; omega)))) | ((with_reducible refine i_rt ?_); first | refine k_b ?_ | refine k_s ?_ | refine k_i ?_ | refine k_v ?_ | refine k_c ?_ | exact r_0 | exact r_0n | ((first | refine k_2 ?_ ?_ | refine k_2c ?_ ?_); all_goals (with_reducible (first | apply un_b | apply un_i | apply un_s | apply un_a)))) | ((with_reducible apply al_id); dsimp only [List.append]) | (refine q_bloX rfl ?_) | (refine ⟨by decide +kernel, ?_⟩) | fail)
    · rw [all_no hx (by simpa using hc)]
    · exact ⟨_, _, (show l.length - (j + 1) < l.length - j by omega), wk_mk (by (repeat (first | exact all_nil | ((refine all_cons ⟨_, rfl, .inl rfl, ?_⟩ ?_); (· (first | rfl | exact okRow rfl | (simp [V.ok, okL, C.ok, okA, HO.ok]; done) | (change okL _ _ = true; assumption)))))); done) (by (repeat (first | exact all_nil | ((refine all_cons ⟨_, rfl, .inl rfl, ?_⟩ ?_); (· (first | rfl | exact okRow rfl | (simp [V.ok, okL, C.ok, okA, HO.ok]; done) | (change okL _ _ = true; assumption)))))); done) (by exact fun h => h), j + 1, rfl, hlt, all_step hx ha (by simpa using hc), rfl⟩
  · repeat' (first | (with_reducible first | apply AW.seq | apply AW.block | apply AW.scope | apply AW.skip | apply AW.ret | apply AW.exit | apply AW.label | apply q_then | apply q_thenR | apply q_thenE | apply q_bloN | apply q_bloR | apply q_bloE | apply q_strN | apply q_strR | apply q_strE | apply s_e | refine m_b rfl ?_ ?_ | refine m_g rfl ?_ | refine m_o rfl ?_ ?_ | refine v_reg ?_ | refine v_drw ?_ | refine v_rgl ?_ | refine v_drb ?_) | ((with_reducible apply i_dv); first | refine t_v AS.v ?_ | refine t_w AS.w ?_) | ((with_reducible apply i_dg); first | refine t_n ?_ | refine t_m (hs := fun hg => AS.v) (k := ?_) | refine t_f ?_) | ((with_reducible apply i_ds); first | refine t_s AS.s ?_) | ((with_reducible refine i_aw ?_); first | refine v_yes ?_ | refine v_no ?_ | (refine v_cond (fun hc => ?_) (fun hc => ?_); all_goals (try (exfalso; simp [*] at hc; done)); all_goals (try (exfalso; revert hc; simp; omega)))) | ((with_reducible refine i_rt ?_); first | refine k_b ?_ | refine k_s ?_ | refine k_i ?_ | refine k_v ?_ | refine k_c ?_ | exact r_0 | exact r_0n | ((first | refine k_2 ?_ ?_ | refine k_2c ?_ ?_); all_goals (with_reducible (first | apply un_b | apply un_i | apply un_s | apply un_a)))) | ((with_reducible apply al_id); dsimp only [List.append]) | (refine q_bloX rfl ?_) | (refine ⟨by decide +kernel, ?_⟩) | fail)
    rw [all_end ha (by omega)]
theorem all_span_p {l : List Sp} {p : Sp → Bool} {f : Nat} (h : ∀ s ∈ l, Pure Tryz.prog f [.agg (spC s)] (.c (sB (p s)))) : Pure Tryz.prog 156 [.c (.lst none 2 (l.map spC)), .c (.fn f [])] (.c (sB (l.all p))) := by
  refine fn2 (fn := Tryz.f156) Tryz.call156 Tryz.func156 rfl Tryz.ntmps156 Tryz.results156 rfl (by first | rfl | simp [V.ok, okL, C.ok, okA, okV]) ?_
  refine AW.fact (t := 0) rfl (fun κ w x hr => repV_l hr) fun hn => ?_
  repeat' (first | (with_reducible first | apply AW.seq | apply AW.block | apply AW.scope | apply AW.skip | apply AW.ret | apply AW.exit | apply AW.label | apply q_then | apply q_thenR | apply q_thenE | apply q_bloN | apply q_bloR | apply q_bloE | apply q_strN | apply q_strR | apply q_strE | apply s_e | refine m_b rfl ?_ ?_ | refine m_g rfl ?_ | refine m_o rfl ?_ ?_ | refine v_reg ?_ | refine v_drw ?_ | refine v_rgl ?_ | refine v_drb ?_) | ((with_reducible apply i_dv); first | refine t_v AS.v ?_ | refine t_w AS.w ?_) | ((with_reducible apply i_dg); first | refine t_n ?_ | refine t_m (hs := fun hg => AS.v) (k := ?_) | refine t_f ?_) | ((with_reducible apply i_ds); first | refine t_s AS.s ?_) | ((with_reducible refine i_aw ?_); first | refine v_yes ?_ | refine v_no ?_ | (refine v_cond (fun hc => ?_) (fun hc => ?_); all_goals (try (exfalso; simp [*] at hc; done)); all_goals (try (exfalso; revert hc; simp; omega)))) | ((with_reducible refine i_rt ?_); first | refine k_b ?_ | refine k_s ?_ | refine k_i ?_ | refine k_v ?_ | refine k_c ?_ | exact r_0 | exact r_0n | ((first | refine k_2 ?_ ?_ | refine k_2c ?_ ?_); all_goals (with_reducible (first | apply un_b | apply un_i | apply un_s | apply un_a)))) | ((with_reducible apply al_id); dsimp only [List.append]) | (refine q_bloX rfl ?_) | (refine ⟨by decide +kernel, ?_⟩) | fail)
  refine AW.loop (fun n σ => ∃ j, n = l.length - j ∧ j ≤ l.length ∧ (l.take j).all p = true ∧ σ = mk [(1, .c (.fn f [])), (7, .c (.lst none 2 (l.map spC))), (8, .c (sI (l.map spC).length)), (9, .c (sI j))] []) l.length ?_ ?_
  · exact ⟨_, wk_mk (by (repeat (first | exact all_nil | ((refine all_cons ⟨_, rfl, .inl rfl, ?_⟩ ?_); (· (first | rfl | exact okRow rfl | (simp [V.ok, okL, C.ok, okA, HO.ok]; done) | (change okL _ _ = true; assumption)))))); done) (by (repeat (first | exact all_nil | ((refine all_cons ⟨_, rfl, .inl rfl, ?_⟩ ?_); (· (first | rfl | exact okRow rfl | (simp [V.ok, okL, C.ok, okA, HO.ok]; done) | (change okL _ _ = true; assumption)))))); done) (by exact fun h => h), 0, rfl, Nat.zero_le _, rfl, rfl⟩
  rintro n σ ⟨j, rfl, hj, ha, rfl⟩
  by_cases hlt : j < l.length
  · obtain ⟨x, hx⟩ : ∃ x, l[j]? = some x := ⟨_, List.getElem?_eq_getElem hlt⟩
    have hp := h x (List.mem_of_getElem? hx)
    repeat' (first | (with_reducible first | apply AW.seq | apply AW.block | apply AW.scope | apply AW.skip | apply AW.ret | apply AW.exit | apply AW.label | apply q_then | apply q_thenR | apply q_thenE | apply q_bloN | apply q_bloR | apply q_bloE | apply q_strN | apply q_strR | apply q_strE | apply s_e | refine m_b rfl ?_ ?_ | refine m_g rfl ?_ | refine m_o rfl ?_ ?_ | refine v_reg ?_ | refine v_drw ?_ | refine v_rgl ?_ | refine v_drb ?_) | ((with_reducible apply i_dv); first | refine t_v AS.v ?_ | refine t_v (by first | exact u_call (hP := hp)) ?_ | refine t_w AS.w ?_) | ((with_reducible apply i_dg); first | refine t_n ?_ | refine t_m (hs := fun hg => AS.v) (k := ?_) | refine t_m (hs := fun hg => (by first | exact u_call (hP := hp))) (k := ?_) | refine t_f ?_) | ((with_reducible apply i_ds); first | refine t_s AS.s ?_) | ((with_reducible refine i_aw ?_); first | refine v_yes ?_ | refine v_no ?_ | (refine v_cond (fun hc => ?_) (fun hc => ?_); all_goals (try (exfalso; simp [*] at hc; done)); all_goals (try (exfalso; revert hc; simp; omega)))) | ((with_reducible refine i_rt ?_); first | refine k_b ?_ | refine k_s ?_ | refine k_i ?_ | refine k_v ?_ | refine k_c ?_ | exact r_0 | exact r_0n | ((first | refine k_2 ?_ ?_ | refine k_2c ?_ ?_); all_goals (with_reducible (first | apply un_b | apply un_i | apply un_s | apply un_a)))) | ((with_reducible apply al_id); dsimp only [List.append]) | (refine q_bloX rfl ?_) | (refine ⟨by decide +kernel, ?_⟩) | fail)
    · rw [all_no hx (by simpa using hc)]
    · exact ⟨_, _, (show l.length - (j + 1) < l.length - j by omega), wk_mk (by (repeat (first | exact all_nil | ((refine all_cons ⟨_, rfl, .inl rfl, ?_⟩ ?_); (· (first | rfl | exact okRow rfl | (simp [V.ok, okL, C.ok, okA, HO.ok]; done) | (change okL _ _ = true; assumption)))))); done) (by (repeat (first | exact all_nil | ((refine all_cons ⟨_, rfl, .inl rfl, ?_⟩ ?_); (· (first | rfl | exact okRow rfl | (simp [V.ok, okL, C.ok, okA, HO.ok]; done) | (change okL _ _ = true; assumption)))))); done) (by exact fun h => h), j + 1, rfl, hlt, all_step hx ha (by simpa using hc), rfl⟩
  · repeat' (first | (with_reducible first | apply AW.seq | apply AW.block | apply AW.scope | apply AW.skip | apply AW.ret | apply AW.exit | apply AW.label | apply q_then | apply q_thenR | apply q_thenE | apply q_bloN | apply q_bloR | apply q_bloE | apply q_strN | apply q_strR | apply q_strE | apply s_e | refine m_b rfl ?_ ?_ | refine m_g rfl ?_ | refine m_o rfl ?_ ?_ | refine v_reg ?_ | refine v_drw ?_ | refine v_rgl ?_ | refine v_drb ?_) | ((with_reducible apply i_dv); first | refine t_v AS.v ?_ | refine t_w AS.w ?_) | ((with_reducible apply i_dg); first | refine t_n ?_ | refine t_m (hs := fun hg => AS.v) (k := ?_) | refine t_f ?_) | ((with_reducible apply i_ds); first | refine t_s AS.s ?_) | ((with_reducible refine i_aw ?_); first | refine v_yes ?_ | refine v_no ?_ | (refine v_cond (fun hc => ?_) (fun hc => ?_); all_goals (try (exfalso; simp [*] at hc; done)); all_goals (try (exfalso; revert hc; simp; omega)))) | ((with_reducible refine i_rt ?_); first | refine k_b ?_ | refine k_s ?_ | refine k_i ?_ | refine k_v ?_ | refine k_c ?_ | exact r_0 | exact r_0n | ((first | refine k_2 ?_ ?_ | refine k_2c ?_ ?_); all_goals (with_reducible (first | apply un_b | apply un_i | apply un_s | apply un_a)))) | ((with_reducible apply al_id); dsimp only [List.append]) | (refine q_bloX rfl ?_) | (refine ⟨by decide +kernel, ?_⟩) | fail)
    rw [all_end ha (by omega)]
def blankL (l : Lv) : Bool := decide (l.sens = ⟨#[]⟩) && decide (l.cats.length = 0)
theorem blank_p (l : Lv) : Pure Tryz.prog 120 [.agg (lvC l)] (.c (sB (blankL l))) := by
  refine fn1 (fn := Tryz.f120) Tryz.call120 Tryz.func120 rfl Tryz.ntmps120 Tryz.results120 rfl (by first | rfl | simp [V.ok, okL, C.ok, okA, okV]) ?_
  repeat' (first | (with_reducible first | apply AW.seq | apply AW.block | apply AW.scope | apply AW.skip | apply AW.ret | apply AW.exit | apply AW.label | apply q_then | apply q_thenR | apply q_thenE | apply q_bloN | apply q_bloR | apply q_bloE | apply q_strN | apply q_strR | apply q_strE | apply s_e | refine m_b rfl ?_ ?_ | refine m_g rfl ?_ | refine m_o rfl ?_ ?_ | refine v_reg ?_ | refine v_drw ?_ | refine v_rgl ?_ | refine v_drb ?_) | ((with_reducible apply i_dv); first | refine t_v AS.v ?_ | refine t_w AS.w ?_) | ((with_reducible apply i_dg); first | refine t_n ?_ | refine t_m (hs := fun hg => AS.v) (k := ?_) | refine t_f ?_) | ((with_reducible apply i_ds); first | refine t_s AS.s ?_) | ((with_reducible refine i_aw ?_); first | refine v_yes ?_ | refine v_no ?_ | (refine v_cond (fun hc => ?_) (fun hc => ?_); all_goals (try (exfalso; simp [*] at hc; done)); all_goals (try (exfalso; revert hc; simp; omega)))) | ((with_reducible refine i_rt ?_); first | refine k_b ?_ | refine k_s ?_ | refine k_i ?_ | refine k_v ?_ | refine k_c ?_ | exact r_0 | exact r_0n | ((first | refine k_2 ?_ ?_ | refine k_2c ?_ ?_); all_goals (with_reducible (first | apply un_b | apply un_i | apply un_s | apply un_a)))) | ((with_reducible apply al_id); dsimp only [List.append]) | (refine q_bloX rfl ?_) | (refine ⟨by decide +kernel, ?_⟩) | fail)
  simp [blankL]
def someB (l : List ByteArray) : Bool := decide (0 < l.length) && l.all idB
theorem some_p (l : List ByteArray) : Pure Tryz.prog 127 [.c (strL l)] (.c (sB (someB l))) := by
  refine fn1 (fn := Tryz.f127) Tryz.call127 Tryz.func127 rfl Tryz.ntmps127 Tryz.results127 rfl (by first | rfl | simp [V.ok, okL, C.ok, okA, okV]) ?_
  repeat' (first | (with_reducible first | apply AW.seq | apply AW.block | apply AW.scope | apply AW.skip | apply AW.ret | apply AW.exit | apply AW.label | apply q_then | apply q_thenR | apply q_thenE | apply q_bloN | apply q_bloR | apply q_bloE | apply q_strN | apply q_strR | apply q_strE | apply s_e | refine m_b rfl ?_ ?_ | refine m_g rfl ?_ | refine m_o rfl ?_ ?_ | refine v_reg ?_ | refine v_drw ?_ | refine v_rgl ?_ | refine v_drb ?_) | ((with_reducible apply i_dv); first | refine t_v AS.v ?_ | refine t_v (by first | exact u_call (hP := all_string_p fun s _ => ident_p s)) ?_ | refine t_w AS.w ?_) | ((with_reducible apply i_dg); first | refine t_n ?_ | refine t_m (hs := fun hg => AS.v) (k := ?_) | refine t_m (hs := fun hg => (by first | exact u_call (hP := all_string_p fun s _ => ident_p s))) (k := ?_) | refine t_f ?_) | ((with_reducible apply i_ds); first | refine t_s AS.s ?_) | ((with_reducible refine i_aw ?_); first | refine v_yes ?_ | refine v_no ?_ | (refine v_cond (fun hc => ?_) (fun hc => ?_); all_goals (try (exfalso; simp [*] at hc; done)); all_goals (try (exfalso; revert hc; simp; omega)))) | ((with_reducible refine i_rt ?_); first | refine k_b ?_ | refine k_s ?_ | refine k_i ?_ | refine k_v ?_ | refine k_c ?_ | exact r_0 | exact r_0n | ((first | refine k_2 ?_ ?_ | refine k_2c ?_ ?_); all_goals (with_reducible (first | apply un_b | apply un_i | apply un_s | apply un_a)))) | ((with_reducible apply al_id); dsimp only [List.append]) | (refine q_bloX rfl ?_) | (refine ⟨by decide +kernel, ?_⟩) | fail)
  simp [someB]
def namedB (n : NS) (self : Bool) : Bool := !(n.self && !self) && ((n.all || n.self || decide (0 < n.names.length) || decide (0 < n.except.length)) && n.names.all idB && n.except.all idB)
theorem named_p (n : NS) (self : Bool) : Pure Tryz.prog 57 [.agg (nsC n), .c (sB self)] (.c (sB (namedB n self))) := by
  refine fn2 (fn := Tryz.f57) Tryz.call57 Tryz.func57 rfl Tryz.ntmps57 Tryz.results57 rfl (by first | rfl | simp [V.ok, okL, C.ok, okA, okV]) ?_
  repeat' (first | (with_reducible first | apply AW.seq | apply AW.block | apply AW.scope | apply AW.skip | apply AW.ret | apply AW.exit | apply AW.label | apply q_then | apply q_thenR | apply q_thenE | apply q_bloN | apply q_bloR | apply q_bloE | apply q_strN | apply q_strR | apply q_strE | apply s_e | refine m_b rfl ?_ ?_ | refine m_g rfl ?_ | refine m_o rfl ?_ ?_ | refine v_reg ?_ | refine v_drw ?_ | refine v_rgl ?_ | refine v_drb ?_) | ((with_reducible apply i_dv); first | refine t_v AS.v ?_ | refine t_v (by first | exact u_call (hP := all_string_p fun s _ => ident_p s)) ?_ | refine t_w AS.w ?_) | ((with_reducible apply i_dg); first | refine t_n ?_ | refine t_m (hs := fun hg => AS.v) (k := ?_) | refine t_m (hs := fun hg => (by first | exact u_call (hP := all_string_p fun s _ => ident_p s))) (k := ?_) | refine t_f ?_) | ((with_reducible apply i_ds); first | refine t_s AS.s ?_) | ((with_reducible refine i_aw ?_); first | refine v_yes ?_ | refine v_no ?_ | (refine v_cond (fun hc => ?_) (fun hc => ?_); all_goals (try (exfalso; simp [*] at hc; done)); all_goals (try (exfalso; revert hc; simp; omega)))) | ((with_reducible refine i_rt ?_); first | refine k_b ?_ | refine k_s ?_ | refine k_i ?_ | refine k_v ?_ | refine k_c ?_ | exact r_0 | exact r_0n | ((first | refine k_2 ?_ ?_ | refine k_2c ?_ ?_); all_goals (with_reducible (first | apply un_b | apply un_i | apply un_s | apply un_a)))) | ((with_reducible apply al_id); dsimp only [List.append]) | (refine q_bloX rfl ?_) | (refine ⟨by decide +kernel, ?_⟩) | fail)
  · simp_all [namedB]
  · revert hc
    simp [namedB]
    cases n.self <;> cases self <;> simp
def spB (s : Sp) : Bool := idB s.frm && (decide (s.to = ⟨#[]⟩) || idB s.to)
theorem leveled1_p (s : Sp) : Pure Tryz.prog 157 [.agg (spC s)] (.c (sB (spB s))) := by
  refine fn1 (fn := Tryz.f157) Tryz.call157 Tryz.func157 rfl Tryz.ntmps157 Tryz.results157 rfl (by first | rfl | simp [V.ok, okL, C.ok, okA, okV]) ?_
  repeat' (first | (with_reducible first | apply AW.seq | apply AW.block | apply AW.scope | apply AW.skip | apply AW.ret | apply AW.exit | apply AW.label | apply q_then | apply q_thenR | apply q_thenE | apply q_bloN | apply q_bloR | apply q_bloE | apply q_strN | apply q_strR | apply q_strE | apply s_e | refine m_b rfl ?_ ?_ | refine m_g rfl ?_ | refine m_o rfl ?_ ?_ | refine v_reg ?_ | refine v_drw ?_ | refine v_rgl ?_ | refine v_drb ?_) | ((with_reducible apply i_dv); first | refine t_v AS.v ?_ | refine t_v (by first | exact u_call (hP := ident_p _)) ?_ | refine t_w AS.w ?_) | ((with_reducible apply i_dg); first | refine t_n ?_ | refine t_m (hs := fun hg => AS.v) (k := ?_) | refine t_m (hs := fun hg => (by first | exact u_call (hP := ident_p _))) (k := ?_) | refine t_f ?_) | ((with_reducible apply i_ds); first | refine t_s AS.s ?_) | ((with_reducible refine i_aw ?_); first | refine v_yes ?_ | refine v_no ?_ | (refine v_cond (fun hc => ?_) (fun hc => ?_); all_goals (try (exfalso; simp [*] at hc; done)); all_goals (try (exfalso; revert hc; simp; omega)))) | ((with_reducible refine i_rt ?_); first | refine k_b ?_ | refine k_s ?_ | refine k_i ?_ | refine k_v ?_ | refine k_c ?_ | exact r_0 | exact r_0n | ((first | refine k_2 ?_ ?_ | refine k_2c ?_ ?_); all_goals (with_reducible (first | apply un_b | apply un_i | apply un_s | apply un_a)))) | ((with_reducible apply al_id); dsimp only [List.append]) | (refine q_bloX rfl ?_) | (refine ⟨by decide +kernel, ?_⟩) | fail)
  simp [spB]
def lvB (l : Lv) : Bool := idB l.sens && l.cats.all spB
theorem leveled_p (l : Lv) : Pure Tryz.prog 119 [.agg (lvC l)] (.c (sB (lvB l))) := by
  refine fn1 (fn := Tryz.f119) Tryz.call119 Tryz.func119 rfl Tryz.ntmps119 Tryz.results119 rfl (by first | rfl | simp [V.ok, okL, C.ok, okA, okV]) ?_
  repeat' (first | (with_reducible first | apply AW.seq | apply AW.block | apply AW.scope | apply AW.skip | apply AW.ret | apply AW.exit | apply AW.label | apply q_then | apply q_thenR | apply q_thenE | apply q_bloN | apply q_bloR | apply q_bloE | apply q_strN | apply q_strR | apply q_strE | apply s_e | refine m_b rfl ?_ ?_ | refine m_g rfl ?_ | refine m_o rfl ?_ ?_ | refine v_reg ?_ | refine v_drw ?_ | refine v_rgl ?_ | refine v_drb ?_) | ((with_reducible apply i_dv); first | refine t_v AS.v ?_ | refine t_v (by first | exact u_call (hP := ident_p _) | exact u_call (hP := all_span_p fun s _ => leveled1_p s)) ?_ | refine t_w AS.w ?_) | ((with_reducible apply i_dg); first | refine t_n ?_ | refine t_m (hs := fun hg => AS.v) (k := ?_) | refine t_m (hs := fun hg => (by first | exact u_call (hP := ident_p _) | exact u_call (hP := all_span_p fun s _ => leveled1_p s))) (k := ?_) | refine t_f ?_) | ((with_reducible apply i_ds); first | refine t_s AS.s ?_) | ((with_reducible refine i_aw ?_); first | refine v_yes ?_ | refine v_no ?_ | (refine v_cond (fun hc => ?_) (fun hc => ?_); all_goals (try (exfalso; simp [*] at hc; done)); all_goals (try (exfalso; revert hc; simp; omega)))) | ((with_reducible refine i_rt ?_); first | refine k_b ?_ | refine k_s ?_ | refine k_i ?_ | refine k_v ?_ | refine k_c ?_ | exact r_0 | exact r_0n | ((first | refine k_2 ?_ ?_ | refine k_2c ?_ ?_); all_goals (with_reducible (first | apply un_b | apply un_i | apply un_s | apply un_a)))) | ((with_reducible apply al_id); dsimp only [List.append]) | (refine q_bloX rfl ?_) | (refine ⟨by decide +kernel, ?_⟩) | fail)
  simp [lvB]
def rgB (r : Rg) : Bool := lvB r.lo && (blankL r.hi || lvB r.hi)
theorem ranged_p (r : Rg) : Pure Tryz.prog 65 [.agg (rgC r)] (.c (sB (rgB r))) := by
  refine fn1 (fn := Tryz.f65) Tryz.call65 Tryz.func65 rfl Tryz.ntmps65 Tryz.results65 rfl (by first | rfl | simp [V.ok, okL, C.ok, okA, okV]) ?_
  repeat' (first | (with_reducible first | apply AW.seq | apply AW.block | apply AW.scope | apply AW.skip | apply AW.ret | apply AW.exit | apply AW.label | apply q_then | apply q_thenR | apply q_thenE | apply q_bloN | apply q_bloR | apply q_bloE | apply q_strN | apply q_strR | apply q_strE | apply s_e | refine m_b rfl ?_ ?_ | refine m_g rfl ?_ | refine m_o rfl ?_ ?_ | refine v_reg ?_ | refine v_drw ?_ | refine v_rgl ?_ | refine v_drb ?_) | ((with_reducible apply i_dv); first | refine t_v AS.v ?_ | refine t_v (by first | exact u_call (hP := leveled_p _) | exact u_call (hP := blank_p _)) ?_ | refine t_w AS.w ?_) | ((with_reducible apply i_dg); first | refine t_n ?_ | refine t_m (hs := fun hg => AS.v) (k := ?_) | refine t_m (hs := fun hg => (by first | exact u_call (hP := leveled_p _) | exact u_call (hP := blank_p _))) (k := ?_) | refine t_f ?_) | ((with_reducible apply i_ds); first | refine t_s AS.s ?_) | ((with_reducible refine i_aw ?_); first | refine v_yes ?_ | refine v_no ?_ | (refine v_cond (fun hc => ?_) (fun hc => ?_); all_goals (try (exfalso; simp [*] at hc; done)); all_goals (try (exfalso; revert hc; simp; omega)))) | ((with_reducible refine i_rt ?_); first | refine k_b ?_ | refine k_s ?_ | refine k_i ?_ | refine k_v ?_ | refine k_c ?_ | exact r_0 | exact r_0n | ((first | refine k_2 ?_ ?_ | refine k_2c ?_ ?_); all_goals (with_reducible (first | apply un_b | apply un_i | apply un_s | apply un_a)))) | ((with_reducible apply al_id); dsimp only [List.append]) | (refine q_bloX rfl ?_) | (refine ⟨by decide +kernel, ?_⟩) | fail)
  simp [rgB]
def cxB (c : Ct) : Bool := idB c.user && idB c.role && idB c.type && rgB c.rng
theorem contextual_p (c : Ct) : Pure Tryz.prog 69 [.agg (cxC c)] (.c (sB (cxB c))) := by
  refine fn1 (fn := Tryz.f69) Tryz.call69 Tryz.func69 rfl Tryz.ntmps69 Tryz.results69 rfl (by first | rfl | simp [V.ok, okL, C.ok, okA, okV]) ?_
  repeat' (first | (with_reducible first | apply AW.seq | apply AW.block | apply AW.scope | apply AW.skip | apply AW.ret | apply AW.exit | apply AW.label | apply q_then | apply q_thenR | apply q_thenE | apply q_bloN | apply q_bloR | apply q_bloE | apply q_strN | apply q_strR | apply q_strE | apply s_e | refine m_b rfl ?_ ?_ | refine m_g rfl ?_ | refine m_o rfl ?_ ?_ | refine v_reg ?_ | refine v_drw ?_ | refine v_rgl ?_ | refine v_drb ?_) | ((with_reducible apply i_dv); first | refine t_v AS.v ?_ | refine t_v (by first | exact u_call (hP := ident_p _) | exact u_call (hP := ranged_p _)) ?_ | refine t_w AS.w ?_) | ((with_reducible apply i_dg); first | refine t_n ?_ | refine t_m (hs := fun hg => AS.v) (k := ?_) | refine t_m (hs := fun hg => (by first | exact u_call (hP := ident_p _) | exact u_call (hP := ranged_p _))) (k := ?_) | refine t_f ?_) | ((with_reducible apply i_ds); first | refine t_s AS.s ?_) | ((with_reducible refine i_aw ?_); first | refine v_yes ?_ | refine v_no ?_ | (refine v_cond (fun hc => ?_) (fun hc => ?_); all_goals (try (exfalso; simp [*] at hc; done)); all_goals (try (exfalso; revert hc; simp; omega)))) | ((with_reducible refine i_rt ?_); first | refine k_b ?_ | refine k_s ?_ | refine k_i ?_ | refine k_v ?_ | refine k_c ?_ | exact r_0 | exact r_0n | ((first | refine k_2 ?_ ?_ | refine k_2c ?_ ?_); all_goals (with_reducible (first | apply un_b | apply un_i | apply un_s | apply un_a)))) | ((with_reducible apply al_id); dsimp only [List.append]) | (refine q_bloX rfl ?_) | (refine ⟨by decide +kernel, ?_⟩) | fail)
  simp [cxB]
end Am
namespace Am
set_option maxRecDepth 100000
set_option maxHeartbeats 1000000
theorem strC_app (a b : ByteArray) : Lib.strCells (a ++ b) = Lib.strCells a ++ Lib.strCells b := by
  simp [Lib.strCells, ByteArray.data_append]
theorem mc_wrote {f : FuncId} (hc : Callable Tryz.prog f) {us : List V} {r : V} {s s' : ByteArray}
    (h : ∀ (w : World) (S : Nat → Nat → Prop) (μ : Nat) (p v : Value) (vs : Array Value), Blk w μ 71 #[p, v] → (p = .pointer none ∨ p = .pointer (some ⟨μ, 0, none⟩)) → w.ownsRow 0 5 1 v (Lib.strCells s).length (Lib.strCells s) → v.ownBlock ≠ some μ → RepVs (bareK S) w us vs.toList →
      Calls Tryz.prog f (#[.pointer (some ⟨μ, 0, none⟩)] ++ vs) w fun e w' => ∃ x, e = .returned x ∧ RepV (bareK S) w' r x ∧ ∃ p' v', (p' = .pointer none ∨ p' = .pointer (some ⟨μ, 0, none⟩)) ∧ Blk w' μ 71 #[p', v'] ∧ w'.ownsRow 0 5 1 v' (Lib.strCells s').length (Lib.strCells s') ∧
        (∀ g, v'.ownBlock = some g → (v.ownBlock = some g ∨ w.heap.size ≤ g) ∧ g < w'.heap.size ∧ g ≠ μ) ∧ Keep (μ :: v.ownBlock.toList) w w') : MC Tryz.prog f (bldS s) us r (bldS s') := by
  refine ⟨hc, fun w S μ B vs _ _ hS hSB hO hv => ?_⟩
  obtain ⟨p, v, k1, k2, k3, k4, k5, k6⟩ := hO
  have k4 : v.ownBlock = B := k4
  subst k4
  refine (h w S μ p v vs k1 k2 k3 (fun e => (k5 μ e).2 rfl) hv).mono ?_
  rintro e w' ⟨x, rfl, hr, p', v', hp', hb', hown', hg, hk⟩
  refine ⟨x, S, v'.ownBlock, rfl, hk, fun _ _ h => h, fun _ _ h _ => h, fun g i hs => Nat.lt_of_lt_of_le (hS g i hs) hk.size, ⟨p', v', hb', hp', hown', rfl, fun b hb => ⟨(hg b hb).2.1, (hg b hb).2.2⟩, fun b hb => ?_⟩, hr⟩
  rcases hb with hb | hb
  · have hb : b = μ := hb
    subst hb
    exact ⟨fun i hs => hSB b i hs (.head _), .inl (.head _)⟩
  · rcases (hg b hb).1 with h1 | h1
    · have hm : b ∈ μ :: v.ownBlock.toList := by rw [h1]; simp
      exact ⟨fun i hs => hSB b i hs hm, .inl hm⟩
    · exact ⟨fun i hs => by have := hS b i hs; omega, .inr h1⟩
theorem args1 {S : Nat → Nat → Prop} {w : World} {v : Value} {vs : Array Value} (h : RepVs (bareK S) w [.c (.sc v)] vs.toList) : vs = #[v] := by
  apply Array.ext'
  match hl : vs.toList, h with
  | [x], h =>
    have := h.2 0 _ x rfl rfl
    cases this with | c h => cases h; rfl
  | [], h => exact absurd h.1 (by simp)
  | _ :: _ :: _, h => exact absurd h.1 (by simp)
theorem args0 {S : Nat → Nat → Prop} {w : World} {vs : Array Value} (h : RepVs (bareK S) w [] vs.toList) : vs = #[] := by
  apply Array.ext'
  match hl : vs.toList, h with
  | [], h => rfl
  | _ :: _, h => exact absurd h.1 (by simp)
theorem wStr_m {s t : ByteArray} (h : s.size + t.size ≤ 140737488355328) : MC Tryz.prog 76 (bldS s) [.c (sS t)] (.tup [.c (sI t.size), .c (.sc .nilIface)]) (bldS (s ++ t)) := by
  refine mc_wrote Tryz.call76 fun w S μ p v vs k1 k2 k3 k4 hv => ?_
  rw [args1 hv]
  refine (bWriteString_k μ _ t w k1 k2 k3 k4 (by rw [Lib.strCells_length]; exact h)).mono ?_
  rintro e w' ⟨rfl, v', h1, h2, h3, h4⟩
  rw [← strC_app] at h2
  refine ⟨_, rfl, .tup rfl fun j x u hx hu => ?_, _, v', .inr rfl, h1, h2, h3, h4⟩
  match j, hx, hu with
  | 0, hx, hu => injection hx with hx; injection hu with hu; subst hx hu; exact .c (.sc rfl)
  | 1, hx, hu => injection hx with hx; injection hu with hu; subst hx hu; exact .c (.sc rfl)
theorem wByte_m {s : ByteArray} {n : Int} (c : UInt8) (hc : n = c.toNat) (h : s.size + 1 ≤ 140737488355328) : MC Tryz.prog 75 (bldS s) [.c (.sc (.int .u8 n))] (.c (.sc .nilIface)) (bldS (s ++ ⟨#[c]⟩)) := by
  subst hc
  refine mc_wrote Tryz.call75 fun w S μ p v vs k1 k2 k3 k4 hv => ?_
  rw [args1 hv]
  refine (bWriteByte_k μ _ c.toNat w k1 k2 k3 k4 (by rw [Lib.strCells_length]; exact h)).mono ?_
  rintro e w' ⟨rfl, v', h1, h2, h3, h4⟩
  have e1 : Lib.strCells s ++ [.int .u8 c.toNat] = Lib.strCells (s ++ ⟨#[c]⟩) := by rw [strC_app]; rfl
  rw [e1] at h2
  exact ⟨_, rfl, .c (.sc rfl), _, v', .inr rfl, h1, h2, h3, h4⟩
theorem wLen_m {s : ByteArray} : MC Tryz.prog 36 (bldS s) [] (.c (sI s.size)) (bldS s) := by
  refine mc_wrote Tryz.call36 fun w S μ p v vs k1 k2 k3 k4 hv => ?_
  rw [args0 hv]
  refine (bLen_k μ _ w k1 k3).mono ?_
  rintro e w' ⟨rfl, rfl⟩
  exact ⟨_, rfl, by rw [Lib.strCells_length]; exact .c (.sc rfl), p, v, k2, k1, k3, fun g hg => ⟨.inl hg, (k3.lt g hg).2, fun e => k4 (e ▸ hg)⟩, Keep.refl _ _⟩
theorem wText_m {s : ByteArray} (hs : s.size ≤ 9223372036854775807) : MC Tryz.prog 37 (bldS s) [] (.c (sS s)) .gone := by
  refine ⟨Tryz.call37, fun w S μ B vs _ _ hS hSB hO hv => ?_⟩
  obtain ⟨p, v, k1, k2, k3, k4, k5, k6⟩ := hO
  have k4 : v.ownBlock = B := k4
  subst k4
  rw [args0 hv]
  rw [Lib.strCells_length] at k3
  refine (bString_k μ s w k1 k3).mono ?_
  rintro e w' ⟨rfl, hk⟩
  exact ⟨_, S, none, rfl, hk.trans (Keep.refl [] w') (fun x hx => by cases hx) |> fun k => ⟨k.os, k.tape, k.output, k.size, fun i hi hn => k.block i hi fun hm => hn (.tail _ hm)⟩, fun _ _ h => h, fun _ _ h _ => h, fun g i hs => Nat.lt_of_lt_of_le (hS g i hs) hk.size,
    ⟨Nat.lt_of_lt_of_le (Blk.lt k1) hk.size, fun i hs => hSB μ i hs (.head _), .inl (.head _)⟩, .c (.sc (decide_eq_true hs))⟩
end Am
namespace Am
set_option maxRecDepth 100000
set_option maxHeartbeats 1000000
def tlB (sep : ByteArray) : List ByteArray → ByteArray
  | [] => ⟨#[]⟩
  | x :: l => sep ++ x ++ tlB sep l
def sepB (sep : ByteArray) : List ByteArray → ByteArray
  | [] => ⟨#[]⟩
  | x :: l => x ++ tlB sep l
theorem nil_ba (s : ByteArray) : (⟨#[]⟩ : ByteArray) ++ s = s := ByteArray.empty_append
theorem ba_nil (s : ByteArray) : s ++ (⟨#[]⟩ : ByteArray) = s := ByteArray.append_empty
theorem tl_step {sep y : ByteArray} : ∀ {m : List ByteArray} {j : Nat}, m[j]? = some y → tlB sep (m.take (j + 1)) = tlB sep (m.take j) ++ sep ++ y
  | x :: m, 0, h => by
    obtain rfl : x = y := by simpa using h
    simp only [List.take_succ_cons, List.take_zero, tlB, ba_nil, nil_ba]
  | x :: m, j + 1, h => by
    simp only [List.take_succ_cons, tlB]
    rw [tl_step (m := m) (j := j) (by simpa using h)]
    simp only [ByteArray.append_assoc]
theorem sep_zero {sep y : ByteArray} {l : List ByteArray} (h : l[0]? = some y) : sepB sep (l.take 1) = y := by
  match l, h with
  | x :: l, h =>
    obtain rfl : x = y := by simpa using h
    simp [sepB, tlB, ba_nil]
theorem sep_step {sep y : ByteArray} {l : List ByteArray} {j : Nat} (h : l[j]? = some y) (hj : 0 < j) : sepB sep (l.take (j + 1)) = sepB sep (l.take j) ++ sep ++ y := by
  match l, j, h, hj with
  | x :: l, j + 1, h, _ =>
    simp only [List.take_succ_cons, sepB]
    rw [tl_step (m := l) (j := j) (by simpa using h)]
    simp only [ByteArray.append_assoc]
theorem tl_le {sep : ByteArray} : ∀ (l : List ByteArray) (j : Nat), (tlB sep (l.take j)).size ≤ (tlB sep l).size
  | [], j => by simp
  | x :: l, 0 => Nat.zero_le _
  | x :: l, j + 1 => by
    have := tl_le (sep := sep) l j
    simp only [List.take_succ_cons, tlB, ByteArray.size_append]
    omega
theorem sep_le {sep : ByteArray} (l : List ByteArray) (j : Nat) : (sepB sep (l.take j)).size ≤ (sepB sep l).size := by
  match l, j with
  | [], j => simp
  | x :: l, 0 => exact Nat.zero_le _
  | x :: l, j + 1 =>
    have := tl_le (sep := sep) l j
    simp only [List.take_succ_cons, sepB, ByteArray.size_append]
    omega
theorem words_m {s : ByteArray} {l : List ByteArray} (hb : s.size + (sepB ⟨#[32]⟩ l).size ≤ 140737488355328) : MC Tryz.prog 33 (bldS s) [.c (strL l)] (.tup []) (bldS (s ++ sepB ⟨#[32]⟩ l)) := by
  refine fm2 (fn := Tryz.f33) Tryz.call33 Tryz.func33 rfl Tryz.ntmps33 Tryz.results33 rfl (by first | rfl | simp [V.ok, okL, C.ok, okA, okV]) rfl rfl ?_
  refine AW.fact (t := 1) rfl (fun κ w x hr => repV_l hr) fun hn => ?_
  repeat' (first | (with_reducible first | apply AW.seq | apply AW.block | apply AW.scope | apply AW.skip | apply AW.ret | apply AW.exit | apply AW.label | apply q_then | apply q_thenR | apply q_thenE | apply q_bloN | apply q_bloR | apply q_bloE | apply q_strN | apply q_strR | apply q_strE | apply s_e | refine m_b rfl ?_ ?_ | refine m_g rfl ?_ | refine m_o rfl ?_ ?_ | refine v_reg ?_ | refine v_drw ?_ | refine v_rgl ?_ | refine v_drb ?_) | ((with_reducible apply i_dv); first | refine t_v AS.v ?_ | refine t_w AS.w ?_) | ((with_reducible apply i_dg); first | refine t_n ?_ | refine t_m (hs := fun hg => AS.v) (k := ?_) | refine t_f ?_) | ((with_reducible apply i_ds); first | refine t_s AS.s ?_) | ((with_reducible refine i_aw ?_); first | refine v_yes ?_ | refine v_no ?_ | (refine v_cond (fun hc => ?_) (fun hc => ?_); all_goals (try (exfalso; simp [*] at hc; done)); all_goals (try (exfalso; revert hc; simp; omega)))) | ((with_reducible refine i_rt ?_); first | refine k_b ?_ | refine k_s ?_ | refine k_i ?_ | refine k_v ?_ | refine k_c ?_ | exact r_0 | exact r_0n | ((first | refine k_2 ?_ ?_ | refine k_2c ?_ ?_); all_goals (with_reducible (first | apply un_b | apply un_i | apply un_s | apply un_a)))) | ((with_reducible apply al_id); dsimp only [List.append]) | (refine q_bloX rfl ?_) | (refine ⟨by decide +kernel, ?_⟩) | fail)
  refine AW.loop (fun n σ => ∃ j, n = l.length - j ∧ j ≤ l.length ∧ σ = mk [(0, .c (.ptr 0 0)), (6, .c (strL l)), (7, .c (sI (l.map oneS).length)), (8, .c (sI j))] [(0, bldS (s ++ sepB ⟨#[32]⟩ (l.take j)))]) l.length ?_ ?_
  · have e : bldS s = bldS (s ++ sepB ⟨#[32]⟩ (l.take 0)) := by rw [List.take_zero, sepB, ba_nil]
    rw [e]
    exact ⟨_, wk_mk (by (repeat (first | exact all_nil | ((refine all_cons ⟨_, rfl, .inl rfl, ?_⟩ ?_); (· (first | rfl | exact okRow rfl | (simp [V.ok, okL, C.ok, okA, HO.ok]; done) | (change okL _ _ = true; assumption)))))); done) (by (repeat (first | exact all_nil | ((refine all_cons ⟨_, rfl, .inl rfl, ?_⟩ ?_); (· (first | rfl | exact okRow rfl | (simp [V.ok, okL, C.ok, okA, HO.ok]; done) | (change okL _ _ = true; assumption)))))); done) (by exact fun h => h), 0, rfl, Nat.zero_le _, rfl⟩
  rintro n σ ⟨j, rfl, hj, rfl⟩
  by_cases hlt : j < l.length
  · obtain ⟨x, hx⟩ : ∃ x, l[j]? = some x := ⟨_, List.getElem?_eq_getElem hlt⟩
    have hle := sep_le (sep := ⟨#[32]⟩) l (j + 1)
    by_cases h0 : 0 < j
    · rw [sep_step hx h0, ByteArray.size_append, ByteArray.size_append] at hle
      have h1 : ByteArray.size ⟨#[32]⟩ = 1 := rfl
      repeat' (first | (with_reducible first | apply AW.seq | apply AW.block | apply AW.scope | apply AW.skip | apply AW.ret | apply AW.exit | apply AW.label | apply q_then | apply q_thenR | apply q_thenE | apply q_bloN | apply q_bloR | apply q_bloE | apply q_strN | apply q_strR | apply q_strE | apply s_e | refine m_b rfl ?_ ?_ | refine m_g rfl ?_ | refine m_o rfl ?_ ?_ | refine v_reg ?_ | refine v_drw ?_ | refine v_rgl ?_ | refine v_drb ?_) | ((with_reducible apply i_dv); first | refine t_v AS.v ?_ | refine t_v (by first | exact u_call (hP := wByte_m 32 rfl (by (try simp only [ByteArray.size_append]); omega)) | exact u_call (hP := wStr_m (by (try simp only [ByteArray.size_append]); omega))) ?_ | refine t_w AS.w ?_ | refine t_w (by first | exact u_mut (hP := wByte_m 32 rfl (by (try simp only [ByteArray.size_append]); omega)) | exact u_mut (hP := wStr_m (by (try simp only [ByteArray.size_append]); omega))) ?_) | ((with_reducible apply i_dg); first | refine t_n ?_ | refine t_m (hs := fun hg => AS.v) (k := ?_) | refine t_m (hs := fun hg => (by first | exact u_call (hP := wByte_m 32 rfl (by (try simp only [ByteArray.size_append]); omega)) | exact u_call (hP := wStr_m (by (try simp only [ByteArray.size_append]); omega)))) (k := ?_) | refine t_f ?_) | ((with_reducible apply i_ds); first | refine t_s AS.s ?_ | refine t_s (by first | exact u_mut (hP := wByte_m 32 rfl (by (try simp only [ByteArray.size_append]); omega)) | exact u_mut (hP := wStr_m (by (try simp only [ByteArray.size_append]); omega))) ?_) | ((with_reducible refine i_aw ?_); first | refine v_yes ?_ | refine v_no ?_ | (refine v_cond (fun hc => ?_) (fun hc => ?_); all_goals (try (exfalso; simp [*] at hc; done)); all_goals (try (exfalso; revert hc; simp; omega)))) | ((with_reducible refine i_rt ?_); first | refine k_b ?_ | refine k_s ?_ | refine k_i ?_ | refine k_v ?_ | refine k_c ?_ | exact r_0 | exact r_0n | ((first | refine k_2 ?_ ?_ | refine k_2c ?_ ?_); all_goals (with_reducible (first | apply un_b | apply un_i | apply un_s | apply un_a)))) | ((with_reducible apply al_id); dsimp only [List.append]) | (refine q_bloX rfl ?_) | (refine ⟨by decide +kernel, ?_⟩) | fail)
      have e : bldS (s ++ sepB ⟨#[32]⟩ (l.take j) ++ ⟨#[32]⟩ ++ x) = bldS (s ++ sepB ⟨#[32]⟩ (l.take (j + 1))) := by rw [sep_step hx h0]; simp only [ByteArray.append_assoc]
      rw [e]
      exact ⟨_, _, (show l.length - (j + 1) < l.length - j by omega), wk_mk (by (repeat (first | exact all_nil | ((refine all_cons ⟨_, rfl, .inl rfl, ?_⟩ ?_); (· (first | rfl | exact okRow rfl | (simp [V.ok, okL, C.ok, okA, HO.ok]; done) | (change okL _ _ = true; assumption)))))); done) (by (repeat (first | exact all_nil | ((refine all_cons ⟨_, rfl, .inl rfl, ?_⟩ ?_); (· (first | rfl | exact okRow rfl | (simp [V.ok, okL, C.ok, okA, HO.ok]; done) | (change okL _ _ = true; assumption)))))); done) (by exact fun h => h), j + 1, rfl, hlt, rfl⟩
    · obtain rfl : j = 0 := by omega
      rw [sep_zero hx] at hle
      repeat' (first | (with_reducible first | apply AW.seq | apply AW.block | apply AW.scope | apply AW.skip | apply AW.ret | apply AW.exit | apply AW.label | apply q_then | apply q_thenR | apply q_thenE | apply q_bloN | apply q_bloR | apply q_bloE | apply q_strN | apply q_strR | apply q_strE | apply s_e | refine m_b rfl ?_ ?_ | refine m_g rfl ?_ | refine m_o rfl ?_ ?_ | refine v_reg ?_ | refine v_drw ?_ | refine v_rgl ?_ | refine v_drb ?_) | ((with_reducible apply i_dv); first | refine t_v AS.v ?_ | refine t_v (by first | exact u_call (hP := wByte_m 32 rfl (by (try simp only [ByteArray.size_append]); omega)) | exact u_call (hP := wStr_m (by (try simp only [List.take_zero, sepB, ba_nil]); omega))) ?_ | refine t_w AS.w ?_ | refine t_w (by first | exact u_mut (hP := wByte_m 32 rfl (by (try simp only [ByteArray.size_append]); omega)) | exact u_mut (hP := wStr_m (by (try simp only [List.take_zero, sepB, ba_nil]); omega))) ?_) | ((with_reducible apply i_dg); first | refine t_n ?_ | refine t_m (hs := fun hg => AS.v) (k := ?_) | refine t_m (hs := fun hg => (by first | exact u_call (hP := wByte_m 32 rfl (by (try simp only [ByteArray.size_append]); omega)) | exact u_call (hP := wStr_m (by (try simp only [List.take_zero, sepB, ba_nil]); omega)))) (k := ?_) | refine t_f ?_) | ((with_reducible apply i_ds); first | refine t_s AS.s ?_ | refine t_s (by first | exact u_mut (hP := wByte_m 32 rfl (by (try simp only [ByteArray.size_append]); omega)) | exact u_mut (hP := wStr_m (by (try simp only [List.take_zero, sepB, ba_nil]); omega))) ?_) | ((with_reducible refine i_aw ?_); first | refine v_yes ?_ | refine v_no ?_ | (refine v_cond (fun hc => ?_) (fun hc => ?_); all_goals (try (exfalso; simp [*] at hc; done)); all_goals (try (exfalso; revert hc; simp; omega)))) | ((with_reducible refine i_rt ?_); first | refine k_b ?_ | refine k_s ?_ | refine k_i ?_ | refine k_v ?_ | refine k_c ?_ | exact r_0 | exact r_0n | ((first | refine k_2 ?_ ?_ | refine k_2c ?_ ?_); all_goals (with_reducible (first | apply un_b | apply un_i | apply un_s | apply un_a)))) | ((with_reducible apply al_id); dsimp only [List.append]) | (refine q_bloX rfl ?_) | (refine ⟨by decide +kernel, ?_⟩) | fail)
      have e : bldS (s ++ sepB ⟨#[32]⟩ (l.take 0) ++ x) = bldS (s ++ sepB ⟨#[32]⟩ (l.take 1)) := by rw [sep_zero hx, List.take_zero, sepB, ba_nil]
      rw [e]
      exact ⟨_, _, (show l.length - (0 + 1) < l.length - 0 by omega), wk_mk (by (repeat (first | exact all_nil | ((refine all_cons ⟨_, rfl, .inl rfl, ?_⟩ ?_); (· (first | rfl | exact okRow rfl | (simp [V.ok, okL, C.ok, okA, HO.ok]; done) | (change okL _ _ = true; assumption)))))); done) (by (repeat (first | exact all_nil | ((refine all_cons ⟨_, rfl, .inl rfl, ?_⟩ ?_); (· (first | rfl | exact okRow rfl | (simp [V.ok, okL, C.ok, okA, HO.ok]; done) | (change okL _ _ = true; assumption)))))); done) (by exact fun h => h), 1, rfl, hlt, rfl⟩
  · repeat' (first | (with_reducible first | apply AW.seq | apply AW.block | apply AW.scope | apply AW.skip | apply AW.ret | apply AW.exit | apply AW.label | apply q_then | apply q_thenR | apply q_thenE | apply q_bloN | apply q_bloR | apply q_bloE | apply q_strN | apply q_strR | apply q_strE | apply s_e | refine m_b rfl ?_ ?_ | refine m_g rfl ?_ | refine m_o rfl ?_ ?_ | refine v_reg ?_ | refine v_drw ?_ | refine v_rgl ?_ | refine v_drb ?_) | ((with_reducible apply i_dv); first | refine t_v AS.v ?_ | refine t_w AS.w ?_) | ((with_reducible apply i_dg); first | refine t_n ?_ | refine t_m (hs := fun hg => AS.v) (k := ?_) | refine t_f ?_) | ((with_reducible apply i_ds); first | refine t_s AS.s ?_) | ((with_reducible refine i_aw ?_); first | refine v_yes ?_ | refine v_no ?_ | (refine v_cond (fun hc => ?_) (fun hc => ?_); all_goals (try (exfalso; simp [*] at hc; done)); all_goals (try (exfalso; revert hc; simp; omega)))) | ((with_reducible refine i_rt ?_); first | refine k_b ?_ | refine k_s ?_ | refine k_i ?_ | refine k_v ?_ | refine k_c ?_ | exact r_0 | exact r_0n | ((first | refine k_2 ?_ ?_ | refine k_2c ?_ ?_); all_goals (with_reducible (first | apply un_b | apply un_i | apply un_s | apply un_a)))) | ((with_reducible apply al_id); dsimp only [List.append]) | (refine q_bloX rfl ?_) | (refine ⟨by decide +kernel, ?_⟩) | fail)
    rw [List.take_of_length_le (by omega)]
theorem joinS_p {l : List ByteArray} {sep : ByteArray} {f : Nat} {g : ByteArray → ByteArray} (h : ∀ x ∈ l, Pure Tryz.prog f [.c (sS x)] (.c (sS (g x)))) (hb : (sepB sep (l.map g)).size ≤ 140737488355328) : Pure Tryz.prog 151 [.c (.lst none 1 (l.map oneS)), .c (sS sep), .c (.fn f [])] (.c (sS (sepB sep (l.map g)))) := by
  refine fn3 (fn := Tryz.f151) Tryz.call151 Tryz.func151 rfl Tryz.ntmps151 Tryz.results151 rfl (by first | rfl | simp [V.ok, okL, C.ok, okA, okV]) ?_
  refine AW.fact (t := 0) rfl (fun κ w x hr => repV_l hr) fun hn => ?_
  repeat' (first | (with_reducible first | apply AW.seq | apply AW.block | apply AW.scope | apply AW.skip | apply AW.ret | apply AW.exit | apply AW.label | apply q_then | apply q_thenR | apply q_thenE | apply q_bloN | apply q_bloR | apply q_bloE | apply q_strN | apply q_strR | apply q_strE | apply s_e | refine m_b rfl ?_ ?_ | refine m_g rfl ?_ | refine m_o rfl ?_ ?_ | refine v_reg ?_ | refine v_drw ?_ | refine v_rgl ?_ | refine v_drb ?_) | ((with_reducible apply i_dv); first | refine t_v AS.v ?_ | refine t_w AS.w ?_) | ((with_reducible apply i_dg); first | refine t_n ?_ | refine t_m (hs := fun hg => AS.v) (k := ?_) | refine t_f ?_) | ((with_reducible apply i_ds); first | refine t_s AS.s ?_) | ((with_reducible refine i_aw ?_); first | refine v_yes ?_ | refine v_no ?_ | (refine v_cond (fun hc => ?_) (fun hc => ?_); all_goals (try (exfalso; simp [*] at hc; done)); all_goals (try (exfalso; revert hc; simp; omega)))) | ((with_reducible refine i_rt ?_); first | refine k_b ?_ | refine k_s ?_ | refine k_i ?_ | refine k_v ?_ | refine k_c ?_ | exact r_0 | exact r_0n | ((first | refine k_2 ?_ ?_ | refine k_2c ?_ ?_); all_goals (with_reducible (first | apply un_b | apply un_i | apply un_s | apply un_a)))) | ((with_reducible apply al_id); dsimp only [List.append]) | (refine q_bloX rfl ?_) | (refine ⟨by decide +kernel, ?_⟩) | fail)
  refine AW.loop (fun n σ => ∃ j, n = l.length - j ∧ j ≤ l.length ∧ σ = mk [(1, .c (sS sep)), (2, .c (.fn f [])), (7, .c (.ptr 7 0)), (10, .c (.lst none 1 (l.map oneS))), (11, .c (sI (l.map oneS).length)), (12, .c (sI j))] [(7, bldS (sepB sep ((l.map g).take j)))]) l.length ?_ ?_
  · exact ⟨_, wk_mk (by (repeat (first | exact all_nil | ((refine all_cons ⟨_, rfl, .inl rfl, ?_⟩ ?_); (· (first | rfl | exact okRow rfl | (simp [V.ok, okL, C.ok, okA, HO.ok]; done) | (change okL _ _ = true; assumption)))))); done) (by (repeat (first | exact all_nil | ((refine all_cons ⟨_, rfl, .inl rfl, ?_⟩ ?_); (· (first | rfl | exact okRow rfl | (simp [V.ok, okL, C.ok, okA, HO.ok]; done) | (change okL _ _ = true; assumption)))))); done) (by exact fun h => h), 0, rfl, Nat.zero_le _, rfl⟩
  rintro n σ ⟨j, rfl, hj, rfl⟩
  by_cases hlt : j < l.length
  · obtain ⟨x, hx⟩ : ∃ x, l[j]? = some x := ⟨_, List.getElem?_eq_getElem hlt⟩
    have hp := h x (List.mem_of_getElem? hx)
    have hx' : (l.map g)[j]? = some (g x) := by rw [List.getElem?_map, hx]; rfl
    have hle := sep_le (sep := sep) (l.map g) (j + 1)
    by_cases h0 : 0 < j
    · rw [sep_step hx' h0, ByteArray.size_append, ByteArray.size_append] at hle
      repeat' (first | (with_reducible first | apply AW.seq | apply AW.block | apply AW.scope | apply AW.skip | apply AW.ret | apply AW.exit | apply AW.label | apply q_then | apply q_thenR | apply q_thenE | apply q_bloN | apply q_bloR | apply q_bloE | apply q_strN | apply q_strR | apply q_strE | apply s_e | refine m_b rfl ?_ ?_ | refine m_g rfl ?_ | refine m_o rfl ?_ ?_ | refine v_reg ?_ | refine v_drw ?_ | refine v_rgl ?_ | refine v_drb ?_) | ((with_reducible apply i_dv); first | refine t_v AS.v ?_ | refine t_v (by first | exact u_call (hP := hp) | exact u_call (hP := wStr_m (by (try simp only [ByteArray.size_append]); omega))) ?_ | refine t_w AS.w ?_ | refine t_w (by first | exact u_mut (hP := hp) | exact u_mut (hP := wStr_m (by (try simp only [ByteArray.size_append]); omega))) ?_) | ((with_reducible apply i_dg); first | refine t_n ?_ | refine t_m (hs := fun hg => AS.v) (k := ?_) | refine t_m (hs := fun hg => (by first | exact u_call (hP := hp) | exact u_call (hP := wStr_m (by (try simp only [ByteArray.size_append]); omega)))) (k := ?_) | refine t_f ?_) | ((with_reducible apply i_ds); first | refine t_s AS.s ?_ | refine t_s (by first | exact u_mut (hP := hp) | exact u_mut (hP := wStr_m (by (try simp only [ByteArray.size_append]); omega))) ?_) | ((with_reducible refine i_aw ?_); first | refine v_yes ?_ | refine v_no ?_ | (refine v_cond (fun hc => ?_) (fun hc => ?_); all_goals (try (exfalso; simp [*] at hc; done)); all_goals (try (exfalso; revert hc; simp; omega)))) | ((with_reducible refine i_rt ?_); first | refine k_b ?_ | refine k_s ?_ | refine k_i ?_ | refine k_v ?_ | refine k_c ?_ | exact r_0 | exact r_0n | ((first | refine k_2 ?_ ?_ | refine k_2c ?_ ?_); all_goals (with_reducible (first | apply un_b | apply un_i | apply un_s | apply un_a)))) | ((with_reducible apply al_id); dsimp only [List.append]) | (refine q_bloX rfl ?_) | (refine ⟨by decide +kernel, ?_⟩) | fail)
      have e : bldS (sepB sep ((l.map g).take j) ++ sep ++ g x) = bldS (sepB sep ((l.map g).take (j + 1))) := by rw [sep_step hx' h0]
      rw [e]
      exact ⟨_, _, (show l.length - (j + 1) < l.length - j by omega), wk_mk (by (repeat (first | exact all_nil | ((refine all_cons ⟨_, rfl, .inl rfl, ?_⟩ ?_); (· (first | rfl | exact okRow rfl | (simp [V.ok, okL, C.ok, okA, HO.ok]; done) | (change okL _ _ = true; assumption)))))); done) (by (repeat (first | exact all_nil | ((refine all_cons ⟨_, rfl, .inl rfl, ?_⟩ ?_); (· (first | rfl | exact okRow rfl | (simp [V.ok, okL, C.ok, okA, HO.ok]; done) | (change okL _ _ = true; assumption)))))); done) (by exact fun h => h), j + 1, rfl, hlt, rfl⟩
    · obtain rfl : j = 0 := by omega
      rw [sep_zero hx'] at hle
      have hz : ByteArray.size ⟨#[]⟩ = 0 := rfl
      repeat' (first | (with_reducible first | apply AW.seq | apply AW.block | apply AW.scope | apply AW.skip | apply AW.ret | apply AW.exit | apply AW.label | apply q_then | apply q_thenR | apply q_thenE | apply q_bloN | apply q_bloR | apply q_bloE | apply q_strN | apply q_strR | apply q_strE | apply s_e | refine m_b rfl ?_ ?_ | refine m_g rfl ?_ | refine m_o rfl ?_ ?_ | refine v_reg ?_ | refine v_drw ?_ | refine v_rgl ?_ | refine v_drb ?_) | ((with_reducible apply i_dv); first | refine t_v AS.v ?_ | refine t_v (by first | exact u_call (hP := hp) | exact u_call (hP := wStr_m (by (try simp only [List.take_zero, sepB, nil_ba, ByteArray.size_append]); omega))) ?_ | refine t_w AS.w ?_ | refine t_w (by first | exact u_mut (hP := hp) | exact u_mut (hP := wStr_m (by (try simp only [List.take_zero, sepB, nil_ba, ByteArray.size_append]); omega))) ?_) | ((with_reducible apply i_dg); first | refine t_n ?_ | refine t_m (hs := fun hg => AS.v) (k := ?_) | refine t_m (hs := fun hg => (by first | exact u_call (hP := hp) | exact u_call (hP := wStr_m (by (try simp only [List.take_zero, sepB, nil_ba, ByteArray.size_append]); omega)))) (k := ?_) | refine t_f ?_) | ((with_reducible apply i_ds); first | refine t_s AS.s ?_ | refine t_s (by first | exact u_mut (hP := hp) | exact u_mut (hP := wStr_m (by (try simp only [List.take_zero, sepB, nil_ba, ByteArray.size_append]); omega))) ?_) | ((with_reducible refine i_aw ?_); first | refine v_yes ?_ | refine v_no ?_ | (refine v_cond (fun hc => ?_) (fun hc => ?_); all_goals (try (exfalso; simp [*] at hc; done)); all_goals (try (exfalso; revert hc; simp; omega)))) | ((with_reducible refine i_rt ?_); first | refine k_b ?_ | refine k_s ?_ | refine k_i ?_ | refine k_v ?_ | refine k_c ?_ | exact r_0 | exact r_0n | ((first | refine k_2 ?_ ?_ | refine k_2c ?_ ?_); all_goals (with_reducible (first | apply un_b | apply un_i | apply un_s | apply un_a)))) | ((with_reducible apply al_id); dsimp only [List.append]) | (refine q_bloX rfl ?_) | (refine ⟨by decide +kernel, ?_⟩) | fail)
      have e : bldS (sepB sep ((l.map g).take 0) ++ g x) = bldS (sepB sep ((l.map g).take 1)) := by rw [sep_zero hx', List.take_zero, sepB, nil_ba]
      rw [e]
      exact ⟨_, _, (show l.length - (0 + 1) < l.length - 0 by omega), wk_mk (by (repeat (first | exact all_nil | ((refine all_cons ⟨_, rfl, .inl rfl, ?_⟩ ?_); (· (first | rfl | exact okRow rfl | (simp [V.ok, okL, C.ok, okA, HO.ok]; done) | (change okL _ _ = true; assumption)))))); done) (by (repeat (first | exact all_nil | ((refine all_cons ⟨_, rfl, .inl rfl, ?_⟩ ?_); (· (first | rfl | exact okRow rfl | (simp [V.ok, okL, C.ok, okA, HO.ok]; done) | (change okL _ _ = true; assumption)))))); done) (by exact fun h => h), 1, rfl, hlt, rfl⟩
  · have e : (l.map g).take j = l.map g := List.take_of_length_le (by rw [List.length_map]; omega)
    rw [e]
    repeat' (first | (with_reducible first | apply AW.seq | apply AW.block | apply AW.scope | apply AW.skip | apply AW.ret | apply AW.exit | apply AW.label | apply q_then | apply q_thenR | apply q_thenE | apply q_bloN | apply q_bloR | apply q_bloE | apply q_strN | apply q_strR | apply q_strE | apply s_e | refine m_b rfl ?_ ?_ | refine m_g rfl ?_ | refine m_o rfl ?_ ?_ | refine v_reg ?_ | refine v_drw ?_ | refine v_rgl ?_ | refine v_drb ?_) | ((with_reducible apply i_dv); first | refine t_v AS.v ?_ | refine t_v (by first | exact u_call (hP := wText_m (by omega))) ?_ | refine t_w AS.w ?_ | refine t_w (by first | exact u_mut (hP := wText_m (by omega))) ?_) | ((with_reducible apply i_dg); first | refine t_n ?_ | refine t_m (hs := fun hg => AS.v) (k := ?_) | refine t_m (hs := fun hg => (by first | exact u_call (hP := wText_m (by omega)))) (k := ?_) | refine t_f ?_) | ((with_reducible apply i_ds); first | refine t_s AS.s ?_ | refine t_s (by first | exact u_mut (hP := wText_m (by omega))) ?_) | ((with_reducible refine i_aw ?_); first | refine v_yes ?_ | refine v_no ?_ | (refine v_cond (fun hc => ?_) (fun hc => ?_); all_goals (try (exfalso; simp [*] at hc; done)); all_goals (try (exfalso; revert hc; simp; omega)))) | ((with_reducible refine i_rt ?_); first | refine k_b ?_ | refine k_s ?_ | refine k_i ?_ | refine k_v ?_ | refine k_c ?_ | exact r_0 | exact r_0n | ((first | refine k_2 ?_ ?_ | refine k_2c ?_ ?_); all_goals (with_reducible (first | apply un_b | apply un_i | apply un_s | apply un_a)))) | ((with_reducible apply al_id); dsimp only [List.append]) | (refine q_bloX rfl ?_) | (refine ⟨by decide +kernel, ?_⟩) | fail)
    rfl
theorem joinP_p {l : List Sp} {sep : ByteArray} {f : Nat} {g : Sp → ByteArray} (h : ∀ x ∈ l, Pure Tryz.prog f [.agg (spC x)] (.c (sS (g x)))) (hb : (sepB sep (l.map g)).size ≤ 140737488355328) : Pure Tryz.prog 158 [.c (.lst none 2 (l.map spC)), .c (sS sep), .c (.fn f [])] (.c (sS (sepB sep (l.map g)))) := by
  refine fn3 (fn := Tryz.f158) Tryz.call158 Tryz.func158 rfl Tryz.ntmps158 Tryz.results158 rfl (by first | rfl | simp [V.ok, okL, C.ok, okA, okV]) ?_
  refine AW.fact (t := 0) rfl (fun κ w x hr => repV_l hr) fun hn => ?_
  repeat' (first | (with_reducible first | apply AW.seq | apply AW.block | apply AW.scope | apply AW.skip | apply AW.ret | apply AW.exit | apply AW.label | apply q_then | apply q_thenR | apply q_thenE | apply q_bloN | apply q_bloR | apply q_bloE | apply q_strN | apply q_strR | apply q_strE | apply s_e | refine m_b rfl ?_ ?_ | refine m_g rfl ?_ | refine m_o rfl ?_ ?_ | refine v_reg ?_ | refine v_drw ?_ | refine v_rgl ?_ | refine v_drb ?_) | ((with_reducible apply i_dv); first | refine t_v AS.v ?_ | refine t_w AS.w ?_) | ((with_reducible apply i_dg); first | refine t_n ?_ | refine t_m (hs := fun hg => AS.v) (k := ?_) | refine t_f ?_) | ((with_reducible apply i_ds); first | refine t_s AS.s ?_) | ((with_reducible refine i_aw ?_); first | refine v_yes ?_ | refine v_no ?_ | (refine v_cond (fun hc => ?_) (fun hc => ?_); all_goals (try (exfalso; simp [*] at hc; done)); all_goals (try (exfalso; revert hc; simp; omega)))) | ((with_reducible refine i_rt ?_); first | refine k_b ?_ | refine k_s ?_ | refine k_i ?_ | refine k_v ?_ | refine k_c ?_ | exact r_0 | exact r_0n | ((first | refine k_2 ?_ ?_ | refine k_2c ?_ ?_); all_goals (with_reducible (first | apply un_b | apply un_i | apply un_s | apply un_a)))) | ((with_reducible apply al_id); dsimp only [List.append]) | (refine q_bloX rfl ?_) | (refine ⟨by decide +kernel, ?_⟩) | fail)
  refine AW.loop (fun n σ => ∃ j, n = l.length - j ∧ j ≤ l.length ∧ σ = mk [(1, .c (sS sep)), (2, .c (.fn f [])), (7, .c (.ptr 7 0)), (10, .c (.lst none 2 (l.map spC))), (11, .c (sI (l.map spC).length)), (12, .c (sI j))] [(7, bldS (sepB sep ((l.map g).take j)))]) l.length ?_ ?_
  · exact ⟨_, wk_mk (by (repeat (first | exact all_nil | ((refine all_cons ⟨_, rfl, .inl rfl, ?_⟩ ?_); (· (first | rfl | exact okRow rfl | (simp [V.ok, okL, C.ok, okA, HO.ok]; done) | (change okL _ _ = true; assumption)))))); done) (by (repeat (first | exact all_nil | ((refine all_cons ⟨_, rfl, .inl rfl, ?_⟩ ?_); (· (first | rfl | exact okRow rfl | (simp [V.ok, okL, C.ok, okA, HO.ok]; done) | (change okL _ _ = true; assumption)))))); done) (by exact fun h => h), 0, rfl, Nat.zero_le _, rfl⟩
  rintro n σ ⟨j, rfl, hj, rfl⟩
  by_cases hlt : j < l.length
  · obtain ⟨x, hx⟩ : ∃ x, l[j]? = some x := ⟨_, List.getElem?_eq_getElem hlt⟩
    have hp := h x (List.mem_of_getElem? hx)
    have hx' : (l.map g)[j]? = some (g x) := by rw [List.getElem?_map, hx]; rfl
    have hle := sep_le (sep := sep) (l.map g) (j + 1)
    by_cases h0 : 0 < j
    · rw [sep_step hx' h0, ByteArray.size_append, ByteArray.size_append] at hle
      repeat' (first | (with_reducible first | apply AW.seq | apply AW.block | apply AW.scope | apply AW.skip | apply AW.ret | apply AW.exit | apply AW.label | apply q_then | apply q_thenR | apply q_thenE | apply q_bloN | apply q_bloR | apply q_bloE | apply q_strN | apply q_strR | apply q_strE | apply s_e | refine m_b rfl ?_ ?_ | refine m_g rfl ?_ | refine m_o rfl ?_ ?_ | refine v_reg ?_ | refine v_drw ?_ | refine v_rgl ?_ | refine v_drb ?_) | ((with_reducible apply i_dv); first | refine t_v AS.v ?_ | refine t_v (by first | exact u_call (hP := hp) | exact u_call (hP := wStr_m (by (try simp only [ByteArray.size_append]); omega))) ?_ | refine t_w AS.w ?_ | refine t_w (by first | exact u_mut (hP := hp) | exact u_mut (hP := wStr_m (by (try simp only [ByteArray.size_append]); omega))) ?_) | ((with_reducible apply i_dg); first | refine t_n ?_ | refine t_m (hs := fun hg => AS.v) (k := ?_) | refine t_m (hs := fun hg => (by first | exact u_call (hP := hp) | exact u_call (hP := wStr_m (by (try simp only [ByteArray.size_append]); omega)))) (k := ?_) | refine t_f ?_) | ((with_reducible apply i_ds); first | refine t_s AS.s ?_ | refine t_s (by first | exact u_mut (hP := hp) | exact u_mut (hP := wStr_m (by (try simp only [ByteArray.size_append]); omega))) ?_) | ((with_reducible refine i_aw ?_); first | refine v_yes ?_ | refine v_no ?_ | (refine v_cond (fun hc => ?_) (fun hc => ?_); all_goals (try (exfalso; simp [*] at hc; done)); all_goals (try (exfalso; revert hc; simp; omega)))) | ((with_reducible refine i_rt ?_); first | refine k_b ?_ | refine k_s ?_ | refine k_i ?_ | refine k_v ?_ | refine k_c ?_ | exact r_0 | exact r_0n | ((first | refine k_2 ?_ ?_ | refine k_2c ?_ ?_); all_goals (with_reducible (first | apply un_b | apply un_i | apply un_s | apply un_a)))) | ((with_reducible apply al_id); dsimp only [List.append]) | (refine q_bloX rfl ?_) | (refine ⟨by decide +kernel, ?_⟩) | fail)
      have e : bldS (sepB sep ((l.map g).take j) ++ sep ++ g x) = bldS (sepB sep ((l.map g).take (j + 1))) := by rw [sep_step hx' h0]
      rw [e]
      exact ⟨_, _, (show l.length - (j + 1) < l.length - j by omega), wk_mk (by (repeat (first | exact all_nil | ((refine all_cons ⟨_, rfl, .inl rfl, ?_⟩ ?_); (· (first | rfl | exact okRow rfl | (simp [V.ok, okL, C.ok, okA, HO.ok]; done) | (change okL _ _ = true; assumption)))))); done) (by (repeat (first | exact all_nil | ((refine all_cons ⟨_, rfl, .inl rfl, ?_⟩ ?_); (· (first | rfl | exact okRow rfl | (simp [V.ok, okL, C.ok, okA, HO.ok]; done) | (change okL _ _ = true; assumption)))))); done) (by exact fun h => h), j + 1, rfl, hlt, rfl⟩
    · obtain rfl : j = 0 := by omega
      rw [sep_zero hx'] at hle
      have hz : ByteArray.size ⟨#[]⟩ = 0 := rfl
      repeat' (first | (with_reducible first | apply AW.seq | apply AW.block | apply AW.scope | apply AW.skip | apply AW.ret | apply AW.exit | apply AW.label | apply q_then | apply q_thenR | apply q_thenE | apply q_bloN | apply q_bloR | apply q_bloE | apply q_strN | apply q_strR | apply q_strE | apply s_e | refine m_b rfl ?_ ?_ | refine m_g rfl ?_ | refine m_o rfl ?_ ?_ | refine v_reg ?_ | refine v_drw ?_ | refine v_rgl ?_ | refine v_drb ?_) | ((with_reducible apply i_dv); first | refine t_v AS.v ?_ | refine t_v (by first | exact u_call (hP := hp) | exact u_call (hP := wStr_m (by (try simp only [List.take_zero, sepB, nil_ba, ByteArray.size_append]); omega))) ?_ | refine t_w AS.w ?_ | refine t_w (by first | exact u_mut (hP := hp) | exact u_mut (hP := wStr_m (by (try simp only [List.take_zero, sepB, nil_ba, ByteArray.size_append]); omega))) ?_) | ((with_reducible apply i_dg); first | refine t_n ?_ | refine t_m (hs := fun hg => AS.v) (k := ?_) | refine t_m (hs := fun hg => (by first | exact u_call (hP := hp) | exact u_call (hP := wStr_m (by (try simp only [List.take_zero, sepB, nil_ba, ByteArray.size_append]); omega)))) (k := ?_) | refine t_f ?_) | ((with_reducible apply i_ds); first | refine t_s AS.s ?_ | refine t_s (by first | exact u_mut (hP := hp) | exact u_mut (hP := wStr_m (by (try simp only [List.take_zero, sepB, nil_ba, ByteArray.size_append]); omega))) ?_) | ((with_reducible refine i_aw ?_); first | refine v_yes ?_ | refine v_no ?_ | (refine v_cond (fun hc => ?_) (fun hc => ?_); all_goals (try (exfalso; simp [*] at hc; done)); all_goals (try (exfalso; revert hc; simp; omega)))) | ((with_reducible refine i_rt ?_); first | refine k_b ?_ | refine k_s ?_ | refine k_i ?_ | refine k_v ?_ | refine k_c ?_ | exact r_0 | exact r_0n | ((first | refine k_2 ?_ ?_ | refine k_2c ?_ ?_); all_goals (with_reducible (first | apply un_b | apply un_i | apply un_s | apply un_a)))) | ((with_reducible apply al_id); dsimp only [List.append]) | (refine q_bloX rfl ?_) | (refine ⟨by decide +kernel, ?_⟩) | fail)
      have e : bldS (sepB sep ((l.map g).take 0) ++ g x) = bldS (sepB sep ((l.map g).take 1)) := by rw [sep_zero hx', List.take_zero, sepB, nil_ba]
      rw [e]
      exact ⟨_, _, (show l.length - (0 + 1) < l.length - 0 by omega), wk_mk (by (repeat (first | exact all_nil | ((refine all_cons ⟨_, rfl, .inl rfl, ?_⟩ ?_); (· (first | rfl | exact okRow rfl | (simp [V.ok, okL, C.ok, okA, HO.ok]; done) | (change okL _ _ = true; assumption)))))); done) (by (repeat (first | exact all_nil | ((refine all_cons ⟨_, rfl, .inl rfl, ?_⟩ ?_); (· (first | rfl | exact okRow rfl | (simp [V.ok, okL, C.ok, okA, HO.ok]; done) | (change okL _ _ = true; assumption)))))); done) (by exact fun h => h), 1, rfl, hlt, rfl⟩
  · have e : (l.map g).take j = l.map g := List.take_of_length_le (by rw [List.length_map]; omega)
    rw [e]
    repeat' (first | (with_reducible first | apply AW.seq | apply AW.block | apply AW.scope | apply AW.skip | apply AW.ret | apply AW.exit | apply AW.label | apply q_then | apply q_thenR | apply q_thenE | apply q_bloN | apply q_bloR | apply q_bloE | apply q_strN | apply q_strR | apply q_strE | apply s_e | refine m_b rfl ?_ ?_ | refine m_g rfl ?_ | refine m_o rfl ?_ ?_ | refine v_reg ?_ | refine v_drw ?_ | refine v_rgl ?_ | refine v_drb ?_) | ((with_reducible apply i_dv); first | refine t_v AS.v ?_ | refine t_v (by first | exact u_call (hP := wText_m (by omega))) ?_ | refine t_w AS.w ?_ | refine t_w (by first | exact u_mut (hP := wText_m (by omega))) ?_) | ((with_reducible apply i_dg); first | refine t_n ?_ | refine t_m (hs := fun hg => AS.v) (k := ?_) | refine t_m (hs := fun hg => (by first | exact u_call (hP := wText_m (by omega)))) (k := ?_) | refine t_f ?_) | ((with_reducible apply i_ds); first | refine t_s AS.s ?_ | refine t_s (by first | exact u_mut (hP := wText_m (by omega))) ?_) | ((with_reducible refine i_aw ?_); first | refine v_yes ?_ | refine v_no ?_ | (refine v_cond (fun hc => ?_) (fun hc => ?_); all_goals (try (exfalso; simp [*] at hc; done)); all_goals (try (exfalso; revert hc; simp; omega)))) | ((with_reducible refine i_rt ?_); first | refine k_b ?_ | refine k_s ?_ | refine k_i ?_ | refine k_v ?_ | refine k_c ?_ | exact r_0 | exact r_0n | ((first | refine k_2 ?_ ?_ | refine k_2c ?_ ?_); all_goals (with_reducible (first | apply un_b | apply un_i | apply un_s | apply un_a)))) | ((with_reducible apply al_id); dsimp only [List.append]) | (refine q_bloX rfl ?_) | (refine ⟨by decide +kernel, ?_⟩) | fail)
    rfl
end Am
end Go.Proofs.YtkcojiopjkllgaaGreatDoor
