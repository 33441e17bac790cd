/- The walks of the reference's skip and end. -/
import Derived.Test.YtffflmghfcgkfaaLo
set_option linter.unusedSimpArgs false
set_option linter.unusedVariables false
namespace Go.Proofs.Ytffflmghfcgkfaa
open Go.RowKit Tk

set_option maxHeartbeats 1000000 in
theorem rskip_any (src : ByteArray) (k : Nat) (w : World) (hs : src.size ≤ 65536) (hk : k ≤ src.size) :
    Calls Try.prog 36 #[.string src, .int .i64 k] w fun e w' => e = .returned (.int .i64 ((k + Tk.skipL false (src.data.toList.drop k) : Nat) : Int)) ∧ w = w' := by
  go_enter Try.func36, Try.ntmps36
  go_wp2_with (first | ((with_reducible refine wpTxt_q ?_ ?_ ?_); rfl; rfl; intro _ _) | ((with_reducible refine wpTxt_w0 ?_ ?_ ?_); rfl; rfl; intro _ _) | ((with_reducible refine wpTxt_s ?_ ?_); rfl; intro _ _; go_simp) | ((with_reducible refine wpTxt_sw ?_ ?_); rfl; intro _ _; go_simp) | (with_reducible refine wpTxt_nil ?_) | ((with_reducible refine wp_region_t mixed ?_ ?_); decide +kernel; intro _ _))
  go_loop [1, 5] (fun i c => ∃ (m : Nat) (cc : Bool), m ≤ src.size ∧ i = .int .i64 m ∧ c = .bool cc ∧ Hid (m + skipL cc (src.data.toList.drop m) = k + skipL false (src.data.toList.drop k))) (fun i _ => src.size - (intOf i).toNat)
  case atStart => exact ⟨k, false, hk, rfl, rfl, rfl⟩
  case round =>
    obtain ⟨m, cc, hm, rfl, rfl, hT⟩ := hrel
    by_cases hlt : m < src.size
    · by_cases x10 : (src[m].toNat : Int) = 10
      · have X := Lib.hid (skip_nl cc src m hlt x10)
        have y := beq_t x10
        clear x10
        go_wp2_with (first | ((with_reducible refine wpTxt_q ?_ ?_ ?_); rfl; rfl; intro _ _) | ((with_reducible refine wpTxt_w0 ?_ ?_ ?_); rfl; rfl; intro _ _) | ((with_reducible refine wpTxt_s ?_ ?_); rfl; intro _ _; go_simp) | ((with_reducible refine wpTxt_sw ?_ ?_); rfl; intro _ _; go_simp) | (with_reducible refine wpTxt_nil ?_) | ((with_reducible refine wp_region_t mixed ?_ ?_); decide +kernel; intro _ _))
        go_round
        case rel => exact ⟨m + 1, false, by omega, by go_num, rfl, X.out.symm.trans hT.out⟩
        case measure => simp [intOf]; omega
      · by_cases x35 : (src[m].toNat : Int) = 35
        · have X := Lib.hid (skip_ha cc src m hlt x35)
          have y := beq_f x10
          have y2 := beq_t x35
          clear x10 x35
          go_wp2_with (first | ((with_reducible refine wpTxt_q ?_ ?_ ?_); rfl; rfl; intro _ _) | ((with_reducible refine wpTxt_w0 ?_ ?_ ?_); rfl; rfl; intro _ _) | ((with_reducible refine wpTxt_s ?_ ?_); rfl; intro _ _; go_simp) | ((with_reducible refine wpTxt_sw ?_ ?_); rfl; intro _ _; go_simp) | (with_reducible refine wpTxt_nil ?_) | ((with_reducible refine wp_region_t mixed ?_ ?_); decide +kernel; intro _ _))
          go_round
          case rel => exact ⟨m + 1, true, by omega, by go_num, rfl, X.out.symm.trans hT.out⟩
          case measure => simp [intOf]; omega
        · have y := beq_f x10
          have y2 := beq_f x35
          cases cc with
          | true =>
            have X := Lib.hid (skip_co src m hlt x10)
            clear x10 x35
            go_wp2_with (first | ((with_reducible refine wpTxt_q ?_ ?_ ?_); rfl; rfl; intro _ _) | ((with_reducible refine wpTxt_w0 ?_ ?_ ?_); rfl; rfl; intro _ _) | ((with_reducible refine wpTxt_s ?_ ?_); rfl; intro _ _; go_simp) | ((with_reducible refine wpTxt_sw ?_ ?_); rfl; intro _ _; go_simp) | (with_reducible refine wpTxt_nil ?_) | ((with_reducible refine wp_region_t mixed ?_ ?_); decide +kernel; intro _ _))
            go_round
            case rel => exact ⟨m + 1, true, by omega, by go_num, rfl, X.out.symm.trans hT.out⟩
            case measure => simp [intOf]; omega
          | false =>
            by_cases x32 : (src[m].toNat : Int) = 32
            · have X := Lib.hid (skip_bl src m hlt (.inl x32))
              have y3 : ((src[m].toNat : Int) != 32) = false := by rw [bne, beq_t x32]; rfl
              clear x10 x35 x32
              go_wp2_with (first | ((with_reducible refine wpTxt_q ?_ ?_ ?_); rfl; rfl; intro _ _) | ((with_reducible refine wpTxt_w0 ?_ ?_ ?_); rfl; rfl; intro _ _) | ((with_reducible refine wpTxt_s ?_ ?_); rfl; intro _ _; go_simp) | ((with_reducible refine wpTxt_sw ?_ ?_); rfl; intro _ _; go_simp) | (with_reducible refine wpTxt_nil ?_) | ((with_reducible refine wp_region_t mixed ?_ ?_); decide +kernel; intro _ _))
              go_round
              case rel => exact ⟨m + 1, false, by omega, by go_num, rfl, X.out.symm.trans hT.out⟩
              case measure => simp [intOf]; omega
            · have y3 : ((src[m].toNat : Int) != 32) = true := by rw [bne, beq_f x32]; rfl
              by_cases x9 : (src[m].toNat : Int) = 9
              · have X := Lib.hid (skip_bl src m hlt (.inr x9))
                have y4 : ((src[m].toNat : Int) != 9) = false := by rw [bne, beq_t x9]; rfl
                clear x10 x35 x32 x9
                go_wp2_with (first | ((with_reducible refine wpTxt_q ?_ ?_ ?_); rfl; rfl; intro _ _) | ((with_reducible refine wpTxt_w0 ?_ ?_ ?_); rfl; rfl; intro _ _) | ((with_reducible refine wpTxt_s ?_ ?_); rfl; intro _ _; go_simp) | ((with_reducible refine wpTxt_sw ?_ ?_); rfl; intro _ _; go_simp) | (with_reducible refine wpTxt_nil ?_) | ((with_reducible refine wp_region_t mixed ?_ ?_); decide +kernel; intro _ _))
                go_round
                case rel => exact ⟨m + 1, false, by omega, by go_num, rfl, X.out.symm.trans hT.out⟩
                case measure => simp [intOf]; omega
              · have y4 : ((src[m].toNat : Int) != 9) = true := by rw [bne, beq_f x9]; rfl
                have X := Lib.hid (skip_no src m hlt x10 x32 x9 x35)
                clear x10 x35 x32 x9
                go_wp2_with (first | ((with_reducible refine wpTxt_q ?_ ?_ ?_); rfl; rfl; intro _ _) | ((with_reducible refine wpTxt_w0 ?_ ?_ ?_); rfl; rfl; intro _ _) | ((with_reducible refine wpTxt_s ?_ ?_); rfl; intro _ _; go_simp) | ((with_reducible refine wpTxt_sw ?_ ?_); rfl; intro _ _; go_simp) | (with_reducible refine wpTxt_nil ?_) | ((with_reducible refine wp_region_t mixed ?_ ?_); decide +kernel; intro _ _))
                go_ret
                refine fin_int ?_ rfl
                have h1 := X.out; have h2 := hT.out; omega
    · go_wp2_with (first | ((with_reducible refine wpTxt_q ?_ ?_ ?_); rfl; rfl; intro _ _) | ((with_reducible refine wpTxt_w0 ?_ ?_ ?_); rfl; rfl; intro _ _) | ((with_reducible refine wpTxt_s ?_ ?_); rfl; intro _ _; go_simp) | ((with_reducible refine wpTxt_sw ?_ ?_); rfl; intro _ _; go_simp) | (with_reducible refine wpTxt_nil ?_) | ((with_reducible refine wp_region_t mixed ?_ ?_); decide +kernel; intro _ _))
      go_ret
      refine fin_int ?_ rfl
      have h1 := skipL_end cc src.data.toList m (by rw [sz]; omega); have h2 := hT.out; omega

set_option maxHeartbeats 1000000 in
theorem rend_name (src : ByteArray) (k : Nat) (w : World) (hs : src.size ≤ 65536) (hk : k < src.size) (hc : letB (src[k].toNat : Int) = true) :
    Calls Try.prog 61 #[.string src, .int .i64 k] w fun e w' => e = .returned (.int .i64 ((k + tw nmB (src.data.toList.drop k) : Nat) : Int)) ∧ w = w' := by
  go_enter Try.func61, Try.ntmps61
  go_wp2_with (first | ((with_reducible refine wpTxt_q ?_ ?_ ?_); rfl; rfl; intro _ _) | ((with_reducible refine wpTxt_w0 ?_ ?_ ?_); rfl; rfl; intro _ _) | ((with_reducible refine wpTxt_s ?_ ?_); rfl; intro _ _; go_simp) | ((with_reducible refine wpTxt_sw ?_ ?_); rfl; intro _ _; go_simp) | (with_reducible refine wpTxt_nil ?_) | ((with_reducible refine wp_region_t mixed ?_ ?_); decide +kernel; intro _ _) | (go_at_call 60; ((with_reducible refine (rLetter_any _ _).mono ?_); rintro e w' ⟨rfl, rfl⟩)))
  go_loop [1] (fun i => ∃ m : Nat, m ≤ src.size ∧ i = .int .i64 m ∧ Hid (m + tw nmB (src.data.toList.drop m) = k + tw nmB (src.data.toList.drop k))) (fun i => src.size - (intOf i).toNat)
  case atStart => exact ⟨k, by omega, rfl, rfl⟩
  case round =>
    obtain ⟨m, hm, rfl, hT⟩ := hrel
    by_cases hlt : m < src.size
    · cases hd : digB (src[m].toNat : Int) <;> cases hl : letB (src[m].toNat : Int)
      all_goals
        have hp : nmB src[m] = nmB src[m] := rfl
        first
          | rw [show nmB src[m] = true by simp [nmB, dgB, bi, hd, hl]] at hp
            have T := Lib.hid (tw_yes nmB src.data.toList m (by rw [sz]; exact hlt) (by rw [at_ src _ hlt]; simp [nmB, dgB, bi, hd, hl]))
            clear hp
            go_wp2_with (first | ((with_reducible refine wpTxt_q ?_ ?_ ?_); rfl; rfl; intro _ _) | ((with_reducible refine wpTxt_w0 ?_ ?_ ?_); rfl; rfl; intro _ _) | ((with_reducible refine wpTxt_s ?_ ?_); rfl; intro _ _; go_simp) | ((with_reducible refine wpTxt_sw ?_ ?_); rfl; intro _ _; go_simp) | (with_reducible refine wpTxt_nil ?_) | ((with_reducible refine wp_region_t mixed ?_ ?_); decide +kernel; intro _ _) | (go_at_call 60; ((with_reducible refine (rLetter_any _ _).mono ?_); rintro e w' ⟨rfl, rfl⟩)) | (go_at_call 62; ((with_reducible refine (rDigit_any _ _).mono ?_); rintro e w' ⟨rfl, rfl⟩)))
            go_round
            case rel => exact ⟨m + 1, by omega, by go_num, by have := T.out; have h2 := hT.out; show m + 1 + _ = _; omega⟩
            case measure => simp [intOf]; omega
          | have T := Lib.hid (tw_no nmB src.data.toList m (by rw [sz]; exact hlt) (by rw [at_ src _ hlt]; simp [nmB, dgB, bi, hd, hl]))
            go_wp2_with (first | ((with_reducible refine wpTxt_q ?_ ?_ ?_); rfl; rfl; intro _ _) | ((with_reducible refine wpTxt_w0 ?_ ?_ ?_); rfl; rfl; intro _ _) | ((with_reducible refine wpTxt_s ?_ ?_); rfl; intro _ _; go_simp) | ((with_reducible refine wpTxt_sw ?_ ?_); rfl; intro _ _; go_simp) | (with_reducible refine wpTxt_nil ?_) | ((with_reducible refine wp_region_t mixed ?_ ?_); decide +kernel; intro _ _) | (go_at_call 60; ((with_reducible refine (rLetter_any _ _).mono ?_); rintro e w' ⟨rfl, rfl⟩)) | (go_at_call 62; ((with_reducible refine (rDigit_any _ _).mono ?_); rintro e w' ⟨rfl, rfl⟩)))
            go_ret
            refine fin_int ?_ rfl
            have h1 := T.out; have h2 := hT.out; omega
    · go_wp2_with (first | ((with_reducible refine wpTxt_q ?_ ?_ ?_); rfl; rfl; intro _ _) | ((with_reducible refine wpTxt_w0 ?_ ?_ ?_); rfl; rfl; intro _ _) | ((with_reducible refine wpTxt_s ?_ ?_); rfl; intro _ _; go_simp) | ((with_reducible refine wpTxt_sw ?_ ?_); rfl; intro _ _; go_simp) | (with_reducible refine wpTxt_nil ?_) | ((with_reducible refine wp_region_t mixed ?_ ?_); decide +kernel; intro _ _) | (go_at_call 60; ((with_reducible refine (rLetter_any _ _).mono ?_); rintro e w' ⟨rfl, rfl⟩)) | (go_at_call 62; ((with_reducible refine (rDigit_any _ _).mono ?_); rintro e w' ⟨rfl, rfl⟩)))
      go_ret
      refine fin_int ?_ rfl
      have h1 := tw_end nmB src.data.toList m (by rw [sz]; omega); have h2 := hT.out; omega
set_option maxHeartbeats 1000000 in
theorem rend_digit (src : ByteArray) (k : Nat) (w : World) (hs : src.size ≤ 65536) (hk : k < src.size) (hc : letB (src[k].toNat : Int) = false) :
    Calls Try.prog 61 #[.string src, .int .i64 k] w fun e w' => e = .returned (.int .i64 ((k + tw dgB (src.data.toList.drop k) : Nat) : Int)) ∧ w = w' := by
  go_enter Try.func61, Try.ntmps61
  go_wp2_with (first | ((with_reducible refine wpTxt_q ?_ ?_ ?_); rfl; rfl; intro _ _) | ((with_reducible refine wpTxt_w0 ?_ ?_ ?_); rfl; rfl; intro _ _) | ((with_reducible refine wpTxt_s ?_ ?_); rfl; intro _ _; go_simp) | ((with_reducible refine wpTxt_sw ?_ ?_); rfl; intro _ _; go_simp) | (with_reducible refine wpTxt_nil ?_) | ((with_reducible refine wp_region_t mixed ?_ ?_); decide +kernel; intro _ _) | (go_at_call 60; ((with_reducible refine (rLetter_any _ _).mono ?_); rintro e w' ⟨rfl, rfl⟩)))
  go_loop [1] (fun i => ∃ m : Nat, m ≤ src.size ∧ i = .int .i64 m ∧ Hid (m + tw dgB (src.data.toList.drop m) = k + tw dgB (src.data.toList.drop k))) (fun i => src.size - (intOf i).toNat)
  case atStart => exact ⟨k, by omega, rfl, rfl⟩
  case round =>
    obtain ⟨m, hm, rfl, hT⟩ := hrel
    by_cases hlt : m < src.size
    · cases hd : digB (src[m].toNat : Int) <;> cases hl : letB (src[m].toNat : Int)
      all_goals
        have hp : dgB src[m] = dgB src[m] := rfl
        first
          | rw [show dgB src[m] = true by simp [nmB, dgB, bi, hd, hl]] at hp
            have T := Lib.hid (tw_yes dgB src.data.toList m (by rw [sz]; exact hlt) (by rw [at_ src _ hlt]; simp [nmB, dgB, bi, hd, hl]))
            clear hp
            go_wp2_with (first | ((with_reducible refine wpTxt_q ?_ ?_ ?_); rfl; rfl; intro _ _) | ((with_reducible refine wpTxt_w0 ?_ ?_ ?_); rfl; rfl; intro _ _) | ((with_reducible refine wpTxt_s ?_ ?_); rfl; intro _ _; go_simp) | ((with_reducible refine wpTxt_sw ?_ ?_); rfl; intro _ _; go_simp) | (with_reducible refine wpTxt_nil ?_) | ((with_reducible refine wp_region_t mixed ?_ ?_); decide +kernel; intro _ _) | (go_at_call 60; ((with_reducible refine (rLetter_any _ _).mono ?_); rintro e w' ⟨rfl, rfl⟩)) | (go_at_call 62; ((with_reducible refine (rDigit_any _ _).mono ?_); rintro e w' ⟨rfl, rfl⟩)))
            go_round
            case rel => exact ⟨m + 1, by omega, by go_num, by have := T.out; have h2 := hT.out; show m + 1 + _ = _; omega⟩
            case measure => simp [intOf]; omega
          | have T := Lib.hid (tw_no dgB src.data.toList m (by rw [sz]; exact hlt) (by rw [at_ src _ hlt]; simp [nmB, dgB, bi, hd, hl]))
            go_wp2_with (first | ((with_reducible refine wpTxt_q ?_ ?_ ?_); rfl; rfl; intro _ _) | ((with_reducible refine wpTxt_w0 ?_ ?_ ?_); rfl; rfl; intro _ _) | ((with_reducible refine wpTxt_s ?_ ?_); rfl; intro _ _; go_simp) | ((with_reducible refine wpTxt_sw ?_ ?_); rfl; intro _ _; go_simp) | (with_reducible refine wpTxt_nil ?_) | ((with_reducible refine wp_region_t mixed ?_ ?_); decide +kernel; intro _ _) | (go_at_call 60; ((with_reducible refine (rLetter_any _ _).mono ?_); rintro e w' ⟨rfl, rfl⟩)) | (go_at_call 62; ((with_reducible refine (rDigit_any _ _).mono ?_); rintro e w' ⟨rfl, rfl⟩)))
            go_ret
            refine fin_int ?_ rfl
            have h1 := T.out; have h2 := hT.out; omega
    · go_wp2_with (first | ((with_reducible refine wpTxt_q ?_ ?_ ?_); rfl; rfl; intro _ _) | ((with_reducible refine wpTxt_w0 ?_ ?_ ?_); rfl; rfl; intro _ _) | ((with_reducible refine wpTxt_s ?_ ?_); rfl; intro _ _; go_simp) | ((with_reducible refine wpTxt_sw ?_ ?_); rfl; intro _ _; go_simp) | (with_reducible refine wpTxt_nil ?_) | ((with_reducible refine wp_region_t mixed ?_ ?_); decide +kernel; intro _ _) | (go_at_call 60; ((with_reducible refine (rLetter_any _ _).mono ?_); rintro e w' ⟨rfl, rfl⟩)) | (go_at_call 62; ((with_reducible refine (rDigit_any _ _).mono ?_); rintro e w' ⟨rfl, rfl⟩)))
      go_ret
      refine fin_int ?_ rfl
      have h1 := tw_end dgB src.data.toList m (by rw [sz]; omega); have h2 := hT.out; omega
end Go.Proofs.Ytffflmghfcgkfaa
