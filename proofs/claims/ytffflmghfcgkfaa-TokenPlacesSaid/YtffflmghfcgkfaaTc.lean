/- The walks of the functions on words, and TokenWords' functions. -/
import Derived.Test.YtffflmghfcgkfaaTb
set_option linter.unusedSimpArgs false
set_option linter.unusedVariables false
namespace Go.Proofs.Ytffflmghfcgkfaa
open Go.RowKit Tk

theorem ext_list (s : ByteArray) (f k : Nat) : (s.extract f k).toList = (s.data.toList.drop f).take (k - f) := by
  rw [bl]; simp [ByteArray.data_extract]

set_option maxHeartbeats 400000 in
theorem within_any (s ws : ByteArray) (hw : ws.size ≤ maxLen) (w : World) : Calls Try.prog 38 #[.string s, .string ws] w fun e w' => e = .returned (.bool (inWords s.data.toList ws.data.toList)) ∧ w = w' := by
  unfold maxLen at hw
  go_enter Try.func38, Try.ntmps38
  go_wp2_with (first | ((with_reducible refine wpTxt_q ?_ ?_ ?_); rfl; rfl; intro _ _) | ((with_reducible refine wpTxt_w0 ?_ ?_ ?_); rfl; rfl; intro _ _) | ((with_reducible refine wpTxt_s ?_ ?_); rfl; intro _ _; go_simp) | ((with_reducible refine wpTxt_sw ?_ ?_); rfl; intro _ _; go_simp) | (with_reducible refine wpTxt_nil ?_) | ((with_reducible refine wp_region_t mixed ?_ ?_); decide +kernel; intro _ _))
  go_loop [5, 6] (fun x i => ∃ f k : Nat, k ≤ ws.size ∧ f ≤ k ∧ x = .int .i64 f ∧ i = .int .i64 k ∧ Hid (inRest s.data.toList ws.data.toList f k = inWords s.data.toList ws.data.toList)) (fun _ i => ws.size - (intOf i).toNat)
  case atStart => exact ⟨0, 0, by omega, by omega, rfl, rfl, inRest_start _ _⟩
  case round =>
    obtain ⟨f, k, hk, hf, rfl, rfl, hall⟩ := hrel
    by_cases hlt : k < ws.size
    · by_cases hb : (ws[k].toNat : Int) = 32
      · have hbb : ((ws[k].toNat : Int) != 32) = false := by simpa using hb
        have hb2 : ws.data.toList[k]'(by rw [sz]; exact hlt) = 32 := by
          rw [at_ ws k hlt]; apply UInt8.toNat_inj.1; simp; omega
        have HB := Lib.hid hb2
        clear hb hb2
        have hL : k < ws.data.toList.length := by rw [sz]; exact hlt
        go_wp2
        · have h1 : (ws.extract f k).toList = s.toList := by assumption
          have h2 : (!s.toList.isEmpty) = true := by assumption
          go_ret
          refine ⟨ret_bool ?_, rfl⟩
          rw [← hall.out]
          rw [ext_list, bl] at h1
          rw [bl] at h2
          exact (inRest_hit _ _ f k hL HB.out h1 (by simpa using h2)).symm
        all_goals
          go_round
          case rel =>
            refine ⟨k + 1, k + 1, by omega, by omega, by go_num, by go_num, ?_⟩
            refine (inRest_miss _ _ f k hL HB.out ?_).symm.trans hall.out
            rintro ⟨h1, h2⟩
            rw [← ext_list, ← bl] at h1
            rw [← bl] at h2
            first
              | (have h3 : ¬ (ws.extract f k).toList = s.toList := by assumption
                 exact h3 h1)
              | (have h3 : (!s.toList.isEmpty) = false := by assumption
                 rw [h2] at h3; cases h3)
          case measure => simp [intOf]; omega
      · have hbb : ((ws[k].toNat : Int) != 32) = true := by simpa using hb
        have HB := Lib.hid hb
        clear hb
        go_wp2
        go_round
        case rel =>
          refine ⟨f, k + 1, by omega, by omega, rfl, by go_num, ?_⟩
          refine (inRest_other _ _ f k hf (by rw [sz]; exact hlt) ?_).symm.trans hall.out
          rw [at_ ws k hlt]
          intro h
          exact HB.out (by rw [h]; rfl)
        case measure => simp [intOf]; omega
    · go_wp2
      go_ret
      exact ⟨ret_bool (by rw [← hall.out, inRest_end]; rw [sz]; omega), rfl⟩


theorem inWords_kw (l ws : List UInt8) (h : words [] ws = kwList) : inWords l ws = kwB l := by
  unfold inWords kwB
  rw [h]
  cases l with
  | nil => decide
  | cons => simp

set_option maxHeartbeats 400000 in
set_option maxRecDepth 100000 in
theorem rKeyword_any (s : ByteArray) (w : World) : Calls Try.prog 18 #[.string s] w fun e w' => e = .returned (.bool (kwB s.data.toList)) ∧ w = w' := by
  go_enter Try.func18, Try.ntmps18
  go_wp2_with (first | (go_at_call 38; ((with_reducible refine (within_any _ _ ?_ _).mono ?_); (· decide +kernel); rintro e w' ⟨rfl, rfl⟩)))
  go_ret
  exact ⟨ret_bool (inWords_kw _ _ (by decide +kernel)), rfl⟩

theorem kw_in (s : ByteArray) (h : kwB s.data.toList = true) : s.toList = [109, 111, 100, 117, 108, 101] ∨ s.toList = [99, 108, 97, 115, 115] ∨ s.toList = [116, 121, 112, 101] ∨ s.toList = [97, 108, 105, 97, 115] ∨ s.toList = [116, 121, 112, 101, 97, 116, 116, 114, 105, 98, 117, 116, 101] ∨ s.toList = [97, 116, 116, 114, 105, 98, 117, 116, 101] ∨ s.toList = [114, 111, 108, 101] ∨ s.toList = [116, 121, 112, 101, 115] ∨ s.toList = [114, 111, 108, 101, 97, 108, 108, 111, 119] ∨ s.toList = [114, 111, 108, 101, 95, 116, 114, 97, 110, 115, 105, 116, 105, 111, 110] ∨ s.toList = [117, 115, 101, 114] ∨ s.toList = [114, 111, 108, 101, 115] ∨ s.toList = [108, 101, 118, 101, 108] ∨ s.toList = [114, 97, 110, 103, 101] ∨ s.toList = [98, 111, 111, 108] ∨ s.toList = [116, 114, 117, 101] ∨ s.toList = [102, 97, 108, 115, 101] ∨ s.toList = [115, 101, 110, 115, 105, 116, 105, 118, 105, 116, 121] ∨ s.toList = [99, 97, 116, 101, 103, 111, 114, 121] ∨ s.toList = [97, 108, 108, 111, 119] ∨ s.toList = [97, 117, 100, 105, 116, 97, 108, 108, 111, 119] ∨ s.toList = [100, 111, 110, 116, 97, 117, 100, 105, 116] ∨ s.toList = [110, 101, 118, 101, 114, 97, 108, 108, 111, 119] ∨ s.toList = [116, 121, 112, 101, 95, 116, 114, 97, 110, 115, 105, 116, 105, 111, 110] ∨ s.toList = [116, 121, 112, 101, 95, 99, 104, 97, 110, 103, 101] ∨ s.toList = [116, 121, 112, 101, 95, 109, 101, 109, 98, 101, 114] ∨ s.toList = [114, 97, 110, 103, 101, 95, 116, 114, 97, 110, 115, 105, 116, 105, 111, 110] ∨ s.toList = [99, 111, 110, 115, 116, 114, 97, 105, 110] ∨ s.toList = [118, 97, 108, 105, 100, 97, 116, 101, 116, 114, 97, 110, 115] ∨ s.toList = [105, 102] ∨ s.toList = [101, 108, 115, 101] ∨ s.toList = [111, 112, 116, 105, 111, 110, 97, 108] ∨ s.toList = [114, 101, 113, 117, 105, 114, 101] ∨ s.toList = [115, 105, 100] ∨ s.toList = [102, 105, 108, 101, 99, 111, 110] ∨ s.toList = [112, 101, 114, 109, 105, 115, 115, 105, 118, 101] ∨ s.toList = [97, 115, 115, 101, 114, 116] ∨ s.toList = [115, 101, 108, 102] ∨ s.toList = [105, 110] := by
  rw [bl]
  simpa [kwB, kwList] using h
theorem kw_out (s : ByteArray) (h : kwB s.data.toList = false) (x : List UInt8) (hx : x ∈ kwList) : (s.toList == x) = false := by
  rw [bl]
  cases he : s.data.toList == x
  · rfl
  · rw [beq_iff_eq] at he
    rw [← he] at hx
    have : kwB s.data.toList = true := by simpa [kwB] using hx
    rw [this] at h
    cases h

set_option maxHeartbeats 2000000 in
theorem tKeyword_any (s : ByteArray) (w : World) : Calls Try.prog 17 #[.string s] w fun e w' => e = .returned (.bool (kwB s.data.toList)) ∧ w = w' := by
  cases hk : kwB s.data.toList
  · have h0 := kw_out s hk [109, 111, 100, 117, 108, 101] (by decide +kernel)
    have h1 := kw_out s hk [99, 108, 97, 115, 115] (by decide +kernel)
    have h2 := kw_out s hk [116, 121, 112, 101] (by decide +kernel)
    have h3 := kw_out s hk [97, 108, 105, 97, 115] (by decide +kernel)
    have h4 := kw_out s hk [116, 121, 112, 101, 97, 116, 116, 114, 105, 98, 117, 116, 101] (by decide +kernel)
    have h5 := kw_out s hk [97, 116, 116, 114, 105, 98, 117, 116, 101] (by decide +kernel)
    have h6 := kw_out s hk [114, 111, 108, 101] (by decide +kernel)
    have h7 := kw_out s hk [116, 121, 112, 101, 115] (by decide +kernel)
    have h8 := kw_out s hk [114, 111, 108, 101, 97, 108, 108, 111, 119] (by decide +kernel)
    have h9 := kw_out s hk [114, 111, 108, 101, 95, 116, 114, 97, 110, 115, 105, 116, 105, 111, 110] (by decide +kernel)
    have h10 := kw_out s hk [117, 115, 101, 114] (by decide +kernel)
    have h11 := kw_out s hk [114, 111, 108, 101, 115] (by decide +kernel)
    have h12 := kw_out s hk [108, 101, 118, 101, 108] (by decide +kernel)
    have h13 := kw_out s hk [114, 97, 110, 103, 101] (by decide +kernel)
    have h14 := kw_out s hk [98, 111, 111, 108] (by decide +kernel)
    have h15 := kw_out s hk [116, 114, 117, 101] (by decide +kernel)
    have h16 := kw_out s hk [102, 97, 108, 115, 101] (by decide +kernel)
    have h17 := kw_out s hk [115, 101, 110, 115, 105, 116, 105, 118, 105, 116, 121] (by decide +kernel)
    have h18 := kw_out s hk [99, 97, 116, 101, 103, 111, 114, 121] (by decide +kernel)
    have h19 := kw_out s hk [97, 108, 108, 111, 119] (by decide +kernel)
    have h20 := kw_out s hk [97, 117, 100, 105, 116, 97, 108, 108, 111, 119] (by decide +kernel)
    have h21 := kw_out s hk [100, 111, 110, 116, 97, 117, 100, 105, 116] (by decide +kernel)
    have h22 := kw_out s hk [110, 101, 118, 101, 114, 97, 108, 108, 111, 119] (by decide +kernel)
    have h23 := kw_out s hk [116, 121, 112, 101, 95, 116, 114, 97, 110, 115, 105, 116, 105, 111, 110] (by decide +kernel)
    have h24 := kw_out s hk [116, 121, 112, 101, 95, 99, 104, 97, 110, 103, 101] (by decide +kernel)
    have h25 := kw_out s hk [116, 121, 112, 101, 95, 109, 101, 109, 98, 101, 114] (by decide +kernel)
    have h26 := kw_out s hk [114, 97, 110, 103, 101, 95, 116, 114, 97, 110, 115, 105, 116, 105, 111, 110] (by decide +kernel)
    have h27 := kw_out s hk [99, 111, 110, 115, 116, 114, 97, 105, 110] (by decide +kernel)
    have h28 := kw_out s hk [118, 97, 108, 105, 100, 97, 116, 101, 116, 114, 97, 110, 115] (by decide +kernel)
    have h29 := kw_out s hk [105, 102] (by decide +kernel)
    have h30 := kw_out s hk [101, 108, 115, 101] (by decide +kernel)
    have h31 := kw_out s hk [111, 112, 116, 105, 111, 110, 97, 108] (by decide +kernel)
    have h32 := kw_out s hk [114, 101, 113, 117, 105, 114, 101] (by decide +kernel)
    have h33 := kw_out s hk [115, 105, 100] (by decide +kernel)
    have h34 := kw_out s hk [102, 105, 108, 101, 99, 111, 110] (by decide +kernel)
    have h35 := kw_out s hk [112, 101, 114, 109, 105, 115, 115, 105, 118, 101] (by decide +kernel)
    have h36 := kw_out s hk [97, 115, 115, 101, 114, 116] (by decide +kernel)
    have h37 := kw_out s hk [115, 101, 108, 102] (by decide +kernel)
    have h38 := kw_out s hk [105, 110] (by decide +kernel)
    clear hk
    go_enter Try.func17, Try.ntmps17
    go_wp2_with fail
    go_ret
    exact ⟨rfl, rfl⟩
  · rcases kw_in s hk with h | h | h | h | h | h | h | h | h | h | h | h | h | h | h | h | h | h | h | h | h | h | h | h | h | h | h | h | h | h | h | h | h | h | h | h | h | h | h
    all_goals
      clear hk
      go_enter Try.func17, Try.ntmps17
      go_wp2_with fail
      go_ret
      exact ⟨rfl, rfl⟩

set_option maxHeartbeats 400000 in
theorem tIdentifier_any (s : ByteArray) (hs : s.size ≤ maxLen) (w : World) : Calls Try.prog 19 #[.string s] w fun e w' => e = .returned (.bool (nameB s.data.toList && !kwB s.data.toList)) ∧ w = w' := by
  cases hn : nameB s.data.toList
  all_goals
    go_enter Try.func19, Try.ntmps19
    go_wp2_with (first | (go_at_call 39; ((with_reducible refine (named_any _ (by assumption) _).mono ?_); rintro e w' ⟨rfl, rfl⟩)) | (go_at_call 17; ((with_reducible refine (tKeyword_any _ _).mono ?_); rintro e w' ⟨rfl, rfl⟩)))
    go_ret
    exact ⟨rfl, rfl⟩
set_option maxHeartbeats 400000 in
theorem rIdentifier_any (s : ByteArray) (hs : s.size ≤ maxLen) (w : World) : Calls Try.prog 20 #[.string s] w fun e w' => e = .returned (.bool (nameB s.data.toList && !kwB s.data.toList)) ∧ w = w' := by
  cases hn : nameB s.data.toList
  all_goals
    go_enter Try.func20, Try.ntmps20
    go_wp2_with (first | (go_at_call 40; ((with_reducible refine (rName_any _ (by assumption) _).mono ?_); rintro e w' ⟨rfl, rfl⟩)) | (go_at_call 18; ((with_reducible refine (rKeyword_any _ _).mono ?_); rintro e w' ⟨rfl, rfl⟩)))
    go_ret
    exact ⟨rfl, rfl⟩
end Go.Proofs.Ytffflmghfcgkfaa
