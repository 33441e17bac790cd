/- The walk of the reference's text. -/
import Derived.Test.YtffflmghfcgkfaaRa
set_option linter.unusedSimpArgs false
set_option linter.unusedVariables false
namespace Go.Proofs.Ytffflmghfcgkfaa
open Go.RowKit Tk

def TextV (k : Nat) : Res → Value
  | .err c off => .tuple #[.int .i64 0, .int .i64 c, .int .i64 ((k + off : Nat) : Int)]
  | .ok _ n => .tuple #[.int .i64 ((k + n : Nat) : Int), .int .i64 0, .int .i64 0]
section
variable {src : ByteArray} {k m : Nat}
theorem textR_5 (hk : k < src.size) (hm : m + tw ptB (src.data.toList.drop m) = k + 1 + tw ptB (src.data.toList.drop (k + 1))) (h : src.size ≤ m) : textR (src.data.toList.drop k) = .err 5 0 := by
  have h1 := tw_end ptB src.data.toList m (by rw [sz]; omega)
  unfold textR
  rw [drop1, List.length_drop, sz, if_pos (by omega)]
theorem textR_lt (hm : m + tw ptB (src.data.toList.drop m) = k + 1 + tw ptB (src.data.toList.drop (k + 1))) (h : m < src.size) (hp : ptB src[m] = false) : m = k + 1 + tw ptB (src.data.toList.drop (k + 1)) ∧ k + 1 + tw ptB (src.data.toList.drop (k + 1)) < src.size := by
  have h1 := tw_no ptB src.data.toList m (by rw [sz]; exact h) (by rw [at_ src _ h]; exact hp)
  omega
theorem textR_9 (hk : k < src.size) (hm : m + tw ptB (src.data.toList.drop m) = k + 1 + tw ptB (src.data.toList.drop (k + 1))) (h : m < src.size) (hp : ptB src[m] = false) (hq : ¬ (src[m].toNat : Int) = 34) : textR (src.data.toList.drop k) = .err 9 (m - k) := by
  obtain ⟨h1, h2⟩ := textR_lt hm h hp
  unfold textR
  rw [drop1, List.length_drop, sz, if_neg (by omega), at_drop1 src k _ h2]
  subst h1
  rw [if_pos (show ¬ bi _ = 34 from hq)]
  congr 1; omega
theorem textR_4 (hk : k < src.size) (hm : m + tw ptB (src.data.toList.drop m) = k + 1 + tw ptB (src.data.toList.drop (k + 1))) (h : m < src.size) (hp : ptB src[m] = false) (hq : (src[m].toNat : Int) = 34) (h4 : 256 < (m : Int) - k - 1) : textR (src.data.toList.drop k) = .err 4 0 := by
  obtain ⟨h1, h2⟩ := textR_lt hm h hp
  unfold textR
  rw [drop1, List.length_drop, sz, if_neg (by omega), at_drop1 src k _ h2]
  subst h1
  rw [if_neg (fun h' => h' hq), if_pos (by omega)]
theorem textR_ok (hk : k < src.size) (hm : m + tw ptB (src.data.toList.drop m) = k + 1 + tw ptB (src.data.toList.drop (k + 1))) (h : m < src.size) (hp : ptB src[m] = false) (hq : (src[m].toNat : Int) = 34) (h4 : ¬ 256 < (m : Int) - k - 1) : textR (src.data.toList.drop k) = .ok 3 (m + 1 - k) := by
  obtain ⟨h1, h2⟩ := textR_lt hm h hp
  unfold textR
  rw [drop1, List.length_drop, sz, if_neg (by omega), at_drop1 src k _ h2]
  subst h1
  rw [if_neg (fun h' => h' hq), if_neg (by omega)]
  congr 1; omega
end
theorem fin_val {v1 v2 : Value} {w w' : World} (h : v1 = v2) (hw : w = w') : Ending.returned v1 = .returned v2 ∧ w = w' := ⟨by rw [h], hw⟩

set_option maxHeartbeats 1000000 in
theorem rtext_any (src : ByteArray) (k : Nat) (w : World) (hs : src.size ≤ 65536) (hk : k < src.size) :
    Calls Try.prog 63 #[.string src, .int .i64 k] w fun e w' => e = .returned (TextV k (textR (src.data.toList.drop k))) ∧ w = w' := by
  go_enter Try.func63, Try.ntmps63
  go_wp2_with (first | ((with_reducible refine wpTxt_q ?_ ?_ ?_); rfl; rfl; intro _ _) | ((with_reducible refine wpTxt_w0 ?_ ?_ ?_); rfl; rfl; intro _ _) | ((with_reducible refine wpTxt_s ?_ ?_); rfl; intro _ _; go_simp) | ((with_reducible refine wpTxt_sw ?_ ?_); rfl; intro _ _; go_simp) | (with_reducible refine wpTxt_nil ?_) | ((with_reducible refine wp_region_t mixed ?_ ?_); decide +kernel; intro _ _))
  go_loop [7] (fun i => ∃ m : Nat, k + 1 ≤ m ∧ m ≤ src.size ∧ i = .int .i64 m ∧ Hid (m + tw ptB (src.data.toList.drop m) = k + 1 + tw ptB (src.data.toList.drop (k + 1)))) (fun i => src.size - (intOf i).toNat)
  case atStart => exact ⟨k + 1, by omega, by omega, by go_num, rfl⟩
  case round =>
    obtain ⟨m, hm0, hm, rfl, hT⟩ := hrel
    by_cases hlt : m < src.size
    · by_cases x34 : (src[m].toNat : Int) = 34
      · have hp : ptB src[m] = false := by simp [ptB, prtB, bi, x34]
        have y : ((src[m].toNat : Int) != 34) = false := by rw [bne, beq_t x34]; rfl
        have hne : ¬ m = src.size := by omega
        by_cases h4 : 256 < (m : Int) - k - 1
        · have X := Lib.hid (textR_4 hk hT.out hlt hp x34 h4)
          clear x34 hp
          go_wp2_with (first | ((with_reducible refine wpTxt_q ?_ ?_ ?_); rfl; rfl; intro _ _) | ((with_reducible refine wpTxt_w0 ?_ ?_ ?_); rfl; rfl; intro _ _) | ((with_reducible refine wpTxt_s ?_ ?_); rfl; intro _ _; go_simp) | ((with_reducible refine wpTxt_sw ?_ ?_); rfl; intro _ _; go_simp) | (with_reducible refine wpTxt_nil ?_) | ((with_reducible refine wp_region_t mixed ?_ ?_); decide +kernel; intro _ _))
          refine bodyPost_ret (v := .tuple #[.int .i64 0, .int .i64 4, .int .i64 k]) (by simp [results, Try.f63, go_sem]) rfl ?_
          refine fin_val ?_ rfl
          rw [X.out]
          rfl
        · have X := Lib.hid (textR_ok hk hT.out hlt hp x34 h4)
          clear x34 hp
          go_wp2_with (first | ((with_reducible refine wpTxt_q ?_ ?_ ?_); rfl; rfl; intro _ _) | ((with_reducible refine wpTxt_w0 ?_ ?_ ?_); rfl; rfl; intro _ _) | ((with_reducible refine wpTxt_s ?_ ?_); rfl; intro _ _; go_simp) | ((with_reducible refine wpTxt_sw ?_ ?_); rfl; intro _ _; go_simp) | (with_reducible refine wpTxt_nil ?_) | ((with_reducible refine wp_region_t mixed ?_ ?_); decide +kernel; intro _ _))
          refine bodyPost_ret (v := .tuple #[.int .i64 ((m : Int) + 1), .int .i64 0, .int .i64 0]) (by simp [results, Try.f63, go_sem]) rfl ?_
          refine fin_val ?_ rfl
          rw [X.out]
          simp only [TextV]; rw [show k + (m + 1 - k) = m + 1 by omega]; rfl
      · have y : ((src[m].toNat : Int) != 34) = true := by rw [bne, beq_f x34]; rfl
        by_cases h1 : (src[m].toNat : Int) < 32
        · have hp : ptB src[m] = false := by simp only [ptB, prtB, bi]; exact decide_eq_false (by omega)
          have X := Lib.hid (textR_9 hk hT.out hlt hp x34)
          clear x34 hp
          go_wp2_with (first | ((with_reducible refine wpTxt_q ?_ ?_ ?_); rfl; rfl; intro _ _) | ((with_reducible refine wpTxt_w0 ?_ ?_ ?_); rfl; rfl; intro _ _) | ((with_reducible refine wpTxt_s ?_ ?_); rfl; intro _ _; go_simp) | ((with_reducible refine wpTxt_sw ?_ ?_); rfl; intro _ _; go_simp) | (with_reducible refine wpTxt_nil ?_) | ((with_reducible refine wp_region_t mixed ?_ ?_); decide +kernel; intro _ _))
          refine bodyPost_ret (v := .tuple #[.int .i64 0, .int .i64 9, .int .i64 m]) (by simp [results, Try.f63, go_sem]) rfl ?_
          refine fin_val ?_ rfl
          rw [X.out]
          simp only [TextV]; rw [show k + (m - k) = m by omega]
        · by_cases h2 : 126 < (src[m].toNat : Int)
          · have hp : ptB src[m] = false := by simp only [ptB, prtB, bi]; exact decide_eq_false (by omega)
            have X := Lib.hid (textR_9 hk hT.out hlt hp x34)
            clear x34 hp
            go_wp2_with (first | ((with_reducible refine wpTxt_q ?_ ?_ ?_); rfl; rfl; intro _ _) | ((with_reducible refine wpTxt_w0 ?_ ?_ ?_); rfl; rfl; intro _ _) | ((with_reducible refine wpTxt_s ?_ ?_); rfl; intro _ _; go_simp) | ((with_reducible refine wpTxt_sw ?_ ?_); rfl; intro _ _; go_simp) | (with_reducible refine wpTxt_nil ?_) | ((with_reducible refine wp_region_t mixed ?_ ?_); decide +kernel; intro _ _))
            refine bodyPost_ret (v := .tuple #[.int .i64 0, .int .i64 9, .int .i64 m]) (by simp [results, Try.f63, go_sem]) rfl ?_
            refine fin_val ?_ rfl
            rw [X.out]
            simp only [TextV]; rw [show k + (m - k) = m by omega]
          · have X := Lib.hid (tw_yes ptB src.data.toList m (by rw [sz]; exact hlt) (by rw [at_ src _ hlt]; simp only [ptB, prtB, bi]; exact decide_eq_true (by omega)))
            clear x34
            go_wp2_with (first | ((with_reducible refine wpTxt_q ?_ ?_ ?_); rfl; rfl; intro _ _) | ((with_reducible refine wpTxt_w0 ?_ ?_ ?_); rfl; rfl; intro _ _) | ((with_reducible refine wpTxt_s ?_ ?_); rfl; intro _ _; go_simp) | ((with_reducible refine wpTxt_sw ?_ ?_); rfl; intro _ _; go_simp) | (with_reducible refine wpTxt_nil ?_) | ((with_reducible refine wp_region_t mixed ?_ ?_); decide +kernel; intro _ _))
            go_round
            case rel => exact ⟨m + 1, by omega, by omega, by go_num, by have := X.out; have h2 := hT.out; show m + 1 + _ = _; omega⟩
            case measure => simp [intOf]; omega
    · have e1 : m = src.size := by omega
      have X := Lib.hid (textR_5 hk hT.out (by omega))
      subst e1
      go_wp2_with (first | ((with_reducible refine wpTxt_q ?_ ?_ ?_); rfl; rfl; intro _ _) | ((with_reducible refine wpTxt_w0 ?_ ?_ ?_); rfl; rfl; intro _ _) | ((with_reducible refine wpTxt_s ?_ ?_); rfl; intro _ _; go_simp) | ((with_reducible refine wpTxt_sw ?_ ?_); rfl; intro _ _; go_simp) | (with_reducible refine wpTxt_nil ?_) | ((with_reducible refine wp_region_t mixed ?_ ?_); decide +kernel; intro _ _))
      refine bodyPost_ret (v := .tuple #[.int .i64 0, .int .i64 5, .int .i64 k]) (by simp [results, Try.f63, go_sem]) rfl ?_
      refine fin_val ?_ rfl
      rw [X.out]
      rfl
end Go.Proofs.Ytffflmghfcgkfaa
