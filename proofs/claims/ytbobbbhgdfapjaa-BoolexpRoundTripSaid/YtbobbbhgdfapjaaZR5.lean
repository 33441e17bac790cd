/- Id, H2, Hf, Ha -/
import Derived.Test.YtbobbbhgdfapjaaRows
import Derived.WalkKit
import Derived.WalkSpells
import Derived.WalkLawsBesides
import Derived.Lib.Hide
import Derived.Test.YtbobbbhgdfapjaaZR1
import Derived.Test.YtbobbbhgdfapjaaZR4
import Derived.Test.YtbobbbhgdfapjaaZR2
import Derived.Test.YtbobbbhgdfapjaaZR3
set_option linter.unusedSimpArgs false
set_option linter.unusedVariables false
namespace Go.Proofs.Ytbobbbhgdfapjaa
set_option maxHeartbeats 8000000
set_option maxRecDepth 100000
open Go.RowKit Tk
theorem digit_any (c : Int) (w : World) : Calls Try.prog 57 #[.int .i32 c] w fun e w' => e = .returned (.bool (digB c)) ∧ w = w' := by
 go_enter Try.func57, Try.ntmps57
 go_wp2
 all_goals (go_ret; exact ⟨ret_bool (by simp [digB]; omega), rfl⟩)
theorem letter_any (c : Int) (w : World) : Calls Try.prog 55 #[.int .i32 c] w fun e w' => e = .returned (.bool (letB c)) ∧ w = w' := by
 go_enter Try.func55, Try.ntmps55
 go_wp2
 all_goals (go_ret; exact ⟨ret_bool (by rw [Bool.eq_iff_iff]; simp [letB]; omega), rfl⟩)
theorem nameB_long (s : ByteArray) (h : 32 < s.size) : nameB s.data.toList = false := by simp [nameB]; omega
theorem nameB_dig (s : ByteArray) (h : 0 < s.size) (hd : dgB s[0] = true) : nameB s.data.toList = false := by
 unfold nameB; rw [getD_of s h, hd]; simp
theorem nameB_bad (s : ByteArray) (k : Nat) (h : k < s.size) (hk : nmB s[k] = false) : nameB s.data.toList = false := by
 unfold nameB; rw [all_stop s k h hk]; simp
theorem nameB_ok (s : ByteArray) (k : Nat) (h : 0 < s.size) (h2 : ¬ 32 < s.size) (hd : dgB s[0] = false) (hk : s.size ≤ k) (ha : (s.data.toList.take k).all nmB = true) : nameB s.data.toList = true := by
 unfold nameB; rw [getD_of s h, hd, all_done s k hk ha, isEmpty_of s h]; simp; omega
theorem named_any (s : ByteArray) (hs : s.size ≤ maxLen) (w : World) : Calls Try.prog 97 #[.string s] w fun e w' => e = .returned (.bool (nameB s.data.toList)) ∧ w = w' := by
 unfold maxLen at hs
 by_cases h0 : 0 < s.size
 · obtain ⟨he1, he2⟩ := some_of h0
   by_cases h32 : 32 < s.size
   · go_enter Try.func97, Try.ntmps97
     go_wp2_with (first | ((with_reducible refine wpTxt_q ?_ ?_ ?_); rfl; rfl; intro _ _) | ((with_reducible refine wpTxt_w0 ?_ ?_ ?_); rfl; rfl; intro _ _) | ((with_reducible refine wpTxt_s ?_ ?_); rfl; intro _ _; go_simp) | ((with_reducible refine wpTxt_sw ?_ ?_); rfl; intro _ _; go_simp) | (with_reducible refine wpTxt_nil ?_) | ((with_reducible refine wp_region_t mixed ?_ ?_); decide +kernel; intro _ _) | (go_at_call 57; ((with_reducible refine (digit_any _ _).mono ?_); rintro e w' ⟨rfl, rfl⟩)))
     go_ret
     exact ⟨ret_bool (nameB_long s h32).symm, rfl⟩
   · by_cases hd : digB (s[0].toNat : Int) = true
     · go_enter Try.func97, Try.ntmps97
       go_wp2_with (first | ((with_reducible refine wpTxt_q ?_ ?_ ?_); rfl; rfl; intro _ _) | ((with_reducible refine wpTxt_w0 ?_ ?_ ?_); rfl; rfl; intro _ _) | ((with_reducible refine wpTxt_s ?_ ?_); rfl; intro _ _; go_simp) | ((with_reducible refine wpTxt_sw ?_ ?_); rfl; intro _ _; go_simp) | (with_reducible refine wpTxt_nil ?_) | ((with_reducible refine wp_region_t mixed ?_ ?_); decide +kernel; intro _ _) | (go_at_call 57; ((with_reducible refine (digit_any _ _).mono ?_); rintro e w' ⟨rfl, rfl⟩)))
       go_ret
       exact ⟨ret_bool (nameB_dig s h0 hd).symm, rfl⟩
     · have hd2 : digB (s[0].toNat : Int) = false := by simpa using hd
       clear hd
       go_enter Try.func97, Try.ntmps97
       go_wp2_with (first | ((with_reducible refine wpTxt_q ?_ ?_ ?_); rfl; rfl; intro _ _) | ((with_reducible refine wpTxt_w0 ?_ ?_ ?_); rfl; rfl; intro _ _) | ((with_reducible refine wpTxt_s ?_ ?_); rfl; intro _ _; go_simp) | ((with_reducible refine wpTxt_sw ?_ ?_); rfl; intro _ _; go_simp) | (with_reducible refine wpTxt_nil ?_) | ((with_reducible refine wp_region_t mixed ?_ ?_); decide +kernel; intro _ _) | (go_at_call 57; ((with_reducible refine (digit_any _ _).mono ?_); rintro e w' ⟨rfl, rfl⟩)))
       go_loop [20] (fun i => ∃ k : Nat, k ≤ s.size ∧ i = .int .i64 k ∧ Hid ((s.data.toList.take k).all nmB = true)) (fun i => s.size - (intOf i).toNat)
       case atStart => exact ⟨0, by omega, rfl, by simp [Hid]⟩
       case round =>
        obtain ⟨k, hk, rfl, hall⟩ := hrel
        by_cases hlt : k < s.size
        · by_cases hn : nmB s[k] = true
          · have hcase : letB (s[k].toNat : Int) = true ∨ letB (s[k].toNat : Int) = false ∧ digB (s[k].toNat : Int) = true := by
              cases hl : letB (s[k].toNat : Int)
              · simp [nmB, bi, hl] at hn; exact .inr ⟨rfl, hn⟩
              · exact .inl rfl
            have HN := Lib.hid hn
            clear hn
            rcases hcase with hl | ⟨hl, hg⟩
            all_goals
             go_wp2_with (first | ((with_reducible refine wpTxt_q ?_ ?_ ?_); rfl; rfl; intro _ _) | ((with_reducible refine wpTxt_w0 ?_ ?_ ?_); rfl; rfl; intro _ _) | ((with_reducible refine wpTxt_s ?_ ?_); rfl; intro _ _; go_simp) | ((with_reducible refine wpTxt_sw ?_ ?_); rfl; intro _ _; go_simp) | (with_reducible refine wpTxt_nil ?_) | ((with_reducible refine wp_region_t mixed ?_ ?_); decide +kernel; intro _ _) | (go_at_call 57; ((with_reducible refine (digit_any _ _).mono ?_); rintro e w' ⟨rfl, rfl⟩)) | (go_at_call 55; ((with_reducible refine (letter_any _ _).mono ?_); rintro e w' ⟨rfl, rfl⟩)))
             go_round
             case rel => exact ⟨k + 1, by omega, by go_num, all_step s k hlt hall.out HN.out⟩
             case measure => simp [intOf]; omega
          · have hn2 : nmB s[k] = false := by simpa using hn
            have hl : letB (s[k].toNat : Int) = false := by simp [nmB, bi] at hn2; exact hn2.1
            have hg : digB (s[k].toNat : Int) = false := by simp [nmB, bi] at hn2; exact hn2.2
            have HN := Lib.hid hn2
            clear hn2 hn
            go_wp2_with (first | ((with_reducible refine wpTxt_q ?_ ?_ ?_); rfl; rfl; intro _ _) | ((with_reducible refine wpTxt_w0 ?_ ?_ ?_); rfl; rfl; intro _ _) | ((with_reducible refine wpTxt_s ?_ ?_); rfl; intro _ _; go_simp) | ((with_reducible refine wpTxt_sw ?_ ?_); rfl; intro _ _; go_simp) | (with_reducible refine wpTxt_nil ?_) | ((with_reducible refine wp_region_t mixed ?_ ?_); decide +kernel; intro _ _) | (go_at_call 57; ((with_reducible refine (digit_any _ _).mono ?_); rintro e w' ⟨rfl, rfl⟩)) | (go_at_call 55; ((with_reducible refine (letter_any _ _).mono ?_); rintro e w' ⟨rfl, rfl⟩)))
            go_ret
            exact ⟨ret_bool (nameB_bad s k hlt HN.out).symm, rfl⟩
        · go_wp2
          go_ret
          exact ⟨ret_bool (nameB_ok s k h0 h32 hd2 (by omega) hall.out).symm, rfl⟩
 · have he := none_of h0
   go_enter Try.func97, Try.ntmps97
   go_wp2_with (first | ((with_reducible refine wpTxt_q ?_ ?_ ?_); rfl; rfl; intro _ _) | ((with_reducible refine wpTxt_w0 ?_ ?_ ?_); rfl; rfl; intro _ _) | ((with_reducible refine wpTxt_s ?_ ?_); rfl; intro _ _; go_simp) | ((with_reducible refine wpTxt_sw ?_ ?_); rfl; intro _ _; go_simp) | (with_reducible refine wpTxt_nil ?_) | ((with_reducible refine wp_region_t mixed ?_ ?_); decide +kernel; intro _ _) | (go_at_call 57; ((with_reducible refine (digit_any _ _).mono ?_); rintro e w' ⟨rfl, rfl⟩)))
   go_ret
   exact ⟨ret_bool (by rw [isEmpty_no s h0]; rfl), rfl⟩
theorem ext_list (s : ByteArray) (f k : Nat) : (s.extract f k).toList = (s.data.toList.drop f).take (k - f) := by
 rw [bl]; simp [ByteArray.data_extract]
theorem kw_in (s : ByteArray) (h : kwB s.data.toList = true) : s.toList = [109, 111, 100, 117, 108, 101] ∨ s.toList = [99, 108, 97, 115, 115] ∨ s.toList = [116, 121, 112, 101] ∨ s.toList = [97, 108, 105, 97, 115] ∨ s.toList = [116, 121, 112, 101, 97, 116, 116, 114, 105, 98, 117, 116, 101] ∨ s.toList = [97, 116, 116, 114, 105, 98, 117, 116, 101] ∨ s.toList = [114, 111, 108, 101] ∨ s.toList = [116, 121, 112, 101, 115] ∨ s.toList = [114, 111, 108, 101, 97, 108, 108, 111, 119] ∨ s.toList = [114, 111, 108, 101, 95, 116, 114, 97, 110, 115, 105, 116, 105, 111, 110] ∨ s.toList = [117, 115, 101, 114] ∨ s.toList = [114, 111, 108, 101, 115] ∨ s.toList = [108, 101, 118, 101, 108] ∨ s.toList = [114, 97, 110, 103, 101] ∨ s.toList = [98, 111, 111, 108] ∨ s.toList = [116, 114, 117, 101] ∨ s.toList = [102, 97, 108, 115, 101] ∨ s.toList = [115, 101, 110, 115, 105, 116, 105, 118, 105, 116, 121] ∨ s.toList = [99, 97, 116, 101, 103, 111, 114, 121] ∨ s.toList = [97, 108, 108, 111, 119] ∨ s.toList = [97, 117, 100, 105, 116, 97, 108, 108, 111, 119] ∨ s.toList = [100, 111, 110, 116, 97, 117, 100, 105, 116] ∨ s.toList = [110, 101, 118, 101, 114, 97, 108, 108, 111, 119] ∨ s.toList = [116, 121, 112, 101, 95, 116, 114, 97, 110, 115, 105, 116, 105, 111, 110] ∨ s.toList = [116, 121, 112, 101, 95, 99, 104, 97, 110, 103, 101] ∨ s.toList = [116, 121, 112, 101, 95, 109, 101, 109, 98, 101, 114] ∨ s.toList = [114, 97, 110, 103, 101, 95, 116, 114, 97, 110, 115, 105, 116, 105, 111, 110] ∨ s.toList = [99, 111, 110, 115, 116, 114, 97, 105, 110] ∨ s.toList = [118, 97, 108, 105, 100, 97, 116, 101, 116, 114, 97, 110, 115] ∨ s.toList = [105, 102] ∨ s.toList = [101, 108, 115, 101] ∨ s.toList = [111, 112, 116, 105, 111, 110, 97, 108] ∨ s.toList = [114, 101, 113, 117, 105, 114, 101] ∨ s.toList = [115, 105, 100] ∨ s.toList = [102, 105, 108, 101, 99, 111, 110] ∨ s.toList = [112, 101, 114, 109, 105, 115, 115, 105, 118, 101] ∨ s.toList = [97, 115, 115, 101, 114, 116] ∨ s.toList = [115, 101, 108, 102] ∨ s.toList = [105, 110] := by
 rw [bl]
 simpa [kwB, kwList] using h
theorem kw_out (s : ByteArray) (h : kwB s.data.toList = false) (x : List UInt8) (hx : x ∈ kwList) : (s.toList == x) = false := by
 rw [bl]
 cases he : s.data.toList == x
 · rfl
 · rw [beq_iff_eq] at he
   rw [← he] at hx
   have : kwB s.data.toList = true := by simpa [kwB] using hx
   rw [this] at h
   cases h
theorem tKeyword_any (s : ByteArray) (w : World) : Calls Try.prog 98 #[.string s] w fun e w' => e = .returned (.bool (kwB s.data.toList)) ∧ w = w' := by
 cases hk : kwB s.data.toList
 · have h0 := kw_out s hk [109, 111, 100, 117, 108, 101] (by decide +kernel)
   have h1 := kw_out s hk [99, 108, 97, 115, 115] (by decide +kernel)
   have h2 := kw_out s hk [116, 121, 112, 101] (by decide +kernel)
   have h3 := kw_out s hk [97, 108, 105, 97, 115] (by decide +kernel)
   have h4 := kw_out s hk [116, 121, 112, 101, 97, 116, 116, 114, 105, 98, 117, 116, 101] (by decide +kernel)
   have h5 := kw_out s hk [97, 116, 116, 114, 105, 98, 117, 116, 101] (by decide +kernel)
   have h6 := kw_out s hk [114, 111, 108, 101] (by decide +kernel)
   have h7 := kw_out s hk [116, 121, 112, 101, 115] (by decide +kernel)
   have h8 := kw_out s hk [114, 111, 108, 101, 97, 108, 108, 111, 119] (by decide +kernel)
   have h9 := kw_out s hk [114, 111, 108, 101, 95, 116, 114, 97, 110, 115, 105, 116, 105, 111, 110] (by decide +kernel)
   have h10 := kw_out s hk [117, 115, 101, 114] (by decide +kernel)
   have h11 := kw_out s hk [114, 111, 108, 101, 115] (by decide +kernel)
   have h12 := kw_out s hk [108, 101, 118, 101, 108] (by decide +kernel)
   have h13 := kw_out s hk [114, 97, 110, 103, 101] (by decide +kernel)
   have h14 := kw_out s hk [98, 111, 111, 108] (by decide +kernel)
   have h15 := kw_out s hk [116, 114, 117, 101] (by decide +kernel)
   have h16 := kw_out s hk [102, 97, 108, 115, 101] (by decide +kernel)
   have h17 := kw_out s hk [115, 101, 110, 115, 105, 116, 105, 118, 105, 116, 121] (by decide +kernel)
   have h18 := kw_out s hk [99, 97, 116, 101, 103, 111, 114, 121] (by decide +kernel)
   have h19 := kw_out s hk [97, 108, 108, 111, 119] (by decide +kernel)
   have h20 := kw_out s hk [97, 117, 100, 105, 116, 97, 108, 108, 111, 119] (by decide +kernel)
   have h21 := kw_out s hk [100, 111, 110, 116, 97, 117, 100, 105, 116] (by decide +kernel)
   have h22 := kw_out s hk [110, 101, 118, 101, 114, 97, 108, 108, 111, 119] (by decide +kernel)
   have h23 := kw_out s hk [116, 121, 112, 101, 95, 116, 114, 97, 110, 115, 105, 116, 105, 111, 110] (by decide +kernel)
   have h24 := kw_out s hk [116, 121, 112, 101, 95, 99, 104, 97, 110, 103, 101] (by decide +kernel)
   have h25 := kw_out s hk [116, 121, 112, 101, 95, 109, 101, 109, 98, 101, 114] (by decide +kernel)
   have h26 := kw_out s hk [114, 97, 110, 103, 101, 95, 116, 114, 97, 110, 115, 105, 116, 105, 111, 110] (by decide +kernel)
   have h27 := kw_out s hk [99, 111, 110, 115, 116, 114, 97, 105, 110] (by decide +kernel)
   have h28 := kw_out s hk [118, 97, 108, 105, 100, 97, 116, 101, 116, 114, 97, 110, 115] (by decide +kernel)
   have h29 := kw_out s hk [105, 102] (by decide +kernel)
   have h30 := kw_out s hk [101, 108, 115, 101] (by decide +kernel)
   have h31 := kw_out s hk [111, 112, 116, 105, 111, 110, 97, 108] (by decide +kernel)
   have h32 := kw_out s hk [114, 101, 113, 117, 105, 114, 101] (by decide +kernel)
   have h33 := kw_out s hk [115, 105, 100] (by decide +kernel)
   have h34 := kw_out s hk [102, 105, 108, 101, 99, 111, 110] (by decide +kernel)
   have h35 := kw_out s hk [112, 101, 114, 109, 105, 115, 115, 105, 118, 101] (by decide +kernel)
   have h36 := kw_out s hk [97, 115, 115, 101, 114, 116] (by decide +kernel)
   have h37 := kw_out s hk [115, 101, 108, 102] (by decide +kernel)
   have h38 := kw_out s hk [105, 110] (by decide +kernel)
   clear hk
   go_enter Try.func98, Try.ntmps98
   go_wp2_with fail
   go_ret
   exact ⟨rfl, rfl⟩
 · rcases kw_in s hk with h | h | h | h | h | h | h | h | h | h | h | h | h | h | h | h | h | h | h | h | h | h | h | h | h | h | h | h | h | h | h | h | h | h | h | h | h | h | h
   all_goals
    clear hk
    go_enter Try.func98, Try.ntmps98
    go_wp2_with fail
    go_ret
    exact ⟨rfl, rfl⟩
theorem tIdentifier_any (s : ByteArray) (hs : s.size ≤ maxLen) (w : World) : Calls Try.prog 81 #[.string s] w fun e w' => e = .returned (.bool (nameB s.data.toList && !kwB s.data.toList)) ∧ w = w' := by
 cases hn : nameB s.data.toList
 all_goals
  go_enter Try.func81, Try.ntmps81
  go_wp2_with (first | (go_at_call 97; ((with_reducible refine (named_any _ (by assumption) _).mono ?_); rintro e w' ⟨rfl, rfl⟩)) | (go_at_call 98; ((with_reducible refine (tKeyword_any _ _).mono ?_); rintro e w' ⟨rfl, rfl⟩)))
  go_ret
  exact ⟨rfl, rfl⟩
open Go.RowKit Tk
def opn (k : Int) : Int := if k = 1 then 0 else if k = 2 then 1 else if k = 3 ∨ k = 4 ∨ k = 5 ∨ k = 6 ∨ k = 7 then 2 else -1
theorem opn_vals (k : Int) : opn k = -1 ∨ opn k = 0 ∨ opn k = 1 ∨ opn k = 2 := by unfold opn; repeat' split; all_goals omega
theorem boperands_any (k : Int) (w : World) : Calls Try.prog 35 #[.int .i64 k] w (IPost (opn k) w) := by
 by_cases hin : k = 1 ∨ k = 2 ∨ k = 3 ∨ k = 4 ∨ k = 5 ∨ k = 6 ∨ k = 7
 · rcases hin with rfl | rfl | rfl | rfl | rfl | rfl | rfl
   all_goals
    go_enter Try.func35, Try.ntmps35
    have E := Only.refl [] w
    go_upto_region 9999 with (first | fail)
    go_ret
    exact ⟨rfl, E.low⟩
 · simp only [not_or] at hin
   obtain ⟨n1, n2, n3, n4, n5, n6, n7⟩ := hin
   obtain ⟨g1, -⟩ := kd_f n1
   obtain ⟨g2, -⟩ := kd_f n2
   obtain ⟨g3, -⟩ := kd_f n3
   obtain ⟨g4, -⟩ := kd_f n4
   obtain ⟨g5, -⟩ := kd_f n5
   obtain ⟨g6, -⟩ := kd_f n6
   obtain ⟨g7, -⟩ := kd_f n7
   have hv : opn k = -1 := by simp [opn, n1, n2, n3, n4, n5, n6, n7]
   have HV := Lib.hid hv
   clear hv n1 n2 n3 n4 n5 n6 n7
   go_enter Try.func35, Try.ntmps35
   have E := Only.refl [] w
   go_upto_region 9999 with (first | fail)
   go_ret
   exact ⟨by rw [HV.out]; rfl, E.low⟩
open Go.RowKit Tk
def U64Post (n : Int) (w : World) (e : Ending) (w' : World) : Prop := e = .returned (.int .u64 n) ∧ Ext w w'
def wAnd (a b : Int) : Int := bits .and .u64 a b
def wOr (a b : Int) : Int := bits .or .u64 a b
def wXor (a b : Int) : Int := bits .xor .u64 a b
def wNot (a : Int) : Int := bits .xor .u64 IntKind.u64.max a
def wSame (a b : Int) : Int := wNot (wXor a b)
theorem b6and_any (a b : Int) (w : World) : Calls Try.prog 65 #[.agg #[.int .u64 a, .int .u64 b]] w (U64Post (wAnd a b) w) := by
 go_enter Try.func65, Try.ntmps65
 have E := Only.refl [] w
 go_upto_region 9999 with (first | ((with_reducible refine at_dst 1 ?_); go_simp; (generalize hX1 : Array.size (World.heap _) = X1); refine new_block hX1 ?_; intro wn bb hx; (try have z1 := Nat.le_trans E.size (Nat.le_of_eq hX1)); have b1 := Loc.new bb E hX1; clear bb hX1; (try replace E := E.ext hx); (try replace hcE := bcell E.low); (try replace c1 := b1.cf)))
 go_ret
 exact ⟨rfl, E.low⟩
theorem b6or_any (a b : Int) (w : World) : Calls Try.prog 66 #[.agg #[.int .u64 a, .int .u64 b]] w (U64Post (wOr a b) w) := by
 go_enter Try.func66, Try.ntmps66
 have E := Only.refl [] w
 go_upto_region 9999 with (first | ((with_reducible refine at_dst 1 ?_); go_simp; (generalize hX1 : Array.size (World.heap _) = X1); refine new_block hX1 ?_; intro wn bb hx; (try have z1 := Nat.le_trans E.size (Nat.le_of_eq hX1)); have b1 := Loc.new bb E hX1; clear bb hX1; (try replace E := E.ext hx); (try replace hcE := bcell E.low); (try replace c1 := b1.cf)))
 go_ret
 exact ⟨rfl, E.low⟩
theorem b6differ_any (a b : Int) (w : World) : Calls Try.prog 68 #[.agg #[.int .u64 a, .int .u64 b]] w (U64Post (wXor a b) w) := by
 go_enter Try.func68, Try.ntmps68
 have E := Only.refl [] w
 go_upto_region 9999 with (first | ((with_reducible refine at_dst 1 ?_); go_simp; (generalize hX1 : Array.size (World.heap _) = X1); refine new_block hX1 ?_; intro wn bb hx; (try have z1 := Nat.le_trans E.size (Nat.le_of_eq hX1)); have b1 := Loc.new bb E hX1; clear bb hX1; (try replace E := E.ext hx); (try replace hcE := bcell E.low); (try replace c1 := b1.cf)))
 go_ret
 exact ⟨rfl, E.low⟩
theorem b6same_any (a b : Int) (w : World) : Calls Try.prog 67 #[.agg #[.int .u64 a, .int .u64 b]] w (U64Post (wSame a b) w) := by
 go_enter Try.func67, Try.ntmps67
 have E := Only.refl [] w
 go_upto_region 9999 with (first | ((with_reducible refine at_dst 1 ?_); go_simp; (generalize hX1 : Array.size (World.heap _) = X1); refine new_block hX1 ?_; intro wn bb hx; (try have z1 := Nat.le_trans E.size (Nat.le_of_eq hX1)); have b1 := Loc.new bb E hX1; clear bb hX1; (try replace E := E.ext hx); (try replace hcE := bcell E.low); (try replace c1 := b1.cf)))
 go_ret
 exact ⟨rfl, E.low⟩
/-- the method that operator returns -/
def operF (op : Int) : Nat := if op = 3 then 65 else if op = 4 then 66 else if op = 6 then 67 else 68
def operW (op a b : Int) : Int := if op = 3 then wAnd a b else if op = 4 then wOr a b else if op = 6 then wSame a b else wXor a b
theorem boperator_any (k : Int) (w : World) : Calls Try.prog 45 #[.int .i64 k] w (fun e w' => e = .returned (.func (.func (operF k)) #[] #[]) ∧ Ext w w') := by
 by_cases hin : k = 3 ∨ k = 4 ∨ k = 6
 · rcases hin with rfl | rfl | rfl
   all_goals
    go_enter Try.func45, Try.ntmps45
    have E := Only.refl [] w
    go_upto_region 9999 with (first | fail)
    go_ret
    exact ⟨rfl, E.low⟩
 · simp only [not_or] at hin
   obtain ⟨n3, n4, n6⟩ := hin
   obtain ⟨g3, -⟩ := kd_f n3
   obtain ⟨g4, -⟩ := kd_f n4
   obtain ⟨g6, -⟩ := kd_f n6
   have hv : operF k = 68 := by simp [operF, n3, n4, n6]
   have HV := Lib.hid hv
   clear hv n3 n4 n6
   go_enter Try.func45, Try.ntmps45
   have E := Only.refl [] w
   go_upto_region 9999 with (first | fail)
   go_ret
   exact ⟨by rw [HV.out]; rfl, E.low⟩
open Go.RowKit Tk
def boC (x : ByteArray × Bool) : List Value := [.string x.1, .bool x.2]
theorem boC_len (x : ByteArray × Bool) : (boC x).length = 2 := rfl
def findB (s : ByteArray) : List (ByteArray × Bool) → Option Nat
 | [] => none
 | x :: l => if x.1 = s then some 0 else (findB s l).map (· + 1)
def valB (s : ByteArray) (l : List (ByteArray × Bool)) : Option Bool := (findB s l).bind fun i => (l[i]?).map (·.2)
theorem findB_lt {s : ByteArray} : ∀ {l : List (ByteArray × Bool)} {i : Nat}, findB s l = some i → i < l.length
 | x :: l, i, h => by
   unfold findB at h
   split at h
   · injection h with h; subst h; exact Nat.zero_lt_succ _
   · obtain ⟨j, hj, rfl⟩ := Option.map_eq_some_iff.1 h
     have := findB_lt hj
     rw [List.length_cons]; omega
theorem findB_hit {s : ByteArray} {l : List (ByteArray × Bool)} {j : Nat} {y : ByteArray × Bool} {R : Option Nat} (h : Hid ((findB s (l.drop j)).map (· + j) = R)) (hy : l[j]? = some y) (h2 : y.1 = s) : R = some j := by
 have := h.out
 rw [drop_at hy, findB, if_pos h2] at this
 simpa using this.symm
theorem findB_miss {s : ByteArray} {l : List (ByteArray × Bool)} {j : Nat} {y : ByteArray × Bool} {R : Option Nat} (h : Hid ((findB s (l.drop j)).map (· + j) = R)) (hy : l[j]? = some y) (hn : ¬ y.1 = s) : Hid ((findB s (l.drop (j + 1))).map (· + (j + 1)) = R) := by
 have := h.out
 rw [drop_at hy, findB, if_neg hn, Option.map_map] at this
 refine Lib.hid ?_
 rw [← this]
 congr 1
 funext i
 simp only [Function.comp]; omega
def VPost (r : Option Bool) (w : World) (e : Ending) (w' : World) : Prop := e = .returned (.tuple #[.bool (r.getD false), .bool r.isSome]) ∧ Ext w w'
theorem bfind_any {w : World} {a : Option Addr} {n c : Nat} {l : List (ByteArray × Bool)} (hl : RRow w 2 boC (.slice a n c) l) (s : ByteArray) : Calls Try.prog 25 #[.string s, .slice a n c] w (VPost (valB s l) w) := by
 obtain ⟨rfl, n2⟩ := RRow.lens hl
 obtain ⟨R, hR⟩ : ∃ R, findB s l = R := ⟨_, rfl⟩
 unfold valB
 rw [hR]
 have HR : Hid ((findB s (l.drop 0)).map (· + 0) = R) := Lib.hid (by simpa using hR)
 clear hR
 go_enter Try.func25, Try.ntmps25
 have E := Only.refl [] w
 go_upto_region 2 with (first | fail)
 go_loopw [10] (fun i wr => ∃ j : Nat, i = .int .i64 j ∧ j ≤ l.length ∧ Hid ((findB s (l.drop j)).map (· + j) = R) ∧ Only [] w wr) (fun i _ => l.length - (intOf i).toNat)
 case atStart => exact ⟨0, rfl, Nat.zero_le _, HR, E⟩
 case round =>
  clear HR E
  (try clear hcE)
  obtain ⟨j, rfl, hj, HR, E⟩ := hrel
  have hcE := bcell E.low
  by_cases hlt : j < l.length
  · obtain ⟨y, hy⟩ := at_some hlt
    obtain ⟨g, o, hgo, hg, hc⟩ := RRow.cells hl hlt
    have hye : l[j] = y := (List.getElem?_eq_some_iff.1 hy).2
    rw [hye] at hc
    have k0 : w.cell? ⟨g, o + j * 2, none⟩ = some (.string y.1) := hc 0 (by omega)
    have k1 : w.cell? ⟨g, o + j * 2 + 1, none⟩ = some (.bool y.2) := hc 1 (by omega)
    have HY := Lib.hid hy
    clear hc hye hy
    by_cases h2 : y.1 = s
    · have g3 := txt_t h2
      have hs := findB_hit HR HY.out h2
      have HS := Lib.hid hs
      have H2 := Lib.hid h2
      clear h2 HR hs
      go_upto_region 9999 with (first | ((first | ((with_reducible refine at_store 7 ?_); have bo := b7; refine wp_put bo rfl rfl ?_ ?_ ?_ ?_; (· kernel_rfl); (· first | rfl | kernel_rfl); (· first | decide | exact Nat.le_refl _ | simp [Act.eval, Value.cells] | (simp [Act.eval, Act.put, Value.cells]; done)); intro wn bn hb; dsimp only [Act.put]; simp only [putA, Act.eval, Value.cells, Nat.reduceAdd, putL, exC_size] at bn; have E2 := E.put bo hb; clear E bo; have E := E2; clear E2; clear b7; have b7 := bn; clear bn hb) | ((with_reducible refine at_dst 7 ?_); go_simp; (generalize hXn : Array.size (World.heap _) = X7); refine new_block hXn ?_; intro wn bb hx; have b7 := Loc.new bb E hXn; have zz := Nat.le_trans E.size (Nat.le_of_eq hXn); clear bb hXn)); (try replace E := E.ext hx); (try replace hcE := bcell E.low); (try replace c7 := b7.cf)))
      refine bodyPost_ret (v := .tuple #[.bool y.2, .bool true]) (by simp [results, Try.f25, go_sem]) rfl ⟨by rw [HS.out]; simp only [Option.bind_some]; rw [HY.out]; rfl, E.low⟩
    · have g3 := txt_f h2
      have HS := findB_miss HR HY.out h2
      have H2 := Lib.hid h2
      clear h2 HR
      go_upto_region 9999 with (first | ((first | ((with_reducible refine at_store 7 ?_); have bo := b7; refine wp_put bo rfl rfl ?_ ?_ ?_ ?_; (· kernel_rfl); (· first | rfl | kernel_rfl); (· first | decide | exact Nat.le_refl _ | simp [Act.eval, Value.cells] | (simp [Act.eval, Act.put, Value.cells]; done)); intro wn bn hb; dsimp only [Act.put]; simp only [putA, Act.eval, Value.cells, Nat.reduceAdd, putL, exC_size] at bn; have E2 := E.put bo hb; clear E bo; have E := E2; clear E2; clear b7; have b7 := bn; clear bn hb) | ((with_reducible refine at_dst 7 ?_); go_simp; (generalize hXn : Array.size (World.heap _) = X7); refine new_block hXn ?_; intro wn bb hx; have b7 := Loc.new bb E hXn; have zz := Nat.le_trans E.size (Nat.le_of_eq hXn); clear bb hXn)); (try replace E := E.ext hx); (try replace hcE := bcell E.low); (try replace c7 := b7.cf)))
      (try simp only [← hgo])
      clear hgo
      go_roundw
      case rel => exact ⟨j + 1, by go_num, by omega, HS, E⟩
      case measure => simp [intOf]; omega
  · have hz : R = none := by
      have := HR.out
      rw [List.drop_of_length_le (by omega)] at this
      exact this.symm
    have HZ := Lib.hid hz
    clear hz
    go_upto_region 9999 with (first | fail)
    refine bodyPost_ret (v := .tuple #[.bool false, .bool false]) (by simp [results, Try.f25, go_sem]) rfl ⟨by rw [HZ.out]; rfl, E.low⟩
end Go.Proofs.Ytbobbbhgdfapjaa
