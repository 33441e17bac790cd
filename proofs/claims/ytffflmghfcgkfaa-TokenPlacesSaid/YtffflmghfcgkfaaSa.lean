/- The walks of both functions Same, and of Equal. -/
import Derived.Test.YtffflmghfcgkfaaTo
set_option linter.unusedSimpArgs false
set_option linter.unusedVariables false
namespace Go.Proofs.Ytffflmghfcgkfaa
open Go.RowKit Tk

def QPost (b : Bool) (w : World) (e : Ending) (w' : World) : Prop := e = .returned (.bool b) ∧ ∃ n, w.drewN n = w'
theorem like_no1 {a b : Tok} (h : ¬ a.kind = b.kind) : a.like b = false := by simp [Tok.like, h]
theorem like_no2 {a b : Tok} (h : ¬ a.text = b.text) : a.like b = false := by simp [Tok.like, h]
theorem like_yes {a b : Tok} (h1 : a.kind = b.kind) (h2 : a.text = b.text) : a.like b = true := by simp [Tok.like, h1, h2]
theorem txt_t {a b : ByteArray} (h : a = b) : (a.toList == b.toList) = true := by simp [h]
theorem txt_inj {a b : ByteArray} (h : a.toList = b.toList) : a = b := by
  rw [bl, bl] at h
  obtain ⟨⟨l⟩⟩ := a
  obtain ⟨⟨m⟩⟩ := b
  simp only at h
  rw [h]
theorem txt_f {a b : ByteArray} (h : ¬ a = b) : (a.toList == b.toList) = false := by
  rw [beq_eq_false_iff_ne]
  exact fun h' => h (txt_inj h')
theorem kd_t {a b : Int} (h : a = b) : (a == b) = true ∧ (a != b) = false := by simp [h]
theorem kd_f {a b : Int} (h : ¬ a = b) : (a == b) = false ∧ (a != b) = true := by simp [h]
theorem len_f {a b : Nat} (h : ¬ a = b) : ((a : Int) == (b : Int)) = false ∧ ((a : Int) != (b : Int)) = true := by
  have : ¬ (a : Int) = b := by omega
  simp [this]
theorem same_no {a b : List Tok} {k : Nat} (hl : a.length = b.length) (h : k < a.length) (h' : k < b.length) (hn : a[k].like b[k] = false) : sameB a b = false := by
  cases hs : sameB a b
  · rfl
  · have := (sameB_iff hl).1 hs k h h'
    rw [hn] at this
    cases this
theorem same_yes {a b : List Tok} {k : Nat} (hl : a.length = b.length) (h : a.length ≤ k) (hall : ∀ j (_ : j < k) (h1 : j < a.length) (h2 : j < b.length), a[j].like b[j] = true) : sameB a b = true :=
  (sameB_iff hl).2 fun i hi hi' => hall i (by omega) hi hi'
theorem all_snoc {a b : List Tok} {k : Nat} (hall : ∀ j (_ : j < k) (h1 : j < a.length) (h2 : j < b.length), a[j].like b[j] = true) (h : k < a.length) (h' : k < b.length) (hk : a[k].like b[k] = true) :
    ∀ j (_ : j < k + 1) (h1 : j < a.length) (h2 : j < b.length), a[j].like b[j] = true := by
  intro j hj h1 h2
  by_cases e : j = k
  · subst e; exact hk
  · exact hall j (by omega) h1 h2
theorem qpost {b c : Bool} {w w' : World} (h : b = c) (n : Nat) (hw : w.drewN n = w') : QPost c w (.returned (.bool b)) w' := ⟨by rw [h], n, hw⟩
set_option maxHeartbeats 1000000 in
theorem tSame_any (a b : List Tok) (va vb : Value) (w : World) (ha : Toks w va a) (hb : Toks w vb b) (hs : a.length ≤ 1000000) (hs2 : b.length ≤ 1000000) : Calls Try.prog 29 #[va, vb] w (QPost (sameB a b) w) := by
  obtain ⟨ao, ca, rfl, a1, a2, a3⟩ := ha
  obtain ⟨bo, cb, rfl, b1, b2, b3⟩ := hb
  unfold maxLen at a2 b2
  by_cases hl : a.length = b.length
  · have H := Lib.hid hl
    have hl2 : ((a.length : Int) == (b.length : Int)) = true := by simp [hl]
    have hl3 : ((a.length : Int) != (b.length : Int)) = false := by simp [hl]
    clear hl
    go_enter Try.func29, Try.ntmps29
    go_wp2_with (first | ((with_reducible refine wpTxt_q ?_ ?_ ?_); rfl; rfl; intro _ _) | ((with_reducible refine wpTxt_w0 ?_ ?_ ?_); rfl; rfl; intro _ _) | ((with_reducible refine wpTxt_s ?_ ?_); rfl; intro _ _; go_simp) | ((with_reducible refine wpTxt_sw ?_ ?_); rfl; intro _ _; go_simp) | (with_reducible refine wpTxt_nil ?_) | ((with_reducible refine wp_region_t mixed ?_ ?_); decide +kernel; intro _ _))
    go_loopw [13] (fun i wr => ∃ k : Nat, i = .int .i64 k ∧ k ≤ a.length ∧ Hid (∀ j (h : j < k) (h1 : j < a.length) (h2 : j < b.length), a[j].like b[j] = true) ∧ ∃ n, wr = w.drewN n) (fun i _ => a.length - (intOf i).toNat)
    case atStart => exact ⟨0, rfl, by omega, fun j h => absurd h (by omega), 0, rfl⟩
    case round =>
      obtain ⟨k, rfl, hk, hall, n, rfl⟩ := hrel
      by_cases hlt : k < a.length
      · rcases a3 with h0' | ⟨ga, oa, rfl, hga, hca⟩
        · omega
        rcases b3 with h0' | ⟨gb, ob, rfl, hgb, hcb⟩
        · have := H.out; omega
        have hltb : k < b.length := by have := H.out; omega
        obtain ⟨p0, p1, -, -⟩ := hca k hlt
        obtain ⟨q0, q1, -, -⟩ := hcb k hltb
        clear hca hcb
        by_cases hkd : a[k].kind = b[k].kind
        · obtain ⟨g1, g2⟩ := kd_t hkd
          by_cases htx : a[k].text = b[k].text
          · have g3 := txt_t htx
            have HL := Lib.hid (like_yes hkd htx)
            clear hkd htx
            go_wp2_with (first | ((with_reducible refine wpTxt_q ?_ ?_ ?_); rfl; rfl; intro _ _) | ((with_reducible refine wpTxt_w0 ?_ ?_ ?_); rfl; rfl; intro _ _) | ((with_reducible refine wpTxt_s ?_ ?_); rfl; intro _ _; go_simp) | ((with_reducible refine wpTxt_sw ?_ ?_); rfl; intro _ _; go_simp) | (with_reducible refine wpTxt_nil ?_) | ((with_reducible refine wp_region_t mixed ?_ ?_); decide +kernel; intro _ _))
            go_roundw
            case rel => exact ⟨k + 1, by go_num, by omega, all_snoc hall.out hlt hltb HL.out, n + 1, rfl⟩
            case measure => simp [intOf]; omega
          · have g3 := txt_f htx
            have HL := Lib.hid (like_no2 htx)
            clear hkd htx
            go_wp2_with (first | ((with_reducible refine wpTxt_q ?_ ?_ ?_); rfl; rfl; intro _ _) | ((with_reducible refine wpTxt_w0 ?_ ?_ ?_); rfl; rfl; intro _ _) | ((with_reducible refine wpTxt_s ?_ ?_); rfl; intro _ _; go_simp) | ((with_reducible refine wpTxt_sw ?_ ?_); rfl; intro _ _; go_simp) | (with_reducible refine wpTxt_nil ?_) | ((with_reducible refine wp_region_t mixed ?_ ?_); decide +kernel; intro _ _))
            go_ret
            exact qpost (same_no H.out hlt hltb HL.out).symm (n + 1) rfl
        · obtain ⟨g1, g2⟩ := kd_f hkd
          have HL := Lib.hid (like_no1 hkd)
          clear hkd
          go_wp2_with (first | ((with_reducible refine wpTxt_q ?_ ?_ ?_); rfl; rfl; intro _ _) | ((with_reducible refine wpTxt_w0 ?_ ?_ ?_); rfl; rfl; intro _ _) | ((with_reducible refine wpTxt_s ?_ ?_); rfl; intro _ _; go_simp) | ((with_reducible refine wpTxt_sw ?_ ?_); rfl; intro _ _; go_simp) | (with_reducible refine wpTxt_nil ?_) | ((with_reducible refine wp_region_t mixed ?_ ?_); decide +kernel; intro _ _))
          go_ret
          exact qpost (same_no H.out hlt hltb HL.out).symm (n + 1) rfl
      · go_wp2_with (first | ((with_reducible refine wpTxt_q ?_ ?_ ?_); rfl; rfl; intro _ _) | ((with_reducible refine wpTxt_w0 ?_ ?_ ?_); rfl; rfl; intro _ _) | ((with_reducible refine wpTxt_s ?_ ?_); rfl; intro _ _; go_simp) | ((with_reducible refine wpTxt_sw ?_ ?_); rfl; intro _ _; go_simp) | (with_reducible refine wpTxt_nil ?_) | ((with_reducible refine wp_region_t mixed ?_ ?_); decide +kernel; intro _ _))
        go_ret
        exact qpost (same_yes H.out (by omega) hall.out).symm n rfl
  · obtain ⟨g1, g2⟩ := len_f hl
    have HL := Lib.hid (sameB_len hl)
    clear hl
    go_enter Try.func29, Try.ntmps29
    go_wp2_with (first | ((with_reducible refine wpTxt_q ?_ ?_ ?_); rfl; rfl; intro _ _) | ((with_reducible refine wpTxt_w0 ?_ ?_ ?_); rfl; rfl; intro _ _) | ((with_reducible refine wpTxt_s ?_ ?_); rfl; intro _ _; go_simp) | ((with_reducible refine wpTxt_sw ?_ ?_); rfl; intro _ _; go_simp) | (with_reducible refine wpTxt_nil ?_) | ((with_reducible refine wp_region_t mixed ?_ ?_); decide +kernel; intro _ _))
    go_ret
    exact qpost HL.out.symm 0 rfl
set_option maxHeartbeats 1000000 in
theorem rSame_any (a b : List Tok) (va vb : Value) (w : World) (ha : Toks w va a) (hb : Toks w vb b) (hs : a.length ≤ 1000000) (hs2 : b.length ≤ 1000000) : Calls Try.prog 32 #[va, vb] w (QPost (sameB a b) w) := by
  obtain ⟨ao, ca, rfl, a1, a2, a3⟩ := ha
  obtain ⟨bo, cb, rfl, b1, b2, b3⟩ := hb
  unfold maxLen at a2 b2
  by_cases hl : a.length = b.length
  · have H := Lib.hid hl
    have hl2 : ((a.length : Int) == (b.length : Int)) = true := by simp [hl]
    have hl3 : ((a.length : Int) != (b.length : Int)) = false := by simp [hl]
    clear hl
    go_enter Try.func32, Try.ntmps32
    go_wp2_with (first | ((with_reducible refine wpTxt_q ?_ ?_ ?_); rfl; rfl; intro _ _) | ((with_reducible refine wpTxt_w0 ?_ ?_ ?_); rfl; rfl; intro _ _) | ((with_reducible refine wpTxt_s ?_ ?_); rfl; intro _ _; go_simp) | ((with_reducible refine wpTxt_sw ?_ ?_); rfl; intro _ _; go_simp) | (with_reducible refine wpTxt_nil ?_) | ((with_reducible refine wp_region_t mixed ?_ ?_); decide +kernel; intro _ _))
    go_loopw [5] (fun i wr => ∃ k : Nat, i = .int .i64 k ∧ k ≤ a.length ∧ Hid (∀ j (h : j < k) (h1 : j < a.length) (h2 : j < b.length), a[j].like b[j] = true) ∧ ∃ n, wr = w.drewN n) (fun i _ => a.length - (intOf i).toNat)
    case atStart => exact ⟨0, rfl, by omega, fun j h => absurd h (by omega), 0, rfl⟩
    case round =>
      obtain ⟨k, rfl, hk, hall, n, rfl⟩ := hrel
      by_cases hlt : k < a.length
      · rcases a3 with h0' | ⟨ga, oa, rfl, hga, hca⟩
        · omega
        rcases b3 with h0' | ⟨gb, ob, rfl, hgb, hcb⟩
        · have := H.out; omega
        have hltb : k < b.length := by have := H.out; omega
        obtain ⟨p0, p1, -, -⟩ := hca k hlt
        obtain ⟨q0, q1, -, -⟩ := hcb k hltb
        clear hca hcb
        by_cases hkd : a[k].kind = b[k].kind
        · obtain ⟨g1, g2⟩ := kd_t hkd
          by_cases htx : a[k].text = b[k].text
          · have g3 := txt_t htx
            have HL := Lib.hid (like_yes hkd htx)
            clear hkd htx
            go_wp2_with (first | ((with_reducible refine wpTxt_q ?_ ?_ ?_); rfl; rfl; intro _ _) | ((with_reducible refine wpTxt_w0 ?_ ?_ ?_); rfl; rfl; intro _ _) | ((with_reducible refine wpTxt_s ?_ ?_); rfl; intro _ _; go_simp) | ((with_reducible refine wpTxt_sw ?_ ?_); rfl; intro _ _; go_simp) | (with_reducible refine wpTxt_nil ?_) | ((with_reducible refine wp_region_t mixed ?_ ?_); decide +kernel; intro _ _))
            go_roundw
            case rel => exact ⟨k + 1, by go_num, by omega, all_snoc hall.out hlt hltb HL.out, n + 1, rfl⟩
            case measure => simp [intOf]; omega
          · have g3 := txt_f htx
            have HL := Lib.hid (like_no2 htx)
            clear hkd htx
            go_wp2_with (first | ((with_reducible refine wpTxt_q ?_ ?_ ?_); rfl; rfl; intro _ _) | ((with_reducible refine wpTxt_w0 ?_ ?_ ?_); rfl; rfl; intro _ _) | ((with_reducible refine wpTxt_s ?_ ?_); rfl; intro _ _; go_simp) | ((with_reducible refine wpTxt_sw ?_ ?_); rfl; intro _ _; go_simp) | (with_reducible refine wpTxt_nil ?_) | ((with_reducible refine wp_region_t mixed ?_ ?_); decide +kernel; intro _ _))
            go_ret
            exact qpost (same_no H.out hlt hltb HL.out).symm (n + 1) rfl
        · obtain ⟨g1, g2⟩ := kd_f hkd
          have HL := Lib.hid (like_no1 hkd)
          clear hkd
          go_wp2_with (first | ((with_reducible refine wpTxt_q ?_ ?_ ?_); rfl; rfl; intro _ _) | ((with_reducible refine wpTxt_w0 ?_ ?_ ?_); rfl; rfl; intro _ _) | ((with_reducible refine wpTxt_s ?_ ?_); rfl; intro _ _; go_simp) | ((with_reducible refine wpTxt_sw ?_ ?_); rfl; intro _ _; go_simp) | (with_reducible refine wpTxt_nil ?_) | ((with_reducible refine wp_region_t mixed ?_ ?_); decide +kernel; intro _ _))
          go_ret
          exact qpost (same_no H.out hlt hltb HL.out).symm (n + 1) rfl
      · go_wp2_with (first | ((with_reducible refine wpTxt_q ?_ ?_ ?_); rfl; rfl; intro _ _) | ((with_reducible refine wpTxt_w0 ?_ ?_ ?_); rfl; rfl; intro _ _) | ((with_reducible refine wpTxt_s ?_ ?_); rfl; intro _ _; go_simp) | ((with_reducible refine wpTxt_sw ?_ ?_); rfl; intro _ _; go_simp) | (with_reducible refine wpTxt_nil ?_) | ((with_reducible refine wp_region_t mixed ?_ ?_); decide +kernel; intro _ _))
        go_ret
        exact qpost (same_yes H.out (by omega) hall.out).symm n rfl
  · obtain ⟨g1, g2⟩ := len_f hl
    have HL := Lib.hid (sameB_len hl)
    clear hl
    go_enter Try.func32, Try.ntmps32
    go_wp2_with (first | ((with_reducible refine wpTxt_q ?_ ?_ ?_); rfl; rfl; intro _ _) | ((with_reducible refine wpTxt_w0 ?_ ?_ ?_); rfl; rfl; intro _ _) | ((with_reducible refine wpTxt_s ?_ ?_); rfl; intro _ _; go_simp) | ((with_reducible refine wpTxt_sw ?_ ?_); rfl; intro _ _; go_simp) | (with_reducible refine wpTxt_nil ?_) | ((with_reducible refine wp_region_t mixed ?_ ?_); decide +kernel; intro _ _))
    go_ret
    exact qpost HL.out.symm 0 rfl
end Go.Proofs.Ytffflmghfcgkfaa
