/- The walk of Equal: tokens with their positions. -/
import Derived.Test.YtffflmghfcgkfaaSa
set_option linter.unusedSimpArgs false
set_option linter.unusedVariables false
namespace Go.Proofs.Ytffflmghfcgkfaa
open Go.RowKit Tk

def Tok.same (a b : Tok) : Bool := a.like b && (decide (a.pos.1 = b.pos.1) && decide (a.pos.2 = b.pos.2))
theorem tok_ext {a b : Tok} (h : a.same b = true) : a = b := by
  obtain ⟨k, t, p⟩ := a
  obtain ⟨k', t', p'⟩ := b
  simp only [Tok.same, Tok.like, Bool.and_eq_true, decide_eq_true_eq] at h
  obtain ⟨⟨rfl, rfl⟩, h1, h2⟩ := h
  obtain ⟨p1, p2⟩ := p
  obtain ⟨q1, q2⟩ := p'
  simp only at h1 h2
  rw [h1, h2]
theorem tok_self (a : Tok) : a.same a = true := by simp [Tok.same, Tok.like]
def eqToks (a b : List Tok) : Bool := decide (a.length = b.length) && (List.range a.length).all fun i => match a[i]?, b[i]? with | some x, some y => x.same y | _, _ => false
theorem eqToks_iff (a b : List Tok) : eqToks a b = true ↔ a = b := by
  unfold eqToks
  simp only [Bool.and_eq_true, decide_eq_true_eq, List.all_eq_true, List.mem_range]
  constructor
  · rintro ⟨h1, h2⟩
    refine List.ext_getElem h1 fun i hi hi' => ?_
    have := h2 i hi
    rw [List.getElem?_eq_getElem hi, List.getElem?_eq_getElem hi'] at this
    exact tok_ext this
  · rintro rfl
    refine ⟨rfl, fun i hi => ?_⟩
    rw [List.getElem?_eq_getElem hi]
    exact tok_self _
theorem eq_no {a b : List Tok} {k : Nat} (h : k < a.length) (h' : k < b.length) (hn : a[k].same b[k] = false) : eqToks a b = false := by
  cases hs : eqToks a b
  · rfl
  · have := (eqToks_iff a b).1 hs
    subst this
    rw [tok_self] at hn
    cases hn
theorem eq_len {a b : List Tok} (h : ¬ a.length = b.length) : eqToks a b = false := by simp [eqToks, h]
theorem eq_yes {a b : List Tok} {k : Nat} (hl : a.length = b.length) (h : a.length ≤ k) (hall : ∀ j (_ : j < k) (h1 : j < a.length) (h2 : j < b.length), a[j].same b[j] = true) : eqToks a b = true :=
  (eqToks_iff a b).2 (List.ext_getElem hl fun i hi hi' => tok_ext (hall i (by omega) hi hi'))
theorem eq_snoc {a b : List Tok} {k : Nat} (hall : ∀ j (_ : j < k) (h1 : j < a.length) (h2 : j < b.length), a[j].same b[j] = true) (h : k < a.length) (h' : k < b.length) (hk : a[k].same b[k] = true) :
    ∀ j (_ : j < k + 1) (h1 : j < a.length) (h2 : j < b.length), a[j].same b[j] = true := by
  intro j hj h1 h2
  by_cases e : j = k
  · subst e; exact hk
  · exact hall j (by omega) h1 h2
set_option maxHeartbeats 1000000 in
theorem rEqual_any (a b : List Tok) (va vb : Value) (w : World) (ha : Toks w va a) (hb : Toks w vb b) (hs : a.length ≤ 1000000) (hs2 : b.length ≤ 1000000) : Calls Try.prog 16 #[va, vb] w (QPost (eqToks a b) w) := by
  obtain ⟨ao, ca, rfl, a1, a2, a3⟩ := ha
  obtain ⟨bo, cb, rfl, b1, b2, b3⟩ := hb
  unfold maxLen at a2 b2
  by_cases hl : a.length = b.length
  · have H := Lib.hid hl
    have hl2 : ((a.length : Int) == (b.length : Int)) = true := by simp [hl]
    have hl3 : ((a.length : Int) != (b.length : Int)) = false := by simp [hl]
    clear hl
    go_enter Try.func16, Try.ntmps16
    go_wp2_with (first | ((with_reducible refine wpTxt_q ?_ ?_ ?_); rfl; rfl; intro _ _) | ((with_reducible refine wpTxt_w0 ?_ ?_ ?_); rfl; rfl; intro _ _) | ((with_reducible refine wpTxt_s ?_ ?_); rfl; intro _ _; go_simp) | ((with_reducible refine wpTxt_sw ?_ ?_); rfl; intro _ _; go_simp) | (with_reducible refine wpTxt_nil ?_) | ((with_reducible refine wp_region_t mixed ?_ ?_); decide +kernel; intro _ _))
    go_loopw [5] (fun i wr => ∃ k : Nat, i = .int .i64 k ∧ k ≤ a.length ∧ Hid (∀ j (h : j < k) (h1 : j < a.length) (h2 : j < b.length), a[j].same b[j] = true) ∧ ∃ n, wr = w.drewN n) (fun i _ => a.length - (intOf i).toNat)
    case atStart => exact ⟨0, rfl, by omega, fun j h => absurd h (by omega), 0, rfl⟩
    case round =>
      obtain ⟨k, rfl, hk, hall, n, rfl⟩ := hrel
      by_cases hlt : k < a.length
      · rcases a3 with h0' | ⟨ga, oa, rfl, hga, hca⟩
        · omega
        rcases b3 with h0' | ⟨gb, ob, rfl, hgb, hcb⟩
        · have := H.out; omega
        have hltb : k < b.length := by have := H.out; omega
        obtain ⟨p0, p1, p2, p3⟩ := hca k hlt
        obtain ⟨q0, q1, q2, q3⟩ := hcb k hltb
        clear hca hcb
        by_cases h1 : a[k].kind = b[k].kind
        rotate_left
        · have HL : Hid (a[k].same b[k] = false) := Lib.hid (by simp [Tok.same, Tok.like, h1])
          obtain ⟨g1, g2⟩ := kd_f h1
          clear h1
          go_wp2_with (first | ((with_reducible refine wpTxt_q ?_ ?_ ?_); rfl; rfl; intro _ _) | ((with_reducible refine wpTxt_w0 ?_ ?_ ?_); rfl; rfl; intro _ _) | ((with_reducible refine wpTxt_s ?_ ?_); rfl; intro _ _; go_simp) | ((with_reducible refine wpTxt_sw ?_ ?_); rfl; intro _ _; go_simp) | (with_reducible refine wpTxt_nil ?_) | ((with_reducible refine wp_region_t mixed ?_ ?_); decide +kernel; intro _ _))
          go_ret
          exact qpost (eq_no hlt hltb HL.out).symm (n + 1) rfl
        by_cases h2 : a[k].text = b[k].text
        rotate_left
        · have HL : Hid (a[k].same b[k] = false) := Lib.hid (by simp [Tok.same, Tok.like, h2])
          obtain ⟨g1, g2⟩ := kd_t h1
          have g3 := txt_f h2
          clear h1 h2
          go_wp2_with (first | ((with_reducible refine wpTxt_q ?_ ?_ ?_); rfl; rfl; intro _ _) | ((with_reducible refine wpTxt_w0 ?_ ?_ ?_); rfl; rfl; intro _ _) | ((with_reducible refine wpTxt_s ?_ ?_); rfl; intro _ _; go_simp) | ((with_reducible refine wpTxt_sw ?_ ?_); rfl; intro _ _; go_simp) | (with_reducible refine wpTxt_nil ?_) | ((with_reducible refine wp_region_t mixed ?_ ?_); decide +kernel; intro _ _))
          go_ret
          exact qpost (eq_no hlt hltb HL.out).symm (n + 1) rfl
        by_cases h3 : a[k].pos.1 = b[k].pos.1
        rotate_left
        · have HL : Hid (a[k].same b[k] = false) := Lib.hid (by simp [Tok.same, Tok.like, h3])
          obtain ⟨g1, g2⟩ := kd_t h1
          have g3 := txt_t h2
          obtain ⟨g4, g5⟩ := kd_f h3
          clear h1 h2 h3
          go_wp2_with (first | ((with_reducible refine wpTxt_q ?_ ?_ ?_); rfl; rfl; intro _ _) | ((with_reducible refine wpTxt_w0 ?_ ?_ ?_); rfl; rfl; intro _ _) | ((with_reducible refine wpTxt_s ?_ ?_); rfl; intro _ _; go_simp) | ((with_reducible refine wpTxt_sw ?_ ?_); rfl; intro _ _; go_simp) | (with_reducible refine wpTxt_nil ?_) | ((with_reducible refine wp_region_t mixed ?_ ?_); decide +kernel; intro _ _))
          go_ret
          exact qpost (eq_no hlt hltb HL.out).symm (n + 1) rfl
        by_cases h4 : a[k].pos.2 = b[k].pos.2
        · have HL : Hid (a[k].same b[k] = true) := Lib.hid (by simp [Tok.same, Tok.like, h1, h2, h3, h4])
          obtain ⟨g1, g2⟩ := kd_t h1
          have g3 := txt_t h2
          obtain ⟨g4, g5⟩ := kd_t h3
          obtain ⟨g6, g7⟩ := kd_t h4
          clear h1 h2 h3 h4
          go_wp2_with (first | ((with_reducible refine wpTxt_q ?_ ?_ ?_); rfl; rfl; intro _ _) | ((with_reducible refine wpTxt_w0 ?_ ?_ ?_); rfl; rfl; intro _ _) | ((with_reducible refine wpTxt_s ?_ ?_); rfl; intro _ _; go_simp) | ((with_reducible refine wpTxt_sw ?_ ?_); rfl; intro _ _; go_simp) | (with_reducible refine wpTxt_nil ?_) | ((with_reducible refine wp_region_t mixed ?_ ?_); decide +kernel; intro _ _))
          go_roundw
          case rel => exact ⟨k + 1, by go_num, by omega, eq_snoc hall.out hlt hltb HL.out, n + 1, rfl⟩
          case measure => simp [intOf]; omega
        · have HL : Hid (a[k].same b[k] = false) := Lib.hid (by simp [Tok.same, Tok.like, h4])
          obtain ⟨g1, g2⟩ := kd_t h1
          have g3 := txt_t h2
          obtain ⟨g4, g5⟩ := kd_t h3
          obtain ⟨g6, g7⟩ := kd_f h4
          clear h1 h2 h3 h4
          go_wp2_with (first | ((with_reducible refine wpTxt_q ?_ ?_ ?_); rfl; rfl; intro _ _) | ((with_reducible refine wpTxt_w0 ?_ ?_ ?_); rfl; rfl; intro _ _) | ((with_reducible refine wpTxt_s ?_ ?_); rfl; intro _ _; go_simp) | ((with_reducible refine wpTxt_sw ?_ ?_); rfl; intro _ _; go_simp) | (with_reducible refine wpTxt_nil ?_) | ((with_reducible refine wp_region_t mixed ?_ ?_); decide +kernel; intro _ _))
          go_ret
          exact qpost (eq_no hlt hltb HL.out).symm (n + 1) rfl
      · go_wp2_with (first | ((with_reducible refine wpTxt_q ?_ ?_ ?_); rfl; rfl; intro _ _) | ((with_reducible refine wpTxt_w0 ?_ ?_ ?_); rfl; rfl; intro _ _) | ((with_reducible refine wpTxt_s ?_ ?_); rfl; intro _ _; go_simp) | ((with_reducible refine wpTxt_sw ?_ ?_); rfl; intro _ _; go_simp) | (with_reducible refine wpTxt_nil ?_) | ((with_reducible refine wp_region_t mixed ?_ ?_); decide +kernel; intro _ _))
        go_ret
        exact qpost (eq_yes H.out (by omega) hall.out).symm n rfl
  · obtain ⟨g1, g2⟩ := len_f hl
    have HL := Lib.hid (eq_len hl)
    clear hl
    go_enter Try.func16, Try.ntmps16
    go_wp2_with (first | ((with_reducible refine wpTxt_q ?_ ?_ ?_); rfl; rfl; intro _ _) | ((with_reducible refine wpTxt_w0 ?_ ?_ ?_); rfl; rfl; intro _ _) | ((with_reducible refine wpTxt_s ?_ ?_); rfl; intro _ _; go_simp) | ((with_reducible refine wpTxt_sw ?_ ?_); rfl; intro _ _; go_simp) | (with_reducible refine wpTxt_nil ?_) | ((with_reducible refine wp_region_t mixed ?_ ?_); decide +kernel; intro _ _))
    go_ret
    exact qpost HL.out.symm 0 rfl
end Go.Proofs.Ytffflmghfcgkfaa
