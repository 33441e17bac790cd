/- Parts of slices of tokens; first, whatever the memory; the law on what is written and scanned again: its walk. -/
import Derived.Test.YtffflmghfcgkfaaLa
import Derived.Test.YtffflmghfcgkfaaPm
set_option linter.unusedSimpArgs false
set_option linter.unusedVariables false
namespace Go.Proofs.Ytffflmghfcgkfaa
open Go.RowKit Tk

theorem Toks.takeV {w : World} {ao : Option Addr} {n cap : Nat} {ts : List Tok} (h : Toks w (.slice ao n cap) ts) (k : Nat) (hk : k ≤ n) : Toks w (.slice ao k cap) (ts.take k) := by
  obtain ⟨ao', cap', hv, h1, h2, h3⟩ := h
  injection hv with e1 e2 e3
  subst e1 e2 e3
  refine ⟨ao, cap, by rw [List.length_take, Nat.min_eq_left hk], by rw [List.length_take]; omega, h2, ?_⟩
  rcases h3 with h3 | ⟨g, o, rfl, hg, hc⟩
  · left; rw [List.length_take]; omega
  · exact .inr ⟨g, o, rfl, hg, hc.take k⟩
theorem Toks.dropV {w : World} {g o n cap : Nat} {ts : List Tok} (h : Toks w (.slice (some ⟨g, o, none⟩) n cap) ts) (k : Nat) (hk : k < n) : Toks w (.slice (some ⟨g, o + k * 4, none⟩) (n - k) (cap - k)) (ts.drop k) := by
  obtain ⟨ao', cap', hv, h1, h2, h3⟩ := h
  injection hv with e1 e2 e3
  subst e2 e3
  refine ⟨_, _, by rw [List.length_drop], by rw [List.length_drop]; omega, by omega, ?_⟩
  rcases h3 with h3 | ⟨g', o', e, hg, hc⟩
  · omega
  · rw [← e1] at e
    injection e with e
    injection e with e4 e5
    subst e4 e5
    exact .inr ⟨g, o + k * 4, rfl, hg, hc.drop k⟩
theorem Toks.len {w : World} {v : Value} {ts : List Tok} (h : Toks w v ts) : ∃ ao cap, v = .slice ao ts.length cap ∧ ts.length ≤ cap ∧ cap ≤ 9223372036854775807 := by
  obtain ⟨ao, cap, h1, h2, h3, _⟩ := h
  exact ⟨ao, cap, h1, h2, h3⟩
/-- the value is a slice of tokens, whatever the memory says of them -/
def PartOf (va : Value) (ts us : List Tok) (v : Value) : Prop := ∀ w0, Toks w0 va ts → Toks w0 v us
theorem body_prefix : ∀ (ts : List Tok), body ts = ts.take (body ts).length
  | [] => rfl
  | t :: ts => by
    by_cases h : t.kind = 0
    · simp [body, h]
    · have := body_prefix ts
      unfold body at this ⊢
      rw [List.takeWhile_cons, if_pos (by simpa using h), List.length_cons, List.take_succ_cons, ← this]
theorem body_len (ts : List Tok) : (body ts).length ≤ ts.length := by
  rw [body_prefix, List.length_take]; omega
theorem part_body {w : World} {va : Value} {ts : List Tok} (h : Toks w va ts) : ∃ v, PartOf va ts (body ts) v := by
  obtain ⟨ao, cap, rfl, _, _⟩ := h.len
  refine ⟨.slice ao (body ts).length cap, fun w0 h0 => ?_⟩
  rw [body_prefix ts]
  have := h0.takeV (body ts).length (body_len ts)
  rwa [List.length_take, Nat.min_eq_left (body_len ts)]
set_option maxHeartbeats 1000000 in
theorem first02_val (a : List Tok) (va : Value) (w : World) (ha : Toks w va a) : Calls Try.prog 30 #[va] w fun e w' => ∃ v, e = .returned v ∧ PartOf va a (body a) v ∧ ∃ n, w.drewN n = w' := by
  obtain ⟨ao, ca, rfl, a1, a2, a3⟩ := ha
  unfold maxLen at a2
  have wrapP : ∀ (w : World) (e : Ending) (w' : World), (∃ v, e = .returned v ∧ PartOf (.slice ao a.length ca) a (body a) v ∧ ∃ n, w.drewN n = w') → ∃ v, e = .returned v ∧ PartOf (.slice ao a.length ca) a (body a) v ∧ ∃ n, w.drewN n = w' := fun _ _ _ h => h
  clear wrapP
  go_enter Try.func30, Try.ntmps30
  go_wp2_with (first | ((with_reducible refine wpTxt_q ?_ ?_ ?_); rfl; rfl; intro _ _) | ((with_reducible refine wpTxt_w0 ?_ ?_ ?_); rfl; rfl; intro _ _) | ((with_reducible refine wpTxt_s ?_ ?_); rfl; intro _ _; go_simp) | ((with_reducible refine wpTxt_sw ?_ ?_); rfl; intro _ _; go_simp) | (with_reducible refine wpTxt_nil ?_) | ((with_reducible refine wp_region_t mixed ?_ ?_); decide +kernel; intro _ _))
  go_loopw [3] (fun i wr => ∃ k : Nat, i = .int .i64 k ∧ k ≤ a.length ∧ Hid (∀ j (h : j < k) (h1 : j < a.length), ¬ a[j].kind = 0) ∧ ∃ n, wr = w.drewN n) (fun i _ => a.length - (intOf i).toNat)
  case atStart => exact ⟨0, rfl, by omega, fun j h => absurd h (by omega), 0, rfl⟩
  case round =>
    obtain ⟨k, rfl, hk, hall, n, rfl⟩ := hrel
    by_cases hlt : k < a.length
    · rcases a3 with h0' | ⟨ga, oa, rfl, hga, hca⟩
      · omega
      obtain ⟨p0, -, -, -⟩ := hca k hlt
      clear hca
      by_cases hb : a[k].kind = 0
      · have HL := Lib.hid (body_take hlt hall.out hb)
        obtain ⟨g1, g2⟩ := kd_t hb
        clear hb
        go_wp2_with (first | ((with_reducible refine wpTxt_q ?_ ?_ ?_); rfl; rfl; intro _ _) | ((with_reducible refine wpTxt_w0 ?_ ?_ ?_); rfl; rfl; intro _ _) | ((with_reducible refine wpTxt_s ?_ ?_); rfl; intro _ _; go_simp) | ((with_reducible refine wpTxt_sw ?_ ?_); rfl; intro _ _; go_simp) | (with_reducible refine wpTxt_nil ?_) | ((with_reducible refine wp_region_t mixed ?_ ?_); decide +kernel; intro _ _))
        go_ret
        refine ⟨_, rfl, fun w0 h0 => ?_, n, rfl⟩
        rw [HL.out]
        exact h0.takeV k hk
      · obtain ⟨g1, g2⟩ := kd_f hb
        go_wp2_with (first | ((with_reducible refine wpTxt_q ?_ ?_ ?_); rfl; rfl; intro _ _) | ((with_reducible refine wpTxt_w0 ?_ ?_ ?_); rfl; rfl; intro _ _) | ((with_reducible refine wpTxt_s ?_ ?_); rfl; intro _ _; go_simp) | ((with_reducible refine wpTxt_sw ?_ ?_); rfl; intro _ _; go_simp) | (with_reducible refine wpTxt_nil ?_) | ((with_reducible refine wp_region_t mixed ?_ ?_); decide +kernel; intro _ _))
        go_roundw
        case rel =>
          refine ⟨k + 1, by go_num, by omega, ?_, n, rfl⟩
          intro j hj h1
          by_cases e : j = k
          · subst e; exact hb
          · exact hall.out j (by omega) h1
        case measure => simp [intOf]; omega
    · have HL := Lib.hid (body_all (by omega) hall.out)
      go_wp2_with (first | ((with_reducible refine wpTxt_q ?_ ?_ ?_); rfl; rfl; intro _ _) | ((with_reducible refine wpTxt_w0 ?_ ?_ ?_); rfl; rfl; intro _ _) | ((with_reducible refine wpTxt_s ?_ ?_); rfl; intro _ _; go_simp) | ((with_reducible refine wpTxt_sw ?_ ?_); rfl; intro _ _; go_simp) | (with_reducible refine wpTxt_nil ?_) | ((with_reducible refine wp_region_t mixed ?_ ?_); decide +kernel; intro _ _))
      go_ret
      refine ⟨_, rfl, fun w0 h0 => ?_, n, rfl⟩
      rw [HL.out]
      exact h0

/-- what is known of a value alone -/
def spPhi (φ : Value → Prop) : Sp := { φ := φ }
theorem good_phi {φ : Value → Prop} {v : Value} {w w' : World} (hv : φ v) (h : Ext w w') : (spPhi φ).Good v w w' := ⟨hv, trivial, h, fun b hb => by cases hb⟩
theorem Ext.drewN (w : World) (n : Nat) : Ext w (w.drewN n) := ⟨rfl, rfl, rfl, Nat.le_refl _, fun _ _ => rfl⟩
theorem below_n {w w' : World} {n : Nat} (h : Below (w.drewN n).heap.size (w.drewN n) w') : Below w.heap.size w w' := below_un h

theorem round_lens {l m : List Tok} {s : ByteArray} (h1 : m.length = (body l).length) (h2 : l.length ≤ 300) : (m.length : Int) + 1 ≤ 301 := by
  have := body_len l
  omega
end Go.Proofs.Ytffflmghfcgkfaa
