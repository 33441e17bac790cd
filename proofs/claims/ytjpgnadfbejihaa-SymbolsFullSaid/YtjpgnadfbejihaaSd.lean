/- The walks of Texts and of New. -/
import Derived.Test.YtjpgnadfbejihaaSq
set_option linter.unusedSimpArgs false
set_option linter.unusedVariables false
namespace Go.Proofs.Ytjpgnadfbejihaa
open Go.RowKit Tk
@[go_sem] theorem mk_map (P : Program) (t : TypeId) (w : World) : (Instr.makeMap t none).run P w = .ok (.map (some w.heap.size)) (w.alloc (.map #[] 0)) := rfl
def Reads (w : World) (v : Value) (xs : List ByteArray) : Prop := RRow w 1 strC v xs
theorem Row.reads {w : World} {v : Value} {xs : List ByteArray} (h : Row w v xs) : Reads w v xs := h.o.reads strC_l
def QPost (b : Bool) (w : World) (e : Ending) (w' : World) : Prop := e = .returned (.bool b) ∧ ∃ n, w.drewN n = w'
theorem qpost {b c : Bool} {w w' : World} (h : b = c) (n : Nat) (hw : w.drewN n = w') : QPost c w (.returned (.bool b)) w' := ⟨by rw [h], n, hw⟩
def eqL (a b : List ByteArray) : Bool := decide (a = b)
theorem eqL_no {a b : List ByteArray} {k : Nat} (h : k < a.length) (h' : k < b.length) (hn : ¬ a[k] = b[k]) : eqL a b = false := by
  unfold eqL; rw [decide_eq_false_iff_not]; rintro rfl; exact hn rfl
theorem eqL_len {a b : List ByteArray} (h : ¬ a.length = b.length) : eqL a b = false := by
  unfold eqL; rw [decide_eq_false_iff_not]; rintro rfl; exact h rfl
theorem eqL_yes {a b : List ByteArray} {k : Nat} (hl : a.length = b.length) (h : a.length ≤ k) (hall : ∀ j (_ : j < k) (h1 : j < a.length) (h2 : j < b.length), a[j] = b[j]) : eqL a b = true := by
  unfold eqL; rw [decide_eq_true_eq]; exact List.ext_getElem hl fun i h1 h2 => hall i (by omega) h1 h2
theorem eq_snoc {a b : List ByteArray} {k : Nat} (hall : ∀ j (_ : j < k) (h1 : j < a.length) (h2 : j < b.length), a[j] = b[j]) (h : k < a.length) (h' : k < b.length) (hk : a[k] = b[k]) : ∀ j (_ : j < k + 1) (h1 : j < a.length) (h2 : j < b.length), a[j] = b[j] := by
  intro j hj h1 h2
  by_cases e : j = k
  · subst e; exact hk
  · exact hall j (by omega) h1 h2
set_option maxHeartbeats 1000000 in
theorem texts_any (a b : List ByteArray) (va vb : Value) (w : World) (ha : Reads w va a) (hb : Reads w vb b) : Calls Try.prog 25 #[va, vb] w (QPost (eqL a b) w) := by
  obtain ⟨ao, ca, rfl, a1, a2, a3⟩ := ha
  obtain ⟨bo, cb, rfl, b1, b2, b3⟩ := hb
  unfold maxLen at a2 b2
  by_cases hl : a.length = b.length
  · have H := Lib.hid hl
    have hl2 : ((a.length : Int) == (b.length : Int)) = true := by simp [hl]
    have hl3 : ((a.length : Int) != (b.length : Int)) = false := by simp [hl]
    clear hl
    go_enter Try.func25, Try.ntmps25
    go_wp2_with (first | ((with_reducible refine wpTxt_q ?_ ?_ ?_); rfl; rfl; intro _ _) | ((with_reducible refine wpTxt_w0 ?_ ?_ ?_); rfl; rfl; intro _ _) | ((with_reducible refine wpTxt_s ?_ ?_); rfl; intro _ _; go_simp) | ((with_reducible refine wpTxt_sw ?_ ?_); rfl; intro _ _; go_simp) | (with_reducible refine wpTxt_nil ?_) | ((with_reducible refine wp_region_t mixed ?_ ?_); decide +kernel; intro _ _))
    go_loopw [5] (fun i wr => ∃ k : Nat, i = .int .i64 k ∧ k ≤ a.length ∧ Hid (∀ j (h : j < k) (h1 : j < a.length) (h2 : j < b.length), a[j] = b[j]) ∧ ∃ n, wr = w.drewN n) (fun i _ => a.length - (intOf i).toNat)
    case atStart => exact ⟨0, rfl, by omega, fun j h => absurd h (by omega), 0, rfl⟩
    case round =>
      obtain ⟨k, rfl, hk, hall, n, rfl⟩ := hrel
      by_cases hlt : k < a.length
      · rcases a3 with h0' | ⟨ga, oa, rfl, hga, hca⟩
        · omega
        rcases b3 with h0' | ⟨gb, ob, rfl, hgb, hcb⟩
        · have := H.out; omega
        have hltb : k < b.length := by have := H.out; omega
        have p0 := hca k hlt 0 (by omega)
        have q0 := hcb k hltb 0 (by omega)
        simp only [strC, List.getElem?_cons_zero, Nat.mul_one, Nat.add_zero] at p0 q0
        clear hca hcb
        by_cases htx : a[k] = b[k]
        · have g3 := txt_t htx
          have HL := Lib.hid htx
          clear htx
          go_wp2_with (first | ((with_reducible refine wpTxt_q ?_ ?_ ?_); rfl; rfl; intro _ _) | ((with_reducible refine wpTxt_w0 ?_ ?_ ?_); rfl; rfl; intro _ _) | ((with_reducible refine wpTxt_s ?_ ?_); rfl; intro _ _; go_simp) | ((with_reducible refine wpTxt_sw ?_ ?_); rfl; intro _ _; go_simp) | (with_reducible refine wpTxt_nil ?_) | ((with_reducible refine wp_region_t mixed ?_ ?_); decide +kernel; intro _ _))
          go_roundw
          case rel => exact ⟨k + 1, by go_num, by omega, eq_snoc hall.out hlt hltb HL.out, n + 1, rfl⟩
          case measure => simp [intOf]; omega
        · have g3 := txt_f htx
          have HL := Lib.hid htx
          clear htx
          go_wp2_with (first | ((with_reducible refine wpTxt_q ?_ ?_ ?_); rfl; rfl; intro _ _) | ((with_reducible refine wpTxt_w0 ?_ ?_ ?_); rfl; rfl; intro _ _) | ((with_reducible refine wpTxt_s ?_ ?_); rfl; intro _ _; go_simp) | ((with_reducible refine wpTxt_sw ?_ ?_); rfl; intro _ _; go_simp) | (with_reducible refine wpTxt_nil ?_) | ((with_reducible refine wp_region_t mixed ?_ ?_); decide +kernel; intro _ _))
          go_ret
          exact qpost (eqL_no hlt hltb HL.out).symm (n + 1) rfl
      · go_wp2_with (first | ((with_reducible refine wpTxt_q ?_ ?_ ?_); rfl; rfl; intro _ _) | ((with_reducible refine wpTxt_w0 ?_ ?_ ?_); rfl; rfl; intro _ _) | ((with_reducible refine wpTxt_s ?_ ?_); rfl; intro _ _; go_simp) | ((with_reducible refine wpTxt_sw ?_ ?_); rfl; intro _ _; go_simp) | (with_reducible refine wpTxt_nil ?_) | ((with_reducible refine wp_region_t mixed ?_ ?_); decide +kernel; intro _ _))
        go_ret
        exact qpost (eqL_yes H.out (by omega) hall.out).symm n rfl
  · obtain ⟨g1, g2⟩ := len_f hl
    have HL := Lib.hid (eqL_len hl)
    clear hl
    go_enter Try.func25, Try.ntmps25
    go_wp2_with (first | ((with_reducible refine wpTxt_q ?_ ?_ ?_); rfl; rfl; intro _ _) | ((with_reducible refine wpTxt_w0 ?_ ?_ ?_); rfl; rfl; intro _ _) | ((with_reducible refine wpTxt_s ?_ ?_); rfl; intro _ _; go_simp) | ((with_reducible refine wpTxt_sw ?_ ?_); rfl; intro _ _; go_simp) | (with_reducible refine wpTxt_nil ?_) | ((with_reducible refine wp_region_t mixed ?_ ?_); decide +kernel; intro _ _))
    go_ret
    exact qpost HL.out.symm 0 rfl
def T0 (n : Int) : TS := ⟨n, [], []⟩
def TPost (T : TS) (w : World) (e : Ending) (w' : World) : Prop := ∃ b F, e = .returned (.pointer (some ⟨b, 0, none⟩)) ∧ Tab w' b F T ∧ Below w.heap.size w w' ∧ ∀ x ∈ F, w.heap.size ≤ x
set_option maxHeartbeats 400000 in
theorem new_yes (n : Int) (w : World) (h0 : 0 ≤ n) (h1 : n ≤ 4096) : Calls Try.prog 9 #[.int .i64 n] w (TPost (T0 n) w) := by
  go_enter Try.func9, Try.ntmps9
  go_wp2_with (first | ((with_reducible refine wpTxt_q ?_ ?_ ?_); rfl; rfl; intro _ _) | ((with_reducible refine wpTxt_w0 ?_ ?_ ?_); rfl; rfl; intro _ _) | ((with_reducible refine wpTxt_s ?_ ?_); rfl; intro _ _; go_simp) | ((with_reducible refine wpTxt_sw ?_ ?_); rfl; intro _ _; go_simp) | (with_reducible refine wpTxt_nil ?_) | ((with_reducible refine wp_region_t mixed ?_ ?_); decide +kernel; intro _ _))
  go_ret
  have hM : StrMap (w.alloc (.map #[] 0)) w.heap.size [] := StrMap.made w
  have hB : Below w.heap.size w ((w.alloc (.map #[] 0)).alloc (.cells #[.int .i64 n, .slice none 0 0, .slice none 0 0, .map (some w.heap.size)] 58)) := by (repeat (first | with_reducible assumption | with_reducible exact Below.refl _ _ | ((with_reducible refine Below.setCell ?_ ?_ _); rotate_left; (· first | omega | (simp only [World.size_alloc, World.size_drew, World.size_setCell]; omega) | (dsimp only; omega))) | ((with_reducible refine Below.alloc ?_ ?_ _); rotate_left; (· first | omega | (simp only [World.size_alloc, World.size_drew, World.size_setCell]; omega))) | ((with_reducible refine Below.drewN' ?_ _)) | ((with_reducible refine Below.drew ?_))))
  refine ⟨_, _, rfl, ⟨w.heap.size, _, _, [], rfl, ⟨Blk.at_ _ _ _ _ (by simp), World.ownsRow_nil _ _ _ _, World.ownsRow_nil _ _ _ _, ?_, List.nodup_nil, fun k => rfl, ?_, ⟨h0, h1, h0, Nat.zero_le _⟩⟩⟩, hB, ?_⟩
  · exact hM.of (Below.heap_alloc _ _ _ (by simp))
  · simp [ownB, Value.ownBlock]
  · intro x hx
    simp [ownB, Value.ownBlock] at hx
    omega
set_option maxHeartbeats 400000 in
theorem new_no (n : Int) (w : World) (h : n < 0 ∨ 4096 < n) : Calls Try.prog 9 #[.int .i64 n] w fun e w' => e = .returned (.pointer none) ∧ w = w' := by
  rcases h with h | h
  all_goals
    go_enter Try.func9, Try.ntmps9
    go_wp2_with (first | ((with_reducible refine wpTxt_q ?_ ?_ ?_); rfl; rfl; intro _ _) | ((with_reducible refine wpTxt_w0 ?_ ?_ ?_); rfl; rfl; intro _ _) | ((with_reducible refine wpTxt_s ?_ ?_); rfl; intro _ _; go_simp) | ((with_reducible refine wpTxt_sw ?_ ?_); rfl; intro _ _; go_simp) | (with_reducible refine wpTxt_nil ?_) | ((with_reducible refine wp_region_t mixed ?_ ?_); decide +kernel; intro _ _))
    go_ret
    exact ⟨rfl, rfl⟩
end Go.Proofs.Ytjpgnadfbejihaa
