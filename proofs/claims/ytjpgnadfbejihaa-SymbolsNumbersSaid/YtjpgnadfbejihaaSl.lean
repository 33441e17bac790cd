/- The walks of the laws on calls. -/
import Derived.Test.YtjpgnadfbejihaaSv
set_option linter.unusedSimpArgs false
set_option linter.unusedVariables false
namespace Go.Proofs.Ytjpgnadfbejihaa
open Go.RowKit Tk
set_option maxHeartbeats 400000 in
theorem first_yes (n : Int) (w : World) (h0 : 0 ≤ n) (h1 : n ≤ 4096) : Calls Try.prog 10 #[.int .i64 n] w fun e w' => e = .returned (.tuple #[.agg #[.int .i64 n, .slice none 0 0, .slice none 0 0], .bool true]) ∧ Below w.heap.size w w' := by
  go_enter Try.func10, Try.ntmps10
  go_wp2_with (first | ((with_reducible refine wpTxt_q ?_ ?_ ?_); rfl; rfl; intro _ _) | ((with_reducible refine wpTxt_w0 ?_ ?_ ?_); rfl; rfl; intro _ _) | ((with_reducible refine wpTxt_s ?_ ?_); rfl; intro _ _; go_simp) | ((with_reducible refine wpTxt_sw ?_ ?_); rfl; intro _ _; go_simp) | (with_reducible refine wpTxt_nil ?_) | ((with_reducible refine wp_region_t mixed ?_ ?_); decide +kernel; intro _ _))
  exact bodyPost_ret (v := .tuple #[.agg #[.int .i64 n, .slice none 0 0, .slice none 0 0], .bool true]) (by simp [results, Try.f10, go_sem]) rfl ⟨rfl, by (repeat (first | with_reducible assumption | with_reducible exact Below.refl _ _ | ((with_reducible refine Below.setCell ?_ ?_ _); rotate_left; (· first | omega | (simp only [World.size_alloc, World.size_drew, World.size_setCell]; omega) | (dsimp only; omega))) | ((with_reducible refine Below.alloc ?_ ?_ _); rotate_left; (· first | omega | (simp only [World.size_alloc, World.size_drew, World.size_setCell]; omega))) | ((with_reducible refine Below.drewN' ?_ _)) | ((with_reducible refine Below.drew ?_))))⟩
set_option maxHeartbeats 400000 in
theorem first_no (n : Int) (w : World) (h : n < 0 ∨ 4096 < n) : Calls Try.prog 10 #[.int .i64 n] w fun e w' => e = .returned (.tuple #[.agg #[.int .i64 0, .slice none 0 0, .slice none 0 0], .bool false]) ∧ Below w.heap.size w w' := by
  rcases h with h | h
  all_goals
    go_enter Try.func10, Try.ntmps10
    go_wp2_with (first | ((with_reducible refine wpTxt_q ?_ ?_ ?_); rfl; rfl; intro _ _) | ((with_reducible refine wpTxt_w0 ?_ ?_ ?_); rfl; rfl; intro _ _) | ((with_reducible refine wpTxt_s ?_ ?_); rfl; intro _ _; go_simp) | ((with_reducible refine wpTxt_sw ?_ ?_); rfl; intro _ _; go_simp) | (with_reducible refine wpTxt_nil ?_) | ((with_reducible refine wp_region_t mixed ?_ ?_); decide +kernel; intro _ _))
    exact bodyPost_ret (v := .tuple #[.agg #[.int .i64 0, .slice none 0 0, .slice none 0 0], .bool false]) (by simp [results, Try.f10, go_sem]) rfl ⟨rfl, by (repeat (first | with_reducible assumption | with_reducible exact Below.refl _ _ | ((with_reducible refine Below.setCell ?_ ?_ _); rotate_left; (· first | omega | (simp only [World.size_alloc, World.size_drew, World.size_setCell]; omega) | (dsimp only; omega))) | ((with_reducible refine Below.alloc ?_ ?_ _); rotate_left; (· first | omega | (simp only [World.size_alloc, World.size_drew, World.size_setCell]; omega))) | ((with_reducible refine Below.drewN' ?_ _)) | ((with_reducible refine Below.drew ?_))))⟩
theorem StA.zero (w : World) (n : Int) (h0 : 0 ≤ n) (h1 : n ≤ 4096) : StA w (.slice none 0 0) (.slice none 0 0) (T0 n) :=
  ⟨World.ownsRow_nil _ _ _ _, ORow.nil _ _ _ _, h0, h1, h0, Nat.zero_le _⟩
theorem play0 {w : World} {b : Nat} {F : List Nat} {n : Int} {lv : Value} {l : List Stp} (hT : Tab w b F (T0 n)) (h0 : 0 ≤ n) (h1 : n ≤ 4096) (hl : RRow w 3 stpC lv l) (hlF : 0 < l.length → ∀ x ∈ ownB lv, x ∉ F) (hn : ∀ s ∈ l, s.name.size ≤ maxLen) (hL : l.length ≤ 1000) :
    Calls Try.prog 12 #[.pointer (some ⟨b, 0, none⟩), .agg #[.int .i64 n, .slice none 0 0, .slice none 0 0], lv] w (PlayPost w b F [] ((T0 n).run l)) :=
  play_any hT (StA.zero w n h0 h1) (by simp [ownB, Value.ownBlock]) hl hlF hn hL
theorem RRow.own_lt {α : Type} {w : World} {k : Nat} {f : α → List Value} {v : Value} {xs : List α} (h : RRow w k f v xs) (h0 : 0 < xs.length) : ∀ x ∈ ownB v, x < w.heap.size := by
  obtain ⟨g, o, cap, rfl, -, -, hg, -⟩ := h.at h0
  intro x hx
  have : x = g := by simpa [ownB, Value.ownBlock] using hx
  omega
set_option maxHeartbeats 4000000 in
set_option maxRecDepth 100000 in
theorem lawModel (n : Int) (lv : Value) (l : List Stp) (w : World) (hl : RRow w 3 stpC lv l) (hn : ∀ s ∈ l, s.name.size ≤ maxLen) : Calls Try.prog 6 #[.int .i64 n, lv] w (BPost true w) := by
  obtain ⟨lo, lc, rfl, l1, l2⟩ := hl.len
  unfold maxLen at l2
  by_cases hr' : 0 ≤ n ∧ n ≤ 4096
  · obtain ⟨h0, h1⟩ := hr'
    by_cases hL : 60 < l.length
    · go_enter Try.func6, Try.ntmps6
      go_wp2_with (first | ((with_reducible refine wpTxt_q ?_ ?_ ?_); rfl; rfl; intro _ _) | ((with_reducible refine wpTxt_w0 ?_ ?_ ?_); rfl; rfl; intro _ _) | ((with_reducible refine wpTxt_s ?_ ?_); rfl; intro _ _; go_simp) | ((with_reducible refine wpTxt_sw ?_ ?_); rfl; intro _ _; go_simp) | (with_reducible refine wpTxt_nil ?_) | ((with_reducible refine wp_region_t mixed ?_ ?_); decide +kernel; intro _ _) | (go_at_call 9; ((with_reducible refine (new_yes n _ h0 h1).mono ?_); rintro e w1 ⟨b, F, rfl, hT1, hB1, hF1⟩)) | (go_at_call 10; ((with_reducible refine (first_yes n _ h0 h1).mono ?_); rintro e w2 ⟨rfl, hb2⟩)) | (go_at_call 11; ((with_reducible refine (alive_any _).mono ?_); rintro e w9 ⟨rfl, hb9⟩)))
      go_ret
      have hx2 := hB1.trans (hb2.mono hB1.size)
      have hz2 := hx2.size
      exact ⟨rfl, below_after (hb9.mono (by have := hx2.size; simp; omega)) (by (repeat (first | with_reducible assumption | with_reducible exact Below.refl _ _ | ((with_reducible refine Below.setCell ?_ ?_ _); rotate_left; (· first | omega | (simp only [World.size_alloc, World.size_drew, World.size_setCell]; omega) | (dsimp only; omega))) | ((with_reducible refine Below.alloc ?_ ?_ _); rotate_left; (· first | omega | (simp only [World.size_alloc, World.size_drew, World.size_setCell]; omega))) | ((with_reducible refine Below.drewN' ?_ _)) | ((with_reducible refine Below.drew ?_)))))⟩
    · go_enter Try.func6, Try.ntmps6
      go_upto_region 7 with (first | ((with_reducible refine wpTxt_q ?_ ?_ ?_); rfl; rfl; intro _ _) | ((with_reducible refine wpTxt_w0 ?_ ?_ ?_); rfl; rfl; intro _ _) | ((with_reducible refine wpTxt_s ?_ ?_); rfl; intro _ _; go_simp) | ((with_reducible refine wpTxt_sw ?_ ?_); rfl; intro _ _; go_simp) | (with_reducible refine wpTxt_nil ?_) | ((with_reducible refine wp_region_t mixed ?_ ?_); decide +kernel; intro _ _) | (go_at_call 9; ((with_reducible refine (new_yes n _ h0 h1).mono ?_); rintro e w1 ⟨b, F, rfl, hT1, hB1, hF1⟩)) | (go_at_call 10; ((with_reducible refine (first_yes n _ h0 h1).mono ?_); rintro e w2 ⟨rfl, hb2⟩)))
      have hx2 := hB1.trans (hb2.mono hB1.size)
      have hz2 := hx2.size
      have hgF : w2.heap.size ∉ F := fun hm => by have := hT1.lt _ hm; have := hb2.size; omega
      have hT2 := (hT1.low hb2).low (Ext.alloc w2 (.cells #[.int .i64 n, .slice none 0 0, .slice none 0 0] 28))
      have hX2 := Blk.fresh w2 28 #[.int .i64 n, .slice none 0 0, .slice none 0 0]
      have hx3 : Below w.heap.size w (w2.alloc (.cells #[.int .i64 n, .slice none 0 0, .slice none 0 0] 28)) := by (repeat (first | with_reducible assumption | with_reducible exact Below.refl _ _ | ((with_reducible refine Below.setCell ?_ ?_ _); rotate_left; (· first | omega | (simp only [World.size_alloc, World.size_drew, World.size_setCell]; omega) | (dsimp only; omega))) | ((with_reducible refine Below.alloc ?_ ?_ _); rotate_left; (· first | omega | (simp only [World.size_alloc, World.size_drew, World.size_setCell]; omega))) | ((with_reducible refine Below.drewN' ?_ _)) | ((with_reducible refine Below.drew ?_))))
      generalize w2.alloc (.cells #[.int .i64 n, .slice none 0 0, .slice none 0 0] 28) = w3 at hT2 hX2 hx3 ⊢
      generalize w2.heap.size = g6 at *
      obtain ⟨x0, x1, x2, y0, y1, y2⟩ := hX2.c3
      go_upto_region 8 with (first | ((with_reducible refine wpTxt_q ?_ ?_ ?_); rfl; rfl; intro _ _) | ((with_reducible refine wpTxt_w0 ?_ ?_ ?_); rfl; rfl; intro _ _) | ((with_reducible refine wpTxt_s ?_ ?_); rfl; intro _ _; go_simp) | ((with_reducible refine wpTxt_sw ?_ ?_); rfl; intro _ _; go_simp) | (with_reducible refine wpTxt_nil ?_) | ((with_reducible refine wp_region_t mixed ?_ ?_); decide +kernel; intro _ _) | (go_at_call 12; ((with_reducible refine (play0 hT2 h0 h1 (hl.low hx3) (fun h x hx hm => by have := hl.own_lt h x hx; have := hF1 x hm; omega) hn ?_).mono ?_); (· omega); rintro e w4 ⟨F4, no, nc, ao, ac, rfl, hT4, hS4, hO4, hG4, hR4, hap4⟩; obtain ⟨q0, q1, q2, r0, r1, r2⟩ := (hX2.of (hO4.block g6 hX2.lt hgF)).c3)))
      have hX4 := hX2.of (hO4.block g6 hX2.lt hgF)
      clear q0 q1 q2 r0 r1 r2 x0 x1 x2 y0 y1 y2
      obtain ⟨hX5, hO5⟩ := hX4.put3 (x' := .int .i64 ((T0 n).run l).lim) (y' := .slice no ((T0 n).run l).names.length nc) (z' := .slice ao ((T0 n).run l).als.length ac)
      have hx4 : Below w.heap.size w w4 := hx3.trans (hO4.below hF1 hx3.size)
      have hg4 : g6 ∉ F4 := fun hm => (hG4 g6 hm).elim hgF fun h => by have := hX2.lt; omega
      have hx5 := hx4.trans (hO5.below (by simp; omega) hx4.size)
      have hT5 := hT4.only hO5 fun x hx hm => by simp at hm; subst hm; exact hg4 hx
      have hS5 := hS4.only hO5 fun x hx hm => by have := hS4.ne hX4 (by decide) (by decide); simp at hm; subst hm; exact this hx
      clear hO5 hX4
      generalize ((w4.setCell ⟨g6, 0, none⟩ (.int .i64 ((T0 n).run l).lim)).setCell ⟨g6, 1, none⟩ (.slice no ((T0 n).run l).names.length nc)).setCell ⟨g6, 2, none⟩ (.slice ao ((T0 n).run l).als.length ac) = w5 at hX5 hx5 hT5 hS5 ⊢
      obtain ⟨x0, x1, x2, -, -, -⟩ := hX5.c3
      go_wp2_with (first | ((with_reducible refine wpTxt_q ?_ ?_ ?_); rfl; rfl; intro _ _) | ((with_reducible refine wpTxt_w0 ?_ ?_ ?_); rfl; rfl; intro _ _) | ((with_reducible refine wpTxt_s ?_ ?_); rfl; intro _ _; go_simp) | ((with_reducible refine wpTxt_sw ?_ ?_); rfl; intro _ _; go_simp) | (with_reducible refine wpTxt_nil ?_) | ((with_reducible refine wp_region_t mixed ?_ ?_); decide +kernel; intro _ _) | (go_at_call 22; ((with_reducible refine (same_any hT5 hS5).mono ?_); rintro e w6 ⟨rfl, hb6⟩)) | (go_at_call 11; ((with_reducible refine (alive_any _).mono ?_); rintro e w9 ⟨rfl, hb9⟩)))
      go_ret
      exact ⟨rfl, hx5.trans ((hb6.trans (hb9.mono hb6.size)).mono hx5.size)⟩
  · have hr : n < 0 ∨ 4096 < n := by omega
    have HR := Lib.hid hr
    go_enter Try.func6, Try.ntmps6
    go_wp2_with (first | ((with_reducible refine wpTxt_q ?_ ?_ ?_); rfl; rfl; intro _ _) | ((with_reducible refine wpTxt_w0 ?_ ?_ ?_); rfl; rfl; intro _ _) | ((with_reducible refine wpTxt_s ?_ ?_); rfl; intro _ _; go_simp) | ((with_reducible refine wpTxt_sw ?_ ?_); rfl; intro _ _; go_simp) | (with_reducible refine wpTxt_nil ?_) | ((with_reducible refine wp_region_t mixed ?_ ?_); decide +kernel; intro _ _) | (go_at_call 9; ((with_reducible refine (new_no n _ hr).mono ?_); rintro e w' ⟨rfl, rfl⟩)) | (go_at_call 10; ((with_reducible refine (first_no n _ hr).mono ?_); rintro e w2 ⟨rfl, hb2⟩)) | (go_at_call 11; ((with_reducible refine (alive_any _).mono ?_); rintro e w9 ⟨rfl, hb9⟩)))
    go_ret
    have hz2 := hb2.size
    exact ⟨rfl, below_after (hb9.mono (by simp; omega)) (by (repeat (first | with_reducible assumption | with_reducible exact Below.refl _ _ | ((with_reducible refine Below.setCell ?_ ?_ _); rotate_left; (· first | omega | (simp only [World.size_alloc, World.size_drew, World.size_setCell]; omega) | (dsimp only; omega))) | ((with_reducible refine Below.alloc ?_ ?_ _); rotate_left; (· first | omega | (simp only [World.size_alloc, World.size_drew, World.size_setCell]; omega))) | ((with_reducible refine Below.drewN' ?_ _)) | ((with_reducible refine Below.drew ?_)))))⟩
set_option maxHeartbeats 4000000 in
set_option maxRecDepth 100000 in
theorem lawFinds (lv : Value) (l : List Stp) (s : ByteArray) (n : Int) (w : World) (hl : RRow w 3 stpC lv l) (hn : ∀ s ∈ l, s.name.size ≤ maxLen) : Calls Try.prog 3 #[lv, .string s, .int .i64 n] w (BPost true w) := by
  obtain ⟨lo, lc, rfl, l1, l2⟩ := hl.len
  unfold maxLen at l2
  by_cases hL : 40 < l.length
  · go_enter Try.func3, Try.ntmps3
    go_wp2_with (first | ((with_reducible refine wpTxt_q ?_ ?_ ?_); rfl; rfl; intro _ _) | ((with_reducible refine wpTxt_w0 ?_ ?_ ?_); rfl; rfl; intro _ _) | ((with_reducible refine wpTxt_s ?_ ?_); rfl; intro _ _; go_simp) | ((with_reducible refine wpTxt_sw ?_ ?_); rfl; intro _ _; go_simp) | (with_reducible refine wpTxt_nil ?_) | ((with_reducible refine wp_region_t mixed ?_ ?_); decide +kernel; intro _ _) | (go_at_call 9; ((with_reducible refine (new_yes 20 _ ?_ ?_).mono ?_); (· decide); (· decide); rintro e w1 ⟨b, F, rfl, hT1, hB1, hF1⟩)) | (go_at_call 10; ((with_reducible refine (first_yes 20 _ ?_ ?_).mono ?_); (· decide); (· decide); rintro e w2 ⟨rfl, hb2⟩)) | (go_at_call 11; ((with_reducible refine (alive_any _).mono ?_); rintro e w9 ⟨rfl, hb9⟩)))
    go_ret
    have hx2 := hB1.trans (hb2.mono hB1.size)
    have hz2 := hx2.size
    exact ⟨rfl, below_after (hb9.mono (by have := hx2.size; simp; omega)) (by (repeat (first | with_reducible assumption | with_reducible exact Below.refl _ _ | ((with_reducible refine Below.setCell ?_ ?_ _); rotate_left; (· first | omega | (simp only [World.size_alloc, World.size_drew, World.size_setCell]; omega) | (dsimp only; omega))) | ((with_reducible refine Below.alloc ?_ ?_ _); rotate_left; (· first | omega | (simp only [World.size_alloc, World.size_drew, World.size_setCell]; omega))) | ((with_reducible refine Below.drewN' ?_ _)) | ((with_reducible refine Below.drew ?_)))))⟩
  · go_enter Try.func3, Try.ntmps3
    go_upto_region 7 with (first | ((with_reducible refine wpTxt_q ?_ ?_ ?_); rfl; rfl; intro _ _) | ((with_reducible refine wpTxt_w0 ?_ ?_ ?_); rfl; rfl; intro _ _) | ((with_reducible refine wpTxt_s ?_ ?_); rfl; intro _ _; go_simp) | ((with_reducible refine wpTxt_sw ?_ ?_); rfl; intro _ _; go_simp) | (with_reducible refine wpTxt_nil ?_) | ((with_reducible refine wp_region_t mixed ?_ ?_); decide +kernel; intro _ _) | (go_at_call 9; ((with_reducible refine (new_yes 20 _ ?_ ?_).mono ?_); (· decide); (· decide); rintro e w1 ⟨b, F, rfl, hT1, hB1, hF1⟩)) | (go_at_call 10; ((with_reducible refine (first_yes 20 _ ?_ ?_).mono ?_); (· decide); (· decide); rintro e w2 ⟨rfl, hb2⟩)))
    have hx2 := hB1.trans (hb2.mono hB1.size)
    have hz2 := hx2.size
    have hgF : w2.heap.size ∉ F := fun hm => by have := hT1.lt _ hm; have := hb2.size; omega
    have hT2 := (hT1.low hb2).low (Ext.alloc w2 (.cells #[.int .i64 20, .slice none 0 0, .slice none 0 0] 28))
    have hX2 := Blk.fresh w2 28 #[.int .i64 20, .slice none 0 0, .slice none 0 0]
    have hx3 : Below w.heap.size w (w2.alloc (.cells #[.int .i64 20, .slice none 0 0, .slice none 0 0] 28)) := by (repeat (first | with_reducible assumption | with_reducible exact Below.refl _ _ | ((with_reducible refine Below.setCell ?_ ?_ _); rotate_left; (· first | omega | (simp only [World.size_alloc, World.size_drew, World.size_setCell]; omega) | (dsimp only; omega))) | ((with_reducible refine Below.alloc ?_ ?_ _); rotate_left; (· first | omega | (simp only [World.size_alloc, World.size_drew, World.size_setCell]; omega))) | ((with_reducible refine Below.drewN' ?_ _)) | ((with_reducible refine Below.drew ?_))))
    generalize w2.alloc (.cells #[.int .i64 20, .slice none 0 0, .slice none 0 0] 28) = w3 at hT2 hX2 hx3 ⊢
    generalize w2.heap.size = g6 at *
    obtain ⟨x0, x1, x2, y0, y1, y2⟩ := hX2.c3
    go_upto_region 8 with (first | ((with_reducible refine wpTxt_q ?_ ?_ ?_); rfl; rfl; intro _ _) | ((with_reducible refine wpTxt_w0 ?_ ?_ ?_); rfl; rfl; intro _ _) | ((with_reducible refine wpTxt_s ?_ ?_); rfl; intro _ _; go_simp) | ((with_reducible refine wpTxt_sw ?_ ?_); rfl; intro _ _; go_simp) | (with_reducible refine wpTxt_nil ?_) | ((with_reducible refine wp_region_t mixed ?_ ?_); decide +kernel; intro _ _) | (go_at_call 12; ((with_reducible refine (play0 hT2 ?_ ?_ (hl.low hx3) (fun h x hx hm => by have := hl.own_lt h x hx; have := hF1 x hm; omega) hn ?_).mono ?_); (· decide); (· decide); (· omega); rintro e w4 ⟨F4, no, nc, ao, ac, rfl, hT4, hS4, hO4, hG4, hR4, hap4⟩; obtain ⟨q0, q1, q2, r0, r1, r2⟩ := (hX2.of (hO4.block g6 hX2.lt hgF)).c3)))
    have hX4 := hX2.of (hO4.block g6 hX2.lt hgF)
    clear q0 q1 q2 r0 r1 r2 x0 x1 x2 y0 y1 y2
    obtain ⟨hX5, hO5⟩ := hX4.put3 (x' := .int .i64 ((T0 20).run l).lim) (y' := .slice no ((T0 20).run l).names.length nc) (z' := .slice ao ((T0 20).run l).als.length ac)
    have hx4 : Below w.heap.size w w4 := hx3.trans (hO4.below hF1 hx3.size)
    have hg4 : g6 ∉ F4 := fun hm => (hG4 g6 hm).elim hgF fun h => by have := hX2.lt; omega
    have hx5 := hx4.trans (hO5.below (by simp; omega) hx4.size)
    have hT5 := hT4.only hO5 fun x hx hm => by simp at hm; subst hm; exact hg4 hx
    have hS5 := hS4.only hO5 fun x hx hm => by have := hS4.ne hX4 (by decide) (by decide); simp at hm; subst hm; exact this hx
    clear hO5 hX4
    generalize ((w4.setCell ⟨g6, 0, none⟩ (.int .i64 ((T0 20).run l).lim)).setCell ⟨g6, 1, none⟩ (.slice no ((T0 20).run l).names.length nc)).setCell ⟨g6, 2, none⟩ (.slice ao ((T0 20).run l).als.length ac) = w5 at hX5 hx5 hT5 hS5 ⊢
    obtain ⟨x0, x1, x2, -, -, -⟩ := hX5.c3
    go_wp2_with (first | ((with_reducible refine wpTxt_q ?_ ?_ ?_); rfl; rfl; intro _ _) | ((with_reducible refine wpTxt_w0 ?_ ?_ ?_); rfl; rfl; intro _ _) | ((with_reducible refine wpTxt_s ?_ ?_); rfl; intro _ _; go_simp) | ((with_reducible refine wpTxt_sw ?_ ?_); rfl; intro _ _; go_simp) | (with_reducible refine wpTxt_nil ?_) | ((with_reducible refine wp_region_t mixed ?_ ?_); decide +kernel; intro _ _) | (go_at_call 13; ((with_reducible refine (find_any hT5 s).mono ?_); rintro e w' ⟨rfl, rfl⟩)) | (go_at_call 14; ((with_reducible refine (r4Find_any hS5 s).mono ?_); rintro e w6 ⟨rfl, hb6⟩; obtain ⟨x0, x1, x2, -, -, -⟩ := (hX5.low hb6).c3)) | (go_at_call 15; ((with_reducible refine (name_any (hT5.low hb6) n).mono ?_); rintro e w' ⟨rfl, rfl⟩)) | (go_at_call 16; ((with_reducible refine (r4Name_any (hS5.low hb6) n).mono ?_); rintro e w7 ⟨rfl, hb7⟩)) | (go_at_call 11; ((with_reducible refine (alive_any _).mono ?_); rintro e w9 ⟨rfl, hb9⟩)))
    go_ret
    exact ⟨rfl, hx5.trans ((hb6.trans ((hb7.trans (hb9.mono hb7.size)).mono hb6.size)).mono hx5.size)⟩
end Go.Proofs.Ytjpgnadfbejihaa
