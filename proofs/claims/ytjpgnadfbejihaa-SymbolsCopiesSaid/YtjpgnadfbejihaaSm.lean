/- The walk of the law on copies. -/
import Derived.Test.YtjpgnadfbejihaaSl
set_option linter.unusedSimpArgs false
set_option linter.unusedVariables false
namespace Go.Proofs.Ytjpgnadfbejihaa
open Go.RowKit Tk
set_option maxHeartbeats 4000000 in
set_option maxRecDepth 100000 in
theorem lawCopies (lv mv : Value) (l mo : List Stp) (w : World) (hl : RRow w 3 stpC lv l) (hn : ∀ s ∈ l, s.name.size ≤ maxLen) (hm : RRow w 3 stpC mv mo) (hnm : ∀ s ∈ mo, s.name.size ≤ maxLen) : Calls Try.prog 7 #[lv, mv] w (BPost true w) := by
  obtain ⟨lo, lc, rfl, l1, l2⟩ := hl.len
  obtain ⟨mo', mc, rfl, m1, m2⟩ := hm.len
  unfold maxLen at l2 m2
  by_cases hL : 40 < l.length ∨ 40 < mo.length
  · have HL := Lib.hid hL
    rcases hL with hL | hL
    all_goals
      go_enter Try.func7, Try.ntmps7
      go_wp2_with (first | ((with_reducible refine wpTxt_q ?_ ?_ ?_); rfl; rfl; intro _ _) | ((with_reducible refine wpTxt_w0 ?_ ?_ ?_); rfl; rfl; intro _ _) | ((with_reducible refine wpTxt_s ?_ ?_); rfl; intro _ _; go_simp) | ((with_reducible refine wpTxt_sw ?_ ?_); rfl; intro _ _; go_simp) | (with_reducible refine wpTxt_nil ?_) | ((with_reducible refine wp_region_t mixed ?_ ?_); decide +kernel; intro _ _) | (go_at_call 9; ((with_reducible refine (new_yes 30 _ ?_ ?_).mono ?_); (· decide); (· decide); rintro e w1 ⟨b, F, rfl, hT1, hB1, hF1⟩)) | (go_at_call 10; ((with_reducible refine (first_yes 30 _ ?_ ?_).mono ?_); (· decide); (· decide); rintro e w2 ⟨rfl, hb2⟩)) | (go_at_call 11; ((with_reducible refine (alive_any _).mono ?_); rintro e w9 ⟨rfl, hb9⟩)))
      all_goals
        go_ret
        have hx2 := hB1.trans (hb2.mono hB1.size)
        have hz2 := hx2.size
        exact ⟨rfl, below_after (hb9.mono (by have := hx2.size; simp; omega)) (by (repeat (first | with_reducible assumption | with_reducible exact Below.refl _ _ | ((with_reducible refine Below.setCell ?_ ?_ _); rotate_left; (· first | omega | (simp only [World.size_alloc, World.size_drew, World.size_setCell]; omega) | (dsimp only; omega))) | ((with_reducible refine Below.alloc ?_ ?_ _); rotate_left; (· first | omega | (simp only [World.size_alloc, World.size_drew, World.size_setCell]; omega))) | ((with_reducible refine Below.drewN' ?_ _)) | ((with_reducible refine Below.drew ?_)))))⟩
  · have hL1 : l.length ≤ 40 := by omega
    have hL2 : mo.length ≤ 40 := by omega
    clear hL
    go_enter Try.func7, Try.ntmps7
    go_upto_region 7 with (first | ((with_reducible refine wpTxt_q ?_ ?_ ?_); rfl; rfl; intro _ _) | ((with_reducible refine wpTxt_w0 ?_ ?_ ?_); rfl; rfl; intro _ _) | ((with_reducible refine wpTxt_s ?_ ?_); rfl; intro _ _; go_simp) | ((with_reducible refine wpTxt_sw ?_ ?_); rfl; intro _ _; go_simp) | (with_reducible refine wpTxt_nil ?_) | ((with_reducible refine wp_region_t mixed ?_ ?_); decide +kernel; intro _ _) | (go_at_call 9; ((with_reducible refine (new_yes 30 _ ?_ ?_).mono ?_); (· decide); (· decide); rintro e w1 ⟨b, F, rfl, hT1, hB1, hF1⟩)) | (go_at_call 10; ((with_reducible refine (first_yes 30 _ ?_ ?_).mono ?_); (· decide); (· decide); rintro e w2 ⟨rfl, hb2⟩)))
    have hx2 := hB1.trans (hb2.mono hB1.size)
    have hz2 := hx2.size
    have hgF : w2.heap.size ∉ F := fun hm => by have := hT1.lt _ hm; have := hb2.size; omega
    have hT2 := (hT1.low hb2).low (Ext.alloc w2 (.cells #[.int .i64 30, .slice none 0 0, .slice none 0 0] 28))
    have hX2 := Blk.fresh w2 28 #[.int .i64 30, .slice none 0 0, .slice none 0 0]
    have hx3 : Below w.heap.size w (w2.alloc (.cells #[.int .i64 30, .slice none 0 0, .slice none 0 0] 28)) := by (repeat (first | with_reducible assumption | with_reducible exact Below.refl _ _ | ((with_reducible refine Below.setCell ?_ ?_ _); rotate_left; (· first | omega | (simp only [World.size_alloc, World.size_drew, World.size_setCell]; omega) | (dsimp only; omega))) | ((with_reducible refine Below.alloc ?_ ?_ _); rotate_left; (· first | omega | (simp only [World.size_alloc, World.size_drew, World.size_setCell]; omega))) | ((with_reducible refine Below.drewN' ?_ _)) | ((with_reducible refine Below.drew ?_))))
    generalize w2.alloc (.cells #[.int .i64 30, .slice none 0 0, .slice none 0 0] 28) = w3 at hT2 hX2 hx3 ⊢
    generalize w2.heap.size = g6 at *
    obtain ⟨x0, x1, x2, y0, y1, y2⟩ := hX2.c3
    go_upto_region 8 with (first | ((with_reducible refine wpTxt_q ?_ ?_ ?_); rfl; rfl; intro _ _) | ((with_reducible refine wpTxt_w0 ?_ ?_ ?_); rfl; rfl; intro _ _) | ((with_reducible refine wpTxt_s ?_ ?_); rfl; intro _ _; go_simp) | ((with_reducible refine wpTxt_sw ?_ ?_); rfl; intro _ _; go_simp) | (with_reducible refine wpTxt_nil ?_) | ((with_reducible refine wp_region_t mixed ?_ ?_); decide +kernel; intro _ _) | (go_at_call 12; ((with_reducible refine (play0 hT2 ?_ ?_ (hl.low hx3) (fun h x hx hm => by have := hl.own_lt h x hx; have := hF1 x hm; omega) hn ?_).mono ?_); (· decide); (· decide); (· omega); rintro e w4 ⟨F4, no, nc, ao, ac, rfl, hT4, hS4, hO4, hG4, hR4, hap4⟩; obtain ⟨q0, q1, q2, r0, r1, r2⟩ := (hX2.of (hO4.block g6 hX2.lt hgF)).c3)))
    have hX4 := hX2.of (hO4.block g6 hX2.lt hgF)
    clear q0 q1 q2 r0 r1 r2 x0 x1 x2 y0 y1 y2
    obtain ⟨hX5, hO5⟩ := hX4.put3 (x' := .int .i64 ((T0 30).run l).lim) (y' := .slice no ((T0 30).run l).names.length nc) (z' := .slice ao ((T0 30).run l).als.length ac)
    have hx4 : Below w.heap.size w w4 := hx3.trans (hO4.below hF1 hx3.size)
    have hg4 : g6 ∉ F4 := fun hm => (hG4 g6 hm).elim hgF fun h => by have := hX2.lt; omega
    have hx5 := hx4.trans (hO5.below (by simp; omega) hx4.size)
    have hT5 := hT4.only hO5 fun x hx hm => by simp at hm; subst hm; exact hg4 hx
    have hS5 := hS4.only hO5 fun x hx hm => by have := hS4.ne hX4 (by decide) (by decide); simp at hm; subst hm; exact this hx
    have hF5 : ∀ x ∈ F4, w.heap.size ≤ x := fun x hx => (hG4 x hx).elim (hF1 x) fun h => by have := hx3.size; omega
    have hap5 := hap4
    clear hO5 hX4
    generalize ((w4.setCell ⟨g6, 0, none⟩ (.int .i64 ((T0 30).run l).lim)).setCell ⟨g6, 1, none⟩ (.slice no ((T0 30).run l).names.length nc)).setCell ⟨g6, 2, none⟩ (.slice ao ((T0 30).run l).als.length ac) = w5 at hX5 hx5 hT5 hS5 ⊢
    generalize (T0 30).run l = T1 at *
    obtain ⟨x0, x1, x2, -, -, -⟩ := hX5.c3
    go_upto_region 11 with (first | ((with_reducible refine wpTxt_q ?_ ?_ ?_); rfl; rfl; intro _ _) | ((with_reducible refine wpTxt_w0 ?_ ?_ ?_); rfl; rfl; intro _ _) | ((with_reducible refine wpTxt_s ?_ ?_); rfl; intro _ _; go_simp) | ((with_reducible refine wpTxt_sw ?_ ?_); rfl; intro _ _; go_simp) | (with_reducible refine wpTxt_nil ?_) | ((with_reducible refine wp_region_t mixed ?_ ?_); decide +kernel; intro _ _) | (go_at_call 23; ((with_reducible refine (copy_any hT5).mono ?_); rintro e w6 ⟨c, Fc, rfl, hTc6, hb6, hFc6⟩; obtain ⟨x0, x1, x2, -, -, -⟩ := (hX5.low hb6).c3)))
    have hx6 := hx5.trans (hb6.mono hx5.size)
    have hT6 := hT5.low hb6
    have hS6 := hS5.low hb6
    have hX6 := hX5.low hb6
    have hTl := hT5.lt
    have hSl := hS5.lt
    have hcl := hTc6.lt
    have hz5 := hb6.size
    have hzx := hx5.size
    clear x0 x1 x2
    obtain ⟨x0, x1, x2, -, -, -⟩ := hX6.c3
    go_upto_region 12 with (first | ((with_reducible refine wpTxt_q ?_ ?_ ?_); rfl; rfl; intro _ _) | ((with_reducible refine wpTxt_w0 ?_ ?_ ?_); rfl; rfl; intro _ _) | ((with_reducible refine wpTxt_s ?_ ?_); rfl; intro _ _; go_simp) | ((with_reducible refine wpTxt_sw ?_ ?_); rfl; intro _ _; go_simp) | (with_reducible refine wpTxt_nil ?_) | ((with_reducible refine wp_region_t mixed ?_ ?_); decide +kernel; intro _ _) | (go_at_call 12; ((with_reducible refine (play_any hT6 hS6 hap5 (hm.low hx6) (fun h x hx hm' => by have := hm.own_lt h x hx; have := hF5 x hm'; omega) hnm ?_).mono ?_); (· omega); rintro e w7 ⟨F7, no2, nc2, ao2, ac2, rfl, hT7, hS7, hO7, hG7, hR7, hap7⟩)))
    have hx7 := hx6.trans (hO7.below hF5 hx6.size)
    have hX7 := hX6.of (hO7.block g6 hX6.lt hg4)
    have hS7' := hS6.only hO7 hap5
    have hTc7 := hTc6.only hO7 fun x hx hm' => by have := hFc6 x hx; have := hTl x hm'; omega
    have hz7 := hO7.size
    have hY8 := Blk.fresh w7 28 #[.int .i64 (T1.run mo).lim, .slice no2 (T1.run mo).names.length nc2, .slice ao2 (T1.run mo).als.length ac2]
    have hE8 := Ext.alloc w7 (.cells #[.int .i64 (T1.run mo).lim, .slice no2 (T1.run mo).names.length nc2, .slice ao2 (T1.run mo).als.length ac2] 28)
    have hx8 := hx7.trans (hE8.mono hx7.size)
    have hT8 := hT7.low hE8
    have hS8t := hS7.low hE8
    have hS8 := hS7'.low hE8
    have hTc8 := hTc7.low hE8
    have hX8 := hX7.low hE8
    have hg7 : w6.heap.size ≤ w7.heap.size := hz7
    have hFcl := hTc6.lt
    clear x0 x1 x2
    generalize w7.alloc (.cells #[.int .i64 (T1.run mo).lim, .slice no2 (T1.run mo).names.length nc2, .slice ao2 (T1.run mo).als.length ac2] 28) = w8 at *
    generalize w7.heap.size = g10 at *
    obtain ⟨x0, x1, x2, -, -, -⟩ := hX8.c3
    go_upto_region 14 with (first | ((with_reducible refine wpTxt_q ?_ ?_ ?_); rfl; rfl; intro _ _) | ((with_reducible refine wpTxt_w0 ?_ ?_ ?_); rfl; rfl; intro _ _) | ((with_reducible refine wpTxt_s ?_ ?_); rfl; intro _ _; go_simp) | ((with_reducible refine wpTxt_sw ?_ ?_); rfl; intro _ _; go_simp) | (with_reducible refine wpTxt_nil ?_) | ((with_reducible refine wp_region_t mixed ?_ ?_); decide +kernel; intro _ _) | (go_at_call 22; ((with_reducible refine (same_any hTc8 hS8).mono ?_); rintro e w9 ⟨rfl, hb9⟩)))
    have hx9 := hx8.trans (hb9.mono hx8.size)
    have hTc9 := hTc8.low hb9
    have hS9 := hS8.low hb9
    have hX9 := hX8.low hb9
    have hT9 := hT8.low hb9
    have hS9t := hS8t.low hb9
    have hY9 := hY8.low hb9
    have hFc6' : ∀ x ∈ Fc, w.heap.size ≤ x := fun x hx => Nat.le_trans hzx (hFc6 x hx)
    have hap9 : ∀ x ∈ ownB (.slice no T1.names.length nc) ++ ownB (.slice ao T1.als.length ac), x ∉ Fc := fun x hx hm' => by have := hSl x hx; have := hFc6 x hm'; omega
    clear x0 x1 x2
    obtain ⟨x0, x1, x2, -, -, -⟩ := hX9.c3
    go_upto_region 15 with (first | ((with_reducible refine wpTxt_q ?_ ?_ ?_); rfl; rfl; intro _ _) | ((with_reducible refine wpTxt_w0 ?_ ?_ ?_); rfl; rfl; intro _ _) | ((with_reducible refine wpTxt_s ?_ ?_); rfl; intro _ _; go_simp) | ((with_reducible refine wpTxt_sw ?_ ?_); rfl; intro _ _; go_simp) | (with_reducible refine wpTxt_nil ?_) | ((with_reducible refine wp_region_t mixed ?_ ?_); decide +kernel; intro _ _) | (go_at_call 12; ((with_reducible refine (play_any hTc9 hS9 hap9 (hm.low hx9) (fun h x hx hm' => by have := hm.own_lt h x hx; have := hFc6 x hm'; omega) hnm ?_).mono ?_); (· omega); rintro e wA ⟨FA, no3, nc3, ao3, ac3, rfl, hTA, hSA, hOA, hGA, hRA, hapA⟩)))
    have hxA := hx9.trans (hOA.below hFc6' hx9.size)
    have hYA := hY9.of (hOA.block g10 hY9.lt fun hm' => by have := hFcl _ hm'; omega)
    have hTtA := hT9.only hOA fun x hx hm' => by
      have h1 := hFc6 x hm'
      have h2 := hFcl x hm'
      rcases hG7 x hx with h | h
      · have := hTl x h; omega
      · omega
    have hS7A := hS9t.only hOA fun x hx hm' => by
      have h1 := hFc6 x hm'
      have h2 := hFcl x hm'
      rcases hR7 x hx with h | h
      · have := hSl x h; omega
      · omega
    have hZB := Blk.fresh wA 28 #[.int .i64 (T1.run mo).lim, .slice no3 (T1.run mo).names.length nc3, .slice ao3 (T1.run mo).als.length ac3]
    have hEB := Ext.alloc wA (.cells #[.int .i64 (T1.run mo).lim, .slice no3 (T1.run mo).names.length nc3, .slice ao3 (T1.run mo).als.length ac3] 28)
    have hxB := hxA.trans (hEB.mono hxA.size)
    have hTcB := hTA.low hEB
    have hSB := hSA.low hEB
    have hTtB := hTtA.low hEB
    have hS7B := hS7A.low hEB
    have hYB := hYA.low hEB
    clear x0 x1 x2 hX2 hX5 hX6 hX7 hX8 hX9 hY8 hY9 hYA
    generalize wA.alloc (.cells #[.int .i64 (T1.run mo).lim, .slice no3 (T1.run mo).names.length nc3, .slice ao3 (T1.run mo).als.length ac3] 28) = wB at *
    generalize wA.heap.size = g12 at *
    obtain ⟨z0, z1, z2, -, -, -⟩ := hZB.c3
    obtain ⟨y0, y1, y2, -, -, -⟩ := hYB.c3
    go_wp2_with (first | ((with_reducible refine wpTxt_q ?_ ?_ ?_); rfl; rfl; intro _ _) | ((with_reducible refine wpTxt_w0 ?_ ?_ ?_); rfl; rfl; intro _ _) | ((with_reducible refine wpTxt_s ?_ ?_); rfl; intro _ _; go_simp) | ((with_reducible refine wpTxt_sw ?_ ?_); rfl; intro _ _; go_simp) | (with_reducible refine wpTxt_nil ?_) | ((with_reducible refine wp_region_t mixed ?_ ?_); decide +kernel; intro _ _) | (go_at_call 22; ((with_reducible refine (same_any hTcB hSB).mono ?_); rintro e wC ⟨rfl, hbC⟩; obtain ⟨y0, y1, y2, -, -, -⟩ := (hYB.low hbC).c3)) | (go_at_call 22; ((with_reducible refine (same_any (hTtB.low hbC) (hS7B.low hbC)).mono ?_); rintro e wD ⟨rfl, hbD⟩)) | (go_at_call 11; ((with_reducible refine (alive_any _).mono ?_); rintro e wE ⟨rfl, hb9'⟩)))
    go_ret
    exact ⟨rfl, hxB.trans ((hbC.trans ((hbD.trans (hb9'.mono hbD.size)).mono hbC.size)).mono hxB.size)⟩
end Go.Proofs.Ytjpgnadfbejihaa
