/- The library's sort on a row of strings; Sorted. -/
import Derived.Test.YtjpgnadfbejihaaSt
import Derived.Test.YtjpgnadfbejihaaSh
import Derived.Test.YtjpgnadfbejihaaOr
import Derived.Sort.OwnSorted
set_option linter.unusedSimpArgs false
set_option linter.unusedVariables false
namespace Go.Proofs.Ytjpgnadfbejihaa
open Go.RowKit Tk
theorem enc_key (xs : List ByteArray) : (xs.map key).map encStr = xs.map Value.string := by
  rw [List.map_map]; rfl
theorem enc_sorted (xs : List ByteArray) : ((xs.map key).mergeSort fun x y => decide (x ≤ y)).map encStr = (sortS xs).map Value.string := by
  unfold sortS; rw [List.map_map]; rfl
set_option maxHeartbeats 400000 in
theorem sort_any {w : World} {v : Value} {xs : List ByteArray} (h : Row w v xs) (hx : xs.length ≤ 9000) :
    Calls Try.prog 32 #[v] w fun e w' => e = .returned (.tuple #[]) ∧ Row w' v (sortS xs) ∧ w.grownBy w' v.ownBlock := by
  rcases h.2 with ⟨rfl, hn⟩ | ⟨g, cap, cur, rfl, hb, hgg, h1, h2, h3, h4⟩
  · have : xs = [] := List.eq_nil_of_length_eq_zero hn
    subst this
    refine (Try.slices_Sort_string_none none 0 w).mono ?_
    rintro e w' ⟨rfl, rfl⟩
    exact ⟨rfl, by simpa [sortS] using h, World.grownBy.refl _ _⟩
  · have hl : (xs.map key).length = xs.length := List.length_map _
    have hH : Sort.Holds encStr w g 0 (xs.map key).toArray := holds_of_block hgg (by rw [enc_key, hl]; simpa using h4)
    have := Try.slices_Sort_string g 0 cap (xs.map key) w hH (Blk.lt hgg) (by rw [hl]; omega)
    rw [hl] at this
    refine this.mono ?_
    rintro e w' ⟨rfl, n, os, rfl⟩
    refine ⟨rfl, ?_, grownBy_sorted _⟩
    have ho := ownsRow_sorted (w := w) (base := 0) (g := g) (cap := cap) (n := n) (e := 9) (os := os) (cur := cur) (ss := xs.map key) (ts := (xs.map key).mergeSort fun x y => decide (x ≤ y)) (by simp) hb hgg (by rw [hl]; exact h1) h2 h3
    unfold Row
    rw [sortS_len, ← enc_sorted]
    rw [hl] at ho
    exact ho
def spRow (xs : List ByteArray) : Sp :=
  { φ := fun v => ∃ ao cap, v = .slice ao xs.length cap, Φ := fun v w => Row w v xs, fp := ownB, mono := fun v w w' hx h => h.low hx }
theorem good_row {v : Value} {w w' : World} {xs : List ByteArray} (hr : Row w' v xs) (h : Ext w w') (hf : ∀ x ∈ ownB v, w.heap.size ≤ x) : (spRow xs).Good v w w' := by
  obtain ⟨ao, cap, e, _, _⟩ := hr.len
  exact ⟨⟨ao, cap, e⟩, hr, h, fun b hb => ⟨hf b hb, hr.lt b hb⟩⟩
def TS.all (T : TS) : List ByteArray := T.names ++ T.als.map (·.1)
theorem TabAt.low {w w1 : World} {b m : Nat} {nv av : Value} {ml : List (ByteArray × Value)} {T : TS} (h : TabAt w b m nv av ml T) (hb : Below w.heap.size w w1) : TabAt w1 b m nv av ml T := h.kept fun x hx => hb.block x (h.lt x hx)
theorem mem_ownB {v : Value} {x : Nat} : x ∈ ownB v ↔ v.ownBlock = some x := by simp [ownB]
set_option maxHeartbeats 1000000 in
set_option maxRecDepth 100000 in
theorem sorted_tab {w : World} {b m : Nat} {nv av : Value} {ml : List (ByteArray × Value)} {T : TS} (h : TabAt w b m nv av ml T) :
    Calls Try.prog 21 #[.pointer (some ⟨b, 0, none⟩)] w fun e w' => ∃ v', e = .returned v' ∧ Row w' v' (sortS T.all) ∧ Below w.heap.size w w' ∧ ∀ x ∈ ownB v', w.heap.size ≤ x := by
  have h1 := h.ok.len
  have h2 := h.ok.hi
  have h3 := h.ok.als
  obtain ⟨no, ncap, rfl, hn1, hn2⟩ := h.names.len
  obtain ⟨ao, acap, hav, ha1, ha2⟩ := h.als.len
  rw [List.length_map] at hav
  subst hav
  obtain ⟨c0, c1, c2, c3⟩ := h.cells
  have H := Lib.hid h
  have hr := h.names
  go_enter Try.func21, Try.ntmps21
  go_upto_region 3 with (first | ((with_reducible refine wpTxt_q ?_ ?_ ?_); rfl; rfl; intro _ _) | ((with_reducible refine wpTxt_w0 ?_ ?_ ?_); rfl; rfl; intro _ _) | ((with_reducible refine wpTxt_s ?_ ?_); rfl; intro _ _; go_simp) | ((with_reducible refine wpTxt_sw ?_ ?_); rfl; intro _ _; go_simp) | (with_reducible refine wpTxt_nil ?_) | ((with_reducible refine wp_region_t mixed ?_ ?_); decide +kernel; intro _ _) | (go_at_call 28; ((with_reducible refine (made_tab (by assumption)).mono ?_); rintro e w' ⟨rfl, rfl⟩)))
  clear c0 c1 c2 c3
  refine wp_region_e (spOf [(4, spRow T.names)]) [0, 1, 2, 3, 4, 5, 6, 7, 8] [9, 10] mixed ?_ ?_
  · decide +kernel
  · intro K ws hws hK
    have hxw : Below w.heap.size w ws := by rw [hws]; (repeat (first | with_reducible assumption | with_reducible exact Below.refl _ _ | ((with_reducible refine Below.setCell ?_ ?_ _); rotate_left; (· first | omega | (simp only [World.size_alloc, World.size_drew, World.size_setCell]; omega) | (dsimp only; omega))) | ((with_reducible refine Below.alloc ?_ ?_ _); rotate_left; (· first | omega | (simp only [World.size_alloc, World.size_drew, World.size_setCell]; omega))) | ((with_reducible refine Below.drewN' ?_ _)) | ((with_reducible refine Below.drew ?_))))
    clear hws
    dsimp only [pickE, pickL, List.getElem?_cons_succ, List.getElem?_cons_zero] at hK ⊢
    go_wp2_with (first | ((with_reducible refine wpE_q ?_ ?_ ?_); rfl; rfl; intro wq hq _ _; obtain ⟨c0, c1, c2, c3⟩ := (H.out.low (hxw.trans (hq.mono hxw.size))).cells) | ((with_reducible refine wpE_s ?_ ?_); rfl; intro wq hq _ _; obtain ⟨c0, c1, c2, c3⟩ := (H.out.low (hxw.trans (hq.mono hxw.size))).cells; go_simp))
    refine wpE_w (spRow T.names) _ rfl rfl rfl rfl rfl ⟨_, none, 0, rfl⟩ ?_ ?_
    · intro wq hq K2 hK2
      go_wp2_with fail
      refine (copied_row (H.out.low (hxw.trans (hq.mono hxw.size))).names (by omega)).mono ?_
      rintro e w' ⟨v', rfl, hr', hb', hf'⟩
      go_wp2_with fail
      exact good_row hr' hb' hf'
    · rintro v ⟨co, ccap, rfl⟩
      go_wp2_with (first | ((with_reducible refine wpE_q ?_ ?_ ?_); rfl; rfl; intro wq hq _ _; obtain ⟨c0, c1, c2, c3⟩ := (H.out.low (hxw.trans (hq.mono hxw.size))).cells) | ((with_reducible refine wpE_s ?_ ?_); rfl; intro wq hq _ _; obtain ⟨c0, c1, c2, c3⟩ := (H.out.low (hxw.trans (hq.mono hxw.size))).cells; go_simp))
      refine wpE_nil (fun w4 hx4 hΦ hfp hdis => ?_)
      have hR4 : Row w4 (.slice co T.names.length ccap) T.names := hΦ (4, _) (by simp)
      have hO4 : ∀ x ∈ ownB (.slice co T.names.length ccap), ws.heap.size ≤ x ∧ x < w4.heap.size := fun x hx => hfp (4, _) (by simp) x hx
      have hB4 : Below w.heap.size w w4 := hxw.trans (hx4.mono hxw.size)
      have hA4 := (H.out.low hB4).als
      clear hΦ hfp hdis
      refine hK _ _ ?_
      clear hK
      refine wpTxt_w0 rfl rfl (fun K3 hK3 => ?_)
      refine wp_app (.tmp 11) (.tmp 15) rfl info_str und_strs rfl (by decide) strC_l strC_one (.slice co T.names.length ccap) (.slice ao T.als.length acap) T.names (T.als.map (·.1)) rfl rfl hR4.o (hA4.o.reads strC_l) ?a3 ?a4 ?_
      case a3 => have : (8192 : Nat) ≤ maxLen := by decide
                 rw [List.length_map]; omega
      case a4 => rw [List.length_map]; omega
      intro v5 w5 hp5
      obtain ⟨hb5, ho5⟩ := hp5.below (B := w.heap.size) hB4 (fun x hx => Nat.le_trans hxw.size (hO4 x (mem_ownB.2 hx)).1) hB4.size
      have hR5 : Row w5 v5 T.all := Row.of hp5.row
      clear hp5
      have hl5 : T.all.length ≤ 9000 := by simp [TS.all]; omega
      refine hK3 _ _ ?_
      go_wp2_with (first | ((with_reducible refine wpTxt_q ?_ ?_ ?_); rfl; rfl; intro _ _) | ((with_reducible refine wpTxt_w0 ?_ ?_ ?_); rfl; rfl; intro _ _) | ((with_reducible refine wpTxt_s ?_ ?_); rfl; intro _ _; go_simp) | ((with_reducible refine wpTxt_sw ?_ ?_); rfl; intro _ _; go_simp) | (with_reducible refine wpTxt_nil ?_) | ((with_reducible refine wp_region_t mixed ?_ ?_); decide +kernel; intro _ _) | (go_at_call 32; ((with_reducible refine (sort_any hR5 hl5).mono ?_); rintro e w6 ⟨rfl, hR6, hg6⟩)))
      go_ret
      exact ⟨v5, rfl, hR6, hb5.grown hg6 hb5.size (fun k hk => ho5 k hk), fun x hx => ho5 x (mem_ownB.1 hx)⟩
end Go.Proofs.Ytjpgnadfbejihaa
