/- The walk of the example that every law ends with. -/
import Derived.Test.YtjpgnadfbejihaaSs
set_option linter.unusedSimpArgs false
set_option linter.unusedVariables false
namespace Go.Proofs.Ytjpgnadfbejihaa
open Go.RowKit Tk
def sa : ByteArray := ⟨#[97]⟩
def sb : ByteArray := ⟨#[98]⟩
def sx : ByteArray := ⟨#[120]⟩
def A1 : TS := ⟨2, [⟨#[97]⟩], []⟩
def A2 : TS := ⟨2, [⟨#[97]⟩, ⟨#[98]⟩], []⟩
def A3 : TS := ⟨2, [⟨#[97]⟩, ⟨#[98]⟩], [(⟨#[120]⟩, 1)]⟩
theorem al1 : (T0 2).add ⟨#[97]⟩ = (A1, 0, 0) := by kernel_rfl
theorem al2 : A1.add ⟨#[98]⟩ = (A2, 1, 0) := by kernel_rfl
theorem al3 : A2.add ⟨#[99]⟩ = (A2, 0, 25) := by kernel_rfl
theorem al4 : A2.also ⟨#[120]⟩ 1 = (A3, 0) := by kernel_rfl
theorem al5 : A3.find ⟨#[120]⟩ = some 1 := by kernel_rfl
theorem al6 : A3.add ⟨#[120]⟩ = (A3, 0, 12) := by kernel_rfl
theorem al7 : A3.add ⟨#[116, 121, 112, 101]⟩ = (A3, 0, 10) := by kernel_rfl
theorem al8 : sortS A3.all = [⟨#[97]⟩, ⟨#[98]⟩, ⟨#[120]⟩] := by
  refine (Asc.sortS ?_ (List.Perm.refl _)).symm
  unfold Asc TS.all A3
  decide
def MPost (v : Value) (T : TS) (w : World) (b : Nat) (F : List Nat) (e : Ending) (w' : World) : Prop := ∃ F', e = .returned v ∧ Tab w' b F' T ∧ Only F w w' ∧ ∀ x ∈ F', x ∈ F ∨ w.heap.size ≤ x
theorem add_lit {w : World} {b : Nat} {F : List Nat} {T T' : TS} {s : ByteArray} {n e : Int} (h : Tab w b F T) (hs : s.size ≤ maxLen) (he : T.add s = (T', n, e)) : Calls Try.prog 17 #[.pointer (some ⟨b, 0, none⟩), .string s] w (MPost (.tuple #[.int .i64 n, .int .i64 e]) T' w b F) := by
  have := add_tab h s hs
  rw [he] at this
  exact this
theorem also_lit {w : World} {b : Nat} {F : List Nat} {T T' : TS} {s : ByteArray} {n e : Int} (h : Tab w b F T) (hs : s.size ≤ maxLen) (he : T.also s n = (T', e)) : Calls Try.prog 19 #[.pointer (some ⟨b, 0, none⟩), .string s, .int .i64 n] w (MPost (.int .i64 e) T' w b F) := by
  have := also_tab h s n hs
  rw [he] at this
  exact this
theorem find_lit {w : World} {b : Nat} {F : List Nat} {T : TS} {s : ByteArray} {n : Int} (h : Tab w b F T) (he : T.find s = some n) : Calls Try.prog 13 #[.pointer (some ⟨b, 0, none⟩), .string s] w fun e w' => e = .returned (.tuple #[.int .i64 n, .bool true]) ∧ w = w' := by
  have := find_any h s
  rw [he] at this
  exact this
theorem grow_on {w w1 w2 : World} {F F' : List Nat} (hB : Below w.heap.size w w1) (hF : ∀ x ∈ F, w.heap.size ≤ x) (hO : Only F w1 w2) (hG : ∀ x ∈ F', x ∈ F ∨ w1.heap.size ≤ x) : Below w.heap.size w w2 ∧ ∀ x ∈ F', w.heap.size ≤ x :=
  ⟨hB.trans (hO.below hF hB.size), fun x hx => (hG x hx).elim (hF x) fun h => Nat.le_trans hB.size h⟩
set_option maxHeartbeats 2000000 in
theorem alive_any (w : World) : Calls Try.prog 11 #[] w (BPost true w) := by
  go_enter Try.func11, Try.ntmps11
  go_wp2_with (first | ((with_reducible refine wpTxt_q ?_ ?_ ?_); rfl; rfl; intro _ _) | ((with_reducible refine wpTxt_w0 ?_ ?_ ?_); rfl; rfl; intro _ _) | ((with_reducible refine wpTxt_s ?_ ?_); rfl; intro _ _; go_simp) | ((with_reducible refine wpTxt_sw ?_ ?_); rfl; intro _ _; go_simp) | (with_reducible refine wpTxt_nil ?_) | ((with_reducible refine wp_region_t mixed ?_ ?_); decide +kernel; intro _ _) | (go_at_call 9; ((with_reducible refine (new_yes 2 _ ?_ ?_).mono ?_); (· decide); (· decide); rintro e w1 ⟨b, F1, rfl, hT1, hB1, hF1⟩)) | (go_at_call 17; ((with_reducible refine (add_lit hT1 ?_ al1).mono ?_); (· decide +kernel); rintro e w2 ⟨F2, rfl, hT2, hO2, hG2⟩; obtain ⟨hB2, hF2⟩ := grow_on hB1 hF1 hO2 hG2)) | (go_at_call 17; ((with_reducible refine (add_lit hT2 ?_ al2).mono ?_); (· decide +kernel); rintro e w3 ⟨F3, rfl, hT3, hO3, hG3⟩; obtain ⟨hB3, hF3⟩ := grow_on hB2 hF2 hO3 hG3)) | (go_at_call 17; ((with_reducible refine (add_lit hT3 ?_ al3).mono ?_); (· decide +kernel); rintro e w4 ⟨F4, rfl, hT4, hO4, hG4⟩; obtain ⟨hB4, hF4⟩ := grow_on hB3 hF3 hO4 hG4)) | (go_at_call 19; ((with_reducible refine (also_lit hT4 ?_ al4).mono ?_); (· decide +kernel); rintro e w5 ⟨F5, rfl, hT5, hO5, hG5⟩; obtain ⟨hB5, hF5⟩ := grow_on hB4 hF4 hO5 hG5)) | (go_at_call 13; ((with_reducible refine (find_lit hT5 al5).mono ?_); rintro e w' ⟨rfl, rfl⟩)) | (go_at_call 17; ((with_reducible refine (add_lit hT5 ?_ al6).mono ?_); (· decide +kernel); rintro e w6 ⟨F6, rfl, hT6, hO6, hG6⟩; obtain ⟨hB6, hF6⟩ := grow_on hB5 hF5 hO6 hG6)) | (go_at_call 17; ((with_reducible refine (add_lit hT6 ?_ al7).mono ?_); (· decide +kernel); rintro e w7 ⟨F7, rfl, hT7, hO7, hG7⟩; obtain ⟨hB7, hF7⟩ := grow_on hB6 hF6 hO7 hG7)) | (go_at_call 21; ((with_reducible refine (sorted_any hT7).mono ?_); rintro e w8 ⟨v8, rfl, hR8, hb8, -⟩)) | (go_at_call 25; ((with_reducible refine (texts_eq (sortS A3.all) _ _ _ ?_ ?_).mono ?_); (· exact (hR8.low (by (repeat (first | with_reducible assumption | with_reducible exact Below.refl _ _ | ((with_reducible refine Below.setCell ?_ ?_ _); rotate_left; (· first | omega | (simp only [World.size_alloc, World.size_drew, World.size_setCell]; omega) | (dsimp only; omega))) | ((with_reducible refine Below.alloc ?_ ?_ _); rotate_left; (· first | omega | (simp only [World.size_alloc, World.size_drew, World.size_setCell]; omega))) | ((with_reducible refine Below.drewN' ?_ _)) | ((with_reducible refine Below.drew ?_)))))).reads); (· rw [al8]; exact RRow.blk (xs := [⟨#[97]⟩, ⟨#[98]⟩, ⟨#[120]⟩]) strC_l (Blk.fresh _ _ _) rfl (by show 3 ≤ maxLen; decide)); rintro e w9 ⟨rfl, n9, rfl⟩)))
  go_ret
  exact ⟨rfl, Below.drewN' ((hB7.trans (hb8.mono hB7.size)).alloc (by have := hb8.size; have := hB7.size; omega) _) _⟩
end Go.Proofs.Ytjpgnadfbejihaa
