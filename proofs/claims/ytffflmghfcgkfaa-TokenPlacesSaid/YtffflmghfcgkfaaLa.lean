/- The walks of the laws that compare the program with the reference. -/
import Derived.Test.YtffflmghfcgkfaaAw
set_option linter.unusedSimpArgs false
set_option linter.unusedVariables false
namespace Go.Proofs.Ytffflmghfcgkfaa
open Go.RowKit Tk

set_option maxHeartbeats 1000000 in
theorem lawWords (s : ByteArray) (w : World) (hs : s.size ≤ maxLen) : Calls Try.prog 4 #[.string s] w (BPost true w) := by
  by_cases h3 : 3000 < s.size
  · unfold maxLen at hs
    go_enter Try.func4, Try.ntmps4
    go_wp2_with (first | ((with_reducible refine wpTxt_q ?_ ?_ ?_); rfl; rfl; intro _ _) | ((with_reducible refine wpTxt_w0 ?_ ?_ ?_); rfl; rfl; intro _ _) | ((with_reducible refine wpTxt_s ?_ ?_); rfl; intro _ _; go_simp) | ((with_reducible refine wpTxt_sw ?_ ?_); rfl; intro _ _; go_simp) | (with_reducible refine wpTxt_nil ?_) | ((with_reducible refine wp_region_t mixed ?_ ?_); decide +kernel; intro _ _) | (go_at_call 13; ((with_reducible refine (awake_any _).mono ?_); rintro e w9 ⟨rfl, hb9⟩)))
    go_ret
    exact bpost rfl hb9
  · have hx := hs
    unfold maxLen at hs
    cases hk : kwB s.data.toList <;> cases hn : nameB s.data.toList
    all_goals
      go_enter Try.func4, Try.ntmps4
      go_wp2_with (first | ((with_reducible refine wpTxt_q ?_ ?_ ?_); rfl; rfl; intro _ _) | ((with_reducible refine wpTxt_w0 ?_ ?_ ?_); rfl; rfl; intro _ _) | ((with_reducible refine wpTxt_s ?_ ?_); rfl; intro _ _; go_simp) | ((with_reducible refine wpTxt_sw ?_ ?_); rfl; intro _ _; go_simp) | (with_reducible refine wpTxt_nil ?_) | ((with_reducible refine wp_region_t mixed ?_ ?_); decide +kernel; intro _ _) | (go_at_call 17; ((with_reducible refine (tKeyword_any _ _).mono ?_); rintro e w' ⟨rfl, rfl⟩)) | (go_at_call 18; ((with_reducible refine (rKeyword_any _ _).mono ?_); rintro e w' ⟨rfl, rfl⟩)) | (go_at_call 19; ((with_reducible refine (tIdentifier_any _ hx _).mono ?_); rintro e w' ⟨rfl, rfl⟩)) | (go_at_call 20; ((with_reducible refine (rIdentifier_any _ hx _).mono ?_); rintro e w' ⟨rfl, rfl⟩)) | (go_at_call 13; ((with_reducible refine (awake_any _).mono ?_); rintro e w9 ⟨rfl, hb9⟩)))
      go_ret
      exact bpost rfl hb9

theorem scanF_len (src : ByteArray) : ∀ (f k : Nat) (ts : List Tok), scanF src f k = .ok ts → ts.length ≤ f
  | 0, k, ts, h => by
    unfold scanF at h
    injection h with h
    subst h
    exact Nat.le_refl _
  | f + 1, k, ts, h => by
    rw [scanF] at h
    split at h
    · injection h with h
      subst h
      simp
    · split at h
      · cases h
      · rename_i kd n ho
        cases hr : scanF src f (k + skipL false (src.data.toList.drop k) + n) with
        | err c p => rw [hr] at h; cases h
        | ok us =>
          rw [hr] at h
          simp only [SR.add, SR.ok.injEq] at h
          subst h
          have := scanF_len src f _ us hr
          simp only [List.length_append, List.length_cons, List.length_nil]
          omega
theorem scanS_len {src : ByteArray} {ts : List Tok} (h : scanS src = .ok ts) : ts.length ≤ 65537 ∧ ts.length ≤ src.size + 1 ∧ src.size ≤ 65536 := by
  unfold scanS at h
  split at h
  · cases h
  · have := scanF_len src _ _ _ h
    omega
theorem tscan_ok (src : ByteArray) (ts : List Tok) (h : scanS src = .ok ts) (w : World) : Calls Try.prog 14 #[.string src] w fun e w' => ∃ v, e = .returned (.tuple #[v, flt 0 0 0]) ∧ Toks w' v ts ∧ Below w.heap.size w w' := by
  refine (tScan_any src w).mono fun e w' h' => ?_
  unfold ScanPost at h'
  rw [h] at h'
  obtain ⟨v, h1, h2, h3⟩ := h'
  exact ⟨v, h1, Toks.of_own h2, h3⟩
theorem tscan_err (src : ByteArray) (c : Int) (p : Int × Int) (h : scanS src = .err c p) (w : World) : Calls Try.prog 14 #[.string src] w fun e w' => e = .returned (.tuple #[.slice none 0 0, flt c p.1 p.2]) ∧ Below w.heap.size w w' := by
  refine (tScan_any src w).mono fun e w' h' => ?_
  unfold ScanPost at h'
  rw [h] at h'
  exact h'
theorem rscan_ok (src : ByteArray) (ts : List Tok) (h : scanS src = .ok ts) (w : World) : Calls Try.prog 15 #[.string src] w fun e w' => ∃ v, e = .returned (.tuple #[v, flt 0 0 0]) ∧ Toks w' v ts ∧ Below w.heap.size w w' := by
  refine (rScan_any src w).mono fun e w' h' => ?_
  unfold ScanPost at h'
  rw [h] at h'
  obtain ⟨v, h1, h2, h3⟩ := h'
  exact ⟨v, h1, Toks.of_own h2, h3⟩
theorem rscan_err (src : ByteArray) (c : Int) (p : Int × Int) (h : scanS src = .err c p) (w : World) : Calls Try.prog 15 #[.string src] w fun e w' => e = .returned (.tuple #[.slice none 0 0, flt c p.1 p.2]) ∧ Below w.heap.size w w' := by
  refine (rScan_any src w).mono fun e w' h' => ?_
  unfold ScanPost at h'
  rw [h] at h'
  exact h'
theorem rEqual_self (ts : List Tok) (va vb : Value) (w : World) (ha : Toks w va ts) (hb : Toks w vb ts) (hs : ts.length ≤ 65537) : Calls Try.prog 16 #[va, vb] w fun e w' => e = .returned (.bool true) ∧ ∃ n, w.drewN n = w' := by
  refine (rEqual_any ts ts va vb w ha hb (by omega) (by omega)).mono fun e w' h => ?_
  unfold QPost at h
  rwa [(eqToks_iff ts ts).2 rfl] at h
theorem Toks.drewN {w : World} {v : Value} {ts : List Tok} (h : Toks w v ts) (n : Nat) : Toks (w.drewN n) v ts := h

set_option maxHeartbeats 1000000 in
theorem lawScans (s : ByteArray) (w : World) (hs : s.size ≤ maxLen) : Calls Try.prog 3 #[.string s] w (BPost true w) := by
  unfold maxLen at hs
  by_cases h3 : 3000 < s.size ∧ s.size ≤ 65536
  · obtain ⟨h4, h5⟩ := h3
    go_enter Try.func3, Try.ntmps3
    go_wp2_with (first | ((with_reducible refine wpTxt_q ?_ ?_ ?_); rfl; rfl; intro _ _) | ((with_reducible refine wpTxt_w0 ?_ ?_ ?_); rfl; rfl; intro _ _) | ((with_reducible refine wpTxt_s ?_ ?_); rfl; intro _ _; go_simp) | ((with_reducible refine wpTxt_sw ?_ ?_); rfl; intro _ _; go_simp) | (with_reducible refine wpTxt_nil ?_) | ((with_reducible refine wp_region_t mixed ?_ ?_); decide +kernel; intro _ _) | (go_at_call 13; ((with_reducible refine (awake_any _).mono ?_); rintro e w9 ⟨rfl, hb9⟩)))
    go_ret
    exact bpost rfl hb9
  · have hg : (decide (3000 < s.size) && decide (s.size ≤ 65536)) = false := by simp; omega
    cases hk0 : scanS s with
    | ok ts =>
      have hlen := (scanS_len hk0).1
      have hk := Lib.hid hk0
      clear hk0 hg
      by_cases h4 : 3000 < s.size
      · have h5 : ¬ s.size ≤ 65536 := by omega
        clear h3
        go_enter Try.func3, Try.ntmps3
        go_wp2_with (first | ((with_reducible refine wpTxt_q ?_ ?_ ?_); rfl; rfl; intro _ _) | ((with_reducible refine wpTxt_w0 ?_ ?_ ?_); rfl; rfl; intro _ _) | ((with_reducible refine wpTxt_s ?_ ?_); rfl; intro _ _; go_simp) | ((with_reducible refine wpTxt_sw ?_ ?_); rfl; intro _ _; go_simp) | (with_reducible refine wpTxt_nil ?_) | ((with_reducible refine wp_region_t mixed ?_ ?_); decide +kernel; intro _ _) | (go_at_call 14; ((with_reducible refine (tscan_ok s ts hk.out _).mono ?_); rintro e w1 ⟨v1, rfl, hT1, hb1⟩; have HT1 := Lib.hid hT1; clear hT1; have hz1 := hb1.size)) | (go_at_call 15; ((with_reducible refine (rscan_ok s ts hk.out _).mono ?_); rintro e w2 ⟨v2, rfl, hT2, hb2⟩; have HT2 := Lib.hid hT2; clear hT2; have hz2 := hb2.size; have HF1 := Lib.hid ((Blk.fresh w1 28 #[.int .i64 0, .int .i64 0, .int .i64 0, .string ⟨#[]⟩]).low hb2); have HT1' := Lib.hid ((HT1.out.below (by (repeat (first | with_reducible assumption | with_reducible exact Below.refl _ _ | ((with_reducible refine Below.setCell ?_ ?_ _); rotate_left; (· first | omega | (simp only [World.size_alloc, World.size_drew, World.size_setCell]; omega))) | ((with_reducible refine Below.alloc ?_ ?_ _); rotate_left; (· first | omega | (simp only [World.size_alloc, World.size_drew, World.size_setCell]; omega))) | ((with_reducible refine Below.drewN' ?_ _)) | ((with_reducible refine Below.drew ?_)))))).below hb2); obtain ⟨c0, c1, c2, c3, -, -, -, -⟩ := HF1.out.four; have hz3 := HF1.out.lt; have HB := Lib.hid (show Below w.heap.size w w2 from ((hb1.alloc hz1 _)).trans (hb2.mono (by simp; omega))))) | (go_at_call 16; ((with_reducible refine (rEqual_self ts _ _ _ (HT1'.out.below ?_) (HT2.out.below ?_) hlen).mono ?_); (· (repeat (first | with_reducible assumption | with_reducible exact Below.refl _ _ | ((with_reducible refine Below.setCell ?_ ?_ _); rotate_left; (· first | omega | (simp only [World.size_alloc, World.size_drew, World.size_setCell]; omega))) | ((with_reducible refine Below.alloc ?_ ?_ _); rotate_left; (· first | omega | (simp only [World.size_alloc, World.size_drew, World.size_setCell]; omega))) | ((with_reducible refine Below.drewN' ?_ _)) | ((with_reducible refine Below.drew ?_))))); (· (repeat (first | with_reducible assumption | with_reducible exact Below.refl _ _ | ((with_reducible refine Below.setCell ?_ ?_ _); rotate_left; (· first | omega | (simp only [World.size_alloc, World.size_drew, World.size_setCell]; omega))) | ((with_reducible refine Below.alloc ?_ ?_ _); rotate_left; (· first | omega | (simp only [World.size_alloc, World.size_drew, World.size_setCell]; omega))) | ((with_reducible refine Below.drewN' ?_ _)) | ((with_reducible refine Below.drew ?_))))); rintro e w' ⟨rfl, n, rfl⟩)) | (go_at_call 13; ((with_reducible refine (awake_any _).mono ?_); rintro e w9 ⟨rfl, hb9⟩)))
        go_ret
        exact bpost rfl (by have hL := HB.out; have hL2 := hL.size; exact (show Below w.heap.size w _ by (repeat (first | with_reducible assumption | with_reducible exact Below.refl _ _ | ((with_reducible refine Below.setCell ?_ ?_ _); rotate_left; (· first | omega | (simp only [World.size_alloc, World.size_drew, World.size_setCell]; omega))) | ((with_reducible refine Below.alloc ?_ ?_ _); rotate_left; (· first | omega | (simp only [World.size_alloc, World.size_drew, World.size_setCell]; omega))) | ((with_reducible refine Below.drewN' ?_ _)) | ((with_reducible refine Below.drew ?_))))).trans (hb9.mono (by simp; omega)))
      · clear h3
        go_enter Try.func3, Try.ntmps3
        go_wp2_with (first | ((with_reducible refine wpTxt_q ?_ ?_ ?_); rfl; rfl; intro _ _) | ((with_reducible refine wpTxt_w0 ?_ ?_ ?_); rfl; rfl; intro _ _) | ((with_reducible refine wpTxt_s ?_ ?_); rfl; intro _ _; go_simp) | ((with_reducible refine wpTxt_sw ?_ ?_); rfl; intro _ _; go_simp) | (with_reducible refine wpTxt_nil ?_) | ((with_reducible refine wp_region_t mixed ?_ ?_); decide +kernel; intro _ _) | (go_at_call 14; ((with_reducible refine (tscan_ok s ts hk.out _).mono ?_); rintro e w1 ⟨v1, rfl, hT1, hb1⟩; have HT1 := Lib.hid hT1; clear hT1; have hz1 := hb1.size)) | (go_at_call 15; ((with_reducible refine (rscan_ok s ts hk.out _).mono ?_); rintro e w2 ⟨v2, rfl, hT2, hb2⟩; have HT2 := Lib.hid hT2; clear hT2; have hz2 := hb2.size; have HF1 := Lib.hid ((Blk.fresh w1 28 #[.int .i64 0, .int .i64 0, .int .i64 0, .string ⟨#[]⟩]).low hb2); have HT1' := Lib.hid ((HT1.out.below (by (repeat (first | with_reducible assumption | with_reducible exact Below.refl _ _ | ((with_reducible refine Below.setCell ?_ ?_ _); rotate_left; (· first | omega | (simp only [World.size_alloc, World.size_drew, World.size_setCell]; omega))) | ((with_reducible refine Below.alloc ?_ ?_ _); rotate_left; (· first | omega | (simp only [World.size_alloc, World.size_drew, World.size_setCell]; omega))) | ((with_reducible refine Below.drewN' ?_ _)) | ((with_reducible refine Below.drew ?_)))))).below hb2); obtain ⟨c0, c1, c2, c3, -, -, -, -⟩ := HF1.out.four; have hz3 := HF1.out.lt; have HB := Lib.hid (show Below w.heap.size w w2 from ((hb1.alloc hz1 _)).trans (hb2.mono (by simp; omega))))) | (go_at_call 16; ((with_reducible refine (rEqual_self ts _ _ _ (HT1'.out.below ?_) (HT2.out.below ?_) hlen).mono ?_); (· (repeat (first | with_reducible assumption | with_reducible exact Below.refl _ _ | ((with_reducible refine Below.setCell ?_ ?_ _); rotate_left; (· first | omega | (simp only [World.size_alloc, World.size_drew, World.size_setCell]; omega))) | ((with_reducible refine Below.alloc ?_ ?_ _); rotate_left; (· first | omega | (simp only [World.size_alloc, World.size_drew, World.size_setCell]; omega))) | ((with_reducible refine Below.drewN' ?_ _)) | ((with_reducible refine Below.drew ?_))))); (· (repeat (first | with_reducible assumption | with_reducible exact Below.refl _ _ | ((with_reducible refine Below.setCell ?_ ?_ _); rotate_left; (· first | omega | (simp only [World.size_alloc, World.size_drew, World.size_setCell]; omega))) | ((with_reducible refine Below.alloc ?_ ?_ _); rotate_left; (· first | omega | (simp only [World.size_alloc, World.size_drew, World.size_setCell]; omega))) | ((with_reducible refine Below.drewN' ?_ _)) | ((with_reducible refine Below.drew ?_))))); rintro e w' ⟨rfl, n, rfl⟩)) | (go_at_call 13; ((with_reducible refine (awake_any _).mono ?_); rintro e w9 ⟨rfl, hb9⟩)))
        go_ret
        exact bpost rfl (by have hL := HB.out; have hL2 := hL.size; exact (show Below w.heap.size w _ by (repeat (first | with_reducible assumption | with_reducible exact Below.refl _ _ | ((with_reducible refine Below.setCell ?_ ?_ _); rotate_left; (· first | omega | (simp only [World.size_alloc, World.size_drew, World.size_setCell]; omega))) | ((with_reducible refine Below.alloc ?_ ?_ _); rotate_left; (· first | omega | (simp only [World.size_alloc, World.size_drew, World.size_setCell]; omega))) | ((with_reducible refine Below.drewN' ?_ _)) | ((with_reducible refine Below.drew ?_))))).trans (hb9.mono (by simp; omega)))
    | err c p =>
      have hk := Lib.hid hk0
      clear hk0 hg
      by_cases h4 : 3000 < s.size
      · have h5 : ¬ s.size ≤ 65536 := by omega
        clear h3
        go_enter Try.func3, Try.ntmps3
        go_wp2_with (first | ((with_reducible refine wpTxt_q ?_ ?_ ?_); rfl; rfl; intro _ _) | ((with_reducible refine wpTxt_w0 ?_ ?_ ?_); rfl; rfl; intro _ _) | ((with_reducible refine wpTxt_s ?_ ?_); rfl; intro _ _; go_simp) | ((with_reducible refine wpTxt_sw ?_ ?_); rfl; intro _ _; go_simp) | (with_reducible refine wpTxt_nil ?_) | ((with_reducible refine wp_region_t mixed ?_ ?_); decide +kernel; intro _ _) | (go_at_call 14; ((with_reducible refine (tscan_err s c p hk.out _).mono ?_); rintro e w1 ⟨rfl, hb1⟩; have hz1 := hb1.size)) | (go_at_call 15; ((with_reducible refine (rscan_err s c p hk.out _).mono ?_); rintro e w2 ⟨rfl, hb2⟩; have hz2 := hb2.size; have HF1 := Lib.hid ((Blk.fresh w1 28 #[.int .i64 c, .int .i64 p.1, .int .i64 p.2, .string ⟨#[]⟩]).low hb2); obtain ⟨c0, c1, c2, c3, -, -, -, -⟩ := HF1.out.four; have hz3 := HF1.out.lt; have HB := Lib.hid (show Below w.heap.size w w2 from ((hb1.alloc hz1 _)).trans (hb2.mono (by simp; omega))))) | (go_at_call 16; ((with_reducible refine (rEqual_self [] _ _ _ (Toks.nil _) (Toks.nil _) ?_).mono ?_); (· decide); rintro e w' ⟨rfl, n, rfl⟩)) | (go_at_call 13; ((with_reducible refine (awake_any _).mono ?_); rintro e w9 ⟨rfl, hb9⟩)))
        go_ret
        exact bpost rfl (by have hL := HB.out; have hL2 := hL.size; exact (show Below w.heap.size w _ by (repeat (first | with_reducible assumption | with_reducible exact Below.refl _ _ | ((with_reducible refine Below.setCell ?_ ?_ _); rotate_left; (· first | omega | (simp only [World.size_alloc, World.size_drew, World.size_setCell]; omega))) | ((with_reducible refine Below.alloc ?_ ?_ _); rotate_left; (· first | omega | (simp only [World.size_alloc, World.size_drew, World.size_setCell]; omega))) | ((with_reducible refine Below.drewN' ?_ _)) | ((with_reducible refine Below.drew ?_))))).trans (hb9.mono (by simp; omega)))
      · clear h3
        go_enter Try.func3, Try.ntmps3
        go_wp2_with (first | ((with_reducible refine wpTxt_q ?_ ?_ ?_); rfl; rfl; intro _ _) | ((with_reducible refine wpTxt_w0 ?_ ?_ ?_); rfl; rfl; intro _ _) | ((with_reducible refine wpTxt_s ?_ ?_); rfl; intro _ _; go_simp) | ((with_reducible refine wpTxt_sw ?_ ?_); rfl; intro _ _; go_simp) | (with_reducible refine wpTxt_nil ?_) | ((with_reducible refine wp_region_t mixed ?_ ?_); decide +kernel; intro _ _) | (go_at_call 14; ((with_reducible refine (tscan_err s c p hk.out _).mono ?_); rintro e w1 ⟨rfl, hb1⟩; have hz1 := hb1.size)) | (go_at_call 15; ((with_reducible refine (rscan_err s c p hk.out _).mono ?_); rintro e w2 ⟨rfl, hb2⟩; have hz2 := hb2.size; have HF1 := Lib.hid ((Blk.fresh w1 28 #[.int .i64 c, .int .i64 p.1, .int .i64 p.2, .string ⟨#[]⟩]).low hb2); obtain ⟨c0, c1, c2, c3, -, -, -, -⟩ := HF1.out.four; have hz3 := HF1.out.lt; have HB := Lib.hid (show Below w.heap.size w w2 from ((hb1.alloc hz1 _)).trans (hb2.mono (by simp; omega))))) | (go_at_call 16; ((with_reducible refine (rEqual_self [] _ _ _ (Toks.nil _) (Toks.nil _) ?_).mono ?_); (· decide); rintro e w' ⟨rfl, n, rfl⟩)) | (go_at_call 13; ((with_reducible refine (awake_any _).mono ?_); rintro e w9 ⟨rfl, hb9⟩)))
        go_ret
        exact bpost rfl (by have hL := HB.out; have hL2 := hL.size; exact (show Below w.heap.size w _ by (repeat (first | with_reducible assumption | with_reducible exact Below.refl _ _ | ((with_reducible refine Below.setCell ?_ ?_ _); rotate_left; (· first | omega | (simp only [World.size_alloc, World.size_drew, World.size_setCell]; omega))) | ((with_reducible refine Below.alloc ?_ ?_ _); rotate_left; (· first | omega | (simp only [World.size_alloc, World.size_drew, World.size_setCell]; omega))) | ((with_reducible refine Below.drewN' ?_ _)) | ((with_reducible refine Below.drew ?_))))).trans (hb9.mono (by simp; omega)))

theorem wf64 {i : Int} (h : (Lit.int .i64 i).wf = true) : -9223372036854775808 ≤ i := by
  have : -9223372036854775808 ≤ i ∧ i ≤ 9223372036854775807 := by simpa [Lit.wf, IntKind.min, IntKind.max, IntKind.signed, IntKind.bits] using h
  exact this.1
set_option maxHeartbeats 1000000 in
theorem lawLocates (s : ByteArray) (i : Int) (w : World) (hs : s.size ≤ maxLen) (hi : (Lit.int .i64 i).wf = true) : Calls Try.prog 7 #[.string s, .int .i64 i] w (BPost true w) := by
  unfold maxLen at hs
  have h0 := wf64 hi
  clear hi
  by_cases h3 : 3000 < s.size
  · go_enter Try.func7, Try.ntmps7
    go_wp2_with (first | ((with_reducible refine wpTxt_q ?_ ?_ ?_); rfl; rfl; intro _ _) | ((with_reducible refine wpTxt_w0 ?_ ?_ ?_); rfl; rfl; intro _ _) | ((with_reducible refine wpTxt_s ?_ ?_); rfl; intro _ _; go_simp) | ((with_reducible refine wpTxt_sw ?_ ?_); rfl; intro _ _; go_simp) | (with_reducible refine wpTxt_nil ?_) | ((with_reducible refine wp_region_t mixed ?_ ?_); decide +kernel; intro _ _) | (go_at_call 13; ((with_reducible refine (awake_any _).mono ?_); rintro e w9 ⟨rfl, hb9⟩)))
    go_ret
    exact bpost rfl hb9
  · have h4 : s.size ≤ 65536 := by omega
    go_enter Try.func7, Try.ntmps7
    go_wp2_with (first | ((with_reducible refine wpTxt_q ?_ ?_ ?_); rfl; rfl; intro _ _) | ((with_reducible refine wpTxt_w0 ?_ ?_ ?_); rfl; rfl; intro _ _) | ((with_reducible refine wpTxt_s ?_ ?_); rfl; intro _ _; go_simp) | ((with_reducible refine wpTxt_sw ?_ ?_); rfl; intro _ _; go_simp) | (with_reducible refine wpTxt_nil ?_) | ((with_reducible refine wp_region_t mixed ?_ ?_); decide +kernel; intro _ _) | (go_at_call 26; ((with_reducible refine (tLocate_any _ _ _ h4 h0).mono ?_); rintro e w1 ⟨rfl, hb1⟩)) | (go_at_call 27; ((with_reducible refine (rLocate_any _ _ _ h4 h0).mono ?_); rintro e w2 ⟨rfl, hb2⟩)) | (go_at_call 13; ((with_reducible refine (awake_any _).mono ?_); rintro e w9 ⟨rfl, hb9⟩)))
    go_ret
    exact bpost rfl (by have h1 := hb1.size; have h2 := hb2.size; exact (hb1.trans (hb2.mono h1)).trans (hb9.mono (by omega)))

theorem below_un {w w' : World} {n : Nat} (h : Below (w.drewN n).heap.size (w.drewN n) w') : Below w.heap.size w w' := ⟨h.os, h.tape, h.output, h.size, h.block⟩
theorem few_small {a : List Tok} (h : fewB a = true) : a.length ≤ 300 ∧ Small a := by
  unfold fewB at h
  rw [Bool.and_eq_true, List.all_eq_true] at h
  have h1 : a.length ≤ 300 := by simpa using h.1
  refine ⟨h1, by omega, fun j hj => ?_⟩
  have := h.2 a[j] (List.getElem_mem hj)
  have : a[j].text.size ≤ 300 := by simpa using this
  omega
set_option maxHeartbeats 1000000 in
theorem lawTexts (a : List Tok) (v : Value) (w : World) (h : Toks w v a) : Calls Try.prog 6 #[v] w (BPost true w) := by
  have ha := Lib.hid h
  clear h
  cases hf0 : fewB a with
  | false =>
    have hf := Lib.hid hf0
    clear hf0
    go_enter Try.func6, Try.ntmps6
    go_wp2_with (first | ((with_reducible refine wpTxt_q ?_ ?_ ?_); rfl; rfl; intro _ _) | ((with_reducible refine wpTxt_w0 ?_ ?_ ?_); rfl; rfl; intro _ _) | ((with_reducible refine wpTxt_s ?_ ?_); rfl; intro _ _; go_simp) | ((with_reducible refine wpTxt_sw ?_ ?_); rfl; intro _ _; go_simp) | (with_reducible refine wpTxt_nil ?_) | ((with_reducible refine wp_region_t mixed ?_ ?_); decide +kernel; intro _ _) | (go_at_call 23; ((with_reducible refine (few_any a _ _ ha.out).mono ?_); rintro e w' ⟨rfl, n, rfl⟩; rw [hf.out])) | (go_at_call 13; ((with_reducible refine (awake_any _).mono ?_); rintro e w9 ⟨rfl, hb9⟩)))
    go_ret
    exact bpost rfl (below_un hb9)
  | true =>
    have hf := Lib.hid hf0
    have hsm := Lib.hid (few_small hf0).2
    clear hf0
    go_enter Try.func6, Try.ntmps6
    go_wp2_with (first | ((with_reducible refine wpTxt_q ?_ ?_ ?_); rfl; rfl; intro _ _) | ((with_reducible refine wpTxt_w0 ?_ ?_ ?_); rfl; rfl; intro _ _) | ((with_reducible refine wpTxt_s ?_ ?_); rfl; intro _ _; go_simp) | ((with_reducible refine wpTxt_sw ?_ ?_); rfl; intro _ _; go_simp) | (with_reducible refine wpTxt_nil ?_) | ((with_reducible refine wp_region_t mixed ?_ ?_); decide +kernel; intro _ _) | (go_at_call 23; ((with_reducible refine (few_any a _ _ ha.out).mono ?_); rintro e w' ⟨rfl, n, rfl⟩; rw [hf.out])) | (go_at_call 24; ((with_reducible refine (tText_any a _ _ (ha.out.drewN _) hsm.out).mono ?_); rintro e w1 ⟨rfl, hb1⟩; have HT1 := Lib.hid ((ha.out.drewN n).below hb1))) | (go_at_call 25; ((with_reducible refine (rText_any a _ _ HT1.out hsm.out).mono ?_); rintro e w2 ⟨rfl, hb2⟩)) | (go_at_call 13; ((with_reducible refine (awake_any _).mono ?_); rintro e w9 ⟨rfl, hb9⟩)))
    go_ret
    exact bpost rfl (by have h1 := hb1.size; have h2 := hb2.size; exact below_un (n := n) ((hb1.trans (hb2.mono h1)).trans (hb9.mono (by omega))))
theorem tSame_self (a : List Tok) (va : Value) (w : World) (ha : Toks w va a) (hs : a.length ≤ 300) : Calls Try.prog 29 #[va, va] w fun e w' => e = .returned (.bool true) ∧ ∃ n, w.drewN n = w' := by
  refine (tSame_any a a va va w ha ha (by omega) (by omega)).mono fun e w' h => ?_
  unfold QPost at h
  have e1 : sameB a a = true := (sameB_iff rfl).2 fun i _ _ => by simp [Tok.like]
  rwa [e1] at h
set_option maxHeartbeats 1000000 in
theorem lawSame (a b : List Tok) (va vb : Value) (w : World) (h : Toks w va a) (h' : Toks w vb b) : Calls Try.prog 12 #[va, vb] w (BPost true w) := by
  have ha := Lib.hid h
  have hb := Lib.hid h'
  clear h h'
  cases hf0 : fewB a with
  | false =>
    have hf := Lib.hid hf0
    clear hf0
    go_enter Try.func12, Try.ntmps12
    go_wp2_with (first | ((with_reducible refine wpTxt_q ?_ ?_ ?_); rfl; rfl; intro _ _) | ((with_reducible refine wpTxt_w0 ?_ ?_ ?_); rfl; rfl; intro _ _) | ((with_reducible refine wpTxt_s ?_ ?_); rfl; intro _ _; go_simp) | ((with_reducible refine wpTxt_sw ?_ ?_); rfl; intro _ _; go_simp) | (with_reducible refine wpTxt_nil ?_) | ((with_reducible refine wp_region_t mixed ?_ ?_); decide +kernel; intro _ _) | (go_at_call 23; ((with_reducible refine (few_any a _ _ ha.out).mono ?_); rintro e w' ⟨rfl, n, rfl⟩; rw [hf.out])) | (go_at_call 13; ((with_reducible refine (awake_any _).mono ?_); rintro e w9 ⟨rfl, hb9⟩)))
    go_ret
    exact bpost rfl (below_un hb9)
  | true =>
    have hf := Lib.hid hf0
    have hla := (few_small hf0).1
    clear hf0
    cases hg0 : fewB b with
    | false =>
      have hg := Lib.hid hg0
      clear hg0
      go_enter Try.func12, Try.ntmps12
      go_wp2_with fail
      refine (few_any a _ _ ha.out).mono ?_
      rintro e w' ⟨rfl, n, rfl⟩
      rw [hf.out]
      go_wp2_with (first | ((with_reducible refine wpTxt_q ?_ ?_ ?_); rfl; rfl; intro _ _) | ((with_reducible refine wpTxt_w0 ?_ ?_ ?_); rfl; rfl; intro _ _) | ((with_reducible refine wpTxt_s ?_ ?_); rfl; intro _ _; go_simp) | ((with_reducible refine wpTxt_sw ?_ ?_); rfl; intro _ _; go_simp) | (with_reducible refine wpTxt_nil ?_) | ((with_reducible refine wp_region_t mixed ?_ ?_); decide +kernel; intro _ _) | (go_at_call 23; ((with_reducible refine (few_any b _ _ (hb.out.drewN _)).mono ?_); rintro e w' ⟨rfl, n2, rfl⟩; rw [hg.out])) | (go_at_call 13; ((with_reducible refine (awake_any _).mono ?_); rintro e w9 ⟨rfl, hb9⟩)))
      go_ret
      exact bpost rfl (below_un hb9)
    | true =>
      have hg := Lib.hid hg0
      have hlb := (few_small hg0).1
      clear hg0
      go_enter Try.func12, Try.ntmps12
      go_wp2_with fail
      refine (few_any a _ _ ha.out).mono ?_
      rintro e w' ⟨rfl, n, rfl⟩
      rw [hf.out]
      go_wp2_with fail
      refine (few_any b _ _ (hb.out.drewN _)).mono ?_
      rintro e w' ⟨rfl, n2, rfl⟩
      rw [hg.out]
      go_wp2_with fail
      refine (tSame_any a b _ _ _ (ha.out.drewN _) (hb.out.drewN _) (by omega) (by omega)).mono ?_
      rintro e w' ⟨rfl, n3, rfl⟩
      go_wp2_with fail
      refine (rSame_any a b _ _ _ (ha.out.drewN _) (hb.out.drewN _) (by omega) (by omega)).mono ?_
      rintro e w' ⟨rfl, n4, rfl⟩
      cases hsb : sameB a b
      all_goals
        go_wp2_with fail
        refine (tSame_self a _ _ (ha.out.drewN _) hla).mono ?_
        rintro e w' ⟨rfl, n5, rfl⟩
        go_wp2_with (first | ((with_reducible refine wpTxt_q ?_ ?_ ?_); rfl; rfl; intro _ _) | ((with_reducible refine wpTxt_w0 ?_ ?_ ?_); rfl; rfl; intro _ _) | ((with_reducible refine wpTxt_s ?_ ?_); rfl; intro _ _; go_simp) | ((with_reducible refine wpTxt_sw ?_ ?_); rfl; intro _ _; go_simp) | (with_reducible refine wpTxt_nil ?_) | ((with_reducible refine wp_region_t mixed ?_ ?_); decide +kernel; intro _ _) | (go_at_call 13; ((with_reducible refine (awake_any _).mono ?_); rintro e w9 ⟨rfl, hb9⟩)))
        go_ret
        exact bpost rfl (below_un hb9)

set_option maxHeartbeats 1000000 in
theorem lawChecks (kd l c : Int) (s : ByteArray) (w : World) (hx : s.size ≤ maxLen) : Calls Try.prog 5 #[.agg #[.int .i64 kd, .string s, .int .i64 l, .int .i64 c]] w (BPost true w) := by
  have hx2 := hx
  unfold maxLen at hx2
  by_cases h3 : 3000 < s.size
  · go_enter Try.func5, Try.ntmps5
    go_wp2_with (first | ((with_reducible refine wpTxt_q ?_ ?_ ?_); rfl; rfl; intro _ _) | ((with_reducible refine wpTxt_w0 ?_ ?_ ?_); rfl; rfl; intro _ _) | ((with_reducible refine wpTxt_s ?_ ?_); rfl; intro _ _; go_simp) | ((with_reducible refine wpTxt_sw ?_ ?_); rfl; intro _ _; go_simp) | (with_reducible refine wpTxt_nil ?_) | ((with_reducible refine wp_region_t mixed ?_ ?_); decide +kernel; intro _ _) | (go_at_call 13; ((with_reducible refine (awake_any _).mono ?_); rintro e w9 ⟨rfl, hb9⟩)))
    go_ret
    exact bpost rfl (by have h1 : Below w.heap.size w (w.alloc (.cells #[.int .i64 kd, .string s, .int .i64 l, .int .i64 c] 34)) := by (repeat (first | with_reducible assumption | with_reducible exact Below.refl _ _ | ((with_reducible refine Below.setCell ?_ ?_ _); rotate_left; (· first | omega | (simp only [World.size_alloc, World.size_drew, World.size_setCell]; omega))) | ((with_reducible refine Below.alloc ?_ ?_ _); rotate_left; (· first | omega | (simp only [World.size_alloc, World.size_drew, World.size_setCell]; omega))) | ((with_reducible refine Below.drewN' ?_ _)) | ((with_reducible refine Below.drew ?_))))
                        exact h1.trans (hb9.mono (by simp)))
  · go_enter Try.func5, Try.ntmps5
    go_upto_region 3 with (first | ((with_reducible refine wpTxt_q ?_ ?_ ?_); rfl; rfl; intro _ _) | ((with_reducible refine wpTxt_w0 ?_ ?_ ?_); rfl; rfl; intro _ _) | ((with_reducible refine wpTxt_s ?_ ?_); rfl; intro _ _; go_simp) | ((with_reducible refine wpTxt_sw ?_ ?_); rfl; intro _ _; go_simp) | (with_reducible refine wpTxt_nil ?_) | ((with_reducible refine wp_region_t mixed ?_ ?_); decide +kernel; intro _ _))
    refine wp_region_e (spOf [(1, spVal (.bool (checkB kd s.data.toList))), (3, spVal (.bool (checkB kd s.data.toList))), (6, spVal (.bool true))]) [0, 1, 2, 3, 4, 5, 6, 7, 8] [] mixed ?_ ?_
    · decide +kernel
    · intro K ws hws hK
      have HB : Blk ws w.heap.size 34 #[.int .i64 kd, .string s, .int .i64 l, .int .i64 c] := by rw [hws]; exact Blk.fresh _ _ _
      have hxw : Below w.heap.size w ws := by rw [hws]; (repeat (first | with_reducible assumption | with_reducible exact Below.refl _ _ | ((with_reducible refine Below.setCell ?_ ?_ _); rotate_left; (· first | omega | (simp only [World.size_alloc, World.size_drew, World.size_setCell]; omega))) | ((with_reducible refine Below.alloc ?_ ?_ _); rotate_left; (· first | omega | (simp only [World.size_alloc, World.size_drew, World.size_setCell]; omega))) | ((with_reducible refine Below.drewN' ?_ _)) | ((with_reducible refine Below.drew ?_))))
      clear hws
      dsimp only [pickE, pickL, List.getElem?_cons_succ, List.getElem?_cons_zero] at hK ⊢
      go_wp2_with (first | ((with_reducible refine wpE_q ?_ ?_ ?_); rfl; rfl; intro wq hq _ _; obtain ⟨q0, q1, q2, q3, s0, s1, s2, s3⟩ := (Blk.low HB hq).four) | ((with_reducible refine wpE_s ?_ ?_); rfl; intro wq hq _ _; obtain ⟨q0, q1, q2, q3, s0, s1, s2, s3⟩ := (Blk.low HB hq).four; go_simp))
      refine wpE_w (spVal (.bool (checkB kd s.data.toList))) _ rfl rfl rfl rfl rfl ⟨_, rfl⟩ ?_ ?_
      · intro wq hq K2 hK2
        go_wp2_with (go_at_call 21; ((with_reducible refine (tCheck_any _ _ _ _ _ hx).mono ?_); rintro e w1 ⟨rfl, hb1⟩))
        exact good_val hb1
      · rintro v rfl
        go_wp2_with (first | ((with_reducible refine wpE_q ?_ ?_ ?_); rfl; rfl; intro wq hq _ _; obtain ⟨q0, q1, q2, q3, s0, s1, s2, s3⟩ := (Blk.low HB hq).four) | ((with_reducible refine wpE_s ?_ ?_); rfl; intro wq hq _ _; obtain ⟨q0, q1, q2, q3, s0, s1, s2, s3⟩ := (Blk.low HB hq).four; go_simp))
        refine wpE_w (spVal (.bool (checkB kd s.data.toList))) _ rfl rfl rfl rfl rfl ⟨_, rfl⟩ ?_ ?_
        · intro wq hq K2 hK2
          go_wp2_with (go_at_call 22; ((with_reducible refine (rCheck_any _ _ _ _ _ hx).mono ?_); rintro e w1 ⟨rfl, hb1⟩))
          exact good_val hb1
        · rintro v rfl
          go_wp2_with (first | ((with_reducible refine wpE_q ?_ ?_ ?_); rfl; rfl; intro wq hq _ _; skip) | ((with_reducible refine wpE_s ?_ ?_); rfl; intro wq hq _ _; skip; go_simp))
          refine wpE_w (spVal (.bool true)) _ rfl rfl ?_ rfl rfl ⟨_, rfl⟩ ?_ ?_
          · go_simp
          · intro wq hq K2 hK2
            go_wp2_with (go_at_call 13; ((with_reducible refine (awake_any _).mono ?_); rintro e w9 ⟨rfl, hb9⟩))
            exact good_val hb9
          · rintro v rfl
            go_wp2_with (first | ((with_reducible refine wpE_q ?_ ?_ ?_); rfl; rfl; intro wq hq _ _; skip) | ((with_reducible refine wpE_s ?_ ?_); rfl; intro wq hq _ _; skip; go_simp))
            refine wpE_nil (fun w1 hx1 hΦ hfp hdis => ?_)
            clear hΦ hfp hdis
            refine hK _ _ ?_
            clear hK
            go_simp
            go_wp2_with (first | ((with_reducible refine wpTxt_q ?_ ?_ ?_); rfl; rfl; intro _ _) | ((with_reducible refine wpTxt_w0 ?_ ?_ ?_); rfl; rfl; intro _ _) | ((with_reducible refine wpTxt_s ?_ ?_); rfl; intro _ _; go_simp) | ((with_reducible refine wpTxt_sw ?_ ?_); rfl; intro _ _; go_simp) | (with_reducible refine wpTxt_nil ?_) | ((with_reducible refine wp_region_t mixed ?_ ?_); decide +kernel; intro _ _))
            go_ret
            exact bpost rfl (hxw.trans (hx1.mono hxw.size))
end Go.Proofs.Ytffflmghfcgkfaa
