/- The walks of both functions Check, and of the law's small functions few, first, gap, stands. -/
import Derived.Test.YtffflmghfcgkfaaEq
import Derived.Deep.Cut
set_option linter.unusedSimpArgs false
set_option linter.unusedVariables false
namespace Go.Proofs.Ytffflmghfcgkfaa
open Go.RowKit Tk

def wordsL : List (List UInt8) := [[123], [125], [40], [41], [59], [58], [44], [46], [45], [126], [42], [33], [61, 61], [33, 61], [38, 38], [124, 124], [94]]
theorem words_marks : words [] markL = wordsL := by decide +kernel
theorem markN_01 {l : List UInt8} (h : ¬ marks2.contains (l.take 2) = true) : markN l = 0 ∨ markN l = 1 := by
  unfold markN
  rw [if_neg h]
  have : ∀ b : Bool, (if b = true then 1 else 0) = 0 ∨ (if b = true then 1 else 0) = 1 := by decide
  exact this _
theorem markN_012 (l : List UInt8) : markN l = 0 ∨ markN l = 1 ∨ markN l = 2 := by
  by_cases h : marks2.contains (l.take 2) = true
  · right; right; unfold markN; rw [if_pos h]
  · rcases markN_01 h with h | h <;> simp [h]
theorem mark_law (l : List UInt8) : (!l.isEmpty && (l.take (markN l) == l)) = inWords l markL := by
  unfold inWords
  rw [words_marks]
  match l with
  | [] => rfl
  | [c] =>
    by_cases h : marks1.contains c = true
    · have h2 : wordsL.contains [c] = true := by
        simp only [marks1, List.contains_iff_mem, List.mem_cons, List.not_mem_nil, or_false] at h
        rcases h with rfl | rfl | rfl | rfl | rfl | rfl | rfl | rfl | rfl | rfl | rfl | rfl | rfl <;> decide
      have h1 : markN [c] = 1 := by
        unfold markN; rw [if_neg (by simp [marks2]), if_pos (by simpa using h)]
      rw [h1, h2]; simp
    · have h2 : wordsL.contains [c] = false := by
        have h' : marks1.contains c = false := by simpa using h
        simp only [marks1, List.contains_eq_mem, List.mem_cons, List.not_mem_nil, or_false, decide_eq_false_iff_not, not_or] at h'
        simp only [wordsL, List.contains_eq_mem, List.mem_cons, List.not_mem_nil, or_false, decide_eq_false_iff_not, not_or, List.cons.injEq, and_true, reduceCtorEq, and_false, not_false_eq_true, true_and]
        simp only [h', not_false_eq_true, and_self]
      have h1 : markN [c] = 0 := by
        unfold markN; rw [if_neg (by simp [marks2]), if_neg (by simpa using h)]
      rw [h1, h2]; simp
  | [c, d] =>
    by_cases h : marks2.contains [c, d] = true
    · have h2 : wordsL.contains [c, d] = true := by
        simp only [marks2, List.contains_iff_mem, List.mem_cons, List.not_mem_nil, or_false] at h
        rcases h with h | h | h | h <;> rw [h] <;> decide
      have h1 : markN [c, d] = 2 := by unfold markN; rw [if_pos (by simpa using h)]
      rw [h1, h2]; simp
    · have h2 : wordsL.contains [c, d] = false := by
        have h' : marks2.contains [c, d] = false := by simpa using h
        simp only [marks2, List.contains_eq_mem, List.mem_cons, List.not_mem_nil, or_false, decide_eq_false_iff_not, not_or] at h'
        simp only [wordsL, List.contains_eq_mem, List.mem_cons, List.not_mem_nil, or_false, decide_eq_false_iff_not, not_or]
        simp only [h', not_false_eq_true, and_self, and_true]
        simp
      have h1 : markN [c, d] = 0 ∨ markN [c, d] = 1 := markN_01 (by simpa using h)
      rw [h2]
      rcases h1 with h1 | h1 <;> rw [h1] <;> simp
  | c :: d :: e :: l =>
    have h2 : wordsL.contains (c :: d :: e :: l) = false := by simp [wordsL]
    have h1 := markN_012 (c :: d :: e :: l)
    rw [h2]
    rcases h1 with h1 | h1 | h1 <;> rw [h1] <;> simp

def BPost (b : Bool) (w : World) (e : Ending) (w' : World) : Prop := e = .returned (.bool b) ∧ Below w.heap.size w w'
theorem bpost {b c : Bool} {w w' : World} (h : b = c) (hw : Below w.heap.size w w') : BPost c w (.returned (.bool b)) w' := ⟨by rw [h], hw⟩

theorem chk0 (l : List UInt8) : checkB 0 l = l.isEmpty := rfl
theorem chk1 (l : List UInt8) : checkB 1 l = nameB l := rfl
theorem chk2 (l : List UInt8) : checkB 2 l = numB l := rfl
theorem chk3 (l : List UInt8) : checkB 3 l = quoB l := rfl
theorem chk4 (l : List UInt8) : checkB 4 l = inWords l markL := rfl
theorem within_marks (s : ByteArray) (w : World) : Calls Try.prog 38 #[.string s, .string ⟨#[123, 32, 125, 32, 40, 32, 41, 32, 59, 32, 58, 32, 44, 32, 46, 32, 45, 32, 126, 32, 42, 32, 33, 32, 61, 61, 32, 33, 61, 32, 38, 38, 32, 124, 124, 32, 94, 32]⟩] w fun e w' => e = .returned (.bool (inWords s.data.toList markL)) ∧ w = w' := within_any _ _ (by decide +kernel) _
set_option maxHeartbeats 1000000 in
theorem rCheck_any (kd l c : Int) (s : ByteArray) (w : World) (hx : s.size ≤ maxLen) : Calls Try.prog 22 #[.agg #[.int .i64 kd, .string s, .int .i64 l, .int .i64 c]] w (BPost (checkB kd s.data.toList) w) := by
  by_cases h0 : kd = 0
  · subst h0
    go_enter Try.func22, Try.ntmps22
    go_wp2_with (first | ((with_reducible refine wpTxt_q ?_ ?_ ?_); rfl; rfl; intro _ _) | ((with_reducible refine wpTxt_w0 ?_ ?_ ?_); rfl; rfl; intro _ _) | ((with_reducible refine wpTxt_s ?_ ?_); rfl; intro _ _; go_simp) | ((with_reducible refine wpTxt_sw ?_ ?_); rfl; intro _ _; go_simp) | (with_reducible refine wpTxt_nil ?_) | ((with_reducible refine wp_region_t mixed ?_ ?_); decide +kernel; intro _ _))
    go_ret
    exact bpost (by rw [chk0, bl]) (by (repeat (first | with_reducible assumption | with_reducible exact Below.refl _ _ | ((with_reducible refine Below.setCell ?_ ?_ _); rotate_left; (· first | omega | (simp only [World.size_alloc, World.size_drew, World.size_setCell]; omega))) | ((with_reducible refine Below.alloc ?_ ?_ _); rotate_left; (· first | omega | (simp only [World.size_alloc, World.size_drew, World.size_setCell]; omega))) | ((with_reducible refine Below.drewN' ?_ _)) | ((with_reducible refine Below.drew ?_)))))
  by_cases h1 : kd = 1
  · subst h1
    go_enter Try.func22, Try.ntmps22
    go_wp2_with (first | ((with_reducible refine wpTxt_q ?_ ?_ ?_); rfl; rfl; intro _ _) | ((with_reducible refine wpTxt_w0 ?_ ?_ ?_); rfl; rfl; intro _ _) | ((with_reducible refine wpTxt_s ?_ ?_); rfl; intro _ _; go_simp) | ((with_reducible refine wpTxt_sw ?_ ?_); rfl; intro _ _; go_simp) | (with_reducible refine wpTxt_nil ?_) | ((with_reducible refine wp_region_t mixed ?_ ?_); decide +kernel; intro _ _) | (go_at_call 40; ((with_reducible refine (rName_any _ hx _).mono ?_); rintro e w' ⟨rfl, rfl⟩)))
    go_ret
    exact bpost (chk1 _).symm (by (repeat (first | with_reducible assumption | with_reducible exact Below.refl _ _ | ((with_reducible refine Below.setCell ?_ ?_ _); rotate_left; (· first | omega | (simp only [World.size_alloc, World.size_drew, World.size_setCell]; omega))) | ((with_reducible refine Below.alloc ?_ ?_ _); rotate_left; (· first | omega | (simp only [World.size_alloc, World.size_drew, World.size_setCell]; omega))) | ((with_reducible refine Below.drewN' ?_ _)) | ((with_reducible refine Below.drew ?_)))))
  by_cases h2 : kd = 2
  · subst h2
    go_enter Try.func22, Try.ntmps22
    go_wp2_with (first | ((with_reducible refine wpTxt_q ?_ ?_ ?_); rfl; rfl; intro _ _) | ((with_reducible refine wpTxt_w0 ?_ ?_ ?_); rfl; rfl; intro _ _) | ((with_reducible refine wpTxt_s ?_ ?_); rfl; intro _ _; go_simp) | ((with_reducible refine wpTxt_sw ?_ ?_); rfl; intro _ _; go_simp) | (with_reducible refine wpTxt_nil ?_) | ((with_reducible refine wp_region_t mixed ?_ ?_); decide +kernel; intro _ _) | (go_at_call 44; ((with_reducible refine (rnumber_any _ hx _).mono ?_); rintro e w' ⟨rfl, rfl⟩)))
    go_ret
    exact bpost (chk2 _).symm (by (repeat (first | with_reducible assumption | with_reducible exact Below.refl _ _ | ((with_reducible refine Below.setCell ?_ ?_ _); rotate_left; (· first | omega | (simp only [World.size_alloc, World.size_drew, World.size_setCell]; omega))) | ((with_reducible refine Below.alloc ?_ ?_ _); rotate_left; (· first | omega | (simp only [World.size_alloc, World.size_drew, World.size_setCell]; omega))) | ((with_reducible refine Below.drewN' ?_ _)) | ((with_reducible refine Below.drew ?_)))))
  by_cases h3 : kd = 3
  · subst h3
    go_enter Try.func22, Try.ntmps22
    go_wp2_with (first | ((with_reducible refine wpTxt_q ?_ ?_ ?_); rfl; rfl; intro _ _) | ((with_reducible refine wpTxt_w0 ?_ ?_ ?_); rfl; rfl; intro _ _) | ((with_reducible refine wpTxt_s ?_ ?_); rfl; intro _ _; go_simp) | ((with_reducible refine wpTxt_sw ?_ ?_); rfl; intro _ _; go_simp) | (with_reducible refine wpTxt_nil ?_) | ((with_reducible refine wp_region_t mixed ?_ ?_); decide +kernel; intro _ _) | (go_at_call 45; ((with_reducible refine (rQuoted_any _ hx _).mono ?_); rintro e w' ⟨rfl, rfl⟩)))
    go_ret
    exact bpost (chk3 _).symm (by (repeat (first | with_reducible assumption | with_reducible exact Below.refl _ _ | ((with_reducible refine Below.setCell ?_ ?_ _); rotate_left; (· first | omega | (simp only [World.size_alloc, World.size_drew, World.size_setCell]; omega))) | ((with_reducible refine Below.alloc ?_ ?_ _); rotate_left; (· first | omega | (simp only [World.size_alloc, World.size_drew, World.size_setCell]; omega))) | ((with_reducible refine Below.drewN' ?_ _)) | ((with_reducible refine Below.drew ?_)))))
  by_cases h4 : kd = 4
  · subst h4
    go_enter Try.func22, Try.ntmps22
    go_wp2_with (first | ((with_reducible refine wpTxt_q ?_ ?_ ?_); rfl; rfl; intro _ _) | ((with_reducible refine wpTxt_w0 ?_ ?_ ?_); rfl; rfl; intro _ _) | ((with_reducible refine wpTxt_s ?_ ?_); rfl; intro _ _; go_simp) | ((with_reducible refine wpTxt_sw ?_ ?_); rfl; intro _ _; go_simp) | (with_reducible refine wpTxt_nil ?_) | ((with_reducible refine wp_region_t mixed ?_ ?_); decide +kernel; intro _ _) | (go_at_call 38; ((with_reducible refine (within_marks _ _).mono ?_); rintro e w' ⟨rfl, rfl⟩)))
    go_ret
    exact bpost (chk4 _).symm (by (repeat (first | with_reducible assumption | with_reducible exact Below.refl _ _ | ((with_reducible refine Below.setCell ?_ ?_ _); rotate_left; (· first | omega | (simp only [World.size_alloc, World.size_drew, World.size_setCell]; omega))) | ((with_reducible refine Below.alloc ?_ ?_ _); rotate_left; (· first | omega | (simp only [World.size_alloc, World.size_drew, World.size_setCell]; omega))) | ((with_reducible refine Below.drewN' ?_ _)) | ((with_reducible refine Below.drew ?_)))))
  have e : checkB kd s.data.toList = false := by unfold checkB; rw [if_neg h0, if_neg h1, if_neg h2, if_neg h3, if_neg h4]
  have HE := Lib.hid e
  have g0 := (kd_f h0).1
  have g1 := (kd_f h1).1
  have g2 := (kd_f h2).1
  have g3 := (kd_f h3).1
  have g4 := (kd_f h4).1
  clear h0 h1 h2 h3 h4 e
  go_enter Try.func22, Try.ntmps22
  go_wp2_with (first | ((with_reducible refine wpTxt_q ?_ ?_ ?_); rfl; rfl; intro _ _) | ((with_reducible refine wpTxt_w0 ?_ ?_ ?_); rfl; rfl; intro _ _) | ((with_reducible refine wpTxt_s ?_ ?_); rfl; intro _ _; go_simp) | ((with_reducible refine wpTxt_sw ?_ ?_); rfl; intro _ _; go_simp) | (with_reducible refine wpTxt_nil ?_) | ((with_reducible refine wp_region_t mixed ?_ ?_); decide +kernel; intro _ _))
  go_ret
  exact bpost HE.out.symm (by (repeat (first | with_reducible assumption | with_reducible exact Below.refl _ _ | ((with_reducible refine Below.setCell ?_ ?_ _); rotate_left; (· first | omega | (simp only [World.size_alloc, World.size_drew, World.size_setCell]; omega))) | ((with_reducible refine Below.alloc ?_ ?_ _); rotate_left; (· first | omega | (simp only [World.size_alloc, World.size_drew, World.size_setCell]; omega))) | ((with_reducible refine Below.drewN' ?_ _)) | ((with_reducible refine Below.drew ?_)))))

theorem mark_val (s : ByteArray) (hs : s.size ≤ maxLen) (w : World) : Calls Try.prog 43 #[.string s] w fun e w' => e = .returned (.string ⟨(s.data.toList.take (markN s.data.toList)).toArray⟩) ∧ Below w.heap.size w w' := by
  refine (mark_any s hs w).mono ?_
  rintro e w' ⟨⟨m, rfl, _, h2⟩, hb⟩
  refine ⟨?_, hb⟩
  rw [← h2]
set_option maxHeartbeats 1000000 in
theorem tCheck_any (kd l c : Int) (s : ByteArray) (w : World) (hx : s.size ≤ maxLen) : Calls Try.prog 21 #[.agg #[.int .i64 kd, .string s, .int .i64 l, .int .i64 c]] w (BPost (checkB kd s.data.toList) w) := by
  by_cases h0 : kd = 0
  · subst h0
    go_enter Try.func21, Try.ntmps21
    go_wp2_with (first | ((with_reducible refine wpTxt_q ?_ ?_ ?_); rfl; rfl; intro _ _) | ((with_reducible refine wpTxt_w0 ?_ ?_ ?_); rfl; rfl; intro _ _) | ((with_reducible refine wpTxt_s ?_ ?_); rfl; intro _ _; go_simp) | ((with_reducible refine wpTxt_sw ?_ ?_); rfl; intro _ _; go_simp) | (with_reducible refine wpTxt_nil ?_) | ((with_reducible refine wp_region_t mixed ?_ ?_); decide +kernel; intro _ _))
    go_ret
    exact bpost (by rw [chk0, bl]) (by (repeat (first | with_reducible assumption | with_reducible exact Below.refl _ _ | ((with_reducible refine Below.setCell ?_ ?_ _); rotate_left; (· first | omega | (simp only [World.size_alloc, World.size_drew, World.size_setCell]; omega))) | ((with_reducible refine Below.alloc ?_ ?_ _); rotate_left; (· first | omega | (simp only [World.size_alloc, World.size_drew, World.size_setCell]; omega))) | ((with_reducible refine Below.drewN' ?_ _)) | ((with_reducible refine Below.drew ?_)))))
  by_cases h1 : kd = 1
  · subst h1
    go_enter Try.func21, Try.ntmps21
    go_wp2_with (first | ((with_reducible refine wpTxt_q ?_ ?_ ?_); rfl; rfl; intro _ _) | ((with_reducible refine wpTxt_w0 ?_ ?_ ?_); rfl; rfl; intro _ _) | ((with_reducible refine wpTxt_s ?_ ?_); rfl; intro _ _; go_simp) | ((with_reducible refine wpTxt_sw ?_ ?_); rfl; intro _ _; go_simp) | (with_reducible refine wpTxt_nil ?_) | ((with_reducible refine wp_region_t mixed ?_ ?_); decide +kernel; intro _ _) | (go_at_call 39; ((with_reducible refine (named_any _ hx _).mono ?_); rintro e w' ⟨rfl, rfl⟩)))
    go_ret
    exact bpost (chk1 _).symm (by (repeat (first | with_reducible assumption | with_reducible exact Below.refl _ _ | ((with_reducible refine Below.setCell ?_ ?_ _); rotate_left; (· first | omega | (simp only [World.size_alloc, World.size_drew, World.size_setCell]; omega))) | ((with_reducible refine Below.alloc ?_ ?_ _); rotate_left; (· first | omega | (simp only [World.size_alloc, World.size_drew, World.size_setCell]; omega))) | ((with_reducible refine Below.drewN' ?_ _)) | ((with_reducible refine Below.drew ?_)))))
  by_cases h2 : kd = 2
  · subst h2
    go_enter Try.func21, Try.ntmps21
    go_wp2_with (first | ((with_reducible refine wpTxt_q ?_ ?_ ?_); rfl; rfl; intro _ _) | ((with_reducible refine wpTxt_w0 ?_ ?_ ?_); rfl; rfl; intro _ _) | ((with_reducible refine wpTxt_s ?_ ?_); rfl; intro _ _; go_simp) | ((with_reducible refine wpTxt_sw ?_ ?_); rfl; intro _ _; go_simp) | (with_reducible refine wpTxt_nil ?_) | ((with_reducible refine wp_region_t mixed ?_ ?_); decide +kernel; intro _ _) | (go_at_call 41; ((with_reducible refine (numeral_any _ hx _).mono ?_); rintro e w' ⟨rfl, rfl⟩)))
    go_ret
    exact bpost (chk2 _).symm (by (repeat (first | with_reducible assumption | with_reducible exact Below.refl _ _ | ((with_reducible refine Below.setCell ?_ ?_ _); rotate_left; (· first | omega | (simp only [World.size_alloc, World.size_drew, World.size_setCell]; omega))) | ((with_reducible refine Below.alloc ?_ ?_ _); rotate_left; (· first | omega | (simp only [World.size_alloc, World.size_drew, World.size_setCell]; omega))) | ((with_reducible refine Below.drewN' ?_ _)) | ((with_reducible refine Below.drew ?_)))))
  by_cases h3 : kd = 3
  · subst h3
    go_enter Try.func21, Try.ntmps21
    go_wp2_with (first | ((with_reducible refine wpTxt_q ?_ ?_ ?_); rfl; rfl; intro _ _) | ((with_reducible refine wpTxt_w0 ?_ ?_ ?_); rfl; rfl; intro _ _) | ((with_reducible refine wpTxt_s ?_ ?_); rfl; intro _ _; go_simp) | ((with_reducible refine wpTxt_sw ?_ ?_); rfl; intro _ _; go_simp) | (with_reducible refine wpTxt_nil ?_) | ((with_reducible refine wp_region_t mixed ?_ ?_); decide +kernel; intro _ _) | (go_at_call 42; ((with_reducible refine (quotable_any _ hx _).mono ?_); rintro e w' ⟨rfl, rfl⟩)))
    go_ret
    exact bpost (chk3 _).symm (by (repeat (first | with_reducible assumption | with_reducible exact Below.refl _ _ | ((with_reducible refine Below.setCell ?_ ?_ _); rotate_left; (· first | omega | (simp only [World.size_alloc, World.size_drew, World.size_setCell]; omega))) | ((with_reducible refine Below.alloc ?_ ?_ _); rotate_left; (· first | omega | (simp only [World.size_alloc, World.size_drew, World.size_setCell]; omega))) | ((with_reducible refine Below.drewN' ?_ _)) | ((with_reducible refine Below.drew ?_)))))
  by_cases h4 : kd = 4
  · subst h4
    by_cases hp : 0 < s.size
    · obtain ⟨he1, he2⟩ := some_of hp
      have he3 : (!s.toList.isEmpty) = true := by rw [he2]; rfl
      have HN := Lib.hid (isEmpty_of s hp)
      go_enter Try.func21, Try.ntmps21
      go_upto_region 11 with (first | ((with_reducible refine wpTxt_q ?_ ?_ ?_); rfl; rfl; intro _ _) | ((with_reducible refine wpTxt_w0 ?_ ?_ ?_); rfl; rfl; intro _ _) | ((with_reducible refine wpTxt_s ?_ ?_); rfl; intro _ _; go_simp) | ((with_reducible refine wpTxt_sw ?_ ?_); rfl; intro _ _; go_simp) | (with_reducible refine wpTxt_nil ?_) | ((with_reducible refine wp_region_t mixed ?_ ?_); decide +kernel; intro _ _))
      refine wp_region_e (spOf [(6, spVal (.string ⟨(s.data.toList.take (markN s.data.toList)).toArray⟩))]) [0, 1, 2, 3, 4, 5, 6, 7, 8, 9, 10, 11] [] mixed ?_ ?_
      · decide +kernel
      · intro K ws hws hK
        have HB : Blk ws w.heap.size 34 #[.int .i64 4, .string s, .int .i64 l, .int .i64 c] := by rw [hws]; exact Blk.fresh _ _ _
        have hxw : Below w.heap.size w ws := by rw [hws]; (repeat (first | with_reducible assumption | with_reducible exact Below.refl _ _ | ((with_reducible refine Below.setCell ?_ ?_ _); rotate_left; (· first | omega | (simp only [World.size_alloc, World.size_drew, World.size_setCell]; omega))) | ((with_reducible refine Below.alloc ?_ ?_ _); rotate_left; (· first | omega | (simp only [World.size_alloc, World.size_drew, World.size_setCell]; omega))) | ((with_reducible refine Below.drewN' ?_ _)) | ((with_reducible refine Below.drew ?_))))
        clear hws
        dsimp only [pickE, pickL, List.getElem?_cons_succ, List.getElem?_cons_zero] at hK ⊢
        go_wp2_with (first | ((with_reducible refine wpE_q ?_ ?_ ?_); rfl; rfl; intro wq hq _ _; obtain ⟨q0, q1, q2, q3, s0, s1, s2, s3⟩ := (Blk.low HB hq).four) | ((with_reducible refine wpE_s ?_ ?_); rfl; intro wq hq _ _; obtain ⟨q0, q1, q2, q3, s0, s1, s2, s3⟩ := (Blk.low HB hq).four; go_simp))
        refine wpE_w (spVal (.string ⟨(s.data.toList.take (markN s.data.toList)).toArray⟩)) _ rfl rfl ?_ rfl rfl ⟨_, rfl⟩ ?_ ?_
        · go_simp
        · intro wq hq K2 hK2
          go_wp2_with (go_at_call 43; ((with_reducible refine (mark_val _ hx _).mono ?_); rintro e w1 ⟨rfl, hb1⟩))
          exact good_val hb1
        · rintro v rfl
          go_wp2_with (first | ((with_reducible refine wpE_q ?_ ?_ ?_); rfl; rfl; intro wq hq _ _; obtain ⟨q0, q1, q2, q3, s0, s1, s2, s3⟩ := (Blk.low HB hq).four) | ((with_reducible refine wpE_s ?_ ?_); rfl; intro wq hq _ _; obtain ⟨q0, q1, q2, q3, s0, s1, s2, s3⟩ := (Blk.low HB hq).four; go_simp))
          refine wpE_nil (fun w1 hx1 hΦ hfp hdis => ?_)
          clear hΦ hfp hdis
          refine hK _ _ ?_
          clear hK
          go_simp
          go_wp2_with (first | ((with_reducible refine wpTxt_q ?_ ?_ ?_); rfl; rfl; intro _ _) | ((with_reducible refine wpTxt_w0 ?_ ?_ ?_); rfl; rfl; intro _ _) | ((with_reducible refine wpTxt_s ?_ ?_); rfl; intro _ _; go_simp) | ((with_reducible refine wpTxt_sw ?_ ?_); rfl; intro _ _; go_simp) | (with_reducible refine wpTxt_nil ?_) | ((with_reducible refine wp_region_t mixed ?_ ?_); decide +kernel; intro _ _))
          go_ret
          exact bpost (by rw [chk4, ← mark_law, HN.out, bl]; rfl) (hxw.trans (hx1.mono hxw.size))
    · have he := none_of hp
      have HN : Hid (inWords s.data.toList markL = false) := Lib.hid (by rw [isEmpty_no s hp]; rfl)
      have he2 : s.toList.isEmpty = true := by rw [he]; rfl
      have he3 : (!s.toList.isEmpty) = false := by rw [he2]; rfl
      go_enter Try.func21, Try.ntmps21
      go_upto_region 11 with (first | ((with_reducible refine wpTxt_q ?_ ?_ ?_); rfl; rfl; intro _ _) | ((with_reducible refine wpTxt_w0 ?_ ?_ ?_); rfl; rfl; intro _ _) | ((with_reducible refine wpTxt_s ?_ ?_); rfl; intro _ _; go_simp) | ((with_reducible refine wpTxt_sw ?_ ?_); rfl; intro _ _; go_simp) | (with_reducible refine wpTxt_nil ?_) | ((with_reducible refine wp_region_t mixed ?_ ?_); decide +kernel; intro _ _))
      refine wp_region_e (spOf []) [0, 1, 2, 3, 4, 5, 6, 7, 8, 9, 10, 11] [] mixed ?_ ?_
      · decide +kernel
      · intro K ws hws hK
        have HB : Blk ws w.heap.size 34 #[.int .i64 4, .string s, .int .i64 l, .int .i64 c] := by rw [hws]; exact Blk.fresh _ _ _
        have hxw : Below w.heap.size w ws := by rw [hws]; (repeat (first | with_reducible assumption | with_reducible exact Below.refl _ _ | ((with_reducible refine Below.setCell ?_ ?_ _); rotate_left; (· first | omega | (simp only [World.size_alloc, World.size_drew, World.size_setCell]; omega))) | ((with_reducible refine Below.alloc ?_ ?_ _); rotate_left; (· first | omega | (simp only [World.size_alloc, World.size_drew, World.size_setCell]; omega))) | ((with_reducible refine Below.drewN' ?_ _)) | ((with_reducible refine Below.drew ?_))))
        clear hws
        dsimp only [pickE, pickL, List.getElem?_cons_succ, List.getElem?_cons_zero] at hK ⊢
        go_wp2_with (first | ((with_reducible refine wpE_q ?_ ?_ ?_); rfl; rfl; intro wq hq _ _; obtain ⟨q0, q1, q2, q3, s0, s1, s2, s3⟩ := (Blk.low HB hq).four) | ((with_reducible refine wpE_s ?_ ?_); rfl; intro wq hq _ _; obtain ⟨q0, q1, q2, q3, s0, s1, s2, s3⟩ := (Blk.low HB hq).four; go_simp))
        refine wpE_no ?_ ?_
        · go_simp
        go_wp2_with (first | ((with_reducible refine wpE_q ?_ ?_ ?_); rfl; rfl; intro wq hq _ _; obtain ⟨q0, q1, q2, q3, s0, s1, s2, s3⟩ := (Blk.low HB hq).four) | ((with_reducible refine wpE_s ?_ ?_); rfl; intro wq hq _ _; obtain ⟨q0, q1, q2, q3, s0, s1, s2, s3⟩ := (Blk.low HB hq).four; go_simp))
        refine wpE_nil (fun w1 hx1 hΦ hfp hdis => ?_)
        clear hΦ hfp hdis
        refine hK _ _ ?_
        clear hK
        go_simp
        go_wp2_with (first | ((with_reducible refine wpTxt_q ?_ ?_ ?_); rfl; rfl; intro _ _) | ((with_reducible refine wpTxt_w0 ?_ ?_ ?_); rfl; rfl; intro _ _) | ((with_reducible refine wpTxt_s ?_ ?_); rfl; intro _ _; go_simp) | ((with_reducible refine wpTxt_sw ?_ ?_); rfl; intro _ _; go_simp) | (with_reducible refine wpTxt_nil ?_) | ((with_reducible refine wp_region_t mixed ?_ ?_); decide +kernel; intro _ _))
        go_ret
        exact bpost (by rw [chk4]; exact HN.out.symm) (hxw.trans (hx1.mono hxw.size))
  have e : checkB kd s.data.toList = false := by unfold checkB; rw [if_neg h0, if_neg h1, if_neg h2, if_neg h3, if_neg h4]
  have HE := Lib.hid e
  have g0 := (kd_f h0).1
  have g1 := (kd_f h1).1
  have g2 := (kd_f h2).1
  have g3 := (kd_f h3).1
  have g4 := (kd_f h4).1
  clear h0 h1 h2 h3 h4 e
  go_enter Try.func21, Try.ntmps21
  go_wp2_with (first | ((with_reducible refine wpTxt_q ?_ ?_ ?_); rfl; rfl; intro _ _) | ((with_reducible refine wpTxt_w0 ?_ ?_ ?_); rfl; rfl; intro _ _) | ((with_reducible refine wpTxt_s ?_ ?_); rfl; intro _ _; go_simp) | ((with_reducible refine wpTxt_sw ?_ ?_); rfl; intro _ _; go_simp) | (with_reducible refine wpTxt_nil ?_) | ((with_reducible refine wp_region_t mixed ?_ ?_); decide +kernel; intro _ _))
  go_ret
  exact bpost HE.out.symm (by (repeat (first | with_reducible assumption | with_reducible exact Below.refl _ _ | ((with_reducible refine Below.setCell ?_ ?_ _); rotate_left; (· first | omega | (simp only [World.size_alloc, World.size_drew, World.size_setCell]; omega))) | ((with_reducible refine Below.alloc ?_ ?_ _); rotate_left; (· first | omega | (simp only [World.size_alloc, World.size_drew, World.size_setCell]; omega))) | ((with_reducible refine Below.drewN' ?_ _)) | ((with_reducible refine Below.drew ?_)))))

/-! ### the law's own small functions -/
def fewB (ts : List Tok) : Bool := decide (ts.length ≤ 300) && ts.all fun t => decide (t.text.size ≤ 300)
theorem few_long {ts : List Tok} (h : ¬ ts.length ≤ 300) : fewB ts = false := by simp [fewB, h]
theorem few_bad {ts : List Tok} {k : Nat} (h : k < ts.length) (hb : ¬ ts[k].text.size ≤ 300) : fewB ts = false := by
  unfold fewB
  rw [Bool.and_eq_false_iff, List.all_eq_false]
  exact .inr ⟨ts[k], List.getElem_mem h, by simpa using hb⟩
theorem few_yes {ts : List Tok} {k : Nat} (h1 : ts.length ≤ 300) (h : ts.length ≤ k) (hall : ∀ j (_ : j < k) (h1 : j < ts.length), ts[j].text.size ≤ 300) : fewB ts = true := by
  unfold fewB
  rw [Bool.and_eq_true, List.all_eq_true]
  refine ⟨by simpa using h1, fun x hx => ?_⟩
  obtain ⟨i, hi, rfl⟩ := List.getElem_of_mem hx
  simpa using hall i (by omega) hi
set_option maxHeartbeats 1000000 in
theorem few_any (a : List Tok) (va : Value) (w : World) (ha : Toks w va a) : Calls Try.prog 23 #[va] w (QPost (fewB a) w) := by
  obtain ⟨ao, ca, rfl, a1, a2, a3⟩ := ha
  unfold maxLen at a2
  by_cases hl : a.length ≤ 300
  · go_enter Try.func23, Try.ntmps23
    go_wp2_with (first | ((with_reducible refine wpTxt_q ?_ ?_ ?_); rfl; rfl; intro _ _) | ((with_reducible refine wpTxt_w0 ?_ ?_ ?_); rfl; rfl; intro _ _) | ((with_reducible refine wpTxt_s ?_ ?_); rfl; intro _ _; go_simp) | ((with_reducible refine wpTxt_sw ?_ ?_); rfl; intro _ _; go_simp) | (with_reducible refine wpTxt_nil ?_) | ((with_reducible refine wp_region_t mixed ?_ ?_); decide +kernel; intro _ _))
    go_loopw [3] (fun i wr => ∃ k : Nat, i = .int .i64 k ∧ k ≤ a.length ∧ Hid (∀ j (h : j < k) (h1 : j < a.length), a[j].text.size ≤ 300) ∧ ∃ n, wr = w.drewN n) (fun i _ => a.length - (intOf i).toNat)
    case atStart => exact ⟨0, rfl, by omega, fun j h => absurd h (by omega), 0, rfl⟩
    case round =>
      obtain ⟨k, rfl, hk, hall, n, rfl⟩ := hrel
      by_cases hlt : k < a.length
      · rcases a3 with h0' | ⟨ga, oa, rfl, hga, hca⟩
        · omega
        obtain ⟨p0, p1, -, -⟩ := hca k hlt
        clear hca
        by_cases hb : a[k].text.size ≤ 300
        · go_wp2_with (first | ((with_reducible refine wpTxt_q ?_ ?_ ?_); rfl; rfl; intro _ _) | ((with_reducible refine wpTxt_w0 ?_ ?_ ?_); rfl; rfl; intro _ _) | ((with_reducible refine wpTxt_s ?_ ?_); rfl; intro _ _; go_simp) | ((with_reducible refine wpTxt_sw ?_ ?_); rfl; intro _ _; go_simp) | (with_reducible refine wpTxt_nil ?_) | ((with_reducible refine wp_region_t mixed ?_ ?_); decide +kernel; intro _ _))
          go_roundw
          case rel =>
            refine ⟨k + 1, by go_num, by omega, ?_, n, rfl⟩
            intro j hj h1
            by_cases e : j = k
            · subst e; exact hb
            · exact hall.out j (by omega) h1
          case measure => simp [intOf]; omega
        · have HL := Lib.hid (few_bad hlt hb)
          go_wp2_with (first | ((with_reducible refine wpTxt_q ?_ ?_ ?_); rfl; rfl; intro _ _) | ((with_reducible refine wpTxt_w0 ?_ ?_ ?_); rfl; rfl; intro _ _) | ((with_reducible refine wpTxt_s ?_ ?_); rfl; intro _ _; go_simp) | ((with_reducible refine wpTxt_sw ?_ ?_); rfl; intro _ _; go_simp) | (with_reducible refine wpTxt_nil ?_) | ((with_reducible refine wp_region_t mixed ?_ ?_); decide +kernel; intro _ _))
          go_ret
          exact qpost HL.out.symm n rfl
      · have HL := Lib.hid (few_yes hl (by omega) hall.out)
        go_wp2_with (first | ((with_reducible refine wpTxt_q ?_ ?_ ?_); rfl; rfl; intro _ _) | ((with_reducible refine wpTxt_w0 ?_ ?_ ?_); rfl; rfl; intro _ _) | ((with_reducible refine wpTxt_s ?_ ?_); rfl; intro _ _; go_simp) | ((with_reducible refine wpTxt_sw ?_ ?_); rfl; intro _ _; go_simp) | (with_reducible refine wpTxt_nil ?_) | ((with_reducible refine wp_region_t mixed ?_ ?_); decide +kernel; intro _ _))
        go_ret
        exact qpost (by rw [HL.out]; simp; omega) n rfl
  · have HL := Lib.hid (few_long hl)
    go_enter Try.func23, Try.ntmps23
    go_wp2_with (first | ((with_reducible refine wpTxt_q ?_ ?_ ?_); rfl; rfl; intro _ _) | ((with_reducible refine wpTxt_w0 ?_ ?_ ?_); rfl; rfl; intro _ _) | ((with_reducible refine wpTxt_s ?_ ?_); rfl; intro _ _; go_simp) | ((with_reducible refine wpTxt_sw ?_ ?_); rfl; intro _ _; go_simp) | (with_reducible refine wpTxt_nil ?_) | ((with_reducible refine wp_region_t mixed ?_ ?_); decide +kernel; intro _ _))
    go_loopw [3] (fun i wr => i = .int .i64 0 ∧ ∃ n, wr = w.drewN n) (fun i _ => 0)
    case atStart => exact ⟨rfl, 0, rfl⟩
    case round =>
      obtain ⟨rfl, n, rfl⟩ := hrel
      have h0 : 0 < a.length := by omega
      go_wp2_with (first | ((with_reducible refine wpTxt_q ?_ ?_ ?_); rfl; rfl; intro _ _) | ((with_reducible refine wpTxt_w0 ?_ ?_ ?_); rfl; rfl; intro _ _) | ((with_reducible refine wpTxt_s ?_ ?_); rfl; intro _ _; go_simp) | ((with_reducible refine wpTxt_sw ?_ ?_); rfl; intro _ _; go_simp) | (with_reducible refine wpTxt_nil ?_) | ((with_reducible refine wp_region_t mixed ?_ ?_); decide +kernel; intro _ _))
      go_ret
      exact qpost (by rw [HL.out]; simp; omega) n rfl

def gapL (n : Nat) : List UInt8 := if n % 5 = 0 then [10] else if n % 5 = 1 then [9, 32] else if n % 5 = 2 then [32, 35, 32, 97, 32, 34, 99, 111, 109, 109, 101, 110, 116, 34, 10] else if n % 5 = 3 then [35, 10, 10] else [32]
set_option maxHeartbeats 1000000 in
theorem gap_any (n : Nat) (w : World) (hn : n < 256) : Calls Try.prog 31 #[.int .u8 n] w fun e w' => e = .returned (.string ⟨(gapL n).toArray⟩) ∧ w = w' := by
  by_cases h0 : n % 5 = 0
  · have HG : Hid (gapL n = [10]) := Lib.hid (by unfold gapL; rw [if_pos h0])
    have g0 := beq_t (show (n : Int) % 5 = 0 by omega)
    clear h0
    go_enter Try.func31, Try.ntmps31
    go_wp2
    go_ret
    exact ⟨by rw [HG.out]; rfl, rfl⟩
  by_cases h1 : n % 5 = 1
  · have HG : Hid (gapL n = [9, 32]) := Lib.hid (by unfold gapL; rw [if_neg h0]; rw [if_pos h1])
    have g0 := beq_f (show ¬ (n : Int) % 5 = 0 by omega)
    have g1 := beq_t (show (n : Int) % 5 = 1 by omega)
    clear h0 h1
    go_enter Try.func31, Try.ntmps31
    go_wp2
    go_ret
    exact ⟨by rw [HG.out]; rfl, rfl⟩
  by_cases h2 : n % 5 = 2
  · have HG : Hid (gapL n = [32, 35, 32, 97, 32, 34, 99, 111, 109, 109, 101, 110, 116, 34, 10]) := Lib.hid (by unfold gapL; rw [if_neg h0]; rw [if_neg h1]; rw [if_pos h2])
    have g0 := beq_f (show ¬ (n : Int) % 5 = 0 by omega)
    have g1 := beq_f (show ¬ (n : Int) % 5 = 1 by omega)
    have g2 := beq_t (show (n : Int) % 5 = 2 by omega)
    clear h0 h1 h2
    go_enter Try.func31, Try.ntmps31
    go_wp2
    go_ret
    exact ⟨by rw [HG.out]; rfl, rfl⟩
  by_cases h3 : n % 5 = 3
  · have HG : Hid (gapL n = [35, 10, 10]) := Lib.hid (by unfold gapL; rw [if_neg h0]; rw [if_neg h1]; rw [if_neg h2]; rw [if_pos h3])
    have g0 := beq_f (show ¬ (n : Int) % 5 = 0 by omega)
    have g1 := beq_f (show ¬ (n : Int) % 5 = 1 by omega)
    have g2 := beq_f (show ¬ (n : Int) % 5 = 2 by omega)
    have g3 := beq_t (show (n : Int) % 5 = 3 by omega)
    clear h0 h1 h2 h3
    go_enter Try.func31, Try.ntmps31
    go_wp2
    go_ret
    exact ⟨by rw [HG.out]; rfl, rfl⟩
  have HG : Hid (gapL n = [32]) := Lib.hid (by unfold gapL; rw [if_neg h0]; rw [if_neg h1]; rw [if_neg h2]; rw [if_neg h3])
  have g0 := beq_f (show ¬ (n : Int) % 5 = 0 by omega)
  have g1 := beq_f (show ¬ (n : Int) % 5 = 1 by omega)
  have g2 := beq_f (show ¬ (n : Int) % 5 = 2 by omega)
  have g3 := beq_f (show ¬ (n : Int) % 5 = 3 by omega)
  clear h0 h1 h2 h3
  go_enter Try.func31, Try.ntmps31
  go_wp2
  go_ret
  exact ⟨by rw [HG.out]; rfl, rfl⟩

def firstT (ts : List Tok) : List Tok := body ts
theorem body_take {ts : List Tok} {k : Nat} (h : k < ts.length) (hall : ∀ j (_ : j < k) (h1 : j < ts.length), ¬ ts[j].kind = 0) (hk : ts[k].kind = 0) : body ts = ts.take k := by
  induction ts generalizing k with
  | nil => simp at h
  | cons t ts ih =>
    cases k with
    | zero =>
      have : t.kind = 0 := hk
      simp [body, this]
    | succ k =>
      have h0 : ¬ t.kind = 0 := hall 0 (by omega) (by simp)
      have := ih (k := k) (by simpa using h) (fun j hj h1 => hall (j + 1) (by omega) (by simpa using h1)) hk
      unfold body at this ⊢
      rw [List.takeWhile_cons, if_pos (by simpa using h0), this, List.take_succ_cons]
theorem body_all {ts : List Tok} {k : Nat} (h : ts.length ≤ k) (hall : ∀ j (_ : j < k) (h1 : j < ts.length), ¬ ts[j].kind = 0) : body ts = ts := by
  induction ts generalizing k with
  | nil => rfl
  | cons t ts ih =>
    have h0 : ¬ t.kind = 0 := hall 0 (by simp at h; omega) (by simp)
    have := ih (k := k - 1) (by simp at h; omega) (fun j hj h1 => hall (j + 1) (by omega) (by simpa using h1))
    unfold body at this ⊢
    rw [List.takeWhile_cons, if_pos (by simpa using h0), this]
/-- what first hands back -/
def FirstPost (ts : List Tok) (w : World) (e : Ending) (w' : World) : Prop := ∃ v, e = .returned v ∧ Toks w' v (body ts) ∧ ∃ n, w.drewN n = w'
set_option maxHeartbeats 1000000 in
theorem first02_any (a : List Tok) (va : Value) (w : World) (ha : Toks w va a) : Calls Try.prog 30 #[va] w (FirstPost a w) := by
  have hA := Lib.hid ha
  obtain ⟨ao, ca, rfl, a1, a2, a3⟩ := ha
  have hm := a2
  unfold maxLen at a2
  go_enter Try.func30, Try.ntmps30
  go_wp2_with (first | ((with_reducible refine wpTxt_q ?_ ?_ ?_); rfl; rfl; intro _ _) | ((with_reducible refine wpTxt_w0 ?_ ?_ ?_); rfl; rfl; intro _ _) | ((with_reducible refine wpTxt_s ?_ ?_); rfl; intro _ _; go_simp) | ((with_reducible refine wpTxt_sw ?_ ?_); rfl; intro _ _; go_simp) | (with_reducible refine wpTxt_nil ?_) | ((with_reducible refine wp_region_t mixed ?_ ?_); decide +kernel; intro _ _))
  go_loopw [3] (fun i wr => ∃ k : Nat, i = .int .i64 k ∧ k ≤ a.length ∧ Hid (∀ j (h : j < k) (h1 : j < a.length), ¬ a[j].kind = 0) ∧ ∃ n, wr = w.drewN n) (fun i _ => a.length - (intOf i).toNat)
  case atStart => exact ⟨0, rfl, by omega, fun j h => absurd h (by omega), 0, rfl⟩
  case round =>
    obtain ⟨k, rfl, hk, hall, n, rfl⟩ := hrel
    by_cases hlt : k < a.length
    · rcases a3 with h0' | ⟨ga, oa, rfl, hga, hca⟩
      · omega
      have HC := Lib.hid hca
      obtain ⟨p0, -, -, -⟩ := hca k hlt
      clear hca
      by_cases hb : a[k].kind = 0
      · have HL := Lib.hid (body_take hlt hall.out hb)
        obtain ⟨g1, g2⟩ := kd_t hb
        clear hb
        go_wp2_with (first | ((with_reducible refine wpTxt_q ?_ ?_ ?_); rfl; rfl; intro _ _) | ((with_reducible refine wpTxt_w0 ?_ ?_ ?_); rfl; rfl; intro _ _) | ((with_reducible refine wpTxt_s ?_ ?_); rfl; intro _ _; go_simp) | ((with_reducible refine wpTxt_sw ?_ ?_); rfl; intro _ _; go_simp) | (with_reducible refine wpTxt_nil ?_) | ((with_reducible refine wp_region_t mixed ?_ ?_); decide +kernel; intro _ _))
        go_ret
        refine ⟨_, rfl, ?_, n, rfl⟩
        rw [HL.out]
        exact ⟨_, ca, by simp [Nat.min_eq_left (Nat.le_of_lt hlt)], by simp; omega, hm, .inr ⟨ga, oa, rfl, hga, TokCells.take HC.out k⟩⟩
      · obtain ⟨g1, g2⟩ := kd_f hb
        go_wp2_with (first | ((with_reducible refine wpTxt_q ?_ ?_ ?_); rfl; rfl; intro _ _) | ((with_reducible refine wpTxt_w0 ?_ ?_ ?_); rfl; rfl; intro _ _) | ((with_reducible refine wpTxt_s ?_ ?_); rfl; intro _ _; go_simp) | ((with_reducible refine wpTxt_sw ?_ ?_); rfl; intro _ _; go_simp) | (with_reducible refine wpTxt_nil ?_) | ((with_reducible refine wp_region_t mixed ?_ ?_); decide +kernel; intro _ _))
        go_roundw
        case rel =>
          refine ⟨k + 1, by go_num, by omega, ?_, n, rfl⟩
          intro j hj h1
          by_cases e : j = k
          · subst e; exact hb
          · exact hall.out j (by omega) h1
        case measure => simp [intOf]; omega
    · have HL := Lib.hid (body_all (by omega) hall.out)
      go_wp2_with (first | ((with_reducible refine wpTxt_q ?_ ?_ ?_); rfl; rfl; intro _ _) | ((with_reducible refine wpTxt_w0 ?_ ?_ ?_); rfl; rfl; intro _ _) | ((with_reducible refine wpTxt_s ?_ ?_); rfl; intro _ _; go_simp) | ((with_reducible refine wpTxt_sw ?_ ?_); rfl; intro _ _; go_simp) | (with_reducible refine wpTxt_nil ?_) | ((with_reducible refine wp_region_t mixed ?_ ?_); decide +kernel; intro _ _))
      go_ret
      refine ⟨_, rfl, ?_, n, rfl⟩
      rw [HL.out]
      exact hA.out
end Go.Proofs.Ytffflmghfcgkfaa
