/- The law on what is written and scanned again: its walk. -/
import Derived.Test.YtffflmghfcgkfaaFi
set_option linter.unusedSimpArgs false
set_option linter.unusedVariables false
namespace Go.Proofs.Ytffflmghfcgkfaa
open Go.RowKit Tk

theorem text_cases (l : List Tok) : (textS l = ([], 2) ∨ textS l = ([], 4)) ∨ ∃ s : ByteArray, textS l = (s.data.toList, 0) := by
  unfold textS
  split
  · exact .inl (.inl rfl)
  · split
    · exact .inl (.inr rfl)
    · exact .inr ⟨⟨(joinF false (body l)).toArray⟩, by simp⟩
theorem ttext_bad {l : List Tok} {c : Int} (h : textS l = ([], c)) (v : Value) (w : World) (ha : Toks w v l) (hs : Small l) : Calls Try.prog 24 #[v] w fun e w' => e = .returned (.tuple #[.string ⟨#[]⟩, .int .i64 c]) ∧ Below w.heap.size w w' := by
  refine (tText_any l v w ha hs).mono fun e w' h' => ?_
  unfold TPost at h'
  rw [h] at h'
  exact h'
theorem ttext_good {l : List Tok} {s : ByteArray} (h : textS l = (s.data.toList, 0)) (v : Value) (w : World) (ha : Toks w v l) (hs : Small l) : Calls Try.prog 24 #[v] w fun e w' => e = .returned (.tuple #[.string s, .int .i64 0]) ∧ Below w.heap.size w w' := by
  refine (tText_any l v w ha hs).mono fun e w' h' => ?_
  unfold TPost at h'
  rw [h] at h'
  exact h'
theorem tscan_round {src : ByteArray} {m : List Tok} {p : Int × Int} (h : scanS src = .ok (m ++ [⟨0, ⟨#[]⟩, p⟩])) (w : World) : Calls Try.prog 14 #[.string src] w fun e w' =>
    ∃ g o cap, e = .returned (.tuple #[.slice (some ⟨g, o, none⟩) (m.length + 1) cap, flt 0 0 0]) ∧ Toks w' (.slice (some ⟨g, o, none⟩) (m.length + 1) cap) (m ++ [⟨0, ⟨#[]⟩, p⟩]) ∧ m.length + 1 ≤ cap ∧ cap ≤ 9223372036854775807 ∧ w'.cell? ⟨g, o + m.length * 4, none⟩ = some (.int .i64 0) ∧ g < w'.heap.size ∧ Below w.heap.size w w' := by
  refine (tscan_ok src _ h w).mono ?_
  rintro e w' ⟨v, rfl, hT, hb⟩
  have hT' := hT
  obtain ⟨ao, cap, rfl, h1, h2, h3⟩ := hT
  have hl : (m ++ [(⟨0, ⟨#[]⟩, p⟩ : Tok)]).length = m.length + 1 := by simp
  rcases h3 with h3 | ⟨g, o, rfl, hg, hc⟩
  · omega
  · rw [hl] at h1 hT' ⊢
    have h4 := (hc m.length (by omega)).1
    simp only [List.getElem_append_right (Nat.le_refl _), Nat.sub_self, List.getElem_cons_zero] at h4
    exact ⟨g, o, cap, rfl, hT', h1, h2, h4, hg, hb⟩
theorem tSame_yes (a b : List Tok) (va vb : Value) (w : World) (ha : Toks w va a) (hb : Toks w vb b) (hs : a.length ≤ 1000000) (hs2 : b.length ≤ 1000000) (h : sameB a b = true) : Calls Try.prog 29 #[va, vb] w fun e w' => e = .returned (.bool true) ∧ ∃ n, w.drewN n = w' := by
  refine (tSame_any a b va vb w ha hb hs hs2).mono fun e w' h' => ?_
  unfold QPost at h'
  rwa [h] at h'
theorem same_texts : ∀ {a b : List Tok}, sameB a b = true → (∀ t ∈ b, t.text.size ≤ 300) → ∀ t ∈ a, t.text.size ≤ 300
  | [], _, _, _ => by simp
  | _ :: _, [], h, _ => by cases h
  | x :: a, y :: b, h, hb => by
    simp only [sameB, Bool.and_eq_true, Tok.like, decide_eq_true_eq] at h
    intro t ht
    rcases List.mem_cons.1 ht with rfl | ht
    · rw [h.1.2]; exact hb y (by simp)
    · exact same_texts h.2 (fun t ht => hb t (by simp [ht])) t ht
theorem few_texts {l : List Tok} (h : fewB l = true) : ∀ t ∈ l, t.text.size ≤ 300 := fun t ht => by
  unfold fewB at h
  rw [Bool.and_eq_true, List.all_eq_true] at h
  simpa using h.2 t ht
theorem body_mem {l : List Tok} : ∀ t ∈ body l, t ∈ l := fun t ht => (List.takeWhile_sublist _).subset ht
theorem small_of {a : List Tok} (h : a.length ≤ 70000) (ht : ∀ t ∈ a, t.text.size ≤ 300) : Small a := ⟨h, fun j hj => by have := ht _ (List.getElem_mem hj); omega⟩
theorem small_round {l m : List Tok} {p : Int × Int} (h : fewB l = true) (hm : sameB m (body l) = true) (hl : m.length ≤ 300) : Small (m ++ [⟨0, ⟨#[]⟩, p⟩]) := by
  refine small_of (by simp; omega) fun t ht => ?_
  rcases List.mem_append.1 ht with ht | ht
  · exact same_texts hm (fun t ht => few_texts h t (body_mem t ht)) t ht
  · simp at ht; subst ht; exact Nat.zero_le _
set_option maxHeartbeats 2000000 in
theorem lawRound (l : List Tok) (v : Value) (w : World) (h : Toks w v l) : Calls Try.prog 9 #[v] w (BPost true w) := by
  have ha := Lib.hid h
  clear h
  cases hf0 : fewB l with
  | false =>
    have hf := Lib.hid hf0
    clear hf0
    go_enter Try.func9, Try.ntmps9
    go_wp2_with (first | ((with_reducible refine wpTxt_q ?_ ?_ ?_); rfl; rfl; intro _ _) | ((with_reducible refine wpTxt_w0 ?_ ?_ ?_); rfl; rfl; intro _ _) | ((with_reducible refine wpTxt_s ?_ ?_); rfl; intro _ _; go_simp) | ((with_reducible refine wpTxt_sw ?_ ?_); rfl; intro _ _; go_simp) | (with_reducible refine wpTxt_nil ?_) | ((with_reducible refine wp_region_t mixed ?_ ?_); decide +kernel; intro _ _) | (go_at_call 23; ((with_reducible refine (few_any l _ _ ha.out).mono ?_); rintro e w' ⟨rfl, n, rfl⟩; rw [hf.out])) | (go_at_call 13; ((with_reducible refine (awake_any _).mono ?_); rintro e w9 ⟨rfl, hb9⟩)))
    go_ret
    exact bpost rfl (below_un hb9)
  | true =>
    have hf := Lib.hid hf0
    have hsm := Lib.hid (few_small hf0).2
    have hln := (few_small hf0).1
    clear hf0
    rcases text_cases l with hx0 | ⟨s, hx0⟩
    · rcases hx0 with hx0 | hx0
      all_goals
        have hx := Lib.hid hx0
        clear hx0
        go_enter Try.func9, Try.ntmps9
        go_wp2_with (first | ((with_reducible refine wpTxt_q ?_ ?_ ?_); rfl; rfl; intro _ _) | ((with_reducible refine wpTxt_w0 ?_ ?_ ?_); rfl; rfl; intro _ _) | ((with_reducible refine wpTxt_s ?_ ?_); rfl; intro _ _; go_simp) | ((with_reducible refine wpTxt_sw ?_ ?_); rfl; intro _ _; go_simp) | (with_reducible refine wpTxt_nil ?_) | ((with_reducible refine wp_region_t mixed ?_ ?_); decide +kernel; intro _ _) | (go_at_call 23; ((with_reducible refine (few_any l _ _ ha.out).mono ?_); rintro e w' ⟨rfl, n, rfl⟩; rw [hf.out])) | (go_at_call 24; ((with_reducible refine (ttext_bad hx.out _ _ (ha.out.drewN _) hsm.out).mono ?_); rintro e w1 ⟨rfl, hb1⟩)) | (go_at_call 13; ((with_reducible refine (awake_any _).mono ?_); rintro e w9 ⟨rfl, hb9⟩)))
        go_ret
        exact bpost rfl (by have h1 := hb1.size; exact below_un (n := n) (hb1.trans (hb9.mono (by omega))))
    · have hx := Lib.hid hx0
      obtain ⟨m, p, e1, e2, e3, e4, e5, e6⟩ := text_scan hx0
      have hm := Lib.hid e1
      have hsa := Lib.hid e2
      have hy := Lib.hid (text_again (e := p) hx0 e2)
      have hbl := body_len l
      have hml : m.length ≤ 300 := by omega
      have hsm2 := Lib.hid (small_round (p := p) hf.out e2 hml)
      clear hx0 e1 e2 e3 e5 e6
      go_enter Try.func9, Try.ntmps9
      go_upto_region 8 with (first | ((with_reducible refine wpTxt_q ?_ ?_ ?_); rfl; rfl; intro _ _) | ((with_reducible refine wpTxt_w0 ?_ ?_ ?_); rfl; rfl; intro _ _) | ((with_reducible refine wpTxt_s ?_ ?_); rfl; intro _ _; go_simp) | ((with_reducible refine wpTxt_sw ?_ ?_); rfl; intro _ _; go_simp) | (with_reducible refine wpTxt_nil ?_) | ((with_reducible refine wp_region_t mixed ?_ ?_); decide +kernel; intro _ _) | (go_at_call 23; ((with_reducible refine (few_any l _ _ ha.out).mono ?_); rintro e w' ⟨rfl, n, rfl⟩; rw [hf.out])) | (go_at_call 24; ((with_reducible refine (ttext_good hx.out _ _ (ha.out.drewN _) hsm.out).mono ?_); rintro e w1 ⟨rfl, hb1⟩; have hz1 := hb1.size; have HA1 := Lib.hid ((ha.out.drewN n).below hb1))) | (go_at_call 14; ((with_reducible refine (tscan_round hm.out _).mono ?_); rintro e w2 ⟨g, o, cap, rfl, hT2, h1, h2, h3, h4, hb2⟩; have hz2 := hb2.size; have HT2 := Lib.hid hT2; have HA2 := Lib.hid (HA1.out.below hb2); clear hT2)))
      refine wp_region_e (spOf [(20, spPhi (PartOf v l (body l))), (21, spVal (.bool true))]) [0, 1, 2, 3, 4, 5, 6, 7, 8, 9, 10, 11, 12, 13, 14, 15, 16, 17, 18, 19, 20, 21, 22, 23] [] mixed ?_ ?_
      · decide +kernel
      · intro K ws hws hK
        have hxw : Below w2.heap.size w2 ws := by rw [hws]; (repeat (first | with_reducible assumption | with_reducible exact Below.refl _ _ | ((with_reducible refine Below.setCell ?_ ?_ _); rotate_left; (· first | omega | (simp only [World.size_alloc, World.size_drew, World.size_setCell]; omega))) | ((with_reducible refine Below.alloc ?_ ?_ _); rotate_left; (· first | omega | (simp only [World.size_alloc, World.size_drew, World.size_setCell]; omega))) | ((with_reducible refine Below.drewN' ?_ _)) | ((with_reducible refine Below.drew ?_))))
        have HB := Lib.hid (show Blk ws w2.heap.size 28 #[.int .i64 0, .int .i64 0, .int .i64 0, .string ⟨#[]⟩] by rw [hws]; exact Blk.fresh _ _ _)
        have HAs := Lib.hid (HA2.out.below hxw)
        have HTs := Lib.hid (HT2.out.below hxw)
        have h3s : ws.cell? ⟨g, o + m.length * 4, none⟩ = some (.int .i64 0) := by rw [hxw.cell (p := ⟨g, o + m.length * 4, none⟩) h4]; exact h3
        have hgs : g < ws.heap.size := Nat.lt_of_lt_of_le h4 hxw.size
        clear hws h3 h4
        dsimp only [pickE, pickL, List.getElem?_cons_succ, List.getElem?_cons_zero] at hK ⊢
        go_wp2_with (first | ((with_reducible refine wpE_q ?_ ?_ ?_); rfl; rfl; intro wq hq _ _; obtain ⟨q0, q1, q2, q3, -, -, -, -⟩ := (Blk.low HB.out hq).four; have q4 := (Below.cell hq (p := ⟨g, o + m.length * 4, none⟩) hgs).trans h3s) | ((with_reducible refine wpE_s ?_ ?_); rfl; intro wq hq _ _; obtain ⟨q0, q1, q2, q3, -, -, -, -⟩ := (Blk.low HB.out hq).four; have q4 := (Below.cell hq (p := ⟨g, o + m.length * 4, none⟩) hgs).trans h3s; go_simp))
        refine wpE_w (spPhi (PartOf v l (body l))) _ rfl rfl ?_ rfl rfl (part_body HAs.out) ?_ ?_
        · go_simp
        · intro wq hq K2 hK2
          go_wp2_with fail
          refine (first02_val l _ _ (HAs.out.below hq)).mono ?_
          rintro e w' ⟨vf, rfl, hpf, nf, rfl⟩
          go_wp2_with fail
          exact good_phi hpf (Ext.drewN _ _)
        · intro vf hpf
          have HP := Lib.hid hpf
          clear hpf
          refine wpE_w (spVal (.bool true)) _ rfl rfl ?_ rfl rfl ⟨_, rfl⟩ ?_ ?_
          · go_simp
          · intro wq hq K2 hK2
            go_wp2_with fail
            refine (tSame_yes m (body l) _ _ _ ?_ (HP.out _ (HAs.out.below hq)) (by omega) (by omega) hsa.out).mono ?_
            · have := (HTs.out.below hq).takeV m.length (by omega)
              rwa [List.take_left] at this
            rintro e w' ⟨rfl, nf, rfl⟩
            go_wp2_with fail
            exact good_val (Ext.drewN _ _)
          · rintro v9 rfl
            go_wp2_with (first | ((with_reducible refine wpE_q ?_ ?_ ?_); rfl; rfl; intro wq hq _ _; skip) | ((with_reducible refine wpE_s ?_ ?_); rfl; intro wq hq _ _; skip; go_simp))
            refine wpE_nil (fun w3 hx3 hΦ hfp hdis => ?_)
            have HT3 := Lib.hid (HTs.out.below hx3)
            have hw3 : Below w2.heap.size w2 w3 := hxw.trans (hx3.mono hxw.size)
            clear hΦ hfp hdis
            refine hK _ _ ?_
            clear hK q0 q1 q2 q3 q4
            go_simp
            go_wp2_with (first | (with_reducible refine wpTxt_nil ?_))
            refine (ttext_good hy.out _ _ HT3.out hsm2.out).mono ?_
            rintro e w4 ⟨rfl, hb4⟩
            go_wp2_with (first | ((with_reducible refine wpTxt_q ?_ ?_ ?_); rfl; rfl; intro _ _) | ((with_reducible refine wpTxt_w0 ?_ ?_ ?_); rfl; rfl; intro _ _) | ((with_reducible refine wpTxt_s ?_ ?_); rfl; intro _ _; go_simp) | ((with_reducible refine wpTxt_sw ?_ ?_); rfl; intro _ _; go_simp) | (with_reducible refine wpTxt_nil ?_) | ((with_reducible refine wp_region_t mixed ?_ ?_); decide +kernel; intro _ _) | (go_at_call 13; ((with_reducible refine (awake_any _).mono ?_); rintro e w9 ⟨rfl, hb9⟩)))
            go_ret
            have hz3 := hw3.size
            have hz4 := hb4.size
            exact bpost rfl (below_un (n := n) (((hb1.trans (hb2.mono hz1)).trans (hw3.mono (by omega))).trans ((hb4.mono (by omega)).trans (hb9.mono (by omega)))))
end Go.Proofs.Ytffflmghfcgkfaa
