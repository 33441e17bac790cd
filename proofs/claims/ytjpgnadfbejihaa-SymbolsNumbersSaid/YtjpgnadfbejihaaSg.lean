/- The walk of the law on numbers. -/
import Derived.Test.YtjpgnadfbejihaaSl
set_option linter.unusedSimpArgs false
set_option linter.unusedVariables false
namespace Go.Proofs.Ytjpgnadfbejihaa
open Go.RowKit Tk
def TS.good (T : TS) : Prop := T.all.Nodup
theorem find_not_mem {T : TS} {s : ByteArray} (h : T.find s = none) : s ∉ T.all := fun hm => by
  have := find_all hm
  rw [h] at this; cases this
theorem TS.good.add {T : TS} (h : T.good) (s : ByteArray) : (T.add s).1.good := by
  unfold TS.add
  split
  · exact h
  · split
    · exact h
    · split
      · exact h
      · rename_i h1 h2 h3
        have hf : T.find s = none := by cases hq : T.find s with
          | none => rfl
          | some x => rw [hq] at h2; exact absurd rfl h2
        have hn := find_not_mem hf
        unfold TS.good TS.all at *
        rw [show T.names ++ [s] ++ T.als.map (·.1) = T.names ++ (s :: T.als.map (·.1)) by simp]
        exact (List.perm_middle.nodup_iff).2 (List.nodup_cons.2 ⟨hn, h⟩)
theorem TS.good.also {T : TS} (h : T.good) (s : ByteArray) (n : Int) : (T.also s n).1.good := by
  unfold TS.also
  split
  · exact h
  · split
    · exact h
    · split
      · exact h
      · split
        · exact h
        · rename_i h1 h2 h3 h4
          have hf : T.find s = none := by cases hq : T.find s with
            | none => rfl
            | some x => rw [hq] at h3; exact absurd rfl h3
          have hn := find_not_mem hf
          unfold TS.good TS.all at *
          rw [List.map_append, ← List.append_assoc]
          exact ((List.perm_append_singleton _ _).nodup_iff).2 (List.nodup_cons.2 ⟨hn, h⟩)
theorem run_good {T : TS} (h : T.good) : ∀ l : List Stp, (T.run l).good := by
  intro l
  induction l generalizing T with
  | nil => exact h
  | cons s l ih =>
    refine ih ?_
    unfold TS.step
    split
    · exact h.add _
    · exact h.also _ _
theorem add_als (T : TS) (s : ByteArray) : (T.add s).1.als = T.als := by
  unfold TS.add; repeat (first | rfl | split)
theorem also_als (T : TS) (s : ByteArray) (n : Int) : (T.also s n).1.als.length = T.als.length + if (T.also s n).2 = 0 then 1 else 0 := by
  unfold TS.also
  by_cases h1 : idB s = false
  · simp [h1]
  · by_cases h2 : n < 0 ∨ (T.names.length : Int) ≤ n
    · simp [h1, h2]
    · by_cases h3 : (T.find s).isSome = true
      · simp [h1, h2, h3]
      · by_cases h4 : 4096 ≤ T.als.length
        · simp [h1, h2, h3, h4]
        · simp [h1, h2, h3, h4]
theorem good_find {T : TS} (h : T.good) {i : Nat} (hi : i < T.names.length) : T.find T.names[i] = some (i : Int) := by
  refine find_name hi rfl fun j hj h1 e => ?_
  have hn : T.names.Nodup := (List.nodup_append.1 h).1
  exact List.pairwise_iff_getElem.1 hn j i (by omega) hi hj e
theorem good_less {T : TS} (h : T.good) {k : Nat} (hk : k + 1 < (sortS T.all).length) : Op.bytesLess (sortS T.all)[k].toList (sortS T.all)[k + 1].toList = true := by
  have ha := sortS_asc T.all
  have hn : (sortS T.all).Nodup := ((sortS_perm T.all).nodup_iff).2 h
  have h1 := List.pairwise_iff_getElem.1 ha k (k + 1) (by omega) hk (by omega)
  have h2 : (sortS T.all)[k] ≠ (sortS T.all)[k + 1] := List.pairwise_iff_getElem.1 hn k (k + 1) (by omega) hk (by omega)
  refine less_t ?_
  rcases List.le_iff_lt_or_eq.1 h1 with h | h
  · exact h
  · exact absurd (key_inj h) h2
theorem name_at {w : World} {b : Nat} {F : List Nat} {T : TS} (h : Tab w b F T) {k : Nat} (hk : k < T.names.length) : Calls Try.prog 15 #[.pointer (some ⟨b, 0, none⟩), .int .i64 k] w fun e w' => e = .returned (.tuple #[.string T.names[k], .bool true]) ∧ w = w' := by
  have := name_any h (k : Int)
  have hn : T.name (k : Int) = some T.names[k] := by unfold TS.name; rw [if_neg (by omega)]; simp [hk]
  rw [hn] at this
  exact this
theorem T0_good (n : Int) : (T0 n).good := List.nodup_nil
set_option maxHeartbeats 4000000 in
set_option maxRecDepth 100000 in
theorem lawNumbers (lv : Value) (l : List Stp) (w : World) (hl : RRow w 3 stpC lv l) (hn : ∀ s ∈ l, s.name.size ≤ maxLen) : Calls Try.prog 5 #[lv] w (BPost true w) := by
  obtain ⟨lo, lc, rfl, l1, l2⟩ := hl.len
  unfold maxLen at l2
  by_cases hL : 60 < l.length
  · go_enter Try.func5, Try.ntmps5
    go_wp2_with (first | ((with_reducible refine wpTxt_q ?_ ?_ ?_); rfl; rfl; intro _ _) | ((with_reducible refine wpTxt_w0 ?_ ?_ ?_); rfl; rfl; intro _ _) | ((with_reducible refine wpTxt_s ?_ ?_); rfl; intro _ _; go_simp) | ((with_reducible refine wpTxt_sw ?_ ?_); rfl; intro _ _; go_simp) | (with_reducible refine wpTxt_nil ?_) | ((with_reducible refine wp_region_t mixed ?_ ?_); decide +kernel; intro _ _) | (go_at_call 9; ((with_reducible refine (new_yes 40 _ ?_ ?_).mono ?_); (· decide); (· decide); rintro e w1 ⟨b, F, rfl, hT1, hB1, hF1⟩)) | (go_at_call 11; ((with_reducible refine (alive_any _).mono ?_); rintro e w9 ⟨rfl, hb9⟩)))
    go_ret
    exact ⟨rfl, hB1.trans (hb9.mono hB1.size)⟩
  · go_enter Try.func5, Try.ntmps5
    go_wp2_with (first | ((with_reducible refine wpTxt_q ?_ ?_ ?_); rfl; rfl; intro _ _) | ((with_reducible refine wpTxt_w0 ?_ ?_ ?_); rfl; rfl; intro _ _) | ((with_reducible refine wpTxt_s ?_ ?_); rfl; intro _ _; go_simp) | ((with_reducible refine wpTxt_sw ?_ ?_); rfl; intro _ _; go_simp) | (with_reducible refine wpTxt_nil ?_) | ((with_reducible refine wp_region_t mixed ?_ ?_); decide +kernel; intro _ _) | (go_at_call 9; ((with_reducible refine (new_yes 40 _ ?_ ?_).mono ?_); (· decide); (· decide); rintro e w1 ⟨b, F, rfl, hT1, hB1, hF1⟩)))
    go_loopw [4, 5] (fun al i wr => ∃ k : Nat, i = .int .i64 k ∧ k ≤ l.length ∧ ∃ F', al = .int .i64 ((T0 40).run (l.take k)).als.length ∧ Tab wr b F' ((T0 40).run (l.take k)) ∧ Below w.heap.size w wr ∧ ∀ x ∈ F', w.heap.size ≤ x) (fun _ i _ => l.length - (intOf i).toNat)
    case atStart => exact ⟨0, rfl, Nat.zero_le _, F, rfl, hT1, hB1, hF1⟩
    case round =>
      obtain ⟨k, rfl, hk, F', rfl, hTr, hBr, hFr⟩ := hrel
      obtain ⟨wo, hwo⟩ : ∃ wo, wo = wr := ⟨_, rfl⟩
      subst hwo
      have hTh := Lib.hid hTr
      by_cases hlt : k < l.length
      · obtain ⟨lg, loff, lc', e, -, -, hlg, hlc⟩ := (hl.low hBr).at (by omega)
        injection e with e1 e2 e3
        subst e1
        clear e2 e3
        have k0 := hlc k hlt 0 (by omega)
        have k1 := hlc k hlt 1 (by omega)
        have k2 := hlc k hlt 2 (by omega)
        have hnk := hn l[k] (List.getElem_mem hlt)
        have HS := Lib.hid (run_succ (T0 40) l k hlt)
        simp only [stpC, List.getElem?_cons_zero, List.getElem?_cons_succ, Nat.add_zero] at k0 k1 k2
        have hal := hTr
        obtain ⟨m0, nv0, av0, ml0, -, hal⟩ := hal
        have hal1 := hal.ok.als
        clear hal
        generalize l[k] = s at *
        obtain ⟨kd, nm, n⟩ := s
        dsimp only at k0 k1 k2 hnk
        generalize (T0 40).run (l.take k) = T1 at *
        clear hlc
        by_cases hkd : kd = 0
        · obtain ⟨g1, g2⟩ := kd_t hkd
          have HT2 := Lib.hid (show (T0 40).run (l.take (k + 1)) = (T1.add nm).1 from HS.out.trans (step_add hkd))
          clear hkd HS
          go_wp2_with (first | ((with_reducible refine wpTxt_q ?_ ?_ ?_); rfl; rfl; intro _ _) | ((with_reducible refine wpTxt_w0 ?_ ?_ ?_); rfl; rfl; intro _ _) | ((with_reducible refine wpTxt_s ?_ ?_); rfl; intro _ _; go_simp) | ((with_reducible refine wpTxt_sw ?_ ?_); rfl; intro _ _; go_simp) | (with_reducible refine wpTxt_nil ?_) | ((with_reducible refine wp_region_t mixed ?_ ?_); decide +kernel; intro _ _) | (go_at_call 17; ((with_reducible refine (add_tab hTr nm hnk).mono ?_); rintro e w6 ⟨F6, rfl, hT6, hO6, hG6⟩; obtain ⟨hB6, hF6⟩ := grow_on hBr hFr hO6 hG6)))
          go_roundw
          case rel => exact ⟨k + 1, by go_num, by omega, F6, by rw [HT2.out, add_als], by rw [HT2.out]; exact hT6, hB6, hF6⟩
          case measure => simp [intOf]; omega
        · obtain ⟨g1, g2⟩ := kd_f hkd
          have HT2 := Lib.hid (show (T0 40).run (l.take (k + 1)) = (T1.also nm n).1 from HS.out.trans (step_also hkd))
          have hTd : Tab wo.drew b F' T1 := hTr.low ((Below.refl _ _).drew)
          have hBd : Below w.heap.size w wo.drew := hBr.drew
          have HA := Lib.hid (also_als T1 nm n)
          clear hkd HS
          by_cases h0 : (T1.also nm n).2 = 0
          · obtain ⟨g3, g4⟩ := kd_t h0
            have HA2 := Lib.hid (show (T1.also nm n).1.als.length = T1.als.length + 1 by rw [HA.out, if_pos h0])
            clear h0
            go_wp2_with (first | ((with_reducible refine wpTxt_q ?_ ?_ ?_); rfl; rfl; intro _ _) | ((with_reducible refine wpTxt_w0 ?_ ?_ ?_); rfl; rfl; intro _ _) | ((with_reducible refine wpTxt_s ?_ ?_); rfl; intro _ _; go_simp) | ((with_reducible refine wpTxt_sw ?_ ?_); rfl; intro _ _; go_simp) | (with_reducible refine wpTxt_nil ?_) | ((with_reducible refine wp_region_t mixed ?_ ?_); decide +kernel; intro _ _) | (go_at_call 19; ((with_reducible refine (also_tab hTd nm n hnk).mono ?_); rintro e w6 ⟨F6, rfl, hT6, hO6, hG6⟩; obtain ⟨hB6, hF6⟩ := grow_on hBd hFr hO6 hG6)))
            go_roundw
            case rel => exact ⟨k + 1, by go_num, by omega, F6, by rw [HT2.out, HA2.out]; go_num, by rw [HT2.out]; exact hT6, hB6, hF6⟩
            case measure => simp [intOf]; omega
          · obtain ⟨g3, g4⟩ := kd_f h0
            have HA2 := Lib.hid (show (T1.also nm n).1.als.length = T1.als.length by rw [HA.out, if_neg h0]; rfl)
            clear h0
            go_wp2_with (first | ((with_reducible refine wpTxt_q ?_ ?_ ?_); rfl; rfl; intro _ _) | ((with_reducible refine wpTxt_w0 ?_ ?_ ?_); rfl; rfl; intro _ _) | ((with_reducible refine wpTxt_s ?_ ?_); rfl; intro _ _; go_simp) | ((with_reducible refine wpTxt_sw ?_ ?_); rfl; intro _ _; go_simp) | (with_reducible refine wpTxt_nil ?_) | ((with_reducible refine wp_region_t mixed ?_ ?_); decide +kernel; intro _ _) | (go_at_call 19; ((with_reducible refine (also_tab hTd nm n hnk).mono ?_); rintro e w6 ⟨F6, rfl, hT6, hO6, hG6⟩; obtain ⟨hB6, hF6⟩ := grow_on hBd hFr hO6 hG6)))
            go_roundw
            case rel => exact ⟨k + 1, by go_num, by omega, F6, by rw [HT2.out, HA2.out], by rw [HT2.out]; exact hT6, hB6, hF6⟩
            case measure => simp [intOf]; omega
      · have hkk : k = l.length := by omega
        subst hkk
        have hgood := run_good (T0_good 40) l
        rw [List.take_length] at hTr ⊢
        clear hTh
        generalize (T0 40).run l = T1 at *
        go_wp2_with (first | ((with_reducible refine wpTxt_q ?_ ?_ ?_); rfl; rfl; intro _ _) | ((with_reducible refine wpTxt_w0 ?_ ?_ ?_); rfl; rfl; intro _ _) | ((with_reducible refine wpTxt_s ?_ ?_); rfl; intro _ _; go_simp) | ((with_reducible refine wpTxt_sw ?_ ?_); rfl; intro _ _; go_simp) | (with_reducible refine wpTxt_nil ?_) | ((with_reducible refine wp_region_t mixed ?_ ?_); decide +kernel; intro _ _))
        obtain ⟨m0, nv0, av0, ml0, hm0, hok⟩ := hTr
        have o1 := hok.ok.len
        have o2 := hok.ok.hi
        have o3 := hok.ok.als
        have hTr : Tab wo b F' T1 := ⟨m0, nv0, av0, ml0, hm0, hok⟩
        clear hm0 hok
        go_loop [6] (fun i => ∃ k : Nat, i = .int .i64 k ∧ k ≤ T1.names.length) (fun i => T1.names.length - (intOf i).toNat)
        case atStart => exact ⟨0, rfl, Nat.zero_le _⟩
        case round =>
          obtain ⟨k, rfl, hk⟩ := hrel
          by_cases hlt2 : k < T1.names.length
          · have hfk := Lib.hid (good_find hgood hlt2)
            go_wp2_with (first | ((with_reducible refine wpTxt_q ?_ ?_ ?_); rfl; rfl; intro _ _) | ((with_reducible refine wpTxt_w0 ?_ ?_ ?_); rfl; rfl; intro _ _) | ((with_reducible refine wpTxt_s ?_ ?_); rfl; intro _ _; go_simp) | ((with_reducible refine wpTxt_sw ?_ ?_); rfl; intro _ _; go_simp) | (with_reducible refine wpTxt_nil ?_) | ((with_reducible refine wp_region_t mixed ?_ ?_); decide +kernel; intro _ _) | (go_at_call 20; ((with_reducible refine (len_any hTr).mono ?_); rintro e w' ⟨rfl, rfl⟩)) | (go_at_call 15; ((with_reducible refine (name_at hTr hlt2).mono ?_); rintro e w' ⟨rfl, rfl⟩)) | (go_at_call 13; ((with_reducible refine (find_lit hTr hfk.out).mono ?_); rintro e w' ⟨rfl, rfl⟩)))
            go_round
            case rel => exact ⟨k + 1, by go_num, by omega⟩
            case measure => simp [intOf]; omega
          · have hkk : k = T1.names.length := by omega
            subst hkk
            go_wp2_with (first | ((with_reducible refine wpTxt_q ?_ ?_ ?_); rfl; rfl; intro _ _) | ((with_reducible refine wpTxt_w0 ?_ ?_ ?_); rfl; rfl; intro _ _) | ((with_reducible refine wpTxt_s ?_ ?_); rfl; intro _ _; go_simp) | ((with_reducible refine wpTxt_sw ?_ ?_); rfl; intro _ _; go_simp) | (with_reducible refine wpTxt_nil ?_) | ((with_reducible refine wp_region_t mixed ?_ ?_); decide +kernel; intro _ _) | (go_at_call 20; ((with_reducible refine (len_any hTr).mono ?_); rintro e w' ⟨rfl, rfl⟩)) | (go_at_call 21; ((with_reducible refine (sorted_any hTr).mono ?_); rintro e w8 ⟨v8, rfl, hR8, hb8, -⟩)))
            obtain ⟨g8, c8, rfl, hc8, hc8'⟩ := hR8.len
            unfold maxLen at hc8'
            have hsl : (sortS T1.all).length ≤ 9000 := by rw [sortS_len, all_len]; omega
            have HL := Lib.hid (show (sortS T1.all).length = T1.names.length + T1.als.length by rw [sortS_len, all_len])
            go_loopw [12] (fun i wr => ∃ k : Nat, i = .int .i64 ((k : Int) + 1) ∧ k ≤ (sortS T1.all).length ∧ Below w8.heap.size w8 wr) (fun i _ => ((sortS T1.all).length - intOf i + 1).toNat)
            case atStart => exact ⟨0, rfl, Nat.zero_le _, Below.refl _ _⟩
            case round =>
              obtain ⟨k, rfl, hk, hBk⟩ := hrel
              by_cases hlt3 : k + 1 < (sortS T1.all).length
              · obtain ⟨g, cap', e, -, -, hcc⟩ := (hR8.low hBk).at (by omega)
                injection e with e1 e2 e3
                subst e1
                have c0 := hcc k (by omega)
                have c1 := hcc (k + 1) hlt3
                have hls := good_less hgood hlt3
                clear hcc e2 e3
                have hp1 : (k : Int) + 1 < (sortS T1.all).length := by omega
                have hp2 : (k : Int) < (sortS T1.all).length := by omega
                have hp3 : (0 : Int) ≤ (k : Int) + 1 := by omega
                have hp4 : k < (sortS T1.all).length := by omega
                have HW := Lib.hid (show IntKind.i64.wrap (k : Int) = k from IntWalk.i64_in _ (by omega))
                generalize hs1 : (sortS T1.all)[k] = s1 at c0 hls
                generalize hs2 : (sortS T1.all)[k + 1] = s2 at c1 hls
                clear hs1 hs2
                have hw := HW.out
                go_wp2_with (first | ((with_reducible refine wpTxt_q ?_ ?_ ?_); rfl; rfl; intro _ _) | ((with_reducible refine wpTxt_w0 ?_ ?_ ?_); rfl; rfl; intro _ _) | ((with_reducible refine wpTxt_s ?_ ?_); rfl; intro _ _; go_simp) | ((with_reducible refine wpTxt_sw ?_ ?_); rfl; intro _ _; go_simp) | (with_reducible refine wpTxt_nil ?_) | ((with_reducible refine wp_region_t mixed ?_ ?_); decide +kernel; intro _ _))
                clear HW
                go_roundw
                case rel => exact ⟨k + 1, by go_num, by omega, hBk.drew⟩
                case measure => simp [intOf]; omega
              · have hp1 : ((sortS T1.all).length : Int) ≤ (k : Int) + 1 := by omega
                have hB8 : Below w.heap.size w w8 := hBr.trans (hb8.mono hBr.size)
                have hTl : Tab wr b F' T1 := (hTr.low hb8).low hBk
                have hsum : (((sortS T1.all).length : Int) == (T1.names.length : Int) + T1.als.length) = true := by rw [HL.out]; simp
                go_wp2_with (first | ((with_reducible refine wpTxt_q ?_ ?_ ?_); rfl; rfl; intro _ _) | ((with_reducible refine wpTxt_w0 ?_ ?_ ?_); rfl; rfl; intro _ _) | ((with_reducible refine wpTxt_s ?_ ?_); rfl; intro _ _; go_simp) | ((with_reducible refine wpTxt_sw ?_ ?_); rfl; intro _ _; go_simp) | (with_reducible refine wpTxt_nil ?_) | ((with_reducible refine wp_region_t mixed ?_ ?_); decide +kernel; intro _ _) | (go_at_call 20; ((with_reducible refine (len_any hTl).mono ?_); rintro e w' ⟨rfl, rfl⟩)) | (go_at_call 11; ((with_reducible refine (alive_any _).mono ?_); rintro e w9 ⟨rfl, hb9⟩)))
                go_ret
                have hB9 := hB8.trans (hBk.mono hB8.size)
                exact ⟨rfl, hB9.trans (hb9.mono hB9.size)⟩
end Go.Proofs.Ytjpgnadfbejihaa
