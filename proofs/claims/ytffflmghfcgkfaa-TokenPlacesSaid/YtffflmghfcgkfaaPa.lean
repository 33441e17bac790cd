/- The law on places: its walk. -/
import Derived.Test.YtffflmghfcgkfaaJo
import Derived.Test.YtffflmghfcgkfaaPp
set_option linter.unusedSimpArgs false
set_option linter.unusedVariables false
namespace Go.Proofs.Ytffflmghfcgkfaa
open Go.RowKit Tk

theorem ext_eq {src s : ByteArray} {i j : Nat} (h : (src.data.toList.drop i).take s.size = s.data.toList) (hj : j = i + s.size) (hb : i + s.size ≤ src.size) : ((src.extract i j).toList == s.toList) = true := by
  subst hj
  rw [bl, bl, extract_list _ _ _ hb, Nat.add_sub_cancel_left, h]
  simp
set_option maxHeartbeats 1000000 in
theorem stands_yes (t : Tok) (src : ByteArray) (i : Nat) (w : World) (hs : src.size ≤ 65536) (h : (src.data.toList.drop i).take t.src.length = t.src) (hb : i + t.src.length ≤ src.size) :
    Calls Try.prog 28 #[.agg #[.int .i64 t.kind, .string t.text, .int .i64 t.pos.1, .int .i64 t.pos.2], .string src, .int .i64 i] w (BPost true w) := by
  by_cases h3 : t.kind = 3
  · have hsrc : t.src = (⟨#[34]⟩ ++ t.text ++ ⟨#[34]⟩ : ByteArray).data.toList := by unfold Tok.src; rw [if_pos h3]; simp
    have hz : (⟨#[34]⟩ ++ t.text ++ ⟨#[34]⟩ : ByteArray).size = t.text.size + 1 + 1 := by simp only [ByteArray.size_append]; show 1 + _ + 1 = _; omega
    rw [hsrc] at h hb
    rw [sz, hz] at hb
    rw [sz] at h
    have hE := ext_eq (j := i + (1 + t.text.size + 1)) h (by rw [hz]; omega) (by rw [hz]; omega)
    obtain ⟨g1, g2⟩ := kd_t h3
    clear h hsrc h3 hz
    go_enter Try.func28, Try.ntmps28
    go_wp2_with (first | ((with_reducible refine wpTxt_q ?_ ?_ ?_); rfl; rfl; intro _ _) | ((with_reducible refine wpTxt_w0 ?_ ?_ ?_); rfl; rfl; intro _ _) | ((with_reducible refine wpTxt_s ?_ ?_); rfl; intro _ _; go_simp) | ((with_reducible refine wpTxt_sw ?_ ?_); rfl; intro _ _; go_simp) | (with_reducible refine wpTxt_nil ?_) | ((with_reducible refine wp_region_t mixed ?_ ?_); decide +kernel; intro _ _))
    go_ret
    exact bpost rfl (by (repeat (first | with_reducible assumption | with_reducible exact Below.refl _ _ | ((with_reducible refine Below.setCell ?_ ?_ _); rotate_left; (· first | omega | (simp only [World.size_alloc, World.size_drew, World.size_setCell]; omega))) | ((with_reducible refine Below.alloc ?_ ?_ _); rotate_left; (· first | omega | (simp only [World.size_alloc, World.size_drew, World.size_setCell]; omega))) | ((with_reducible refine Below.drewN' ?_ _)) | ((with_reducible refine Below.drew ?_)))))
  · have hsrc : t.src = t.text.data.toList := by unfold Tok.src; rw [if_neg h3]
    rw [hsrc] at h hb
    rw [sz] at h hb
    have hE := ext_eq (j := i + t.text.size) h rfl hb
    obtain ⟨g1, g2⟩ := kd_f h3
    clear h hsrc h3
    go_enter Try.func28, Try.ntmps28
    go_wp2_with (first | ((with_reducible refine wpTxt_q ?_ ?_ ?_); rfl; rfl; intro _ _) | ((with_reducible refine wpTxt_w0 ?_ ?_ ?_); rfl; rfl; intro _ _) | ((with_reducible refine wpTxt_s ?_ ?_); rfl; intro _ _; go_simp) | ((with_reducible refine wpTxt_sw ?_ ?_); rfl; intro _ _; go_simp) | (with_reducible refine wpTxt_nil ?_) | ((with_reducible refine wp_region_t mixed ?_ ?_); decide +kernel; intro _ _))
    go_ret
    exact bpost rfl (by (repeat (first | with_reducible assumption | with_reducible exact Below.refl _ _ | ((with_reducible refine Below.setCell ?_ ?_ _); rotate_left; (· first | omega | (simp only [World.size_alloc, World.size_drew, World.size_setCell]; omega))) | ((with_reducible refine Below.alloc ?_ ?_ _); rotate_left; (· first | omega | (simp only [World.size_alloc, World.size_drew, World.size_setCell]; omega))) | ((with_reducible refine Below.drewN' ?_ _)) | ((with_reducible refine Below.drew ?_)))))

theorem stands_at (t : LTok) (x y : Int) (src : ByteArray) (i : Nat) (w : World) (hs : src.size ≤ 65536) (h : (src.data.toList.drop i).take (srcL t.kind t.text).length = srcL t.kind t.text) (hb : i + (srcL t.kind t.text).length ≤ src.size) :
    Calls Try.prog 28 #[.agg #[.int .i64 t.kind, .string ⟨t.text.toArray⟩, .int .i64 x, .int .i64 y], .string src, .int .i64 i] w (BPost true w) :=
  stands_yes ⟨t.kind, ⟨t.text.toArray⟩, (x, y)⟩ src i w hs h hb
theorem tCheck_yes (t : LTok) (x y : Int) (w : World) (hx : t.text.length ≤ maxLen) (h : checkB t.kind t.text = true) : Calls Try.prog 21 #[.agg #[.int .i64 t.kind, .string ⟨t.text.toArray⟩, .int .i64 x, .int .i64 y]] w (BPost true w) := by
  have := tCheck_any t.kind x y ⟨t.text.toArray⟩ w hx
  have e : checkB t.kind (⟨t.text.toArray⟩ : ByteArray).data.toList = true := h
  rwa [e] at this
theorem lc_at {s : ByteArray} (h : s.size ≤ 65536) (i : Nat) (hi : i ≤ s.size) (w : World) : Calls Try.prog 26 #[.string s, .int .i64 i] w fun e w' => e = .returned (.agg #[.int .i64 (loc s.data.toList i).1, .int .i64 (loc s.data.toList i).2]) ∧ Below w.heap.size w w' := by
  refine (tLocate_any s _ w h (by omega)).mono fun e w' h' => ?_
  unfold LocPost at h'
  rwa [locI_in hi] at h'
theorem cells_at {w : World} {g o n cap k : Nat} {S : List UInt8} {us : List LTok} (h : Toks w (.slice (some ⟨g, o, none⟩) n cap) (us.map (LTok.at S))) (hk : k < us.length) :
    w.cell? ⟨g, o + k * 4, none⟩ = some (.int .i64 us[k].kind) ∧ w.cell? ⟨g, o + k * 4 + 1, none⟩ = some (.string ⟨us[k].text.toArray⟩) ∧ w.cell? ⟨g, o + k * 4 + 2, none⟩ = some (.int .i64 (loc S us[k].off).1) ∧ w.cell? ⟨g, o + k * 4 + 3, none⟩ = some (.int .i64 (loc S us[k].off).2) ∧ g < w.heap.size := by
  obtain ⟨ao, cap', hv, _, _, h3⟩ := h
  rcases h3 with h3 | ⟨g', o', e, hg, hc⟩
  · rw [List.length_map] at h3; omega
  · injection hv with e1
    rw [e] at e1
    injection e1 with e1
    injection e1 with e2 e3
    subst e2 e3
    have := hc k (by rw [List.length_map]; exact hk)
    simp only [List.getElem_map, LTok.at] at this
    exact ⟨this.1, this.2.1, this.2.2.1, this.2.2.2, hg⟩
theorem cell_5 {w w' : World} {g a : Nat} {k : Int} {s : Value} {l c : Int} (h : w.cell? ⟨g, a, none⟩ = some (.int .i64 k) ∧ w.cell? ⟨g, a + 1, none⟩ = some s ∧ w.cell? ⟨g, a + 2, none⟩ = some (.int .i64 l) ∧ w.cell? ⟨g, a + 3, none⟩ = some (.int .i64 c) ∧ g < w.heap.size) (hb : Below w.heap.size w w') :
    w'.cell? ⟨g, a, none⟩ = some (.int .i64 k) ∧ w'.cell? ⟨g, a + 1, none⟩ = some s ∧ w'.cell? ⟨g, a + 2, none⟩ = some (.int .i64 l) ∧ w'.cell? ⟨g, a + 3, none⟩ = some (.int .i64 c) ∧ g < w'.heap.size := by
  obtain ⟨h1, h2, h3, h4, h5⟩ := h
  have e : ∀ j, w'.cell? ⟨g, j, none⟩ = w.cell? ⟨g, j, none⟩ := fun j => hb.cell (p := ⟨g, j, none⟩) h5
  rw [e, e, e, e]
  exact ⟨h1, h2, h3, h4, Nat.lt_of_lt_of_le h5 hb.size⟩
/-- what is known of the token with number k -/
theorem placed_at {S : List UInt8} {us : List LTok} {k i : Nat} (hk : k < us.length) (h : Placed S i (us.drop k)) :
    i ≤ us[k].off ∧ us[k].off ≤ S.length ∧ checkB us[k].kind us[k].text = true ∧ (S.drop us[k].off).take (srcL us[k].kind us[k].text).length = srcL us[k].kind us[k].text ∧ us[k].off + (srcL us[k].kind us[k].text).length ≤ S.length ∧
      us[k].off + us[k].text.length ≤ S.length ∧ us[k].text.length ≤ S.length ∧
      ((us[k].kind = 0 ∧ k + 1 = us.length ∧ us[k].off + us[k].text.length = S.length ∧ us[k].off = S.length) ∨ (¬ us[k].kind = 0 ∧ k + 1 < us.length ∧ us[k].off < S.length ∧ Placed S (us[k].off + us[k].text.length) (us.drop (k + 1)))) := by
  rw [List.drop_eq_getElem_cons hk] at h
  obtain ⟨h1, h2⟩ := h
  rcases h2 with ⟨h2, h3, h4, h5⟩ | ⟨h2, h3, h4, h5, h6, h7⟩
  · have hl : k + 1 = us.length := by
      have := congrArg List.length h2
      simp at this
      omega
    rw [h3, h4, h5]
    refine ⟨by omega, Nat.le_refl _, rfl, rfl, by simp [srcL], by simp, by simp, .inl ⟨rfl, hl, by simp, rfl⟩⟩
  · have hl : k + 1 < us.length := by
      rcases Nat.lt_or_ge (k + 1) us.length with hl | hl
      · exact hl
      · exact absurd (List.drop_of_length_le hl) h2
    have hle : us[k].text.length ≤ (srcL us[k].kind us[k].text).length := by unfold srcL; split <;> (simp; try omega)
    have hps := (tok_one h4 h3 (.inl rfl)).2.2.2
    exact ⟨h1, by omega, h4, h5, h6, by omega, by omega, .inr ⟨h3, hl, by omega, h7.low (by omega)⟩⟩
def PlaceRel (S : List UInt8) (us : List LTok) (w : World) (i k : Value) (wr : World) : Prop :=
  ∃ kk ii : Nat, k = .int .i64 kk ∧ i = .int .i64 ii ∧ kk ≤ us.length ∧ ii ≤ S.length ∧ Hid (kk < us.length → Placed S ii (us.drop kk)) ∧ Hid (kk = us.length → ii = S.length) ∧ Hid (Below w.heap.size w wr)
set_option maxRecDepth 100000 in
set_option maxHeartbeats 20000000 in
theorem lawPlaces (s : ByteArray) (w : World) (hs : s.size ≤ maxLen) : Calls Try.prog 8 #[.string s] w (BPost true w) := by
  unfold maxLen at hs
  by_cases g1 : 300 < s.size
  · go_enter Try.func8, Try.ntmps8
    go_wp2_with (first | ((with_reducible refine wpTxt_q ?_ ?_ ?_); rfl; rfl; intro _ _) | ((with_reducible refine wpTxt_w0 ?_ ?_ ?_); rfl; rfl; intro _ _) | ((with_reducible refine wpTxt_s ?_ ?_); rfl; intro _ _; go_simp) | ((with_reducible refine wpTxt_sw ?_ ?_); rfl; intro _ _; go_simp) | (with_reducible refine wpTxt_nil ?_) | ((with_reducible refine wp_region_t mixed ?_ ?_); decide +kernel; intro _ _) | (go_at_call 13; ((with_reducible refine (awake_any _).mono ?_); rintro e w9 ⟨rfl, hb9⟩)))
    go_ret
    exact bpost rfl hb9
  have hs5 : s.size ≤ 65536 := by omega
  cases hA : scanS s with
  | err c p =>
    have h1 := Lib.hid hA
    have c0 : ¬ c = 0 := by
      rw [scanS_L s hs5] at hA
      cases hq : scanA 0 s.data.toList with
      | ok ts => rw [hq] at hA; cases hA
      | err c' x =>
        rw [hq, toSR] at hA
        injection hA with e1 e2
        subst e1
        exact ((join_scan [] _ s.data.toList 0 (Nat.le_refl _)).2 _ _ hq).1
    obtain ⟨k0, k1⟩ := kd_f c0
    clear hA c0
    go_enter Try.func8, Try.ntmps8
    go_wp2_with (first | ((with_reducible refine wpTxt_q ?_ ?_ ?_); rfl; rfl; intro _ _) | ((with_reducible refine wpTxt_w0 ?_ ?_ ?_); rfl; rfl; intro _ _) | ((with_reducible refine wpTxt_s ?_ ?_); rfl; intro _ _; go_simp) | ((with_reducible refine wpTxt_sw ?_ ?_); rfl; intro _ _; go_simp) | (with_reducible refine wpTxt_nil ?_) | ((with_reducible refine wp_region_t mixed ?_ ?_); decide +kernel; intro _ _) | (go_at_call 14; ((with_reducible refine (tscan_err s c p h1.out _).mono ?_); rintro e w1 ⟨rfl, hb1⟩; have hz1 := hb1.size)) | (go_at_call 13; ((with_reducible refine (awake_any _).mono ?_); rintro e w9 ⟨rfl, hb9⟩)))
    go_ret
    exact bpost rfl ((show Below w.heap.size w _ by (repeat (first | with_reducible assumption | with_reducible exact Below.refl _ _ | ((with_reducible refine Below.setCell ?_ ?_ _); rotate_left; (· first | omega | (simp only [World.size_alloc, World.size_drew, World.size_setCell]; omega))) | ((with_reducible refine Below.alloc ?_ ?_ _); rotate_left; (· first | omega | (simp only [World.size_alloc, World.size_drew, World.size_setCell]; omega))) | ((with_reducible refine Below.drewN' ?_ _)) | ((with_reducible refine Below.drew ?_))))).trans (hb9.mono (by simp; omega)))
  | ok T =>
    obtain ⟨us, hu, hT0⟩ : ∃ us, scanA 0 s.data.toList = .ok us ∧ T = us.map (LTok.at s.data.toList) := by
      rw [scanS_L s hs5] at hA
      cases hq : scanA 0 s.data.toList with
      | err c' x => rw [hq] at hA; cases hA
      | ok us => rw [hq, toSR] at hA; injection hA with hA; exact ⟨us, rfl, hA.symm⟩
    have hpl : Placed s.data.toList 0 us := place_scan s.data.toList _ 0 us (Nat.le_refl _) (Nat.zero_le _) hu
    have hlen : Hid (T.length = us.length) := Lib.hid (by rw [hT0]; simp)
    have hpos : 0 < us.length := by
      cases us with
      | nil => exact absurd rfl hpl.ne
      | cons => simp
    have hul : us.length ≤ 65537 := by have := (scanS_len hA).1; rw [hT0, List.length_map] at this; exact this
    have h1 := Lib.hid hA
    have HPL := Lib.hid hpl
    have HT0 := Lib.hid hT0
    have hsl := Lib.hid (sz s)
    clear hA hpl hT0 hu
    go_enter Try.func8, Try.ntmps8
    go_wp2_with (first | ((with_reducible refine wpTxt_q ?_ ?_ ?_); rfl; rfl; intro _ _) | ((with_reducible refine wpTxt_w0 ?_ ?_ ?_); rfl; rfl; intro _ _) | ((with_reducible refine wpTxt_s ?_ ?_); rfl; intro _ _; go_simp) | ((with_reducible refine wpTxt_sw ?_ ?_); rfl; intro _ _; go_simp) | (with_reducible refine wpTxt_nil ?_) | ((with_reducible refine wp_region_t mixed ?_ ?_); decide +kernel; intro _ _) | (go_at_call 14; ((with_reducible refine (tscan_n h1.out hlen.out hpos _).mono ?_); rintro e w1 ⟨g, o, cap, rfl, hT, hc1, hc2, hb1⟩; have hz1 := hb1.size; have HT := Lib.hid hT; clear hT)))
    generalize hw2 : w1.alloc _ = w2
    have hb2 : Below w1.heap.size w1 w2 := by rw [← hw2]; (repeat (first | with_reducible assumption | with_reducible exact Below.refl _ _ | ((with_reducible refine Below.setCell ?_ ?_ _); rotate_left; (· first | omega | (simp only [World.size_alloc, World.size_drew, World.size_setCell]; omega))) | ((with_reducible refine Below.alloc ?_ ?_ _); rotate_left; (· first | omega | (simp only [World.size_alloc, World.size_drew, World.size_setCell]; omega))) | ((with_reducible refine Below.drewN' ?_ _)) | ((with_reducible refine Below.drew ?_))))
    have HT2 := Lib.hid (show Toks w2 (.slice (some ⟨g, o, none⟩) us.length cap) (us.map (LTok.at s.data.toList)) from by have := HT.out.below hb2; rwa [HT0.out] at this)
    have HB0 := Lib.hid (hb1.trans (hb2.mono hz1))
    clear hw2 hb2 HT HT0 hlen
    go_loopw [5, 6] (fun i k wr => PlaceRel s.data.toList us w2 i k wr) (fun _ k _ => us.length - (intOf k).toNat)
    case atStart => exact ⟨0, 0, rfl, rfl, by omega, by omega, fun _ => HPL.out, fun h => by omega, Below.refl _ _⟩
    case round =>
      obtain ⟨kk, ii, rfl, rfl, hkk, hii, HP1, HP2, HB⟩ := hrel
      by_cases hlt : kk < us.length
      · obtain ⟨e1, e2, e3, e4, e5, e6, e7, e8⟩ := placed_at hlt (HP1.out hlt)
        rw [hsl.out] at e2 e5 e6 e7
        have hC := cell_5 (cells_at HT2.out hlt) HB.out
        obtain ⟨tk, htk⟩ : ∃ tk, us[kk] = tk := ⟨_, rfl⟩
        rw [htk] at e1 e2 e3 e4 e5 e6 e7 e8 hC
        have E3 := Lib.hid e3
        have E4 := Lib.hid e4
        have E8 := Lib.hid e8
        have HC := Lib.hid hC
        clear e3 e4 e8 htk hC
        obtain ⟨wo, hwo⟩ : ∃ wo : World, wo = wr := ⟨_, rfl⟩
        subst hwo
        go_wp2_with (first | ((with_reducible refine wpTxt_q ?_ ?_ ?_); rfl; rfl; intro _ _) | ((with_reducible refine wpTxt_w0 ?_ ?_ ?_); rfl; rfl; intro _ _) | ((with_reducible refine wpTxt_s ?_ ?_); rfl; intro _ _; go_simp) | ((with_reducible refine wpTxt_sw ?_ ?_); rfl; intro _ _; go_simp) | (with_reducible refine wpTxt_nil ?_) | ((with_reducible refine wp_region_t mixed ?_ ?_); decide +kernel; intro _ _))
        go_loopw [5] (fun i wi => ∃ j : Nat, i = .int .i64 j ∧ j ≤ tk.off ∧ Hid (Below wo.heap.size wo wi)) (fun i _ => tk.off - (intOf i).toNat)
        case atStart => exact ⟨ii, rfl, e1, Below.refl _ _⟩
        case round =>
          obtain ⟨j, rfl, hj, HBi⟩ := hrel
          have HCi := Lib.hid (cell_5 HC.out HBi.out)
          by_cases hjt : j < tk.off
          · have hjs : j < s.size := by omega
            have hbe := loc_ne (l := s.data.toList) hjt (by rw [sz]; exact e2)
            by_cases hl1 : (loc s.data.toList j).1 = (loc s.data.toList tk.off).1
            · have hl2 : ¬ (loc s.data.toList j).2 = (loc s.data.toList tk.off).2 := by unfold Before at hbe; omega
              obtain ⟨b1, b2⟩ := kd_t hl1
              obtain ⟨b3, b4⟩ := kd_f hl2
              clear hbe hl1 hl2
              go_upto_region 10 with fail
              refine wp_region_e (spOf [(7, spVal (.agg #[.int .i64 (loc s.data.toList j).1, .int .i64 (loc s.data.toList j).2]))]) [0, 1, 2, 3, 4, 5, 6, 7, 8, 9, 10, 11, 12, 13, 14] [] mixed ?_ ?_
              · decide +kernel
              · intro K ws hws hK
                have hxw := Lib.hid (show Below wo.heap.size wo ws by rw [hws]; exact HBi.out.drew)
                have HX := Lib.hid (cell_5 HC.out hxw.out)
                clear hws
                dsimp only [pickE, pickL, List.getElem?_cons_succ, List.getElem?_cons_zero] at hK ⊢
                go_wp2_with (first | ((with_reducible refine wpE_q ?_ ?_ ?_); rfl; rfl; intro wq hq _ _; obtain ⟨x0, x1, x2, x3, -⟩ := cell_5 HX.out hq) | ((with_reducible refine wpE_s ?_ ?_); rfl; intro wq hq _ _; obtain ⟨x0, x1, x2, x3, -⟩ := cell_5 HX.out hq; go_simp))
                refine wpE_w (spVal (.agg #[.int .i64 (loc s.data.toList j).1, .int .i64 (loc s.data.toList j).2])) _ rfl rfl ?_ rfl rfl ⟨_, rfl⟩ ?_ ?_
                · go_simp
                · intro wq hq K2 hK2
                  go_wp2_with fail
                  refine (lc_at hs5 j (by omega) _).mono ?_
                  rintro e w' ⟨rfl, hb4⟩
                  go_wp2_with fail
                  exact good_val hb4
                rintro v rfl
                go_wp2_with (first | ((with_reducible refine wpE_q ?_ ?_ ?_); rfl; rfl; intro wq hq _ _; obtain ⟨x0, x1, x2, x3, -⟩ := cell_5 HX.out hq) | ((with_reducible refine wpE_s ?_ ?_); rfl; intro wq hq _ _; obtain ⟨x0, x1, x2, x3, -⟩ := cell_5 HX.out hq; go_simp))
                refine wpE_nil (fun w3 hx3 hΦ hfp hdis => ?_)
                have HB3 := Lib.hid (hxw.out.trans (Below.mono hx3 hxw.out.size))
                clear hΦ hfp hdis
                refine hK _ _ ?_
                clear hK
                go_simp
                go_wp2_with (first | ((with_reducible refine wpTxt_q ?_ ?_ ?_); rfl; rfl; intro _ _) | ((with_reducible refine wpTxt_w0 ?_ ?_ ?_); rfl; rfl; intro _ _) | ((with_reducible refine wpTxt_s ?_ ?_); rfl; intro _ _; go_simp) | ((with_reducible refine wpTxt_sw ?_ ?_); rfl; intro _ _; go_simp) | (with_reducible refine wpTxt_nil ?_) | ((with_reducible refine wp_region_t mixed ?_ ?_); decide +kernel; intro _ _))
                go_roundw
                case rel => exact ⟨j + 1, by go_num, by omega, HB3.out⟩
                case measure => simp [intOf]; omega
            · obtain ⟨b1, b2⟩ := kd_f hl1
              clear hbe hl1
              go_upto_region 10 with fail
              refine wp_region_e (spOf [(7, spVal (.agg #[.int .i64 (loc s.data.toList j).1, .int .i64 (loc s.data.toList j).2]))]) [0, 1, 2, 3, 4, 5, 6, 7, 8, 9, 10, 11, 12, 13, 14] [] mixed ?_ ?_
              · decide +kernel
              · intro K ws hws hK
                have hxw := Lib.hid (show Below wo.heap.size wo ws by rw [hws]; exact HBi.out.drew)
                have HX := Lib.hid (cell_5 HC.out hxw.out)
                clear hws
                dsimp only [pickE, pickL, List.getElem?_cons_succ, List.getElem?_cons_zero] at hK ⊢
                go_wp2_with (first | ((with_reducible refine wpE_q ?_ ?_ ?_); rfl; rfl; intro wq hq _ _; obtain ⟨x0, x1, x2, x3, -⟩ := cell_5 HX.out hq) | ((with_reducible refine wpE_s ?_ ?_); rfl; intro wq hq _ _; obtain ⟨x0, x1, x2, x3, -⟩ := cell_5 HX.out hq; go_simp))
                refine wpE_w (spVal (.agg #[.int .i64 (loc s.data.toList j).1, .int .i64 (loc s.data.toList j).2])) _ rfl rfl ?_ rfl rfl ⟨_, rfl⟩ ?_ ?_
                · go_simp
                · intro wq hq K2 hK2
                  go_wp2_with fail
                  refine (lc_at hs5 j (by omega) _).mono ?_
                  rintro e w' ⟨rfl, hb4⟩
                  go_wp2_with fail
                  exact good_val hb4
                rintro v rfl
                go_wp2_with (first | ((with_reducible refine wpE_q ?_ ?_ ?_); rfl; rfl; intro wq hq _ _; obtain ⟨x0, x1, x2, x3, -⟩ := cell_5 HX.out hq) | ((with_reducible refine wpE_s ?_ ?_); rfl; intro wq hq _ _; obtain ⟨x0, x1, x2, x3, -⟩ := cell_5 HX.out hq; go_simp))
                refine wpE_nil (fun w3 hx3 hΦ hfp hdis => ?_)
                have HB3 := Lib.hid (hxw.out.trans (Below.mono hx3 hxw.out.size))
                clear hΦ hfp hdis
                refine hK _ _ ?_
                clear hK
                go_simp
                go_wp2_with (first | ((with_reducible refine wpTxt_q ?_ ?_ ?_); rfl; rfl; intro _ _) | ((with_reducible refine wpTxt_w0 ?_ ?_ ?_); rfl; rfl; intro _ _) | ((with_reducible refine wpTxt_s ?_ ?_); rfl; intro _ _; go_simp) | ((with_reducible refine wpTxt_sw ?_ ?_); rfl; intro _ _; go_simp) | (with_reducible refine wpTxt_nil ?_) | ((with_reducible refine wp_region_t mixed ?_ ?_); decide +kernel; intro _ _))
                go_roundw
                case rel => exact ⟨j + 1, by go_num, by omega, HB3.out⟩
                case measure => simp [intOf]; omega
          · have hjo : j = tk.off := by omega
            subst hjo
            by_cases hjs : tk.off < s.size
            · obtain ⟨hkd, hkl, hnx⟩ : ¬ tk.kind = 0 ∧ kk + 1 < us.length ∧ Hid (Placed s.data.toList (tk.off + tk.text.length) (us.drop (kk + 1))) := by
                rcases E8.out with ⟨_, _, _, h⟩ | ⟨h1, h2, _, h3⟩
                · rw [hsl.out] at h; omega
                · exact ⟨h1, h2, h3⟩
              obtain ⟨k1, k2⟩ := kd_f hkd
              obtain ⟨k3, k4⟩ := kd_f (show ¬ (kk : Int) = (us.length : Int) - 1 by omega)
              clear hkd
              have b1 := (kd_t (rfl : (loc s.data.toList tk.off).1 = (loc s.data.toList tk.off).1)).1
              go_upto_region 10 with fail
              refine wp_region_e (spOf [(7, spVal (.agg #[.int .i64 (loc s.data.toList tk.off).1, .int .i64 (loc s.data.toList tk.off).2]))]) [0, 1, 2, 3, 4, 5, 6, 7, 8, 9, 10, 11, 12, 13, 14] [] mixed ?_ ?_
              · decide +kernel
              · intro K ws hws hK
                have hxw := Lib.hid (show Below wo.heap.size wo ws by rw [hws]; exact HBi.out.drew)
                have HX := Lib.hid (cell_5 HC.out hxw.out)
                clear hws
                dsimp only [pickE, pickL, List.getElem?_cons_succ, List.getElem?_cons_zero] at hK ⊢
                go_wp2_with (first | ((with_reducible refine wpE_q ?_ ?_ ?_); rfl; rfl; intro wq hq _ _; obtain ⟨x0, x1, x2, x3, -⟩ := cell_5 HX.out hq) | ((with_reducible refine wpE_s ?_ ?_); rfl; intro wq hq _ _; obtain ⟨x0, x1, x2, x3, -⟩ := cell_5 HX.out hq; go_simp))
                refine wpE_w (spVal (.agg #[.int .i64 (loc s.data.toList tk.off).1, .int .i64 (loc s.data.toList tk.off).2])) _ rfl rfl ?_ rfl rfl ⟨_, rfl⟩ ?_ ?_
                · go_simp
                · intro wq hq K2 hK2
                  go_wp2_with fail
                  refine (lc_at hs5 tk.off (by omega) _).mono ?_
                  rintro e w' ⟨rfl, hb4⟩
                  go_wp2_with fail
                  exact good_val hb4
                rintro v rfl
                go_wp2_with (first | ((with_reducible refine wpE_q ?_ ?_ ?_); rfl; rfl; intro wq hq _ _; obtain ⟨x0, x1, x2, x3, -⟩ := cell_5 HX.out hq) | ((with_reducible refine wpE_s ?_ ?_); rfl; intro wq hq _ _; obtain ⟨x0, x1, x2, x3, -⟩ := cell_5 HX.out hq; go_simp))
                refine wpE_nil (fun w3 hx3 hΦ hfp hdis => ?_)
                have HB3 := Lib.hid (hxw.out.trans (Below.mono hx3 hxw.out.size))
                clear hΦ hfp hdis
                refine hK _ _ ?_
                clear hK
                go_simp
                have HC3 := Lib.hid (cell_5 HC.out HB3.out)
                go_upto_region 12 with (first | ((with_reducible refine wpTxt_q ?_ ?_ ?_); rfl; rfl; intro _ _) | ((with_reducible refine wpTxt_w0 ?_ ?_ ?_); rfl; rfl; intro _ _) | ((with_reducible refine wpTxt_s ?_ ?_); rfl; intro _ _; go_simp) | ((with_reducible refine wpTxt_sw ?_ ?_); rfl; intro _ _; go_simp) | (with_reducible refine wpTxt_nil ?_) | ((with_reducible refine wp_region_t mixed ?_ ?_); decide +kernel; intro _ _))
                refine wp_region_e (spOf [(2, spVal (.agg #[.int .i64 (loc s.data.toList tk.off).1, .int .i64 (loc s.data.toList tk.off).2])), (14, spVal (.bool true)), (24, spVal (.bool true))]) [0, 1, 2, 3, 4, 5, 6, 7, 8, 9, 10, 11, 12, 13, 14, 15, 16, 17, 18, 19, 20, 21, 22, 23, 24, 25, 26, 27, 28, 29, 30, 31, 32, 33, 34, 35, 36, 37, 38, 39, 40] [] mixed ?_ ?_
                · decide +kernel
                · intro K ws2 hws hK
                  have hxw2 := Lib.hid (show Below wo.heap.size wo ws2 by rw [hws]; exact HB3.out.drew)
                  have HX2 := Lib.hid (cell_5 HC.out hxw2.out)
                  clear hws
                  dsimp only [pickE, pickL, List.getElem?_cons_succ, List.getElem?_cons_zero] at hK ⊢
                  go_wp2_with (first | ((with_reducible refine wpE_q ?_ ?_ ?_); rfl; rfl; intro wq hq _ _; obtain ⟨x0, x1, x2, x3, -⟩ := cell_5 HX2.out hq) | ((with_reducible refine wpE_s ?_ ?_); rfl; intro wq hq _ _; obtain ⟨x0, x1, x2, x3, -⟩ := cell_5 HX2.out hq; go_simp))
                  refine wpE_w (spVal (.agg #[.int .i64 (loc s.data.toList tk.off).1, .int .i64 (loc s.data.toList tk.off).2])) _ rfl rfl rfl rfl rfl ⟨_, rfl⟩ ?_ ?_
                  · intro wq hq K2 hK2
                    go_wp2_with fail
                    refine (lc_at hs5 tk.off e2 _).mono ?_
                    rintro e w' ⟨rfl, hb4⟩
                    go_wp2_with fail
                    exact good_val hb4
                  rintro v rfl
                  go_wp2_with (first | ((with_reducible refine wpE_q ?_ ?_ ?_); rfl; rfl; intro wq hq _ _; obtain ⟨x0, x1, x2, x3, -⟩ := cell_5 HX2.out hq) | ((with_reducible refine wpE_s ?_ ?_); rfl; intro wq hq _ _; obtain ⟨x0, x1, x2, x3, -⟩ := cell_5 HX2.out hq; go_simp))
                  refine wpE_w (spVal (.bool true)) _ rfl rfl ?_ rfl rfl ⟨_, rfl⟩ ?_ ?_
                  · go_simp
                  · intro wq hq K2 hK2
                    go_wp2_with fail
                    refine (tCheck_yes tk _ _ _ (by unfold maxLen; omega) E3.out).mono ?_
                    rintro e w' ⟨rfl, hb4⟩
                    go_wp2_with fail
                    exact good_val hb4
                  rintro v rfl
                  go_wp2_with (first | ((with_reducible refine wpE_q ?_ ?_ ?_); rfl; rfl; intro wq hq _ _; obtain ⟨x0, x1, x2, x3, -⟩ := cell_5 HX2.out hq) | ((with_reducible refine wpE_s ?_ ?_); rfl; intro wq hq _ _; obtain ⟨x0, x1, x2, x3, -⟩ := cell_5 HX2.out hq; go_simp))
                  refine wpE_w (spVal (.bool true)) _ rfl rfl ?_ rfl rfl ⟨_, rfl⟩ ?_ ?_
                  · go_simp
                  · intro wq hq K2 hK2
                    go_wp2_with fail
                    refine (stands_at tk _ _ s tk.off _ hs5 E4.out e5).mono ?_
                    rintro e w' ⟨rfl, hb4⟩
                    go_wp2_with fail
                    exact good_val hb4
                  rintro v rfl
                  go_wp2_with (first | ((with_reducible refine wpE_q ?_ ?_ ?_); rfl; rfl; intro wq hq _ _; obtain ⟨x0, x1, x2, x3, -⟩ := cell_5 HX2.out hq) | ((with_reducible refine wpE_s ?_ ?_); rfl; intro wq hq _ _; obtain ⟨x0, x1, x2, x3, -⟩ := cell_5 HX2.out hq; go_simp))
                  refine wpE_nil (fun w5 hx5 hΦ hfp hdis => ?_)
                  have HB5 := Lib.hid (hxw2.out.trans (Below.mono hx5 hxw2.out.size))
                  clear hΦ hfp hdis
                  obtain ⟨y0, y1, y2, y3, -⟩ := cell_5 HC.out HB5.out
                  refine hK _ _ ?_
                  clear hK
                  go_simp
                  go_wp2_with (first | ((with_reducible refine wpTxt_q ?_ ?_ ?_); rfl; rfl; intro _ _) | ((with_reducible refine wpTxt_w0 ?_ ?_ ?_); rfl; rfl; intro _ _) | ((with_reducible refine wpTxt_s ?_ ?_); rfl; intro _ _; go_simp) | ((with_reducible refine wpTxt_sw ?_ ?_); rfl; intro _ _; go_simp) | (with_reducible refine wpTxt_nil ?_) | ((with_reducible refine wp_region_t mixed ?_ ?_); decide +kernel; intro _ _))
                  go_roundw
                  case rel => exact ⟨kk + 1, tk.off + tk.text.length, by go_num, by first | go_num | rfl, by omega, by rw [hsl.out]; exact e6, fun _ => hnx.out, fun h => by omega, HB.out.trans (HB5.out.mono HB.out.size)⟩
                  case measure => simp [intOf]; omega
            · obtain ⟨hkd, hkl, hnx⟩ : tk.kind = 0 ∧ kk + 1 = us.length ∧ Hid (tk.off + tk.text.length = s.size) := by
                rcases E8.out with ⟨h1, h2, h, _⟩ | ⟨_, _, h3, _⟩
                · rw [hsl.out] at h; exact ⟨h1, h2, h⟩
                · rw [hsl.out] at h3; omega
              obtain ⟨k1, k2⟩ := kd_t hkd
              obtain ⟨k3, k4⟩ := kd_t (show (kk : Int) = (us.length : Int) - 1 by omega)
              have hkl2 : us.length ≤ kk + 1 := by omega
              clear hkd hkl
              go_upto_region 10 with fail
              refine wp_region_e (spOf [(7, spVal (.agg #[.int .i64 (loc s.data.toList tk.off).1, .int .i64 (loc s.data.toList tk.off).2]))]) [0, 1, 2, 3, 4, 5, 6, 7, 8, 9, 10, 11, 12, 13, 14] [] mixed ?_ ?_
              · decide +kernel
              · intro K ws hws hK
                have hxw := Lib.hid (show Below wo.heap.size wo ws by rw [hws]; exact HBi.out.drew)
                have HX := Lib.hid (cell_5 HC.out hxw.out)
                clear hws
                dsimp only [pickE, pickL, List.getElem?_cons_succ, List.getElem?_cons_zero] at hK ⊢
                go_wp2_with (first | ((with_reducible refine wpE_q ?_ ?_ ?_); rfl; rfl; intro wq hq _ _; obtain ⟨x0, x1, x2, x3, -⟩ := cell_5 HX.out hq) | ((with_reducible refine wpE_s ?_ ?_); rfl; intro wq hq _ _; obtain ⟨x0, x1, x2, x3, -⟩ := cell_5 HX.out hq; go_simp))
                refine wpE_no ?_ ?_
                · go_simp
                go_wp2_with (first | ((with_reducible refine wpE_q ?_ ?_ ?_); rfl; rfl; intro wq hq _ _; skip) | ((with_reducible refine wpE_s ?_ ?_); rfl; intro wq hq _ _; skip; go_simp))
                refine wpE_nil (fun w3 hx3 hΦ hfp hdis => ?_)
                have HB3 := Lib.hid (hxw.out.trans (Below.mono hx3 hxw.out.size))
                clear hΦ hfp hdis
                refine hK _ _ ?_
                clear hK
                go_simp
                have HC3 := Lib.hid (cell_5 HC.out HB3.out)
                go_upto_region 12 with (first | ((with_reducible refine wpTxt_q ?_ ?_ ?_); rfl; rfl; intro _ _) | ((with_reducible refine wpTxt_w0 ?_ ?_ ?_); rfl; rfl; intro _ _) | ((with_reducible refine wpTxt_s ?_ ?_); rfl; intro _ _; go_simp) | ((with_reducible refine wpTxt_sw ?_ ?_); rfl; intro _ _; go_simp) | (with_reducible refine wpTxt_nil ?_) | ((with_reducible refine wp_region_t mixed ?_ ?_); decide +kernel; intro _ _))
                refine wp_region_e (spOf [(2, spVal (.agg #[.int .i64 (loc s.data.toList tk.off).1, .int .i64 (loc s.data.toList tk.off).2])), (14, spVal (.bool true)), (24, spVal (.bool true))]) [0, 1, 2, 3, 4, 5, 6, 7, 8, 9, 10, 11, 12, 13, 14, 15, 16, 17, 18, 19, 20, 21, 22, 23, 24, 25, 26, 27, 28, 29, 30, 31, 32, 33, 34, 35, 36, 37, 38, 39, 40] [] mixed ?_ ?_
                · decide +kernel
                · intro K ws2 hws hK
                  have hxw2 := Lib.hid (show Below wo.heap.size wo ws2 by rw [hws]; exact HB3.out.drew)
                  have HX2 := Lib.hid (cell_5 HC.out hxw2.out)
                  clear hws
                  dsimp only [pickE, pickL, List.getElem?_cons_succ, List.getElem?_cons_zero] at hK ⊢
                  go_wp2_with (first | ((with_reducible refine wpE_q ?_ ?_ ?_); rfl; rfl; intro wq hq _ _; obtain ⟨x0, x1, x2, x3, -⟩ := cell_5 HX2.out hq) | ((with_reducible refine wpE_s ?_ ?_); rfl; intro wq hq _ _; obtain ⟨x0, x1, x2, x3, -⟩ := cell_5 HX2.out hq; go_simp))
                  refine wpE_w (spVal (.agg #[.int .i64 (loc s.data.toList tk.off).1, .int .i64 (loc s.data.toList tk.off).2])) _ rfl rfl rfl rfl rfl ⟨_, rfl⟩ ?_ ?_
                  · intro wq hq K2 hK2
                    go_wp2_with fail
                    refine (lc_at hs5 tk.off e2 _).mono ?_
                    rintro e w' ⟨rfl, hb4⟩
                    go_wp2_with fail
                    exact good_val hb4
                  rintro v rfl
                  go_wp2_with (first | ((with_reducible refine wpE_q ?_ ?_ ?_); rfl; rfl; intro wq hq _ _; obtain ⟨x0, x1, x2, x3, -⟩ := cell_5 HX2.out hq) | ((with_reducible refine wpE_s ?_ ?_); rfl; intro wq hq _ _; obtain ⟨x0, x1, x2, x3, -⟩ := cell_5 HX2.out hq; go_simp))
                  refine wpE_w (spVal (.bool true)) _ rfl rfl ?_ rfl rfl ⟨_, rfl⟩ ?_ ?_
                  · go_simp
                  · intro wq hq K2 hK2
                    go_wp2_with fail
                    refine (tCheck_yes tk _ _ _ (by unfold maxLen; omega) E3.out).mono ?_
                    rintro e w' ⟨rfl, hb4⟩
                    go_wp2_with fail
                    exact good_val hb4
                  rintro v rfl
                  go_wp2_with (first | ((with_reducible refine wpE_q ?_ ?_ ?_); rfl; rfl; intro wq hq _ _; obtain ⟨x0, x1, x2, x3, -⟩ := cell_5 HX2.out hq) | ((with_reducible refine wpE_s ?_ ?_); rfl; intro wq hq _ _; obtain ⟨x0, x1, x2, x3, -⟩ := cell_5 HX2.out hq; go_simp))
                  refine wpE_w (spVal (.bool true)) _ rfl rfl ?_ rfl rfl ⟨_, rfl⟩ ?_ ?_
                  · go_simp
                  · intro wq hq K2 hK2
                    go_wp2_with fail
                    refine (stands_at tk _ _ s tk.off _ hs5 E4.out e5).mono ?_
                    rintro e w' ⟨rfl, hb4⟩
                    go_wp2_with fail
                    exact good_val hb4
                  rintro v rfl
                  go_wp2_with (first | ((with_reducible refine wpE_q ?_ ?_ ?_); rfl; rfl; intro wq hq _ _; obtain ⟨x0, x1, x2, x3, -⟩ := cell_5 HX2.out hq) | ((with_reducible refine wpE_s ?_ ?_); rfl; intro wq hq _ _; obtain ⟨x0, x1, x2, x3, -⟩ := cell_5 HX2.out hq; go_simp))
                  refine wpE_nil (fun w5 hx5 hΦ hfp hdis => ?_)
                  have HB5 := Lib.hid (hxw2.out.trans (Below.mono hx5 hxw2.out.size))
                  clear hΦ hfp hdis
                  obtain ⟨y0, y1, y2, y3, -⟩ := cell_5 HC.out HB5.out
                  refine hK _ _ ?_
                  clear hK
                  go_simp
                  go_wp2_with (first | ((with_reducible refine wpTxt_q ?_ ?_ ?_); rfl; rfl; intro _ _) | ((with_reducible refine wpTxt_w0 ?_ ?_ ?_); rfl; rfl; intro _ _) | ((with_reducible refine wpTxt_s ?_ ?_); rfl; intro _ _; go_simp) | ((with_reducible refine wpTxt_sw ?_ ?_); rfl; intro _ _; go_simp) | (with_reducible refine wpTxt_nil ?_) | ((with_reducible refine wp_region_t mixed ?_ ?_); decide +kernel; intro _ _))
                  go_roundw
                  case rel => exact ⟨kk + 1, tk.off + tk.text.length, by go_num, by first | go_num | rfl, by omega, by rw [hsl.out]; exact e6, fun h => by omega, fun _ => by rw [hsl.out]; exact hnx.out, HB.out.trans (HB5.out.mono HB.out.size)⟩
                  case measure => simp [intOf]; omega
      · have hkn : kk = us.length := by omega
        subst hkn
        have hin := HP2.out rfl
        rw [hsl.out] at hin
        subst hin
        go_wp2_with (first | ((with_reducible refine wpTxt_q ?_ ?_ ?_); rfl; rfl; intro _ _) | ((with_reducible refine wpTxt_w0 ?_ ?_ ?_); rfl; rfl; intro _ _) | ((with_reducible refine wpTxt_s ?_ ?_); rfl; intro _ _; go_simp) | ((with_reducible refine wpTxt_sw ?_ ?_); rfl; intro _ _; go_simp) | (with_reducible refine wpTxt_nil ?_) | ((with_reducible refine wp_region_t mixed ?_ ?_); decide +kernel; intro _ _) | (go_at_call 13; ((with_reducible refine (awake_any _).mono ?_); rintro e w9 ⟨rfl, hb9⟩)))
        go_ret
        exact bpost rfl (HB0.out.trans ((HB.out.trans (hb9.mono HB.out.size)).mono HB0.out.size))
end Go.Proofs.Ytffflmghfcgkfaa
