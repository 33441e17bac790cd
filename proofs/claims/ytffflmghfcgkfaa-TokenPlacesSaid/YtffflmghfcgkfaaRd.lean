/- The walk of the reference's Scan: what it returns is scanS. -/
import Derived.Test.YtffflmghfcgkfaaRc
import Derived.Test.YtffflmghfcgkfaaC3
import Derived.Deep.Cut
import Derived.Outline
set_option linter.unusedSimpArgs false
set_option linter.unusedVariables false
namespace Go.Proofs.Ytffflmghfcgkfaa
open Go.RowKit Tk

theorem oneR_off (l : List UInt8) (c : Int) (off : Nat) (h : oneR l = .err c off) : off ≤ l.length := by
  unfold oneR nameR numR textR markR at h
  split at h
  · split at h
    · injection h with h1 h2; omega
    · cases h
  · split at h
    · split at h
      · injection h with h1 h2; omega
      · split at h
        · injection h with h1 h2; omega
        · cases h
    · split at h
      · split at h
        · injection h with h1 h2; omega
        · split at h
          · rename_i h3 _
            rw [List.length_drop] at h3
            injection h with h1 h2; omega
          · split at h
            · injection h with h1 h2; omega
            · cases h
      · split at h
        · injection h with h1 h2; omega
        · cases h
theorem rLocate_nat (src : ByteArray) (i : Int) (n : Nat) (hi : i = n) (w : World) (hs : src.size ≤ 65536) (h : n ≤ src.size) : Calls Try.prog 27 #[.string src, .int .i64 i] w fun e w' =>
    e = .returned (.agg #[.int .i64 (loc src.data.toList n).1, .int .i64 (loc src.data.toList n).2]) ∧ Below w.heap.size w w' := by
  subst hi
  refine (rLocate_any src n w hs (by omega)).mono fun e w' h' => ?_
  unfold LocPost at h'
  rwa [locI_in h] at h'
theorem rOne_err (src : ByteArray) (k : Nat) (w : World) (hs : src.size ≤ 65536) (hk : k < src.size) (c : Int) (off : Nat) (ho : oneR (src.data.toList.drop k) = .err c off) : Calls Try.prog 37 #[.string src, .int .i64 k] w fun e w' =>
    ∃ x y : Int, e = .returned (.tuple #[.int .i64 x, .int .i64 y, .int .i64 c, .int .i64 ((k + off : Nat) : Int)]) ∧ w = w' :=
  (rOne_any src k w hs hk).mono fun e w' ⟨x, y, h1, h2⟩ => ⟨x, y, by rw [h1, ho]; rfl, h2⟩
theorem rOne_ok (src : ByteArray) (k : Nat) (w : World) (hs : src.size ≤ 65536) (hk : k < src.size) (kd : Int) (n : Nat) (ho : oneR (src.data.toList.drop k) = .ok kd n) : Calls Try.prog 37 #[.string src, .int .i64 k] w fun e w' =>
    e = .returned (.tuple #[.int .i64 kd, .int .i64 ((k + n : Nat) : Int), .int .i64 0, .int .i64 0]) ∧ w = w' :=
  (rOne_any src k w hs hk).mono fun e w' ⟨x, y, h1, h2⟩ => ⟨by rw [h1, ho]; rfl, h2⟩
theorem rskip_zero (src : ByteArray) (w : World) (hs : src.size ≤ 65536) :
    Calls Try.prog 36 #[.string src, .int .i64 0] w fun e w' => e = .returned (.int .i64 ((0 + Tk.skipL false (src.data.toList.drop 0) : Nat) : Int)) ∧ w = w' := rskip_any src 0 w hs (by omega)

/-- what holds ahead of a round -/
def RefRel (src : ByteArray) (w : World) (v i : Value) (wr : World) : Prop :=
  ∃ (k k1 f : Nat) (acc : List Tok), k ≤ src.size ∧ i = .int .i64 k1 ∧ Hid (k1 = k + skipL false (src.data.toList.drop k)) ∧ Hid (src.size < k + f) ∧ Hid (acc.length ≤ k) ∧ Hid (SR.add acc (scanF src f k) = scanF src (src.size + 1) 0) ∧
    Hid (wr.ownsRow (w.heap.size + 1) 34 4 v acc.length (cellsT acc)) ∧
    Hid (Blk wr w.heap.size 28 #[.int .i64 0, .int .i64 0, .int .i64 0, .string ⟨#[]⟩]) ∧ Hid (Below w.heap.size w wr)

theorem oneR_3 (l : List UInt8) (kd : Int) (n : Nat) (h : oneR l = .ok kd n) (h3 : kd = 3) : 2 ≤ n := by
  unfold oneR nameR numR textR markR at h
  split at h
  · split at h
    · cases h
    · injection h with h1 h2; omega
  · split at h
    · split at h
      · cases h
      · split at h
        · cases h
        · injection h with h1 h2; omega
    · split at h
      · split at h
        · cases h
        · split at h
          · cases h
          · split at h
            · cases h
            · injection h with h1 h2; omega
      · split at h
        · cases h
        · injection h with h1 h2; omega
theorem rskip_nat (src : ByteArray) (i : Int) (n : Nat) (hi : i = n) (w : World) (hs : src.size ≤ 65536) (h : n ≤ src.size) :
    Calls Try.prog 36 #[.string src, .int .i64 i] w fun e w' => e = .returned (.int .i64 ((n + Tk.skipL false (src.data.toList.drop n) : Nat) : Int)) ∧ w = w' := by subst hi; exact rskip_any src n w hs h
set_option maxHeartbeats 1000000 in
theorem rScan_any (src : ByteArray) (w : World) : Calls Try.prog 15 #[.string src] w (ScanPost src w) := by
  by_cases hs : 65536 < src.size
  · have e0 : scanS src = .err 4 (0, 0) := by unfold scanS; rw [if_pos hs]
    have E0 := Lib.hid e0
    clear e0
    go_enter Try.func15, Try.ntmps15
    go_wp2_with (first | ((with_reducible refine wpTxt_q ?_ ?_ ?_); rfl; rfl; intro _ _) | ((with_reducible refine wpTxt_w0 ?_ ?_ ?_); rfl; rfl; intro _ _) | ((with_reducible refine wpTxt_s ?_ ?_); rfl; intro _ _; go_simp) | ((with_reducible refine wpTxt_sw ?_ ?_); rfl; intro _ _; go_simp) | (with_reducible refine wpTxt_nil ?_) | ((with_reducible refine wp_region_t mixed ?_ ?_); decide +kernel; intro _ _))
    refine bodyPost_ret (v := .tuple #[.slice none 0 0, flt 4 0 0]) (by simp [results, Try.f15, go_sem]) rfl ?_
    unfold ScanPost
    rw [E0.out]
    refine ⟨rfl, ?_⟩
    (repeat (first | with_reducible assumption | with_reducible exact Below.refl _ _ | ((with_reducible refine Below.setCell ?_ ?_ _); rotate_left; (· first | omega | (simp only [World.size_alloc, World.size_drew, World.size_setCell]; omega))) | ((with_reducible refine Below.alloc ?_ ?_ _); rotate_left; (· first | omega | (simp only [World.size_alloc, World.size_drew, World.size_setCell]; omega))) | ((with_reducible refine Below.drewN' ?_ _)) | ((with_reducible refine Below.drew ?_))))
  · have hs : src.size ≤ 65536 := by omega
    obtain ⟨i0, hi, iz0, iz1, iz2⟩ := info_parts info_tok
    obtain ⟨k0, HK⟩ : ∃ k0, Hid (0 + Tk.skipL false (src.data.toList.drop 0) = k0) := ⟨_, rfl⟩
    go_enter Try.func15, Try.ntmps15
    go_wp2_with (first | ((with_reducible refine wpTxt_q ?_ ?_ ?_); rfl; rfl; intro _ _) | ((with_reducible refine wpTxt_w0 ?_ ?_ ?_); rfl; rfl; intro _ _) | ((with_reducible refine wpTxt_s ?_ ?_); rfl; intro _ _; go_simp) | ((with_reducible refine wpTxt_sw ?_ ?_); rfl; intro _ _; go_simp) | (with_reducible refine wpTxt_nil ?_) | ((with_reducible refine wp_region_t mixed ?_ ?_); decide +kernel; intro _ _) | (go_at_call 36; ((with_reducible refine (rskip_zero src _ hs).mono ?_); rintro e w' ⟨rfl, rfl⟩; rw [HK.out])))
    go_loopw [4, 5] (fun v i wr => RefRel src w v i wr) (fun _ i _ => src.size - (intOf i).toNat)
    case atStart =>
      refine ⟨0, k0, src.size + 1, [], by omega, rfl, HK.out.symm, ?_, Nat.le_refl _, SR.add_nil _, World.ownsRow_nil _ _ _ _, Blk.fresh _ _ _, ?_⟩
      · show src.size < 0 + (src.size + 1); omega
      · show Below _ _ _; (repeat (first | with_reducible assumption | with_reducible exact Below.refl _ _ | ((with_reducible refine Below.setCell ?_ ?_ _); rotate_left; (· first | omega | (simp only [World.size_alloc, World.size_drew, World.size_setCell]; omega))) | ((with_reducible refine Below.alloc ?_ ?_ _); rotate_left; (· first | omega | (simp only [World.size_alloc, World.size_drew, World.size_setCell]; omega))) | ((with_reducible refine Below.drewN' ?_ _)) | ((with_reducible refine Below.drew ?_))))
    case round =>
      obtain ⟨k, k1, f, acc, hk, rfl, HK, hf, ha, hR, hO, hF, hL⟩ := hrel
      by_cases hle : src.size ≤ k1
      · have hlt : ¬ k1 < src.size := by omega
        go_wp2_with (first | (at_builtin; refine wpList_append_own _ rfl _ _ 23 rfl (w.heap.size + 1) 34 i0 _ 4 40 und_toks hi iz0 iz1 iz2 rfl (by decide) u4 acc.length (cellsT acc) rfl ?c0 _ 1 1 [.int .i64 0, .string ⟨#[]⟩, .int .i64 (loc src.data.toList src.size).1, .int .i64 (loc src.data.toList src.size).2] rfl rfl ?c1 ?c2 ?c3 ?c4 ?c5 ?_) | ((with_reducible refine wpTxt_q ?_ ?_ ?_); rfl; rfl; intro _ _) | ((with_reducible refine wpTxt_w0 ?_ ?_ ?_); rfl; rfl; intro _ _) | ((with_reducible refine wpTxt_s ?_ ?_); rfl; intro _ _; go_simp) | ((with_reducible refine wpTxt_sw ?_ ?_); rfl; intro _ _; go_simp) | (with_reducible refine wpTxt_nil ?_) | ((with_reducible refine wp_region_t mixed ?_ ?_); decide +kernel; intro _ _) | (go_at_call 27; ((with_reducible refine (rLocate_nat src _ src.size rfl _ hs ?_).mono ?_); (· omega); rintro e w1 ⟨rfl, hb1⟩; have hF1 : Blk w1 _ _ _ := Blk.low hF.out hb1; have hz1 := hF1.lt)))
        case c0 => exact own_below (own_below hO.out hb1) (by (repeat (first | with_reducible assumption | with_reducible exact Below.refl _ _ | ((with_reducible refine Below.setCell ?_ ?_ _); rotate_left; (· first | omega | (simp only [World.size_alloc, World.size_drew, World.size_setCell]; omega))) | ((with_reducible refine Below.alloc ?_ ?_ _); rotate_left; (· first | omega | (simp only [World.size_alloc, World.size_drew, World.size_setCell]; omega))) | ((with_reducible refine Below.drewN' ?_ _)) | ((with_reducible refine Below.drew ?_)))))
        case c1 => intro j u hj; exact fresh_cells _ _ _ j u hj
        case c2 => intro u hu; simp at hu; rcases hu with rfl | rfl | rfl | rfl <;> rfl
        case c3 => have := ha.out; unfold maxLen; omega
        case c4 => have := ha.out; omega
        case c5 => simp; omega
        · intro v' w3 hown hgrow _
          have hF3 : Blk w3 _ _ _ := Blk.grown (Blk.low hF1 (by (repeat (first | with_reducible assumption | with_reducible exact Below.refl _ _ | ((with_reducible refine Below.setCell ?_ ?_ _); rotate_left; (· first | omega | (simp only [World.size_alloc, World.size_drew, World.size_setCell]; omega))) | ((with_reducible refine Below.alloc ?_ ?_ _); rotate_left; (· first | omega | (simp only [World.size_alloc, World.size_drew, World.size_setCell]; omega))) | ((with_reducible refine Below.drewN' ?_ _)) | ((with_reducible refine Below.drew ?_)))))) hgrow (own_ne hO.out (by omega))
          obtain ⟨c0, c1, c2, c3, f0, f1, f2, f3⟩ := hF3.four
          have hz := hF3.lt
          go_wp2_with (first | ((with_reducible refine wpTxt_q ?_ ?_ ?_); rfl; rfl; intro _ _) | ((with_reducible refine wpTxt_w0 ?_ ?_ ?_); rfl; rfl; intro _ _) | ((with_reducible refine wpTxt_s ?_ ?_); rfl; intro _ _; go_simp) | ((with_reducible refine wpTxt_sw ?_ ?_); rfl; intro _ _; go_simp) | (with_reducible refine wpTxt_nil ?_) | ((with_reducible refine wp_region_t mixed ?_ ?_); decide +kernel; intro _ _))
          refine bodyPost_ret (v := .tuple #[v', flt 0 0 0]) (by simp [results, Try.f15, go_sem, c0, c1, c2, c3]) rfl ?_
          obtain ⟨f, rfl⟩ : ∃ f', f = f' + 1 := ⟨f - 1, by have := hf.out; omega⟩
          unfold ScanPost scanS
          rw [if_neg (by omega), ← hR.out, scanF_end HK.out hle]
          refine ⟨v', rfl, ?_, ?_⟩
          · simp only [List.length_append, List.length_cons, List.length_nil, Nat.zero_add]
            rw [cellsT_snoc]
            exact own_base (own_but hown (b := w.heap.size) (by (repeat (first | with_reducible assumption | with_reducible exact But.refl _ _ | ((with_reducible refine But.set ?_ ?_ _); rotate_left; (· first | exact Or.inl rfl | exact Or.inr (by first | omega | (simp only [World.size_alloc, World.size_drew, World.size_setCell]; omega)))) | ((with_reducible refine But.alloc ?_ _)) | ((with_reducible refine But.drewN ?_ _)) | ((with_reducible refine But.drew ?_))))) (by omega)) (by omega)
          · have hb2 : Below w.heap.size w w1 := hL.out.trans (hb1.mono hL.out.size)
            have hb3 : Below w.heap.size w w3 := Below.grown (by (repeat (first | with_reducible assumption | with_reducible exact Below.refl _ _ | ((with_reducible refine Below.setCell ?_ ?_ _); rotate_left; (· first | omega | (simp only [World.size_alloc, World.size_drew, World.size_setCell]; omega))) | ((with_reducible refine Below.alloc ?_ ?_ _); rotate_left; (· first | omega | (simp only [World.size_alloc, World.size_drew, World.size_setCell]; omega))) | ((with_reducible refine Below.drewN' ?_ _)) | ((with_reducible refine Below.drew ?_))))) hgrow (by simp; omega) (fun g hg => by have := (hO.out.lt g hg).1; omega)
            (repeat (first | with_reducible assumption | with_reducible exact Below.refl _ _ | ((with_reducible refine Below.setCell ?_ ?_ _); rotate_left; (· first | omega | (simp only [World.size_alloc, World.size_drew, World.size_setCell]; omega))) | ((with_reducible refine Below.alloc ?_ ?_ _); rotate_left; (· first | omega | (simp only [World.size_alloc, World.size_drew, World.size_setCell]; omega))) | ((with_reducible refine Below.drewN' ?_ _)) | ((with_reducible refine Below.drew ?_))))
      · have hlt : k1 < src.size := by omega
        obtain ⟨f, rfl⟩ : ∃ f', f = f' + 1 := ⟨f - 1, by have := hf.out; omega⟩
        cases ho : oneR (src.data.toList.drop k1) with
        | err c off =>
          have hc := oneR_err _ _ _ ho
          have hoff := oneR_off _ _ _ ho
          rw [List.length_drop, sz] at hoff
          have HO := Lib.hid ho
          clear ho
          go_wp2_with (first | ((with_reducible refine wpTxt_q ?_ ?_ ?_); rfl; rfl; intro _ _) | ((with_reducible refine wpTxt_w0 ?_ ?_ ?_); rfl; rfl; intro _ _) | ((with_reducible refine wpTxt_s ?_ ?_); rfl; intro _ _; go_simp) | ((with_reducible refine wpTxt_sw ?_ ?_); rfl; intro _ _; go_simp) | (with_reducible refine wpTxt_nil ?_) | ((with_reducible refine wp_region_t mixed ?_ ?_); decide +kernel; intro _ _) | (go_at_call 37; ((with_reducible refine (rOne_err src k1 _ hs hlt c off HO.out).mono ?_); rintro e w' ⟨x, y, rfl, rfl⟩)) | (go_at_call 27; ((with_reducible refine (rLocate_nat src _ (k1 + off) ?_ _ hs ?_).mono ?_); (· omega); (· omega); rintro e w1 ⟨rfl, hb1⟩; have hF1 : Blk w1 _ _ _ := Blk.low hF.out hb1; have hz1 := hF1.lt; obtain ⟨c0, c1, c2, c3, f0, f1, f2, f3⟩ := hF1.four)))
          refine bodyPost_ret (v := .tuple #[.slice none 0 0, flt c (loc src.data.toList (k1 + off)).1 (loc src.data.toList (k1 + off)).2]) (by simp [results, Try.f15, go_sem, c0, c1, c2, c3]) rfl ?_
          unfold ScanPost scanS
          rw [if_neg (by omega), ← hR.out, scanF_err HK.out hle HO.out]
          refine ⟨rfl, ?_⟩
          have hb2 : Below w.heap.size w w1 := hL.out.trans (hb1.mono hL.out.size)
          (repeat (first | with_reducible assumption | with_reducible exact Below.refl _ _ | ((with_reducible refine Below.setCell ?_ ?_ _); rotate_left; (· first | omega | (simp only [World.size_alloc, World.size_drew, World.size_setCell]; omega))) | ((with_reducible refine Below.alloc ?_ ?_ _); rotate_left; (· first | omega | (simp only [World.size_alloc, World.size_drew, World.size_setCell]; omega))) | ((with_reducible refine Below.drewN' ?_ _)) | ((with_reducible refine Below.drew ?_))))
        | ok kd n =>
          obtain ⟨hn0, hn1⟩ := oneR_ok _ _ _ (by rw [List.length_drop, sz]; omega) ho
          rw [List.length_drop, sz] at hn1
          obtain ⟨k2, HK2⟩ : ∃ k2, Hid ((k1 + n) + Tk.skipL false (src.data.toList.drop (k1 + n)) = k2) := ⟨_, rfl⟩
          have HO := Lib.hid ho
          clear ho
          go_wp2_with (first | ((with_reducible refine wpTxt_q ?_ ?_ ?_); rfl; rfl; intro _ _) | ((with_reducible refine wpTxt_w0 ?_ ?_ ?_); rfl; rfl; intro _ _) | ((with_reducible refine wpTxt_s ?_ ?_); rfl; intro _ _; go_simp) | ((with_reducible refine wpTxt_sw ?_ ?_); rfl; intro _ _; go_simp) | (with_reducible refine wpTxt_nil ?_) | ((with_reducible refine wp_region_t mixed ?_ ?_); decide +kernel; intro _ _) | (go_at_call 37; ((with_reducible refine (rOne_ok src k1 _ hs hlt kd n HO.out).mono ?_); rintro e w' ⟨rfl, rfl⟩)))
          refine wp_region_e (spOf [(7, spVal (.agg #[.int .i64 (loc src.data.toList k1).1, .int .i64 (loc src.data.toList k1).2])), (9, spNew 34 #[.int .i64 0, .string ⟨#[]⟩, .int .i64 0, .int .i64 0])]) [0, 1, 2, 3, 4, 5, 6, 7, 8, 9] [10] mixed ?_ ?_
          · decide +kernel
          · intro K ws hws hK
            have hxw : Ext wr ws := by rw [hws]; exact Ext.drew wr
            clear hws
            dsimp only [pickE, pickL, List.getElem?_cons_succ, List.getElem?_cons_zero] at hK ⊢
            go_wp2_with (first | ((with_reducible refine wpE_q ?_ ?_ ?_); rfl; rfl; intro wq hq _ _) | ((with_reducible refine wpE_s ?_ ?_); rfl; intro wq hq _ _; go_simp))
            refine wpE_w (spVal (.agg #[.int .i64 (loc src.data.toList k1).1, .int .i64 (loc src.data.toList k1).2])) _ rfl rfl rfl rfl rfl ⟨_, rfl⟩ ?_ ?_
            · intro wq hq K2 hK2
              go_wp2_with (go_at_call 27; ((with_reducible refine (rLocate_nat src _ k1 rfl _ hs ?_).mono ?_); (· omega); rintro e w1 ⟨rfl, hb1⟩))
              exact good_val hb1
            · rintro v rfl
              go_wp2_with (first | ((with_reducible refine wpE_q ?_ ?_ ?_); rfl; rfl; intro wq hq _ _) | ((with_reducible refine wpE_s ?_ ?_); rfl; intro wq hq _ _; go_simp))
              refine wpE_w (spNew 34 #[.int .i64 0, .string ⟨#[]⟩, .int .i64 0, .int .i64 0]) _ rfl rfl rfl rfl rfl ⟨_, 0, rfl⟩ ?_ ?_
              · intro wq hq K2 hK2
                go_wp2_with fail
                exact good_new _ _ _
              · rintro v ⟨b, rfl⟩
                refine wpE_nil (fun w1 hx hΦ hfp hdis => ?_)
                have hB : Blk w1 b 34 #[.int .i64 0, .string ⟨#[]⟩, .int .i64 0, .int .i64 0] := hΦ (9, .pointer (some ⟨b, 0, none⟩)) (by simp)
                have hb := (hfp (9, .pointer (some ⟨b, 0, none⟩)) (by simp) b (by simp [spOf, spNew, blkOf])).1
                obtain ⟨p0, p1, p2, p3, r0, r1, r2, r3⟩ := hB.four
                have hz1 := hB.lt
                clear hΦ hfp hdis
                refine hK _ _ ?_
                clear hK
                (with_reducible refine wpTxt_w0 ?_ ?_ ?_)
                · rfl
                · rfl
                intro _ _
                go_simp
                go_upto_region 11 with (first | ((with_reducible refine wpTxt_q ?_ ?_ ?_); rfl; rfl; intro _ _) | ((with_reducible refine wpTxt_w0 ?_ ?_ ?_); rfl; rfl; intro _ _) | ((with_reducible refine wpTxt_s ?_ ?_); rfl; intro _ _; go_simp) | ((with_reducible refine wpTxt_sw ?_ ?_); rfl; intro _ _; go_simp) | (with_reducible refine wpTxt_nil ?_) | ((with_reducible refine wp_region_t mixed ?_ ?_); decide +kernel; intro _ _))
                generalize hw2 : World.setCell (World.setCell (World.setCell (World.setCell _ _ _) _ _) _ _) _ _ = w2
                have hB2 : Blk w2 b 34 #[.int .i64 kd, .string (src.extract k1 (k1 + n)), .int .i64 (loc src.data.toList k1).1, .int .i64 (loc src.data.toList k1).2] := by
                  rw [← hw2]; exact (((hB.set 0 _).set 1 _).set 2 _).set 3 _
                have hbw : Below wr.heap.size wr w2 := by
                  rw [← hw2]; have h1 : Below wr.heap.size wr w1 := hxw.trans hx
                  have h2 := hxw.size
                  refine (((h1.setCell ?_ _).setCell ?_ _).setCell ?_ _).setCell ?_ _ <;> (dsimp only; omega)
                have hb' : wr.heap.size ≤ b := by have := hxw.size; omega
                have HF2 := Lib.hid (hF.out.low hbw)
                have hO2 := Lib.hid (own_below hO.out hbw)
                have hL2 := Lib.hid (hL.out.trans (hbw.mono hL.out.size))
                have HB2 := Lib.hid hB2
                obtain ⟨p0, p1, p2, p3, r0, r1, r2, r3⟩ := hB2.four
                have hz1 := hB2.lt
                have hsw : w.heap.size ≤ wr.heap.size := hL.out.size
                clear hw2 hB hx hb hB2
                by_cases h3 : kd = 3
                · have hn2 := oneR_3 _ _ _ HO.out h3
                  have hb3 := beq_t h3
                  have ht : tokT src k1 kd n = src.extract (k1 + 1) (k1 + n - 1) := if_pos h3
                  have HT := Lib.hid ht
                  clear ht h3
                  go_upto_region 13 with (first | ((with_reducible refine wpTxt_q ?_ ?_ ?_); rfl; rfl; intro _ _) | ((with_reducible refine wpTxt_w0 ?_ ?_ ?_); rfl; rfl; intro _ _) | ((with_reducible refine wpTxt_s ?_ ?_); rfl; intro _ _; go_simp) | ((with_reducible refine wpTxt_sw ?_ ?_); rfl; intro _ _; go_simp) | (with_reducible refine wpTxt_nil ?_) | ((with_reducible refine wp_region_t mixed ?_ ?_); decide +kernel; intro _ _))
                  generalize hw3 : World.setCell _ _ _ = w3
                  have hB3 : Blk w3 b 34 #[.int .i64 kd, .string (src.extract (k1 + 1) (k1 + n - 1)), .int .i64 (loc src.data.toList k1).1, .int .i64 (loc src.data.toList k1).2] := by
                    rw [← hw3]; exact HB2.out.set 1 _
                  have hbw3 : Below wr.heap.size wr w3 := by
                    rw [← hw3]; exact hbw.setCell (by dsimp only; omega) _
                  have HF3 := Lib.hid (hF.out.low hbw3)
                  have hO3 := Lib.hid (own_below hO.out hbw3)
                  have hL3 := Lib.hid (hL.out.trans (hbw3.mono hL.out.size))
                  have HB3 := Lib.hid hB3
                  obtain ⟨q0, q1, q2, q3, s0, s1, s2, s3⟩ := hB3.four
                  have hz3 := hB3.lt
                  clear hw3 hB3 p0 p1 p2 p3 r0 r1 r2 r3 hz1 HB2
                  go_wp2_with (first | (at_builtin; refine wpList_append_own _ rfl _ _ 23 rfl (w.heap.size + 1) 34 i0 _ 4 40 und_toks hi iz0 iz1 iz2 rfl (by decide) u4 acc.length (cellsT acc) rfl ?c0 _ 1 1 [.int .i64 kd, .string (src.extract (k1 + 1) (k1 + n - 1)), .int .i64 (loc src.data.toList k1).1, .int .i64 (loc src.data.toList k1).2] rfl rfl ?c1 ?c2 ?c3 ?c4 ?c5 ?_) | ((with_reducible refine wpTxt_q ?_ ?_ ?_); rfl; rfl; intro _ _) | ((with_reducible refine wpTxt_w0 ?_ ?_ ?_); rfl; rfl; intro _ _) | ((with_reducible refine wpTxt_s ?_ ?_); rfl; intro _ _; go_simp) | ((with_reducible refine wpTxt_sw ?_ ?_); rfl; intro _ _; go_simp) | (with_reducible refine wpTxt_nil ?_) | ((with_reducible refine wp_region_t mixed ?_ ?_); decide +kernel; intro _ _))
                  case c0 => exact own_below hO3.out (by (repeat (first | with_reducible assumption | with_reducible exact Below.refl _ _ | ((with_reducible refine Below.setCell ?_ ?_ _); rotate_left; (· first | omega | (simp only [World.size_alloc, World.size_drew, World.size_setCell]; omega))) | ((with_reducible refine Below.alloc ?_ ?_ _); rotate_left; (· first | omega | (simp only [World.size_alloc, World.size_drew, World.size_setCell]; omega))) | ((with_reducible refine Below.drewN' ?_ _)) | ((with_reducible refine Below.drew ?_)))))
                  case c1 => intro j u hj; exact fresh_cells _ _ _ j u hj
                  case c2 => intro u hu; simp at hu; rcases hu with rfl | rfl | rfl | rfl <;> rfl
                  case c3 => have := ha.out; unfold maxLen; omega
                  case c4 => have := ha.out; omega
                  case c5 => have := HF3.out.lt; simp; omega
                  · intro v' w5 hown hgrow _
                    go_wp2_with (first | ((with_reducible refine wpTxt_q ?_ ?_ ?_); rfl; rfl; intro _ _) | ((with_reducible refine wpTxt_w0 ?_ ?_ ?_); rfl; rfl; intro _ _) | ((with_reducible refine wpTxt_s ?_ ?_); rfl; intro _ _; go_simp) | ((with_reducible refine wpTxt_sw ?_ ?_); rfl; intro _ _; go_simp) | (with_reducible refine wpTxt_nil ?_) | ((with_reducible refine wp_region_t mixed ?_ ?_); decide +kernel; intro _ _) | (go_at_call 36; ((with_reducible refine (rskip_nat src _ (k1 + n) ?_ _ hs ?_).mono ?_); (· omega); (· omega); rintro e w' ⟨rfl, rfl⟩; rw [HK2.out])))
                    go_roundw
                    case rel =>
                      refine ⟨k1 + n, k2, f, acc ++ [⟨kd, tokT src k1 kd n, loc src.data.toList k1⟩], by omega, rfl, HK2.out.symm, ?_, ?_, ?_, ?_, ?_, ?_⟩
                      · have := hf.out; have := HK.out; show src.size < k1 + n + f; omega
                      · have := ha.out; have := HK.out; show (acc ++ [_]).length ≤ k1 + n; rw [List.length_append]; simp only [List.length_cons, List.length_nil]; omega
                      · show SR.add _ _ = _
                        rw [← SR.add_add, ← scanF_ok HK.out hle HO.out]; exact hR.out
                      · show w5.ownsRow _ _ _ _ _ _
                        rw [List.length_append, cellsT_snoc, HT.out]; exact hown
                      · exact Blk.grown (Blk.alloc HF3.out _) hgrow (own_ne hO.out (by omega))
                      · have hsz := HF3.out.lt
                        exact Below.grown (hL3.out.alloc (by omega) _) hgrow (by simp; omega) (fun g hg => by have := (hO.out.lt g hg).1; omega)
                    case measure =>
                      have := HK2.out
                      simp only [intOf]
                      omega
                · have hb3 := beq_f h3
                  have ht : tokT src k1 kd n = src.extract k1 (k1 + n) := if_neg h3
                  have HT := Lib.hid ht
                  clear ht h3
                  go_wp2_with (first | (at_builtin; refine wpList_append_own _ rfl _ _ 23 rfl (w.heap.size + 1) 34 i0 _ 4 40 und_toks hi iz0 iz1 iz2 rfl (by decide) u4 acc.length (cellsT acc) rfl ?c0 _ 1 1 [.int .i64 kd, .string (src.extract k1 (k1 + n)), .int .i64 (loc src.data.toList k1).1, .int .i64 (loc src.data.toList k1).2] rfl rfl ?c1 ?c2 ?c3 ?c4 ?c5 ?_) | ((with_reducible refine wpTxt_q ?_ ?_ ?_); rfl; rfl; intro _ _) | ((with_reducible refine wpTxt_w0 ?_ ?_ ?_); rfl; rfl; intro _ _) | ((with_reducible refine wpTxt_s ?_ ?_); rfl; intro _ _; go_simp) | ((with_reducible refine wpTxt_sw ?_ ?_); rfl; intro _ _; go_simp) | (with_reducible refine wpTxt_nil ?_) | ((with_reducible refine wp_region_t mixed ?_ ?_); decide +kernel; intro _ _))
                  case c0 => exact own_below hO2.out (by (repeat (first | with_reducible assumption | with_reducible exact Below.refl _ _ | ((with_reducible refine Below.setCell ?_ ?_ _); rotate_left; (· first | omega | (simp only [World.size_alloc, World.size_drew, World.size_setCell]; omega))) | ((with_reducible refine Below.alloc ?_ ?_ _); rotate_left; (· first | omega | (simp only [World.size_alloc, World.size_drew, World.size_setCell]; omega))) | ((with_reducible refine Below.drewN' ?_ _)) | ((with_reducible refine Below.drew ?_)))))
                  case c1 => intro j u hj; exact fresh_cells _ _ _ j u hj
                  case c2 => intro u hu; simp at hu; rcases hu with rfl | rfl | rfl | rfl <;> rfl
                  case c3 => have := ha.out; unfold maxLen; omega
                  case c4 => have := ha.out; omega
                  case c5 => have := HF2.out.lt; simp; omega
                  · intro v' w5 hown hgrow _
                    go_wp2_with (first | ((with_reducible refine wpTxt_q ?_ ?_ ?_); rfl; rfl; intro _ _) | ((with_reducible refine wpTxt_w0 ?_ ?_ ?_); rfl; rfl; intro _ _) | ((with_reducible refine wpTxt_s ?_ ?_); rfl; intro _ _; go_simp) | ((with_reducible refine wpTxt_sw ?_ ?_); rfl; intro _ _; go_simp) | (with_reducible refine wpTxt_nil ?_) | ((with_reducible refine wp_region_t mixed ?_ ?_); decide +kernel; intro _ _) | (go_at_call 36; ((with_reducible refine (rskip_nat src _ (k1 + n) ?_ _ hs ?_).mono ?_); (· omega); (· omega); rintro e w' ⟨rfl, rfl⟩; rw [HK2.out])))
                    go_roundw
                    case rel =>
                      refine ⟨k1 + n, k2, f, acc ++ [⟨kd, tokT src k1 kd n, loc src.data.toList k1⟩], by omega, rfl, HK2.out.symm, ?_, ?_, ?_, ?_, ?_, ?_⟩
                      · have := hf.out; have := HK.out; show src.size < k1 + n + f; omega
                      · have := ha.out; have := HK.out; show (acc ++ [_]).length ≤ k1 + n; rw [List.length_append]; simp only [List.length_cons, List.length_nil]; omega
                      · show SR.add _ _ = _
                        rw [← SR.add_add, ← scanF_ok HK.out hle HO.out]; exact hR.out
                      · show w5.ownsRow _ _ _ _ _ _
                        rw [List.length_append, cellsT_snoc, HT.out]; exact hown
                      · exact Blk.grown (Blk.alloc HF2.out _) hgrow (own_ne hO.out (by omega))
                      · have hsz := HF2.out.lt
                        exact Below.grown (hL2.out.alloc (by omega) _) hgrow (by simp; omega) (fun g hg => by have := (hO.out.lt g hg).1; omega)
                    case measure =>
                      have := HK2.out
                      simp only [intOf]
                      omega
end Go.Proofs.Ytffflmghfcgkfaa
