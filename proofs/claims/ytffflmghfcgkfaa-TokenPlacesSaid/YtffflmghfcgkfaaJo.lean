/- The law on two sources on different lines: its walk. -/
import Derived.Test.YtffflmghfcgkfaaRt
import Derived.Test.YtffflmghfcgkfaaPn
set_option linter.unusedSimpArgs false
set_option linter.unusedVariables false
namespace Go.Proofs.Ytffflmghfcgkfaa
open Go.RowKit Tk

theorem tscan_n {src : ByteArray} {ts : List Tok} {n : Nat} (h : scanS src = .ok ts) (hn : ts.length = n) (h0 : 0 < n) (w : World) : Calls Try.prog 14 #[.string src] w fun e w' =>
    ∃ g o cap, e = .returned (.tuple #[.slice (some ⟨g, o, none⟩) n cap, flt 0 0 0]) ∧ Toks w' (.slice (some ⟨g, o, none⟩) n cap) ts ∧ n ≤ cap ∧ cap ≤ 9223372036854775807 ∧ Below w.heap.size w w' := by
  refine (tscan_ok src _ h w).mono ?_
  rintro e w' ⟨v, rfl, hT, hb⟩
  have hT' := hT
  obtain ⟨ao, cap, rfl, h1, h2, h3⟩ := hT
  rcases h3 with h3 | ⟨g, o, rfl, hg, hc⟩
  · omega
  · rw [hn] at h1 hT' ⊢
    exact ⟨g, o, cap, rfl, hT', h1, h2, hb⟩
theorem tscan_any (src : ByteArray) (w : World) : Calls Try.prog 14 #[.string src] w fun e w' => ∃ v c l k, e = .returned (.tuple #[v, flt c l k]) ∧ Below w.heap.size w w' := by
  refine (tScan_any src w).mono fun e w' h => ?_
  unfold ScanPost at h
  split at h
  · obtain ⟨v, h1, _, h2⟩ := h; exact ⟨v, 0, 0, 0, h1, h2⟩
  · rename_i c p _; exact ⟨_, c, p.1, p.2, h.1, h.2⟩
theorem cat_nl (a b : ByteArray) : (a ++ ⟨#[10]⟩ ++ b).data.toList = a.data.toList ++ 10 :: b.data.toList := by simp
theorem cat_sz (a b : ByteArray) : (a ++ ⟨#[10]⟩ ++ b).size = a.size + 1 + b.size := by simp only [ByteArray.size_append]; rfl
def Box (w : World) (g : Nat) (c l k : Int) : Prop := Blk w g 28 #[.int .i64 c, .int .i64 l, .int .i64 k, .string ⟨#[]⟩]
@[go_sem] theorem run_line (x y : Int) (w : World) : (Instr.field 26 (.agg #[.int .i64 x, .int .i64 y]) 0).run Try.prog w = .ok (.int .i64 x) w := by kernel_rfl
theorem lc_end {a : ByteArray} (h : a.size ≤ 65536) (w : World) : Calls Try.prog 26 #[.string a, .int .i64 a.size] w fun e w' => e = .returned (.agg #[.int .i64 (loc a.data.toList a.size).1, .int .i64 (loc a.data.toList a.size).2]) ∧ Below w.heap.size w w' := by
  refine (tLocate_any a _ w h (by omega)).mono fun e w' h' => ?_
  unfold LocPost at h'
  rwa [locI_in (Nat.le_refl _)] at h'
theorem scan_pos {s : ByteArray} {c : Int} {p : Int × Int} (h : scanS s = .err c p) (hs : s.size ≤ 65536) : 1 ≤ p.1 ∧ p.1 ≤ 65537 := by
  rw [scanS_L s hs] at h
  cases hq : scanA 0 s.data.toList with
  | ok ts => rw [hq] at h; cases h
  | err c0 x =>
    rw [hq, toSR] at h
    injection h with _ e2
    have hx := ((join_scan [] _ s.data.toList 0 (Nat.le_refl _)).2 _ _ hq).2.1
    rw [sz] at hx
    have := loc_le s.data.toList x
    rw [← e2]
    omega
set_option maxHeartbeats 2000000 in
theorem lawJoins (a b : ByteArray) (w : World) (ha : a.size ≤ maxLen) (hb : b.size ≤ maxLen) : Calls Try.prog 11 #[.string a, .string b] w (BPost true w) := by
  unfold maxLen at ha hb
  by_cases g1 : 300 < a.size
  · go_enter Try.func11, Try.ntmps11
    go_wp2_with (first | ((with_reducible refine wpTxt_q ?_ ?_ ?_); rfl; rfl; intro _ _) | ((with_reducible refine wpTxt_w0 ?_ ?_ ?_); rfl; rfl; intro _ _) | ((with_reducible refine wpTxt_s ?_ ?_); rfl; intro _ _; go_simp) | ((with_reducible refine wpTxt_sw ?_ ?_); rfl; intro _ _; go_simp) | (with_reducible refine wpTxt_nil ?_) | ((with_reducible refine wp_region_t mixed ?_ ?_); decide +kernel; intro _ _) | (go_at_call 13; ((with_reducible refine (awake_any _).mono ?_); rintro e w9 ⟨rfl, hb9⟩)))
    go_ret
    exact bpost rfl hb9
  by_cases g2 : 300 < b.size
  · go_enter Try.func11, Try.ntmps11
    go_wp2_with (first | ((with_reducible refine wpTxt_q ?_ ?_ ?_); rfl; rfl; intro _ _) | ((with_reducible refine wpTxt_w0 ?_ ?_ ?_); rfl; rfl; intro _ _) | ((with_reducible refine wpTxt_s ?_ ?_); rfl; intro _ _; go_simp) | ((with_reducible refine wpTxt_sw ?_ ?_); rfl; intro _ _; go_simp) | (with_reducible refine wpTxt_nil ?_) | ((with_reducible refine wp_region_t mixed ?_ ?_); decide +kernel; intro _ _) | (go_at_call 13; ((with_reducible refine (awake_any _).mono ?_); rintro e w9 ⟨rfl, hb9⟩)))
    go_ret
    exact bpost rfl hb9
  obtain ⟨L1, L2⟩ := join_law (a := a) (b := b) (s := a ++ ⟨#[10]⟩ ++ b) (cat_nl a b) (by rw [cat_sz]; omega)
  cases hA : scanS a with
  | err c p =>
    obtain ⟨c0, L3⟩ := L1 c p hA
    have h1 := Lib.hid hA
    obtain ⟨k0, k1⟩ := kd_f c0
    clear L1 L2 hA c0
    rcases L3 with ⟨hc5, p9, L3⟩ | L3
    · have h2 := Lib.hid L3
      obtain ⟨k2, k3⟩ := kd_t hc5
      clear L3 hc5
      go_enter Try.func11, Try.ntmps11
      go_wp2_with (first | ((with_reducible refine wpTxt_q ?_ ?_ ?_); rfl; rfl; intro _ _) | ((with_reducible refine wpTxt_w0 ?_ ?_ ?_); rfl; rfl; intro _ _) | ((with_reducible refine wpTxt_s ?_ ?_); rfl; intro _ _; go_simp) | ((with_reducible refine wpTxt_sw ?_ ?_); rfl; intro _ _; go_simp) | (with_reducible refine wpTxt_nil ?_) | ((with_reducible refine wp_region_t mixed ?_ ?_); decide +kernel; intro _ _) | (go_at_call 14; ((with_reducible refine (tscan_err a c p h1.out _).mono ?_); rintro e w1 ⟨rfl, hb1⟩; have hz1 := hb1.size)) | (go_at_call 14; ((with_reducible refine (tscan_any b _).mono ?_); rintro e w2 ⟨v2, c2, l2, k2, rfl, hb2⟩; have hz2 := hb2.size; have HF1 := Lib.hid (show Box w2 w1.heap.size c p.1 p.2 from (Blk.fresh w1 _ _).low hb2); have HB2 := Lib.hid (show Below w.heap.size w w2 from (hb1.alloc hz1 _).trans (hb2.mono (by simp; omega))); have hy1 : w1.heap.size < w2.heap.size := HF1.out.lt)) | (go_at_call 14; ((with_reducible refine (tscan_err _ 9 p9 h2.out _).mono ?_); rintro e w3 ⟨rfl, hb3⟩; have hz3 := hb3.size; have HG1 := Lib.hid (show Box w3 w1.heap.size c p.1 p.2 from (HF1.out.alloc _).low hb3); have HB3 := Lib.hid (show Below w.heap.size w w3 from (HB2.out.alloc HB2.out.size _).trans (hb3.mono (by have := HB2.out.size; simp; omega))); obtain ⟨d0, d1, d2, d3, -, -, -, -⟩ := HG1.out.four; have hy2 := HG1.out.lt)) | (go_at_call 13; ((with_reducible refine (awake_any _).mono ?_); rintro e w9 ⟨rfl, hb9⟩)))
      go_ret
      exact bpost rfl (by have hL := HB3.out; have hL2 := hL.size; exact (show Below w.heap.size w _ by (repeat (first | with_reducible assumption | with_reducible exact Below.refl _ _ | ((with_reducible refine Below.setCell ?_ ?_ _); rotate_left; (· first | omega | (simp only [World.size_alloc, World.size_drew, World.size_setCell]; omega))) | ((with_reducible refine Below.alloc ?_ ?_ _); rotate_left; (· first | omega | (simp only [World.size_alloc, World.size_drew, World.size_setCell]; omega))) | ((with_reducible refine Below.drewN' ?_ _)) | ((with_reducible refine Below.drew ?_))))).trans (hb9.mono (by simp; omega)))
    · have h2 := Lib.hid L3
      clear L3
      by_cases hc5 : c = 5
      · obtain ⟨k2, k3⟩ := kd_t hc5
        clear hc5
        go_enter Try.func11, Try.ntmps11
        go_wp2_with (first | ((with_reducible refine wpTxt_q ?_ ?_ ?_); rfl; rfl; intro _ _) | ((with_reducible refine wpTxt_w0 ?_ ?_ ?_); rfl; rfl; intro _ _) | ((with_reducible refine wpTxt_s ?_ ?_); rfl; intro _ _; go_simp) | ((with_reducible refine wpTxt_sw ?_ ?_); rfl; intro _ _; go_simp) | (with_reducible refine wpTxt_nil ?_) | ((with_reducible refine wp_region_t mixed ?_ ?_); decide +kernel; intro _ _) | (go_at_call 14; ((with_reducible refine (tscan_err a c p h1.out _).mono ?_); rintro e w1 ⟨rfl, hb1⟩; have hz1 := hb1.size)) | (go_at_call 14; ((with_reducible refine (tscan_any b _).mono ?_); rintro e w2 ⟨v2, c2, l2, k2, rfl, hb2⟩; have hz2 := hb2.size; have HF1 := Lib.hid (show Box w2 w1.heap.size c p.1 p.2 from (Blk.fresh w1 _ _).low hb2); have HB2 := Lib.hid (show Below w.heap.size w w2 from (hb1.alloc hz1 _).trans (hb2.mono (by simp; omega))); have hy1 : w1.heap.size < w2.heap.size := HF1.out.lt)) | (go_at_call 14; ((with_reducible refine (tscan_err _ c p h2.out _).mono ?_); rintro e w3 ⟨rfl, hb3⟩; have hz3 := hb3.size; have HG1 := Lib.hid (show Box w3 w1.heap.size c p.1 p.2 from (HF1.out.alloc _).low hb3); have HB3 := Lib.hid (show Below w.heap.size w w3 from (HB2.out.alloc HB2.out.size _).trans (hb3.mono (by have := HB2.out.size; simp; omega))); obtain ⟨d0, d1, d2, d3, -, -, -, -⟩ := HG1.out.four; have hy2 := HG1.out.lt)) | (go_at_call 13; ((with_reducible refine (awake_any _).mono ?_); rintro e w9 ⟨rfl, hb9⟩)))
        go_ret
        exact bpost rfl (by have hL := HB3.out; have hL2 := hL.size; exact (show Below w.heap.size w _ by (repeat (first | with_reducible assumption | with_reducible exact Below.refl _ _ | ((with_reducible refine Below.setCell ?_ ?_ _); rotate_left; (· first | omega | (simp only [World.size_alloc, World.size_drew, World.size_setCell]; omega))) | ((with_reducible refine Below.alloc ?_ ?_ _); rotate_left; (· first | omega | (simp only [World.size_alloc, World.size_drew, World.size_setCell]; omega))) | ((with_reducible refine Below.drewN' ?_ _)) | ((with_reducible refine Below.drew ?_))))).trans (hb9.mono (by simp; omega)))
      · obtain ⟨k2, k3⟩ := kd_f hc5
        clear hc5
        go_enter Try.func11, Try.ntmps11
        go_wp2_with (first | ((with_reducible refine wpTxt_q ?_ ?_ ?_); rfl; rfl; intro _ _) | ((with_reducible refine wpTxt_w0 ?_ ?_ ?_); rfl; rfl; intro _ _) | ((with_reducible refine wpTxt_s ?_ ?_); rfl; intro _ _; go_simp) | ((with_reducible refine wpTxt_sw ?_ ?_); rfl; intro _ _; go_simp) | (with_reducible refine wpTxt_nil ?_) | ((with_reducible refine wp_region_t mixed ?_ ?_); decide +kernel; intro _ _) | (go_at_call 14; ((with_reducible refine (tscan_err a c p h1.out _).mono ?_); rintro e w1 ⟨rfl, hb1⟩; have hz1 := hb1.size)) | (go_at_call 14; ((with_reducible refine (tscan_any b _).mono ?_); rintro e w2 ⟨v2, c2, l2, k2, rfl, hb2⟩; have hz2 := hb2.size; have HF1 := Lib.hid (show Box w2 w1.heap.size c p.1 p.2 from (Blk.fresh w1 _ _).low hb2); have HB2 := Lib.hid (show Below w.heap.size w w2 from (hb1.alloc hz1 _).trans (hb2.mono (by simp; omega))); have hy1 : w1.heap.size < w2.heap.size := HF1.out.lt)) | (go_at_call 14; ((with_reducible refine (tscan_err _ c p h2.out _).mono ?_); rintro e w3 ⟨rfl, hb3⟩; have hz3 := hb3.size; have HG1 := Lib.hid (show Box w3 w1.heap.size c p.1 p.2 from (HF1.out.alloc _).low hb3); have HB3 := Lib.hid (show Below w.heap.size w w3 from (HB2.out.alloc HB2.out.size _).trans (hb3.mono (by have := HB2.out.size; simp; omega))); obtain ⟨d0, d1, d2, d3, -, -, -, -⟩ := HG1.out.four; have hy2 := HG1.out.lt)) | (go_at_call 13; ((with_reducible refine (awake_any _).mono ?_); rintro e w9 ⟨rfl, hb9⟩)))
        go_ret
        exact bpost rfl (by have hL := HB3.out; have hL2 := hL.size; exact (show Below w.heap.size w _ by (repeat (first | with_reducible assumption | with_reducible exact Below.refl _ _ | ((with_reducible refine Below.setCell ?_ ?_ _); rotate_left; (· first | omega | (simp only [World.size_alloc, World.size_drew, World.size_setCell]; omega))) | ((with_reducible refine Below.alloc ?_ ?_ _); rotate_left; (· first | omega | (simp only [World.size_alloc, World.size_drew, World.size_setCell]; omega))) | ((with_reducible refine Below.drewN' ?_ _)) | ((with_reducible refine Below.drew ?_))))).trans (hb9.mono (by simp; omega)))
  | ok ts =>
    obtain ⟨us, e, rfl, M1, M2⟩ := L2 ts hA
    have h1 := Lib.hid hA
    have hus := (scanS_len hA).1
    simp only [List.length_append, List.length_cons, List.length_nil] at hus
    clear L1 L2 hA
    cases hB : scanS b with
    | err c p =>
      obtain ⟨c0, L3⟩ := M1 c p hB
      have h2 := Lib.hid hB
      obtain ⟨hp1, hp2⟩ := scan_pos hB (by omega)
      have hla := loc_le a.data.toList a.size
      obtain ⟨k0, k1⟩ := kd_f c0
      obtain ⟨q1, hq1⟩ : ∃ q1, Hid (q1 = p.1 + (loc a.data.toList a.size).1) := ⟨_, rfl⟩
      obtain ⟨q2, hq2⟩ : ∃ q2, Hid (q2 = p.2) := ⟨_, rfl⟩
      have h3 : Hid (scanS (a ++ ⟨#[10]⟩ ++ b) = .err c (q1, q2)) := Lib.hid (by rw [hq1.out, hq2.out, Int.add_comm]; exact L3)
      have h4 : a.size ≤ 65536 := by omega
      clear M1 M2 hB L3 c0
      go_enter Try.func11, Try.ntmps11
      go_upto_region 9 with (first | ((with_reducible refine wpTxt_q ?_ ?_ ?_); rfl; rfl; intro _ _) | ((with_reducible refine wpTxt_w0 ?_ ?_ ?_); rfl; rfl; intro _ _) | ((with_reducible refine wpTxt_s ?_ ?_); rfl; intro _ _; go_simp) | ((with_reducible refine wpTxt_sw ?_ ?_); rfl; intro _ _; go_simp) | (with_reducible refine wpTxt_nil ?_) | ((with_reducible refine wp_region_t mixed ?_ ?_); decide +kernel; intro _ _) | (go_at_call 14; ((with_reducible refine (tscan_round h1.out _).mono ?_); rintro e w1 ⟨ga, oa, ca, rfl, hTa, ha1, ha2, -, -, hb1⟩; have hz1 := hb1.size; have HTa := Lib.hid hTa; clear hTa)) | (go_at_call 14; ((with_reducible refine (tscan_err b c p h2.out _).mono ?_); rintro e w2 ⟨rfl, hb2⟩; have hz2 := hb2.size; have HF1 := Lib.hid (show Box w2 w1.heap.size 0 0 0 from (Blk.fresh w1 _ _).low hb2); have HB2 := Lib.hid (show Below w.heap.size w w2 from (hb1.alloc hz1 _).trans (hb2.mono (by simp; omega))); have hy1 : w1.heap.size < w2.heap.size := HF1.out.lt)) | (go_at_call 14; ((with_reducible refine (tscan_err _ c (q1, q2) h3.out _).mono ?_); rintro e w3 ⟨rfl, hb3⟩; have hz3 := hb3.size; have HG1 := Lib.hid (show Box w3 w1.heap.size 0 0 0 from (HF1.out.alloc _).low hb3); have HG2 := Lib.hid (show Box w3 w2.heap.size c p.1 p.2 from (Blk.fresh w2 _ _).low hb3); have HB3 := Lib.hid (show Below w.heap.size w w3 from (HB2.out.alloc HB2.out.size _).trans (hb3.mono (by have := HB2.out.size; simp; omega))); obtain ⟨d0, d1, d2, d3, -, -, -, -⟩ := HG1.out.four; have hy2 := HG1.out.lt; obtain ⟨f0, f1, f2, f3, r0, r1, r2, r3⟩ := HG2.out.four; have hy3 := HG2.out.lt)))
      refine wp_region_e (spOf [(6, spVal (.agg #[.int .i64 (loc a.data.toList a.size).1, .int .i64 (loc a.data.toList a.size).2]))]) [0, 1, 2, 3, 4, 5, 6, 7, 8, 9, 10] [11] mixed ?_ ?_
      · decide +kernel
      · intro K ws hws hK
        have hxw : Below w3.heap.size w3 ws := by rw [hws]; (repeat (first | with_reducible assumption | with_reducible exact Below.refl _ _ | ((with_reducible refine Below.setCell ?_ ?_ _); rotate_left; (· first | omega | (simp only [World.size_alloc, World.size_drew, World.size_setCell]; omega))) | ((with_reducible refine Below.alloc ?_ ?_ _); rotate_left; (· first | omega | (simp only [World.size_alloc, World.size_drew, World.size_setCell]; omega))) | ((with_reducible refine Below.drewN' ?_ _)) | ((with_reducible refine Below.drew ?_))))
        have HX1 := Lib.hid (show Box ws w2.heap.size c p.1 p.2 from HG2.out.low hxw)
        have HX2 := Lib.hid (show Box ws w3.heap.size c q1 q2 by rw [hws]; exact Blk.fresh _ _ _)
        clear hws
        dsimp only [pickE, pickL, List.getElem?_cons_succ, List.getElem?_cons_zero] at hK ⊢
        go_wp2_with (first | ((with_reducible refine wpE_q ?_ ?_ ?_); rfl; rfl; intro wq hq _ _; obtain ⟨x0, x1, x2, x3, -, -, -, -⟩ := (Blk.low HX1.out hq).four) | ((with_reducible refine wpE_s ?_ ?_); rfl; intro wq hq _ _; obtain ⟨x0, x1, x2, x3, -, -, -, -⟩ := (Blk.low HX1.out hq).four; go_simp))
        refine wpE_w (spVal (.agg #[.int .i64 (loc a.data.toList a.size).1, .int .i64 (loc a.data.toList a.size).2])) _ rfl rfl rfl rfl rfl ⟨_, rfl⟩ ?_ ?_
        · intro wq hq K2 hK2
          go_wp2_with fail
          refine (lc_end h4 _).mono ?_
          rintro e w' ⟨rfl, hb4⟩
          go_wp2_with fail
          exact good_val hb4
        · rintro v rfl
          go_wp2_with (first | ((with_reducible refine wpE_q ?_ ?_ ?_); rfl; rfl; intro wq hq _ _; skip) | ((with_reducible refine wpE_s ?_ ?_); rfl; intro wq hq _ _; skip; go_simp))
          refine wpE_nil (fun w4 hx4 hΦ hfp hdis => ?_)
          have HY1 := Lib.hid (show Box w4 w2.heap.size c p.1 p.2 from HX1.out.low hx4)
          have HY2 := Lib.hid (show Box w4 w3.heap.size c q1 q2 from HX2.out.low hx4)
          have hB4 := HB3.out.trans ((hxw.trans (hx4.mono hxw.size)).mono HB3.out.size)
          clear hΦ hfp hdis
          refine hK _ _ ?_
          clear hK f0 f1 f2 f3 r0 r1 r2 r3 d0 d1 d2 d3
          obtain ⟨x0, x1, x2, x3, y0, y1, y2, y3⟩ := HY1.out.four
          obtain ⟨z0, z1, z2, z3, -, -, -, -⟩ := HY2.out.four
          have hz5 := HY1.out.lt
          have e1 := hq1.out
          have e2 := hq2.out
          have E1 : Hid (p.1 + (loc a.data.toList a.size).1 = q1) := Lib.hid e1.symm
          have e3 : (q1 == p.1 + (loc a.data.toList a.size).1) = true := by rw [e1]; simp
          have e4 : (q2 == p.2) = true := by rw [e2]; simp
          clear e1 e2
          go_simp
          go_wp2_with (first | ((with_reducible refine wpTxt_q ?_ ?_ ?_); rfl; rfl; intro _ _) | ((with_reducible refine wpTxt_w0 ?_ ?_ ?_); rfl; rfl; intro _ _) | ((with_reducible refine wpTxt_s ?_ ?_); rfl; intro _ _; go_simp) | ((with_reducible refine wpTxt_sw ?_ ?_); rfl; intro _ _; go_simp) | (with_reducible refine wpTxt_nil ?_) | ((with_reducible refine wp_region_t mixed ?_ ?_); decide +kernel; intro _ _) | (go_at_call 13; ((with_reducible refine (awake_any _).mono ?_); rintro e w9 ⟨rfl, hb9⟩)))
          go_ret
          exact bpost rfl (by have hL2 := hB4.size; exact (show Below w.heap.size w _ by (repeat (first | with_reducible assumption | with_reducible exact Below.refl _ _ | ((with_reducible refine Below.setCell ?_ ?_ _); rotate_left; (· first | omega | (simp only [World.size_alloc, World.size_drew, World.size_setCell]; omega))) | ((with_reducible refine Below.alloc ?_ ?_ _); rotate_left; (· first | omega | (simp only [World.size_alloc, World.size_drew, World.size_setCell]; omega))) | ((with_reducible refine Below.drewN' ?_ _)) | ((with_reducible refine Below.drew ?_))))).trans (hb9.mono (by simp; omega)))
    | ok tb =>
      obtain ⟨us', tb', L3, n1, n2, n3, s1, s2⟩ := M2 tb hB
      have h2 := Lib.hid hB
      have h3 := Lib.hid L3
      have hn2 : 0 < tb.length := n3
      have htb := (scanS_len hB).1
      have hlen : Hid ((us' ++ tb').length = us.length + tb.length) := Lib.hid (by rw [List.length_append, n1, n2])
      have S1 := Lib.hid s1
      have S2 := Lib.hid s2
      have N1 := Lib.hid n1
      have N2 := Lib.hid n2
      clear M1 M2 hB L3 s1 s2 n1 n2
      go_enter Try.func11, Try.ntmps11
      go_upto_region 12 with (first | ((with_reducible refine wpTxt_q ?_ ?_ ?_); rfl; rfl; intro _ _) | ((with_reducible refine wpTxt_w0 ?_ ?_ ?_); rfl; rfl; intro _ _) | ((with_reducible refine wpTxt_s ?_ ?_); rfl; intro _ _; go_simp) | ((with_reducible refine wpTxt_sw ?_ ?_); rfl; intro _ _; go_simp) | (with_reducible refine wpTxt_nil ?_) | ((with_reducible refine wp_region_t mixed ?_ ?_); decide +kernel; intro _ _) | (go_at_call 14; ((with_reducible refine (tscan_round h1.out _).mono ?_); rintro e w1 ⟨ga, oa, ca, rfl, hTa, ha1, ha2, -, -, hb1⟩; have hz1 := hb1.size; have HTa := Lib.hid hTa; clear hTa)) | (go_at_call 14; ((with_reducible refine (tscan_n h2.out rfl hn2 _).mono ?_); rintro e w2 ⟨gb, ob, cb, rfl, hTb, hc1, hc2, hb2⟩; have hz2 := hb2.size; have HTb := Lib.hid hTb; clear hTb; have HF1 := Lib.hid (show Box w2 w1.heap.size 0 0 0 from (Blk.fresh w1 _ _).low hb2); have HB2 := Lib.hid (show Below w.heap.size w w2 from (hb1.alloc hz1 _).trans (hb2.mono (by simp; omega))); have hy1 : w1.heap.size < w2.heap.size := HF1.out.lt; have HTa2 := Lib.hid ((HTa.out.below (by (repeat (first | with_reducible assumption | with_reducible exact Below.refl _ _ | ((with_reducible refine Below.setCell ?_ ?_ _); rotate_left; (· first | omega | (simp only [World.size_alloc, World.size_drew, World.size_setCell]; omega))) | ((with_reducible refine Below.alloc ?_ ?_ _); rotate_left; (· first | omega | (simp only [World.size_alloc, World.size_drew, World.size_setCell]; omega))) | ((with_reducible refine Below.drewN' ?_ _)) | ((with_reducible refine Below.drew ?_)))))).below hb2))) | (go_at_call 14; ((with_reducible refine (tscan_n h3.out hlen.out ?_ _).mono ?_); (· omega); rintro e w3 ⟨gs, os, cs, rfl, hTs, hs1, hs2, hb3⟩; have hz3 := hb3.size; have HTs := Lib.hid hTs; clear hTs; have HG1 := Lib.hid (show Box w3 w1.heap.size 0 0 0 from (HF1.out.alloc _).low hb3); have HG2 := Lib.hid (show Box w3 w2.heap.size 0 0 0 from (Blk.fresh w2 _ _).low hb3); have HB3 := Lib.hid (show Below w.heap.size w w3 from (HB2.out.alloc HB2.out.size _).trans (hb3.mono (by have := HB2.out.size; simp; omega))); obtain ⟨d0, d1, d2, d3, -, -, -, -⟩ := HG1.out.four; have hy2 := HG1.out.lt; obtain ⟨f0, f1, f2, f3, -, -, -, -⟩ := HG2.out.four; have hy3 := HG2.out.lt; have HTa3 := Lib.hid ((HTa2.out.below (by (repeat (first | with_reducible assumption | with_reducible exact Below.refl _ _ | ((with_reducible refine Below.setCell ?_ ?_ _); rotate_left; (· first | omega | (simp only [World.size_alloc, World.size_drew, World.size_setCell]; omega))) | ((with_reducible refine Below.alloc ?_ ?_ _); rotate_left; (· first | omega | (simp only [World.size_alloc, World.size_drew, World.size_setCell]; omega))) | ((with_reducible refine Below.drewN' ?_ _)) | ((with_reducible refine Below.drew ?_)))))).below hb3); have HTb3 := Lib.hid ((HTb.out.below (by (repeat (first | with_reducible assumption | with_reducible exact Below.refl _ _ | ((with_reducible refine Below.setCell ?_ ?_ _); rotate_left; (· first | omega | (simp only [World.size_alloc, World.size_drew, World.size_setCell]; omega))) | ((with_reducible refine Below.alloc ?_ ?_ _); rotate_left; (· first | omega | (simp only [World.size_alloc, World.size_drew, World.size_setCell]; omega))) | ((with_reducible refine Below.drewN' ?_ _)) | ((with_reducible refine Below.drew ?_)))))).below hb3))))
      refine wp_region_e (spOf [(23, spVal (.bool true)), (30, spVal (.bool true)), (33, spVal (.bool true))]) [0, 1, 2, 3, 4, 5, 6, 7, 8, 9, 10, 11, 12, 13, 14, 15, 16, 17, 18, 19, 20, 21, 22, 23, 24, 25, 26, 27, 28, 29, 30, 31, 32, 33, 34, 35] [] mixed ?_ ?_
      · decide +kernel
      · intro K ws hws hK
        have hxw : Below w3.heap.size w3 ws := by rw [hws]; (repeat (first | with_reducible assumption | with_reducible exact Below.refl _ _ | ((with_reducible refine Below.setCell ?_ ?_ _); rotate_left; (· first | omega | (simp only [World.size_alloc, World.size_drew, World.size_setCell]; omega))) | ((with_reducible refine Below.alloc ?_ ?_ _); rotate_left; (· first | omega | (simp only [World.size_alloc, World.size_drew, World.size_setCell]; omega))) | ((with_reducible refine Below.drewN' ?_ _)) | ((with_reducible refine Below.drew ?_))))
        have HX2 := Lib.hid (show Box ws w3.heap.size 0 0 0 by rw [hws]; exact Blk.fresh _ _ _)
        have HTaW := Lib.hid (HTa3.out.below hxw)
        have HTbW := Lib.hid (HTb3.out.below hxw)
        have HTsW := Lib.hid (HTs.out.below hxw)
        have hsc : us.length < cs := by omega
        have hsl : us.length < us.length + tb.length := by omega
        have hca : us.length < ca := by omega
        clear hws f0 f1 f2 f3 d0 d1 d2 d3
        dsimp only [pickE, pickL, List.getElem?_cons_succ, List.getElem?_cons_zero] at hK ⊢
        go_wp2_with (first | ((with_reducible refine wpE_q ?_ ?_ ?_); rfl; rfl; intro wq hq _ _; obtain ⟨x0, x1, x2, x3, -, -, -, -⟩ := (Blk.low HX2.out hq).four) | ((with_reducible refine wpE_s ?_ ?_); rfl; intro wq hq _ _; obtain ⟨x0, x1, x2, x3, -, -, -, -⟩ := (Blk.low HX2.out hq).four; go_simp))
        refine wpE_w (spVal (.bool true)) _ rfl rfl ?_ rfl rfl ⟨_, rfl⟩ ?_ ?_
        · go_simp
        · intro wq hq K2 hK2
          go_wp2_with fail
          refine (tSame_yes us' us _ _ _ ?_ ?_ (by have := N1.out; omega) (by omega) S1.out).mono ?_
          · have := (HTsW.out.below hq).takeV us.length (by omega)
            have e : (us' ++ tb').take us.length = us' := by rw [← N1.out, List.take_left]
            rwa [e] at this
          · have := (HTaW.out.below hq).takeV us.length (by omega)
            rwa [List.take_left] at this
          rintro e w' ⟨rfl, nf, rfl⟩
          go_wp2_with fail
          exact good_val (Ext.drewN _ _)
        · rintro v rfl
          go_wp2_with (first | ((with_reducible refine wpE_q ?_ ?_ ?_); rfl; rfl; intro wq hq _ _; skip) | ((with_reducible refine wpE_s ?_ ?_); rfl; intro wq hq _ _; skip; go_simp))
          refine wpE_w (spVal (.bool true)) _ rfl rfl ?_ rfl rfl ⟨_, rfl⟩ ?_ ?_
          · go_simp
          · intro wq hq K2 hK2
            go_wp2_with fail
            refine (tSame_yes tb' tb _ _ _ ?_ (HTbW.out.below hq) (by have := N2.out; omega) (by omega) S2.out).mono ?_
            · have := (HTsW.out.below hq).dropV us.length (by omega)
              have e : (us' ++ tb').drop us.length = tb' := by rw [← N1.out, List.drop_left]
              rw [e] at this
              simpa using this
            rintro e w' ⟨rfl, nf, rfl⟩
            go_wp2_with fail
            exact good_val (Ext.drewN _ _)
          · rintro v rfl
            go_wp2_with (first | ((with_reducible refine wpE_q ?_ ?_ ?_); rfl; rfl; intro wq hq _ _; skip) | ((with_reducible refine wpE_s ?_ ?_); rfl; intro wq hq _ _; skip; go_simp))
            refine wpE_w (spVal (.bool true)) _ rfl rfl ?_ rfl rfl ⟨_, rfl⟩ ?_ ?_
            · go_simp
            · intro wq hq K2 hK2
              go_wp2_with (go_at_call 13; ((with_reducible refine (awake_any _).mono ?_); rintro e w9 ⟨rfl, hb9⟩))
              exact good_val hb9
            · rintro v rfl
              go_wp2_with (first | ((with_reducible refine wpE_q ?_ ?_ ?_); rfl; rfl; intro wq hq _ _; skip) | ((with_reducible refine wpE_s ?_ ?_); rfl; intro wq hq _ _; skip; go_simp))
              refine wpE_nil (fun w5 hx5 hΦ hfp hdis => ?_)
              clear hΦ hfp hdis
              refine hK _ _ ?_
              clear hK
              go_simp
              go_wp2_with (first | ((with_reducible refine wpTxt_q ?_ ?_ ?_); rfl; rfl; intro _ _) | ((with_reducible refine wpTxt_w0 ?_ ?_ ?_); rfl; rfl; intro _ _) | ((with_reducible refine wpTxt_s ?_ ?_); rfl; intro _ _; go_simp) | ((with_reducible refine wpTxt_sw ?_ ?_); rfl; intro _ _; go_simp) | (with_reducible refine wpTxt_nil ?_) | ((with_reducible refine wp_region_t mixed ?_ ?_); decide +kernel; intro _ _))
              go_ret
              exact bpost rfl (HB3.out.trans ((hxw.trans (hx5.mono hxw.size)).mono HB3.out.size))
end Go.Proofs.Ytffflmghfcgkfaa
