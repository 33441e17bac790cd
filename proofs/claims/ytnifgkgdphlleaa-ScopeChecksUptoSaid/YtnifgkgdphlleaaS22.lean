/- Vq -/
import Derived.Test.YtnifgkgdphlleaaS21
set_option linter.unusedSimpArgs false
set_option linter.unusedVariables false
namespace Go.Proofs.Ytnifgkgdphlleaa
open Go.RowKit Tk
theorem fclash_step {out : List PS} {l : List PS} {j : Nat} {y : PS} {R : Option (Int × PS)} (h : Hid (firstClash spC out (l.drop j) = R)) (hy : l[j]? = some y) : Hid ((if clashPS spC out y ≠ 0 then some (clashPS spC out y, y) else firstClash spC out (l.drop (j + 1))) = R) := by
  have := h.out
  rw [drop_at hy] at this
  exact this
theorem exSts_step {vis : List PS} {l : List St} {j : Nat} {y : St} {R : FT} (h : Hid (exSts (l.drop j) vis = R)) (hy : l[j]? = some y) : Hid ((if (exOne y vis).code ≠ 0 then exOne y vis else exSts (l.drop (j + 1)) vis) = R) := by
  have := h.out
  rw [drop_at hy, exSts] at this
  exact this
theorem one_any {w : World} {N : Nat} {s : St} {vs : List Sy} {a : Option Addr} {n c : Nat} (IH : Hid (ExmOk N)) (hs : s.ok w) (hfs : s.fewl) (hev : s.evf) (hv : Syms w (.slice a n c) vs) (hz : s.sz ≤ N) (hw1 : wtU (vs.map Sy.ps) + St.wts s.thn ≤ 1000000000000) (hw2 : wtU (vs.map Sy.ps) + St.wts s.els ≤ 1000000000000) :
    Calls Try.prog 26 #[.agg (stC s).toArray, .slice a n c] w (FPost (exOne s (vs.map Sy.ps)) w) := by
  by_cases hk : s.h.kind = 18
  · exact one_opt IH hk hs hfs hev hv hz hw1 hw2
  · exact one_rest hk hs hfs hev hv (by omega)
set_option maxHeartbeats 8000000 in
set_option maxRecDepth 100000 in
theorem examine_step {N : Nat} (IH : Hid (ExmOk N)) : ExmOk (N + 1) := by
  intro l os w a a' n c n' c' hl hok hfl hev hos hz hw
  have hwA : wtU (allS l) ≤ 1000000000000 := by have := St.wts_all l; omega
  obtain ⟨rfl, n2⟩ := RRow.lens hl
  obtain ⟨rfl, n3⟩ := hos.lens
  obtain ⟨R, hR⟩ : ∃ R, exList l (os.map Sy.ps) = R := ⟨_, rfl⟩
  rw [hR]
  unfold exList headL at hR
  obtain ⟨⟨own, ⟨q1, q2, q3, q4⟩⟩, hB⟩ : ∃ F, blockB spC (allS l) = F := ⟨_, rfl⟩
  rw [hB] at hR
  dsimp only at hR
  have HB := Lib.hid hB
  clear hB
  go_enter Try.func15, Try.ntmps15
  have E := Only.refl [] w
  by_cases hq : q1 = 0
  · rw [if_neg (by simpa using hq)] at hR
    obtain ⟨g3, g4⟩ := kd_t hq
    have HQ := Lib.hid hq
    have HR := Lib.hid hR
    clear hR hq
    go_upto_region 5 with (first | ((with_reducible refine at_dst 4 ?_); go_simp; (generalize hX4 : Array.size (World.heap _) = X4); refine new_block hX4 ?_; intro wn bb hx; (try (have z4 := Nat.le_trans E.size (Nat.le_of_eq hX4))); have b4 := Loc.new bb E hX4; clear bb hX4; (try replace E := E.ext hx); (try (have hcf := bcell E.low; obtain ⟨hcE, hfE⟩ := hcf)); (try (have c4 := b4.cell; have f4 := b4.free))) | ((with_reducible refine at_dst 16 ?_); go_simp; ((refine (block_any (RRow.ext hl E.low) (hok.ext E.low) hfl hwA).mono ?_)); unfold BPostB FT.v; rw [HB.out]; dsimp only; rintro e wn ⟨ba, bc, bs, rfl, HBS, hBS, hx⟩; replace HBS := Lib.hid HBS; have EX := Ext.refl wn; (try replace E := E.ext hx); (try replace b4 := b4.ext hx); (try (clear hcE hfE)); (try (have hcf := bcell E.low; obtain ⟨hcE, hfE⟩ := hcf)); (try (clear c4 f4)); (try (have c4 := b4.cell; have f4 := b4.free))) | ((with_reducible refine at_dst 6 ?_); go_simp; (generalize hX6 : Array.size (World.heap _) = X6); refine new_block hX6 ?_; intro wn bb hx; (try (have n4_6 := (b4.ne hX6).1; have n6_4 := (b4.ne hX6).2)); (try (have z6 := Nat.le_trans E.size (Nat.le_of_eq hX6))); (try (have mEX_6 := EX.notin (Nat.le_of_eq hX6))); have b6 := Loc.new bb E hX6; clear bb hX6; (try replace E := E.ext hx); (try replace b4 := b4.ext hx); (try replace EX := EX.ext hx); (try (clear hcE hfE)); (try (have hcf := bcell E.low; obtain ⟨hcE, hfE⟩ := hcf)); (try (clear c4 f4)); (try (have c4 := b4.cell; have f4 := b4.free)); (try (have c6 := b6.cell; have f6 := b6.free))) | ((with_reducible refine at_store 6 ?_); (refine wp_put b6 rfl rfl ?_ ?_ ?_ ?_; (· kernel_rfl); (· first | rfl | kernel_rfl); (· first | decide | exact Nat.le_refl _ | simp [Act.eval, Value.cells] | (simp [Act.eval, Act.put, Value.cells]; done)); intro wn bn hb; have E2 := E.put b6 hb; (try replace b4 := b4.but hb n4_6); (first | (replace EX := EX.but hb b6.blk (of_decide_eq_true rfl)) | (replace EX := EX.but0 hb mEX_6) | skip); clear E b6; have E := E2; clear E2; have b6 := bn; clear bn hb; dsimp only [Act.put]; simp only [putA, Act.eval, Value.cells, Nat.reduceAdd, putL, sizL] at b6; (try (clear hcE hfE)); (try (have hcf := bcell E.low; obtain ⟨hcE, hfE⟩ := hcf)); (try (clear c4 f4)); (try (have c4 := b4.cell; have f4 := b4.free)); (try (clear c6 f6)); (try (have c6 := b6.cell; have f6 := b6.free)))))
    have hBS2 := hBS.ext EX
    obtain ⟨W, hW⟩ : ∃ W, W = wn := ⟨_, rfl⟩
    subst hW
    have hE0 := E
    have hosW := hos.ext E.low
    have hBr := hBS2.row
    have hbl : bs.length ≤ 9223372036854775807 := (RRow.lens hBr).2
    clear E hcE hfE hBS EX b6 c6 f6
    have E := Only.refl [] W
    obtain ⟨R1, hR1⟩ : ∃ R1, firstClash spC (os.map Sy.ps) own = R1 := ⟨_, rfl⟩
    have HR1 := Lib.hid hR1
    clear hR1
    go_loopw [25] (fun i wr => ∃ j : Nat, i = .int .i64 j ∧ j ≤ bs.length ∧ Hid (firstClash spC (os.map Sy.ps) ((bs.map Sy.ps).drop j) = R1) ∧ Only [] W wr ∧ Loc [] w wr X4 31 #[.int .i64 0, .int .i64 0, .int .i64 0, .string ⟨#[]⟩]) (fun i _ => bs.length - (intOf i).toNat)
    case atStart => exact ⟨0, rfl, Nat.zero_le _, Lib.hid (by rw [HBS.out]; exact HR1.out), E, b4⟩
    case round =>
      clear E b4 c4 f4
      obtain ⟨j, rfl, hj, HF, E, b4⟩ := hrel
      have c4 := b4.cell
      have f4 := b4.free
      obtain ⟨hcE, hfE⟩ := bcell E.low
      by_cases hlt : j < bs.length
      · obtain ⟨y, hy⟩ := at_some hlt
        have HY := Lib.hid hy
        obtain ⟨g, o, rfl, hg, -⟩ := RRow.cells hBr hlt
        have HS := fclash_step HF (map_at (f := Sy.ps) hy)
        obtain ⟨e, hcl⟩ : ∃ e, clashP spC os y = e := ⟨_, rfl⟩
        have HCL := Lib.hid hcl
        have hs := HS.out
        rw [← clash_ps, hcl] at hs
        clear hy hcl HS
        by_cases hz : e = 0
        · rw [if_neg (by simpa using hz)] at hs
          obtain ⟨g5, g6⟩ := kd_t hz
          have HS := Lib.hid hs
          clear hs hz
          go_upto_region 9999 with (first | ((with_reducible refine at_dst 28 ?_); (refine wp_rec2 ((RRow.ext hBr E.low)) (HY.out) syC_len rfl rfl ?_ ?_ ?_); (· kernel_rfl); (· kernel_rfl)) | ((with_reducible refine at_dst 8 ?_); go_simp; (generalize hX8 : Array.size (World.heap _) = X8); refine new_block hX8 ?_; intro wn bb hx; (try (have n4_8 := (b4.ne hX8).1; have n8_4 := (b4.ne hX8).2)); (try (have z8 := Nat.le_trans E.size (Nat.le_of_eq hX8))); have b8 := Loc.new bb E hX8; clear bb hX8; (try replace E := E.ext hx); (try replace b4 := b4.ext hx); (try (clear hcE hfE)); (try (have hcf := bcell E.low; obtain ⟨hcE, hfE⟩ := hcf)); (try (clear c4 f4)); (try (have c4 := b4.cell; have f4 := b4.free)); (try (have c8 := b8.cell; have f8 := b8.free))) | ((with_reducible refine at_dst 30 ?_); (refine wp_all b8.blk rfl rfl ?_ ?_ ?_); (· kernel_rfl); (· kernel_rfl)) | ((with_reducible refine at_dst 31 ?_); go_simp; ((refine (clash_any (hosW.ext E.low) y).mono ?_)); unfold IPost; rw [HCL.out]; rintro e wn ⟨rfl, hx⟩; (try replace E := E.ext hx); (try replace b4 := b4.ext hx); (try replace b8 := b8.ext hx); (try (clear hcE hfE)); (try (have hcf := bcell E.low; obtain ⟨hcE, hfE⟩ := hcf)); (try (clear c4 f4)); (try (have c4 := b4.cell; have f4 := b4.free)); (try (clear c8 f8)); (try (have c8 := b8.cell; have f8 := b8.free))) | ((with_reducible refine at_store 8 ?_); (refine wp_put b8 rfl rfl ?_ ?_ ?_ ?_; (· kernel_rfl); (· first | rfl | kernel_rfl); (· first | decide | exact Nat.le_refl _ | simp [Act.eval, Value.cells] | (simp [Act.eval, Act.put, Value.cells]; done)); intro wn bn hb; have E2 := E.put b8 hb; (try replace b4 := b4.but hb n4_8); (first | (replace EX := EX.but hb b8.blk (of_decide_eq_true rfl)) | (replace EX := EX.but0 hb mEX_8) | skip); clear E b8; have E := E2; clear E2; have b8 := bn; clear bn hb; dsimp only [Act.put]; simp only [putA, Act.eval, Value.cells, Nat.reduceAdd, putL, sizL] at b8; (try (clear hcE hfE)); (try (have hcf := bcell E.low; obtain ⟨hcE, hfE⟩ := hcf)); (try (clear c4 f4)); (try (have c4 := b4.cell; have f4 := b4.free)); (try (clear c8 f8)); (try (have c8 := b8.cell; have f8 := b8.free)))))
          go_roundw
          case rel => exact ⟨j + 1, by go_num, by omega, HS.out, E, b4⟩
          case measure => simp [intOf]; omega
        · rw [if_pos hz] at hs
          obtain ⟨g5, g6⟩ := kd_f hz
          have HS := Lib.hid hs
          have hRR : R = ⟨e, y.line, y.col, y.name⟩ := by
            have := HR.out
            rw [HR1.out, ← hs] at this
            exact this.symm
          have HRR := Lib.hid hRR
          clear hs hz hRR
          go_upto_region 9 with (first | ((with_reducible refine at_dst 28 ?_); (refine wp_rec2 ((RRow.ext hBr E.low)) (HY.out) syC_len rfl rfl ?_ ?_ ?_); (· kernel_rfl); (· kernel_rfl)) | ((with_reducible refine at_dst 8 ?_); go_simp; (generalize hX8 : Array.size (World.heap _) = X8); refine new_block hX8 ?_; intro wn bb hx; (try (have n4_8 := (b4.ne hX8).1; have n8_4 := (b4.ne hX8).2)); (try (have z8 := Nat.le_trans E.size (Nat.le_of_eq hX8))); have b8 := Loc.new bb E hX8; clear bb hX8; (try replace E := E.ext hx); (try replace b4 := b4.ext hx); (try (clear hcE hfE)); (try (have hcf := bcell E.low; obtain ⟨hcE, hfE⟩ := hcf)); (try (clear c4 f4)); (try (have c4 := b4.cell; have f4 := b4.free)); (try (have c8 := b8.cell; have f8 := b8.free))) | ((with_reducible refine at_dst 30 ?_); (refine wp_all b8.blk rfl rfl ?_ ?_ ?_); (· kernel_rfl); (· kernel_rfl)) | ((with_reducible refine at_dst 31 ?_); go_simp; ((refine (clash_any (hosW.ext E.low) y).mono ?_)); unfold IPost; rw [HCL.out]; rintro e wn ⟨rfl, hx⟩; (try replace E := E.ext hx); (try replace b4 := b4.ext hx); (try replace b8 := b8.ext hx); (try (clear hcE hfE)); (try (have hcf := bcell E.low; obtain ⟨hcE, hfE⟩ := hcf)); (try (clear c4 f4)); (try (have c4 := b4.cell; have f4 := b4.free)); (try (clear c8 f8)); (try (have c8 := b8.cell; have f8 := b8.free))) | ((with_reducible refine at_store 8 ?_); (refine wp_put b8 rfl rfl ?_ ?_ ?_ ?_; (· kernel_rfl); (· first | rfl | kernel_rfl); (· first | decide | exact Nat.le_refl _ | simp [Act.eval, Value.cells] | (simp [Act.eval, Act.put, Value.cells]; done)); intro wn bn hb; have E2 := E.put b8 hb; (try replace b4 := b4.but hb n4_8); (first | (replace EX := EX.but hb b8.blk (of_decide_eq_true rfl)) | (replace EX := EX.but0 hb mEX_8) | skip); clear E b8; have E := E2; clear E2; have b8 := bn; clear bn hb; dsimp only [Act.put]; simp only [putA, Act.eval, Value.cells, Nat.reduceAdd, putL, sizL] at b8; (try (clear hcE hfE)); (try (have hcf := bcell E.low; obtain ⟨hcE, hfE⟩ := hcf)); (try (clear c4 f4)); (try (have c4 := b4.cell; have f4 := b4.free)); (try (clear c8 f8)); (try (have c8 := b8.cell; have f8 := b8.free)))))
          have E2 : Only [] w wn := hE0.trans E (fun x hx => by cases hx)
          clear E hcE hfE
          have E := E2
          clear E2
          obtain ⟨hcE, hfE⟩ := bcell E.low
          go_upto_region 9999 with (first | ((with_reducible refine at_store 4 ?_); (refine wp_put b4 rfl rfl ?_ ?_ ?_ ?_; (· kernel_rfl); (· first | rfl | kernel_rfl); (· first | decide | exact Nat.le_refl _ | simp [Act.eval, Value.cells] | (simp [Act.eval, Act.put, Value.cells]; done)); intro wn bn hb; have E2 := E.put b4 hb; (try replace b8 := b8.but hb n8_4); (first | (replace EX := EX.but hb b4.blk (of_decide_eq_true rfl)) | (replace EX := EX.but0 hb mEX_4) | skip); clear E b4; have E := E2; clear E2; have b4 := bn; clear bn hb; dsimp only [Act.put]; simp only [putA, Act.eval, Value.cells, Nat.reduceAdd, putL, sizL] at b4; (try (clear hcE hfE)); (try (have hcf := bcell E.low; obtain ⟨hcE, hfE⟩ := hcf)); (try (clear c4 f4)); (try (have c4 := b4.cell; have f4 := b4.free)); (try (clear c8 f8)); (try (have c8 := b8.cell; have f8 := b8.free)))) | ((with_reducible refine at_store 4 ?_); (refine wp_put b4 rfl rfl ?_ ?_ ?_ ?_; (· kernel_rfl); (· first | rfl | kernel_rfl); (· first | decide | exact Nat.le_refl _ | simp [Act.eval, Value.cells] | (simp [Act.eval, Act.put, Value.cells]; done)); intro wn bn hb; have E2 := E.put b4 hb; (try replace b8 := b8.but hb n8_4); (first | (replace EX := EX.but hb b4.blk (of_decide_eq_true rfl)) | (replace EX := EX.but0 hb mEX_4) | skip); clear E b4; have E := E2; clear E2; have b4 := bn; clear bn hb; dsimp only [Act.put]; simp only [putA, Act.eval, Value.cells, Nat.reduceAdd, putL, sizL] at b4; (try (clear hcE hfE)); (try (have hcf := bcell E.low; obtain ⟨hcE, hfE⟩ := hcf)); (try (clear c4 f4)); (try (have c4 := b4.cell; have f4 := b4.free)); (try (clear c8 f8)); (try (have c8 := b8.cell; have f8 := b8.free)))) | ((with_reducible refine at_store 4 ?_); (refine wp_put b4 rfl rfl ?_ ?_ ?_ ?_; (· kernel_rfl); (· first | rfl | kernel_rfl); (· first | decide | exact Nat.le_refl _ | simp [Act.eval, Value.cells] | (simp [Act.eval, Act.put, Value.cells]; done)); intro wn bn hb; have E2 := E.put b4 hb; (try replace b8 := b8.but hb n8_4); (first | (replace EX := EX.but hb b4.blk (of_decide_eq_true rfl)) | (replace EX := EX.but0 hb mEX_4) | skip); clear E b4; have E := E2; clear E2; have b4 := bn; clear bn hb; dsimp only [Act.put]; simp only [putA, Act.eval, Value.cells, Nat.reduceAdd, putL, sizL] at b4; (try (clear hcE hfE)); (try (have hcf := bcell E.low; obtain ⟨hcE, hfE⟩ := hcf)); (try (clear c4 f4)); (try (have c4 := b4.cell; have f4 := b4.free)); (try (clear c8 f8)); (try (have c8 := b8.cell; have f8 := b8.free)))) | ((with_reducible refine at_store 4 ?_); (refine wp_put b4 rfl rfl ?_ ?_ ?_ ?_; (· kernel_rfl); (· first | rfl | kernel_rfl); (· first | decide | exact Nat.le_refl _ | simp [Act.eval, Value.cells] | (simp [Act.eval, Act.put, Value.cells]; done)); intro wn bn hb; have E2 := E.put b4 hb; (try replace b8 := b8.but hb n8_4); (first | (replace EX := EX.but hb b4.blk (of_decide_eq_true rfl)) | (replace EX := EX.but0 hb mEX_4) | skip); clear E b4; have E := E2; clear E2; have b4 := bn; clear bn hb; dsimp only [Act.put]; simp only [putA, Act.eval, Value.cells, Nat.reduceAdd, putL, sizL] at b4; (try (clear hcE hfE)); (try (have hcf := bcell E.low; obtain ⟨hcE, hfE⟩ := hcf)); (try (clear c4 f4)); (try (have c4 := b4.cell; have f4 := b4.free)); (try (clear c8 f8)); (try (have c8 := b8.cell; have f8 := b8.free)))))
          refine bodyPost_ret (v := .agg #[.int .i64 e, .int .i64 y.line, .int .i64 y.col, .string y.name]) (by simp [results, Try.f15, go_sem, c4]) rfl ?_
          exact fpost HRR.out E.low
      · have hnone : R1 = none := by
          have := HF.out
          rw [List.drop_of_length_le (by rw [List.length_map]; omega)] at this
          exact this.symm
        have hRR : exSts l (os.map Sy.ps ++ own) = R := by
          have := HR.out
          rw [HR1.out, hnone] at this
          exact this
        have HRR := Lib.hid hRR
        have hlW : RRow W 55 stC (.slice a l.length c) l := RRow.ext hl hE0.low
        have hwo : wtU (blockB spC (allS l)).1 ≤ wtU (allS l) := merge_wt _
        rw [HB.out] at hwo
        dsimp only at hwo
        have hwl := St.wts_all l
        have hol : os.length ≤ 1900000000000 := by
          have := wtU_len (os.map Sy.ps)
          rw [List.length_map] at this; omega
        have hbl2 : bs.length ≤ 1000000000000 := by
          have := wtU_len (bs.map Sy.ps)
          rw [HBS.out] at this
          have h3 : own.length = bs.length := by rw [← HBS.out, List.length_map]
          omega
        have hol2 : os.length ≤ 1000000000000 := by
          have := wtU_len (os.map Sy.ps)
          rw [List.length_map] at this; omega
        have hsum : os.length + bs.length ≤ 1000000000000 := by
          have h1 := wtU_len (os.map Sy.ps)
          have h2 := wtU_len (bs.map Sy.ps)
          rw [HBS.out] at h2
          have h3 : own.length = bs.length := by rw [← HBS.out, List.length_map]
          rw [List.length_map] at h1
          omega
        clear HF hRR hnone
        go_upto_region 13 with (first | ((with_reducible refine at_dst 42 ?_); go_simp; ((refine (cloneSy_any (RRow.ext hosW.row E.low) hol).mono ?_)); unfold CYPost; rintro e wn ⟨va, vc, rfl, r42, hx⟩; replace r42 := r42.old E; (try replace E := E.ext hx); (try replace b4 := b4.ext hx); (try (clear hcE hfE)); (try (have hcf := bcell E.low; obtain ⟨hcE, hfE⟩ := hcf)); (try (clear c4 f4)); (try (have c4 := b4.cell; have f4 := b4.free))) | ((with_reducible refine at_dst 44 ?_); refine wp_own (.tmp 42) (.tmp 43) rfl info_sy und_sys rfl (by decide) syC_len syC_ones r42 E (RRow.ext hBr E.low) rfl rfl ?_ ?_ ?_; (· ((try unfold maxLen); omega)); (· (omega)); intro L44 hL44 s44 v44 wn r44 E2 hA; replace hL44 := Lib.hid hL44; clear E; have E := E2; clear E2; replace b4 := b4.growO r42 hA (of_decide_eq_true rfl); obtain ⟨o44, k44, rfl, l44, m44⟩ := ORow.len r44.row; (try (clear hcE hfE)); (try (have hcf := bcell E.low; obtain ⟨hcE, hfE⟩ := hcf)); (try (clear c4 f4)); (try (have c4 := b4.cell; have f4 := b4.free)); (try simp only [Act.put, actL])))
        have hps : L44.map Sy.ps = os.map Sy.ps ++ own := by rw [← hL44.out, List.map_append, HBS.out]
        have hvs : Syms wn (.slice o44 L44.length k44) L44 := ⟨r44.rsy, fun x hx => by
          rw [← hL44.out] at hx
          rcases List.mem_append.1 hx with hx | hx
          · exact (hosW.perms x hx).ext E.low
          · exact (hBS2.perms x hx).ext E.low⟩
        obtain ⟨W2, hW2⟩ : ∃ W2, W2 = wn := ⟨_, rfl⟩
        subst hW2
        have hE1 : Only [] w W2 := hE0.trans E (fun x hx => by cases hx)
        have hvl : wtU (L44.map Sy.ps) + 0 ≤ 1000000000000 := by rw [hps, wtU_app]; omega
        have hvw : ∀ y : St, y ∈ l → wtU (L44.map Sy.ps) + St.wts y.thn ≤ 1000000000000 ∧ wtU (L44.map Sy.ps) + St.wts y.els ≤ 1000000000000 := fun y hy => by
          have := St.wts_mem hy
          rw [hps, wtU_app]
          constructor <;> omega
        have HPS := Lib.hid hps
        have hlW2 : RRow W2 55 stC (.slice a l.length c) l := RRow.ext hl hE1.low
        have hokW : St.oks W2 l := hok.ext hE1.low
        clear E hcE hfE r44 hps r42 hvl
        have E := Only.refl [] W2
        have hlW := hlW2
        go_loopw [47] (fun i wr => ∃ j : Nat, i = .int .i64 j ∧ j ≤ l.length ∧ Hid (exSts (l.drop j) (L44.map Sy.ps) = R) ∧ Only [] W2 wr ∧ Loc [] w wr X4 31 #[.int .i64 0, .int .i64 0, .int .i64 0, .string ⟨#[]⟩]) (fun i _ => l.length - (intOf i).toNat)
        case atStart => exact ⟨0, rfl, Nat.zero_le _, Lib.hid (by rw [HPS.out]; exact HRR.out), E, b4⟩
        case round =>
          clear E b4 c4 f4
          obtain ⟨j, rfl, hj, HF, E, b4⟩ := hrel
          have c4 := b4.cell
          have f4 := b4.free
          obtain ⟨hcE, hfE⟩ := bcell E.low
          by_cases hlt : j < l.length
          · obtain ⟨y, hy⟩ := at_some hlt
            have hym := List.mem_of_getElem? hy
            have HY := Lib.hid hy
            obtain ⟨g, o, rfl, hg, -⟩ := RRow.cells hlW hlt
            have hyo := hokW.mem hym
            have hyf := hfl.mem hym
            have hye := hev.mem hym
            have hsz : y.sz ≤ N := by have := St.sz_at hy; omega
            obtain ⟨hw3, hw4⟩ := hvw y hym
            have HS := exSts_step HF hy
            obtain ⟨⟨y1, y2, y3, y4⟩, hO⟩ : ∃ F, exOne y (L44.map Sy.ps) = F := ⟨_, rfl⟩
            have HO := Lib.hid hO
            have hs := HS.out
            rw [hO] at hs
            dsimp only at hs
            clear hy hO HS
            by_cases hz5 : y1 = 0
            · rw [if_neg (by simpa using hz5)] at hs
              obtain ⟨g5, g6⟩ := kd_t hz5
              have HS := Lib.hid hs
              clear hs hz5
              go_upto_region 9999 with (first | ((with_reducible refine at_dst 50 ?_); (refine wp_rec2 ((RRow.ext hlW E.low)) (HY.out) stC_len rfl rfl ?_ ?_ ?_); (· kernel_rfl); (· kernel_rfl)) | ((with_reducible refine at_dst 12 ?_); go_simp; (generalize hX12 : Array.size (World.heap _) = X12); refine new_block hX12 ?_; intro wn bb hx; (try (have n4_12 := (b4.ne hX12).1; have n12_4 := (b4.ne hX12).2)); (try (have z12 := Nat.le_trans E.size (Nat.le_of_eq hX12))); have b12 := Loc.new bb E hX12; clear bb hX12; (try replace E := E.ext hx); (try replace b4 := b4.ext hx); (try (clear hcE hfE)); (try (have hcf := bcell E.low; obtain ⟨hcE, hfE⟩ := hcf)); (try (clear c4 f4)); (try (have c4 := b4.cell; have f4 := b4.free)); (try (have c12 := b12.cell; have f12 := b12.free))) | ((with_reducible refine at_dst 51 ?_); (refine wp_all b12.blk rfl rfl ?_ ?_ ?_); (· kernel_rfl); (· kernel_rfl)) | ((with_reducible refine at_dst 53 ?_); go_simp; ((refine (one_any IH (hyo.ext E.low) hyf hye (hvs.ext E.low) hsz hw3 hw4).mono ?_)); unfold FPost FT.v; rw [HO.out]; dsimp only; rintro e wn ⟨rfl, hx⟩; (try replace E := E.ext hx); (try replace b4 := b4.ext hx); (try replace b12 := b12.ext hx); (try (clear hcE hfE)); (try (have hcf := bcell E.low; obtain ⟨hcE, hfE⟩ := hcf)); (try (clear c4 f4)); (try (have c4 := b4.cell; have f4 := b4.free)); (try (clear c12 f12)); (try (have c12 := b12.cell; have f12 := b12.free))) | ((with_reducible refine at_dst 13 ?_); go_simp; (generalize hX13 : Array.size (World.heap _) = X13); refine new_block hX13 ?_; intro wn bb hx; (try (have n4_13 := (b4.ne hX13).1; have n13_4 := (b4.ne hX13).2)); (try (have n12_13 := (b12.ne hX13).1; have n13_12 := (b12.ne hX13).2)); (try (have z13 := Nat.le_trans E.size (Nat.le_of_eq hX13))); have b13 := Loc.new bb E hX13; clear bb hX13; (try replace E := E.ext hx); (try replace b4 := b4.ext hx); (try replace b12 := b12.ext hx); (try (clear hcE hfE)); (try (have hcf := bcell E.low; obtain ⟨hcE, hfE⟩ := hcf)); (try (clear c4 f4)); (try (have c4 := b4.cell; have f4 := b4.free)); (try (clear c12 f12)); (try (have c12 := b12.cell; have f12 := b12.free)); (try (have c13 := b13.cell; have f13 := b13.free))) | ((with_reducible refine at_store 12 ?_); (refine wp_put b12 rfl rfl ?_ ?_ ?_ ?_; (· kernel_rfl); (· first | rfl | kernel_rfl); (· first | decide | exact Nat.le_refl _ | simp [Act.eval, Value.cells] | (simp [Act.eval, Act.put, Value.cells]; done)); intro wn bn hb; have E2 := E.put b12 hb; (try replace b4 := b4.but hb n4_12); (first | (replace EX := EX.but hb b12.blk (of_decide_eq_true rfl)) | (replace EX := EX.but0 hb mEX_12) | skip); clear E b12; have E := E2; clear E2; have b12 := bn; clear bn hb; dsimp only [Act.put]; simp only [putA, Act.eval, Value.cells, Nat.reduceAdd, putL, sizL] at b12; (try (clear hcE hfE)); (try (have hcf := bcell E.low; obtain ⟨hcE, hfE⟩ := hcf)); (try (clear c4 f4)); (try (have c4 := b4.cell; have f4 := b4.free)); (try (clear c12 f12)); (try (have c12 := b12.cell; have f12 := b12.free)))) | ((with_reducible refine at_store 13 ?_); (refine wp_put b13 rfl rfl ?_ ?_ ?_ ?_; (· kernel_rfl); (· first | rfl | kernel_rfl); (· first | decide | exact Nat.le_refl _ | simp [Act.eval, Value.cells] | (simp [Act.eval, Act.put, Value.cells]; done)); intro wn bn hb; have E2 := E.put b13 hb; (try replace b4 := b4.but hb n4_13); (try replace b12 := b12.but hb n12_13); (first | (replace EX := EX.but hb b13.blk (of_decide_eq_true rfl)) | (replace EX := EX.but0 hb mEX_13) | skip); clear E b13; have E := E2; clear E2; have b13 := bn; clear bn hb; dsimp only [Act.put]; simp only [putA, Act.eval, Value.cells, Nat.reduceAdd, putL, sizL] at b13; (try (clear hcE hfE)); (try (have hcf := bcell E.low; obtain ⟨hcE, hfE⟩ := hcf)); (try (clear c4 f4)); (try (have c4 := b4.cell; have f4 := b4.free)); (try (clear c12 f12)); (try (have c12 := b12.cell; have f12 := b12.free)); (try (clear c13 f13)); (try (have c13 := b13.cell; have f13 := b13.free)))))
              go_roundw
              case rel => exact ⟨j + 1, by go_num, by omega, HS.out, E, b4⟩
              case measure => simp [intOf]; omega
            · rw [if_pos hz5] at hs
              obtain ⟨g5, g6⟩ := kd_f hz5
              have HS := Lib.hid hs
              clear hs hz5
              go_upto_region 17 with (first | ((with_reducible refine at_dst 50 ?_); (refine wp_rec2 ((RRow.ext hlW E.low)) (HY.out) stC_len rfl rfl ?_ ?_ ?_); (· kernel_rfl); (· kernel_rfl)) | ((with_reducible refine at_dst 12 ?_); go_simp; (generalize hX12 : Array.size (World.heap _) = X12); refine new_block hX12 ?_; intro wn bb hx; (try (have n4_12 := (b4.ne hX12).1; have n12_4 := (b4.ne hX12).2)); (try (have z12 := Nat.le_trans E.size (Nat.le_of_eq hX12))); have b12 := Loc.new bb E hX12; clear bb hX12; (try replace E := E.ext hx); (try replace b4 := b4.ext hx); (try (clear hcE hfE)); (try (have hcf := bcell E.low; obtain ⟨hcE, hfE⟩ := hcf)); (try (clear c4 f4)); (try (have c4 := b4.cell; have f4 := b4.free)); (try (have c12 := b12.cell; have f12 := b12.free))) | ((with_reducible refine at_dst 51 ?_); (refine wp_all b12.blk rfl rfl ?_ ?_ ?_); (· kernel_rfl); (· kernel_rfl)) | ((with_reducible refine at_dst 53 ?_); go_simp; ((refine (one_any IH (hyo.ext E.low) hyf hye (hvs.ext E.low) hsz hw3 hw4).mono ?_)); unfold FPost FT.v; rw [HO.out]; dsimp only; rintro e wn ⟨rfl, hx⟩; (try replace E := E.ext hx); (try replace b4 := b4.ext hx); (try replace b12 := b12.ext hx); (try (clear hcE hfE)); (try (have hcf := bcell E.low; obtain ⟨hcE, hfE⟩ := hcf)); (try (clear c4 f4)); (try (have c4 := b4.cell; have f4 := b4.free)); (try (clear c12 f12)); (try (have c12 := b12.cell; have f12 := b12.free))) | ((with_reducible refine at_dst 13 ?_); go_simp; (generalize hX13 : Array.size (World.heap _) = X13); refine new_block hX13 ?_; intro wn bb hx; (try (have n4_13 := (b4.ne hX13).1; have n13_4 := (b4.ne hX13).2)); (try (have n12_13 := (b12.ne hX13).1; have n13_12 := (b12.ne hX13).2)); (try (have z13 := Nat.le_trans E.size (Nat.le_of_eq hX13))); have b13 := Loc.new bb E hX13; clear bb hX13; (try replace E := E.ext hx); (try replace b4 := b4.ext hx); (try replace b12 := b12.ext hx); (try (clear hcE hfE)); (try (have hcf := bcell E.low; obtain ⟨hcE, hfE⟩ := hcf)); (try (clear c4 f4)); (try (have c4 := b4.cell; have f4 := b4.free)); (try (clear c12 f12)); (try (have c12 := b12.cell; have f12 := b12.free)); (try (have c13 := b13.cell; have f13 := b13.free))) | ((with_reducible refine at_store 12 ?_); (refine wp_put b12 rfl rfl ?_ ?_ ?_ ?_; (· kernel_rfl); (· first | rfl | kernel_rfl); (· first | decide | exact Nat.le_refl _ | simp [Act.eval, Value.cells] | (simp [Act.eval, Act.put, Value.cells]; done)); intro wn bn hb; have E2 := E.put b12 hb; (try replace b4 := b4.but hb n4_12); (first | (replace EX := EX.but hb b12.blk (of_decide_eq_true rfl)) | (replace EX := EX.but0 hb mEX_12) | skip); clear E b12; have E := E2; clear E2; have b12 := bn; clear bn hb; dsimp only [Act.put]; simp only [putA, Act.eval, Value.cells, Nat.reduceAdd, putL, sizL] at b12; (try (clear hcE hfE)); (try (have hcf := bcell E.low; obtain ⟨hcE, hfE⟩ := hcf)); (try (clear c4 f4)); (try (have c4 := b4.cell; have f4 := b4.free)); (try (clear c12 f12)); (try (have c12 := b12.cell; have f12 := b12.free)))) | ((with_reducible refine at_store 13 ?_); (refine wp_put b13 rfl rfl ?_ ?_ ?_ ?_; (· kernel_rfl); (· first | rfl | kernel_rfl); (· first | decide | exact Nat.le_refl _ | simp [Act.eval, Value.cells] | (simp [Act.eval, Act.put, Value.cells]; done)); intro wn bn hb; have E2 := E.put b13 hb; (try replace b4 := b4.but hb n4_13); (try replace b12 := b12.but hb n12_13); (first | (replace EX := EX.but hb b13.blk (of_decide_eq_true rfl)) | (replace EX := EX.but0 hb mEX_13) | skip); clear E b13; have E := E2; clear E2; have b13 := bn; clear bn hb; dsimp only [Act.put]; simp only [putA, Act.eval, Value.cells, Nat.reduceAdd, putL, sizL] at b13; (try (clear hcE hfE)); (try (have hcf := bcell E.low; obtain ⟨hcE, hfE⟩ := hcf)); (try (clear c4 f4)); (try (have c4 := b4.cell; have f4 := b4.free)); (try (clear c12 f12)); (try (have c12 := b12.cell; have f12 := b12.free)); (try (clear c13 f13)); (try (have c13 := b13.cell; have f13 := b13.free)))))
              have E2 : Only [] w wn := hE1.trans E (fun x hx => by cases hx)
              clear E hcE hfE
              have E := E2
              clear E2
              obtain ⟨hcE, hfE⟩ := bcell E.low
              go_upto_region 9999 with (first | ((with_reducible refine at_dst 57 ?_); (refine wp_all b13.blk rfl rfl ?_ ?_ ?_); (· kernel_rfl); (· kernel_rfl)) | ((with_reducible refine at_store 4 ?_); (refine wp_put b4 rfl rfl ?_ ?_ ?_ ?_; (· kernel_rfl); (· first | rfl | kernel_rfl); (· first | decide | exact Nat.le_refl _ | simp [Act.eval, Value.cells] | (simp [Act.eval, Act.put, Value.cells]; done)); intro wn bn hb; have E2 := E.put b4 hb; (try replace b12 := b12.but hb n12_4); (try replace b13 := b13.but hb n13_4); (first | (replace EX := EX.but hb b4.blk (of_decide_eq_true rfl)) | (replace EX := EX.but0 hb mEX_4) | skip); clear E b4; have E := E2; clear E2; have b4 := bn; clear bn hb; dsimp only [Act.put]; simp only [putA, Act.eval, Value.cells, Nat.reduceAdd, putL, sizL] at b4; (try (clear hcE hfE)); (try (have hcf := bcell E.low; obtain ⟨hcE, hfE⟩ := hcf)); (try (clear c4 f4)); (try (have c4 := b4.cell; have f4 := b4.free)); (try (clear c12 f12)); (try (have c12 := b12.cell; have f12 := b12.free)); (try (clear c13 f13)); (try (have c13 := b13.cell; have f13 := b13.free)))) | ((with_reducible refine at_store 4 ?_); (refine wp_put b4 rfl rfl ?_ ?_ ?_ ?_; (· kernel_rfl); (· first | rfl | kernel_rfl); (· first | decide | exact Nat.le_refl _ | simp [Act.eval, Value.cells] | (simp [Act.eval, Act.put, Value.cells]; done)); intro wn bn hb; have E2 := E.put b4 hb; (try replace b12 := b12.but hb n12_4); (try replace b13 := b13.but hb n13_4); (first | (replace EX := EX.but hb b4.blk (of_decide_eq_true rfl)) | (replace EX := EX.but0 hb mEX_4) | skip); clear E b4; have E := E2; clear E2; have b4 := bn; clear bn hb; dsimp only [Act.put]; simp only [putA, Act.eval, Value.cells, Nat.reduceAdd, putL, sizL] at b4; (try (clear hcE hfE)); (try (have hcf := bcell E.low; obtain ⟨hcE, hfE⟩ := hcf)); (try (clear c4 f4)); (try (have c4 := b4.cell; have f4 := b4.free)); (try (clear c12 f12)); (try (have c12 := b12.cell; have f12 := b12.free)); (try (clear c13 f13)); (try (have c13 := b13.cell; have f13 := b13.free)))) | ((with_reducible refine at_store 4 ?_); (refine wp_put b4 rfl rfl ?_ ?_ ?_ ?_; (· kernel_rfl); (· first | rfl | kernel_rfl); (· first | decide | exact Nat.le_refl _ | simp [Act.eval, Value.cells] | (simp [Act.eval, Act.put, Value.cells]; done)); intro wn bn hb; have E2 := E.put b4 hb; (try replace b12 := b12.but hb n12_4); (try replace b13 := b13.but hb n13_4); (first | (replace EX := EX.but hb b4.blk (of_decide_eq_true rfl)) | (replace EX := EX.but0 hb mEX_4) | skip); clear E b4; have E := E2; clear E2; have b4 := bn; clear bn hb; dsimp only [Act.put]; simp only [putA, Act.eval, Value.cells, Nat.reduceAdd, putL, sizL] at b4; (try (clear hcE hfE)); (try (have hcf := bcell E.low; obtain ⟨hcE, hfE⟩ := hcf)); (try (clear c4 f4)); (try (have c4 := b4.cell; have f4 := b4.free)); (try (clear c12 f12)); (try (have c12 := b12.cell; have f12 := b12.free)); (try (clear c13 f13)); (try (have c13 := b13.cell; have f13 := b13.free)))) | ((with_reducible refine at_store 4 ?_); (refine wp_put b4 rfl rfl ?_ ?_ ?_ ?_; (· kernel_rfl); (· first | rfl | kernel_rfl); (· first | decide | exact Nat.le_refl _ | simp [Act.eval, Value.cells] | (simp [Act.eval, Act.put, Value.cells]; done)); intro wn bn hb; have E2 := E.put b4 hb; (try replace b12 := b12.but hb n12_4); (try replace b13 := b13.but hb n13_4); (first | (replace EX := EX.but hb b4.blk (of_decide_eq_true rfl)) | (replace EX := EX.but0 hb mEX_4) | skip); clear E b4; have E := E2; clear E2; have b4 := bn; clear bn hb; dsimp only [Act.put]; simp only [putA, Act.eval, Value.cells, Nat.reduceAdd, putL, sizL] at b4; (try (clear hcE hfE)); (try (have hcf := bcell E.low; obtain ⟨hcE, hfE⟩ := hcf)); (try (clear c4 f4)); (try (have c4 := b4.cell; have f4 := b4.free)); (try (clear c12 f12)); (try (have c12 := b12.cell; have f12 := b12.free)); (try (clear c13 f13)); (try (have c13 := b13.cell; have f13 := b13.free)))))
              refine bodyPost_ret (v := .agg #[.int .i64 y1, .int .i64 y2, .int .i64 y3, .string y4]) (by simp [results, Try.f15, go_sem, c4]) rfl ?_
              exact fpost HS.out.symm E.low
          · have hz5 : FT.zero = R := by
              have := HF.out
              rw [List.drop_of_length_le (by omega), exSts] at this
              exact this
            have HZ := Lib.hid hz5
            clear hz5
            have E2 : Only [] w wr := hE1.trans E (fun x hx => by cases hx)
            clear E hcE hfE
            have E := E2
            clear E2
            obtain ⟨hcE, hfE⟩ := bcell E.low
            go_upto_region 9999 with (first | ((with_reducible refine at_store 4 ?_); (refine wp_put b4 rfl rfl ?_ ?_ ?_ ?_; (· kernel_rfl); (· first | rfl | kernel_rfl); (· first | decide | exact Nat.le_refl _ | simp [Act.eval, Value.cells] | (simp [Act.eval, Act.put, Value.cells]; done)); intro wn bn hb; have E2 := E.put b4 hb; (first | (replace EX := EX.but hb b4.blk (of_decide_eq_true rfl)) | (replace EX := EX.but0 hb mEX_4) | skip); clear E b4; have E := E2; clear E2; have b4 := bn; clear bn hb; dsimp only [Act.put]; simp only [putA, Act.eval, Value.cells, Nat.reduceAdd, putL, sizL] at b4; (try (clear hcE hfE)); (try (have hcf := bcell E.low; obtain ⟨hcE, hfE⟩ := hcf)); (try (clear c4 f4)); (try (have c4 := b4.cell; have f4 := b4.free)))) | ((with_reducible refine at_store 4 ?_); (refine wp_put b4 rfl rfl ?_ ?_ ?_ ?_; (· kernel_rfl); (· first | rfl | kernel_rfl); (· first | decide | exact Nat.le_refl _ | simp [Act.eval, Value.cells] | (simp [Act.eval, Act.put, Value.cells]; done)); intro wn bn hb; have E2 := E.put b4 hb; (first | (replace EX := EX.but hb b4.blk (of_decide_eq_true rfl)) | (replace EX := EX.but0 hb mEX_4) | skip); clear E b4; have E := E2; clear E2; have b4 := bn; clear bn hb; dsimp only [Act.put]; simp only [putA, Act.eval, Value.cells, Nat.reduceAdd, putL, sizL] at b4; (try (clear hcE hfE)); (try (have hcf := bcell E.low; obtain ⟨hcE, hfE⟩ := hcf)); (try (clear c4 f4)); (try (have c4 := b4.cell; have f4 := b4.free)))) | ((with_reducible refine at_store 4 ?_); (refine wp_put b4 rfl rfl ?_ ?_ ?_ ?_; (· kernel_rfl); (· first | rfl | kernel_rfl); (· first | decide | exact Nat.le_refl _ | simp [Act.eval, Value.cells] | (simp [Act.eval, Act.put, Value.cells]; done)); intro wn bn hb; have E2 := E.put b4 hb; (first | (replace EX := EX.but hb b4.blk (of_decide_eq_true rfl)) | (replace EX := EX.but0 hb mEX_4) | skip); clear E b4; have E := E2; clear E2; have b4 := bn; clear bn hb; dsimp only [Act.put]; simp only [putA, Act.eval, Value.cells, Nat.reduceAdd, putL, sizL] at b4; (try (clear hcE hfE)); (try (have hcf := bcell E.low; obtain ⟨hcE, hfE⟩ := hcf)); (try (clear c4 f4)); (try (have c4 := b4.cell; have f4 := b4.free)))) | ((with_reducible refine at_store 4 ?_); (refine wp_put b4 rfl rfl ?_ ?_ ?_ ?_; (· kernel_rfl); (· first | rfl | kernel_rfl); (· first | decide | exact Nat.le_refl _ | simp [Act.eval, Value.cells] | (simp [Act.eval, Act.put, Value.cells]; done)); intro wn bn hb; have E2 := E.put b4 hb; (first | (replace EX := EX.but hb b4.blk (of_decide_eq_true rfl)) | (replace EX := EX.but0 hb mEX_4) | skip); clear E b4; have E := E2; clear E2; have b4 := bn; clear bn hb; dsimp only [Act.put]; simp only [putA, Act.eval, Value.cells, Nat.reduceAdd, putL, sizL] at b4; (try (clear hcE hfE)); (try (have hcf := bcell E.low; obtain ⟨hcE, hfE⟩ := hcf)); (try (clear c4 f4)); (try (have c4 := b4.cell; have f4 := b4.free)))))
            refine bodyPost_ret (v := .agg #[.int .i64 0, .int .i64 0, .int .i64 0, .string ⟨#[]⟩]) (by simp [results, Try.f15, go_sem, c4]) rfl ?_
            exact fpost HZ.out.symm E.low
  · rw [if_pos hq] at hR
    obtain ⟨g3, g4⟩ := kd_f hq
    have HR := Lib.hid hR
    clear hR hq
    go_upto_region 9999 with (first | ((with_reducible refine at_dst 4 ?_); go_simp; (generalize hX4 : Array.size (World.heap _) = X4); refine new_block hX4 ?_; intro wn bb hx; (try (have z4 := Nat.le_trans E.size (Nat.le_of_eq hX4))); have b4 := Loc.new bb E hX4; clear bb hX4; (try replace E := E.ext hx); (try (have hcf := bcell E.low; obtain ⟨hcE, hfE⟩ := hcf)); (try (have c4 := b4.cell; have f4 := b4.free))) | ((with_reducible refine at_dst 16 ?_); go_simp; ((refine (block_any (RRow.ext hl E.low) (hok.ext E.low) hfl hwA).mono ?_)); unfold BPostB FT.v; rw [HB.out]; dsimp only; rintro e wn ⟨ba, bc, bs, rfl, HBS, hBS, hx⟩; replace HBS := Lib.hid HBS; have EX := Ext.refl wn; (try replace E := E.ext hx); (try replace b4 := b4.ext hx); (try (clear hcE hfE)); (try (have hcf := bcell E.low; obtain ⟨hcE, hfE⟩ := hcf)); (try (clear c4 f4)); (try (have c4 := b4.cell; have f4 := b4.free))) | ((with_reducible refine at_dst 6 ?_); go_simp; (generalize hX6 : Array.size (World.heap _) = X6); refine new_block hX6 ?_; intro wn bb hx; (try (have n4_6 := (b4.ne hX6).1; have n6_4 := (b4.ne hX6).2)); (try (have z6 := Nat.le_trans E.size (Nat.le_of_eq hX6))); (try (have mEX_6 := EX.notin (Nat.le_of_eq hX6))); have b6 := Loc.new bb E hX6; clear bb hX6; (try replace E := E.ext hx); (try replace b4 := b4.ext hx); (try replace EX := EX.ext hx); (try (clear hcE hfE)); (try (have hcf := bcell E.low; obtain ⟨hcE, hfE⟩ := hcf)); (try (clear c4 f4)); (try (have c4 := b4.cell; have f4 := b4.free)); (try (have c6 := b6.cell; have f6 := b6.free))) | ((with_reducible refine at_dst 22 ?_); (refine wp_all b6.blk rfl rfl ?_ ?_ ?_); (· kernel_rfl); (· kernel_rfl)) | ((with_reducible refine at_store 6 ?_); (refine wp_put b6 rfl rfl ?_ ?_ ?_ ?_; (· kernel_rfl); (· first | rfl | kernel_rfl); (· first | decide | exact Nat.le_refl _ | simp [Act.eval, Value.cells] | (simp [Act.eval, Act.put, Value.cells]; done)); intro wn bn hb; have E2 := E.put b6 hb; (try replace b4 := b4.but hb n4_6); (first | (replace EX := EX.but hb b6.blk (of_decide_eq_true rfl)) | (replace EX := EX.but0 hb mEX_6) | skip); clear E b6; have E := E2; clear E2; have b6 := bn; clear bn hb; dsimp only [Act.put]; simp only [putA, Act.eval, Value.cells, Nat.reduceAdd, putL, sizL] at b6; (try (clear hcE hfE)); (try (have hcf := bcell E.low; obtain ⟨hcE, hfE⟩ := hcf)); (try (clear c4 f4)); (try (have c4 := b4.cell; have f4 := b4.free)); (try (clear c6 f6)); (try (have c6 := b6.cell; have f6 := b6.free)))) | ((with_reducible refine at_store 4 ?_); (refine wp_put b4 rfl rfl ?_ ?_ ?_ ?_; (· kernel_rfl); (· first | rfl | kernel_rfl); (· first | decide | exact Nat.le_refl _ | simp [Act.eval, Value.cells] | (simp [Act.eval, Act.put, Value.cells]; done)); intro wn bn hb; have E2 := E.put b4 hb; (try replace b6 := b6.but hb n6_4); (first | (replace EX := EX.but hb b4.blk (of_decide_eq_true rfl)) | (replace EX := EX.but0 hb mEX_4) | skip); clear E b4; have E := E2; clear E2; have b4 := bn; clear bn hb; dsimp only [Act.put]; simp only [putA, Act.eval, Value.cells, Nat.reduceAdd, putL, sizL] at b4; (try (clear hcE hfE)); (try (have hcf := bcell E.low; obtain ⟨hcE, hfE⟩ := hcf)); (try (clear c4 f4)); (try (have c4 := b4.cell; have f4 := b4.free)); (try (clear c6 f6)); (try (have c6 := b6.cell; have f6 := b6.free)))) | ((with_reducible refine at_store 4 ?_); (refine wp_put b4 rfl rfl ?_ ?_ ?_ ?_; (· kernel_rfl); (· first | rfl | kernel_rfl); (· first | decide | exact Nat.le_refl _ | simp [Act.eval, Value.cells] | (simp [Act.eval, Act.put, Value.cells]; done)); intro wn bn hb; have E2 := E.put b4 hb; (try replace b6 := b6.but hb n6_4); (first | (replace EX := EX.but hb b4.blk (of_decide_eq_true rfl)) | (replace EX := EX.but0 hb mEX_4) | skip); clear E b4; have E := E2; clear E2; have b4 := bn; clear bn hb; dsimp only [Act.put]; simp only [putA, Act.eval, Value.cells, Nat.reduceAdd, putL, sizL] at b4; (try (clear hcE hfE)); (try (have hcf := bcell E.low; obtain ⟨hcE, hfE⟩ := hcf)); (try (clear c4 f4)); (try (have c4 := b4.cell; have f4 := b4.free)); (try (clear c6 f6)); (try (have c6 := b6.cell; have f6 := b6.free)))) | ((with_reducible refine at_store 4 ?_); (refine wp_put b4 rfl rfl ?_ ?_ ?_ ?_; (· kernel_rfl); (· first | rfl | kernel_rfl); (· first | decide | exact Nat.le_refl _ | simp [Act.eval, Value.cells] | (simp [Act.eval, Act.put, Value.cells]; done)); intro wn bn hb; have E2 := E.put b4 hb; (try replace b6 := b6.but hb n6_4); (first | (replace EX := EX.but hb b4.blk (of_decide_eq_true rfl)) | (replace EX := EX.but0 hb mEX_4) | skip); clear E b4; have E := E2; clear E2; have b4 := bn; clear bn hb; dsimp only [Act.put]; simp only [putA, Act.eval, Value.cells, Nat.reduceAdd, putL, sizL] at b4; (try (clear hcE hfE)); (try (have hcf := bcell E.low; obtain ⟨hcE, hfE⟩ := hcf)); (try (clear c4 f4)); (try (have c4 := b4.cell; have f4 := b4.free)); (try (clear c6 f6)); (try (have c6 := b6.cell; have f6 := b6.free)))) | ((with_reducible refine at_store 4 ?_); (refine wp_put b4 rfl rfl ?_ ?_ ?_ ?_; (· kernel_rfl); (· first | rfl | kernel_rfl); (· first | decide | exact Nat.le_refl _ | simp [Act.eval, Value.cells] | (simp [Act.eval, Act.put, Value.cells]; done)); intro wn bn hb; have E2 := E.put b4 hb; (try replace b6 := b6.but hb n6_4); (first | (replace EX := EX.but hb b4.blk (of_decide_eq_true rfl)) | (replace EX := EX.but0 hb mEX_4) | skip); clear E b4; have E := E2; clear E2; have b4 := bn; clear bn hb; dsimp only [Act.put]; simp only [putA, Act.eval, Value.cells, Nat.reduceAdd, putL, sizL] at b4; (try (clear hcE hfE)); (try (have hcf := bcell E.low; obtain ⟨hcE, hfE⟩ := hcf)); (try (clear c4 f4)); (try (have c4 := b4.cell; have f4 := b4.free)); (try (clear c6 f6)); (try (have c6 := b6.cell; have f6 := b6.free)))))
    refine bodyPost_ret (v := .agg #[.int .i64 q1, .int .i64 q2, .int .i64 q3, .string q4]) (by simp [results, Try.f15, go_sem, c4]) rfl ?_
    exact fpost HR.out.symm E.low
end Go.Proofs.Ytnifgkgdphlleaa
