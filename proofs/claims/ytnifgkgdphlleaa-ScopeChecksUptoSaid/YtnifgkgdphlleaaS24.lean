/- Qm -/
import Derived.Test.YtnifgkgdphlleaaS21
import Derived.Test.YtnifgkgdphlleaaS15
import Derived.Test.YtnifgkgdphlleaaS23
set_option linter.unusedSimpArgs false
set_option linter.unusedVariables false
namespace Go.Proofs.Ytnifgkgdphlleaa
open Go.RowKit Tk
theorem blockR_wt (all : List PS) : wtU (blockR all).1 ≤ wtU all := by
  unfold blockR
  split
  · exact Nat.zero_le _
  · have := foldR_wt all all []
    have h0 : wtU [] = 0 := rfl
    show wtU (all.foldl (stepR all) []) ≤ _
    omega
theorem RRow.sub {α : Type} {k : Nat} {f : α → List Value} {w : World} {g o n c i : Nat} {xs : List α} {y : α} (h : RRow w k f (.slice (some ⟨g, o, none⟩) n c) xs) (hy : xs[i]? = some y) : RRow w k f (.slice (some ⟨g, o + i * k, none⟩) 1 (c - i)) [y] := by
  obtain ⟨hi, e⟩ := List.getElem?_eq_some_iff.1 hy
  obtain ⟨g', o', e1, hg, hc⟩ := RRow.cells h hi
  injection e1 with e1
  injection e1 with e2 e3
  subst e2 e3 e
  obtain ⟨a', c', e4, n1, n2, -⟩ := h
  injection e4 with e5 e6 e7
  subst e6 e7
  refine ⟨_, _, rfl, by simp only [List.length_cons, List.length_nil]; omega, by omega, .inr ⟨_, _, rfl, hg, fun j hj q hq => ?_⟩⟩
  have hj0 : j = 0 := by simpa using hj
  subst hj0
  rw [Nat.zero_mul, Nat.add_zero]
  exact hc q hq
theorem RRow.at145 {w : World} {g o n c i : Nat} {xs : List Sy} {y : Sy} (h : RRow w 6 syC (.slice (some ⟨g, o, none⟩) n c) xs) (hy : xs[i]? = some y) : w.cell? ⟨g, o + i * 6 + 1, none⟩ = some (.string y.name) ∧ w.cell? ⟨g, o + i * 6 + 4, none⟩ = some (.int .i64 y.line) ∧ w.cell? ⟨g, o + i * 6 + 4 + 1, none⟩ = some (.int .i64 y.col) := by
  obtain ⟨hi, e⟩ := List.getElem?_eq_some_iff.1 hy
  subst e
  obtain ⟨g', o', e, hg, hc⟩ := RRow.cells h hi
  injection e with e
  injection e with e1 e2
  subst e1 e2
  exact ⟨hc 1 (by omega), hc 4 (by omega), hc 5 (by omega)⟩
theorem RRow.caps {α : Type} {k : Nat} {f : α → List Value} {w : World} {a : Option Addr} {n c : Nat} {xs : List α} (h : RRow w k f (.slice a n c) xs) : n ≤ c ∧ c ≤ 9223372036854775807 := by
  obtain ⟨a', c', e4, n1, n2, -⟩ := h
  injection e4 with e5 e6 e7
  subst e6 e7
  exact ⟨n1, n2⟩
theorem fclashR_step {out : List PS} {l : List PS} {j : Nat} {y : PS} {R : Option (Int × PS)} (h : Hid (firstClash spR out (l.drop j) = R)) (hy : l[j]? = some y) : Hid ((if clashPS spR out y ≠ 0 then some (clashPS spR out y, y) else firstClash spR out (l.drop (j + 1))) = R) := by
  have := h.out
  rw [drop_at hy] at this
  exact this
theorem exStsR_step {vis : List PS} {l : List St} {j : Nat} {y : St} {R : FT} (h : Hid (exStsR (l.drop j) vis = R)) (hy : l[j]? = some y) : Hid ((if (exOneR y vis).code ≠ 0 then exOneR y vis else exStsR (l.drop (j + 1)) vis) = R) := by
  have := h.out
  rw [drop_at hy, exStsR] at this
  exact this
theorem visF_step {vis : List PS} {l : List PS} {j : Nat} {y : PS} {R : FT} (h : Hid (firstVis vis (l.drop j) = R)) (hy : l[j]? = some y) : Hid ((if (visR y vis).1 ≠ 0 then ⟨(visR y vis).1, y.line, y.col, (visR y vis).2⟩ else firstVis vis (l.drop (j + 1))) = R) := by
  have := h.out
  rw [drop_at hy] at this
  exact this
@[reducible] def ChkOk (N : Nat) : Prop := ∀ (l : List St) (os : List Sy) {w : World} {a a' : Option Addr} {n c n' c' : Nat}, RRow w 55 stC (.slice a n c) l → St.oks w l → St.fewls l → St.evfs l → Syms w (.slice a' n' c') os → St.szs l < N → wtU (os.map Sy.ps) + St.wts l ≤ 1000000000000 →
    Calls Try.prog 16 #[.slice a n c, .slice a' n' c'] w (FPost (exListR l (os.map Sy.ps)) w)
set_option maxHeartbeats 16000000 in
set_option maxRecDepth 100000 in
theorem qcheck_step {N : Nat} (IH : Hid (ChkOk N)) : ChkOk (N + 1) := by
  intro l os w a a' n c n' c' hl hok hfl hev hos hz hw
  have hwA : wtU (allS l) ≤ 1000000000000 := by have := St.wts_all l; omega
  obtain ⟨rfl, n2⟩ := RRow.lens hl
  obtain ⟨rfl, n3⟩ := hos.lens
  obtain ⟨R, hR⟩ : ∃ R, exListR l (os.map Sy.ps) = R := ⟨_, rfl⟩
  rw [hR]
  unfold exListR headR at hR
  obtain ⟨⟨own, ⟨q1, q2, q3, q4⟩⟩, hB⟩ : ∃ F, blockR (allS l) = F := ⟨_, rfl⟩
  rw [hB] at hR
  dsimp only at hR
  have HB := Lib.hid hB
  clear hB
  go_enter Try.func16, Try.ntmps16
  have E := Only.refl [] w
  by_cases hq : q1 = 0
  · rw [if_neg (by simpa using hq)] at hR
    obtain ⟨g3, g4⟩ := kd_t hq
    have HQ := Lib.hid hq
    have HR := Lib.hid hR
    clear hR hq
    go_upto_region 5 with (first | ((with_reducible refine at_dst 4 ?_); go_simp; (generalize hX4 : Array.size (World.heap _) = X4); refine new_block hX4 ?_; intro wn bb hx; (try (have z4 := Nat.le_trans E.size (Nat.le_of_eq hX4))); have b4 := Loc.new bb E hX4; clear bb hX4; (try replace E := E.ext hx); (try (have hcf := bcell E.low; obtain ⟨hcE, hfE⟩ := hcf)); (try (have c4 := b4.cell; have f4 := b4.free))) | ((with_reducible refine at_dst 19 ?_); go_simp; ((refine (qblock_any (RRow.ext hl E.low) (hok.ext E.low) hfl hwA).mono ?_)); unfold BPostB FT.v; rw [HB.out]; dsimp only; rintro e wn ⟨ba, bc, bs, rfl, HBS, hBS, hx⟩; replace HBS := Lib.hid HBS; have EX := Ext.refl wn; (try replace E := E.ext hx); (try replace b4 := b4.ext hx); (try (clear hcE hfE)); (try (have hcf := bcell E.low; obtain ⟨hcE, hfE⟩ := hcf)); (try (clear c4 f4)); (try (have c4 := b4.cell; have f4 := b4.free))) | ((with_reducible refine at_dst 6 ?_); go_simp; (generalize hX6 : Array.size (World.heap _) = X6); refine new_block hX6 ?_; intro wn bb hx; (try (have n4_6 := (b4.ne hX6).1; have n6_4 := (b4.ne hX6).2)); (try (have z6 := Nat.le_trans E.size (Nat.le_of_eq hX6))); (try (have mEX_6 := EX.notin (Nat.le_of_eq hX6))); have b6 := Loc.new bb E hX6; clear bb hX6; (try replace E := E.ext hx); (try replace b4 := b4.ext hx); (try replace EX := EX.ext hx); (try (clear hcE hfE)); (try (have hcf := bcell E.low; obtain ⟨hcE, hfE⟩ := hcf)); (try (clear c4 f4)); (try (have c4 := b4.cell; have f4 := b4.free)); (try (have c6 := b6.cell; have f6 := b6.free))) | ((with_reducible refine at_store 6 ?_); (refine wp_put b6 rfl rfl ?_ ?_ ?_ ?_; (· kernel_rfl); (· first | rfl | kernel_rfl); (· first | decide | exact Nat.le_refl _ | simp [Act.eval, Value.cells] | (simp [Act.eval, Act.put, Value.cells]; done)); intro wn bn hb; have E2 := E.put b6 hb; (try replace b4 := b4.but hb n4_6); (first | (replace EX := EX.but hb b6.blk (of_decide_eq_true rfl)) | (replace EX := EX.but0 hb mEX_6) | skip); (first | (replace hB9 := hB9.but hb b6.blk (of_decide_eq_true rfl)) | (replace hB9 := hB9.but0 hb mhB9_6) | skip); (first | (replace r54 := r54.but hb b6.blk (of_decide_eq_true rfl)) | (replace r54 := r54.but0 hb mr54_6) | skip); clear E b6; have E := E2; clear E2; have b6 := bn; clear bn hb; dsimp only [Act.put]; simp only [putA, Act.eval, Value.cells, Nat.reduceAdd, putL, sizL] at b6; (try (clear hcE hfE)); (try (have hcf := bcell E.low; obtain ⟨hcE, hfE⟩ := hcf)); (try (clear c4 f4)); (try (have c4 := b4.cell; have f4 := b4.free)); (try (clear c6 f6)); (try (have c6 := b6.cell; have f6 := b6.free)))))
    have hBS2 := hBS.ext EX
    obtain ⟨W, hW⟩ : ∃ W, W = wn := ⟨_, rfl⟩
    subst hW
    have hE0 := E
    have hosW := hos.ext E.low
    have hBr := hBS2.row
    have hbl : bs.length ≤ 9223372036854775807 := (RRow.lens hBr).2
    clear E hcE hfE hBS EX b6 c6 f6
    have E := Only.refl [] W
    obtain ⟨R1, hR1⟩ : ∃ R1, firstClash spR (os.map Sy.ps) own = R1 := ⟨_, rfl⟩
    have HR1 := Lib.hid hR1
    clear hR1
    go_loopw [7] (fun i wr => ∃ j : Nat, i = .int .i64 j ∧ j ≤ bs.length ∧ Hid (firstClash spR (os.map Sy.ps) ((bs.map Sy.ps).drop j) = R1) ∧ Only [] W wr ∧ Loc [] w wr X4 31 #[.int .i64 0, .int .i64 0, .int .i64 0, .string ⟨#[]⟩]) (fun i _ => bs.length - (intOf i).toNat)
    case atStart => exact ⟨0, rfl, Nat.zero_le _, Lib.hid (by rw [HBS.out]; exact HR1.out), E, b4⟩
    case round =>
      clear E b4 c4 f4
      obtain ⟨j, rfl, hj, HF, E, b4⟩ := hrel
      have c4 := b4.cell
      have f4 := b4.free
      obtain ⟨hcE, hfE⟩ := bcell E.low
      by_cases hlt : j < bs.length
      · obtain ⟨y, hy⟩ := at_some hlt
        have HY := Lib.hid hy
        obtain ⟨g, o, rfl, hg, -⟩ := hBS2.at hy
        have HS := fclashR_step HF (map_at (f := Sy.ps) hy)
        obtain ⟨e, hcl⟩ : ∃ e, clashP spR os y = e := ⟨_, rfl⟩
        have HCL := Lib.hid hcl
        have hs := HS.out
        rw [← clash_ps, hcl] at hs
        clear hy hcl HS
        by_cases hz : e = 0
        · rw [if_neg (by simpa using hz)] at hs
          obtain ⟨g5, g6⟩ := kd_t hz
          have HS := Lib.hid hs
          clear hs hz
          go_upto_region 9999 with (first | ((with_reducible refine at_dst 36 ?_); (refine wp_rec2 ((RRow.ext hBr E.low)) (HY.out) syC_len rfl rfl ?_ ?_ ?_); (· kernel_rfl); (· kernel_rfl)) | ((with_reducible refine at_dst 37 ?_); go_simp; ((refine (qclash_any (hosW.ext E.low) y).mono ?_)); unfold IPost; rw [HCL.out]; rintro e wn ⟨rfl, hx⟩; (try replace E := E.ext hx); (try replace b4 := b4.ext hx); (try (clear hcE hfE)); (try (have hcf := bcell E.low; obtain ⟨hcE, hfE⟩ := hcf)); (try (clear c4 f4)); (try (have c4 := b4.cell; have f4 := b4.free))))
          go_roundw
          case rel => exact ⟨j + 1, by go_num, by omega, HS.out, E, b4⟩
          case measure => simp [intOf]; omega
        · rw [if_pos hz] at hs
          obtain ⟨g5, g6⟩ := kd_f hz
          have HS := Lib.hid hs
          have hRR : R = ⟨e, y.line, y.col, y.name⟩ := by
            have := HR.out
            rw [HR1.out, ← hs] at this
            exact this.symm
          have HRR := Lib.hid hRR
          clear hs hz hRR
          go_upto_region 9 with (first | ((with_reducible refine at_dst 36 ?_); (refine wp_rec2 ((RRow.ext hBr E.low)) (HY.out) syC_len rfl rfl ?_ ?_ ?_); (· kernel_rfl); (· kernel_rfl)) | ((with_reducible refine at_dst 37 ?_); go_simp; ((refine (qclash_any (hosW.ext E.low) y).mono ?_)); unfold IPost; rw [HCL.out]; rintro e wn ⟨rfl, hx⟩; (try replace E := E.ext hx); (try replace b4 := b4.ext hx); (try (clear hcE hfE)); (try (have hcf := bcell E.low; obtain ⟨hcE, hfE⟩ := hcf)); (try (clear c4 f4)); (try (have c4 := b4.cell; have f4 := b4.free))))
          have hB9 := RRow.ext hBr E.low
          have HY9 := HY
          have E2 : Only [] w wn := hE0.trans E (fun x hx => by cases hx)
          clear E hcE hfE
          have E := E2
          clear E2
          obtain ⟨hcE, hfE⟩ := bcell E.low
          have kk := hB9.at145 HY9.out
          obtain ⟨k1, k4, k45⟩ := kk
          go_upto_region 9999 with (first | ((with_reducible refine at_store 4 ?_); (refine wp_put b4 rfl rfl ?_ ?_ ?_ ?_; (· kernel_rfl); (· first | rfl | kernel_rfl); (· first | decide | exact Nat.le_refl _ | simp [Act.eval, Value.cells] | (simp [Act.eval, Act.put, Value.cells]; done)); intro wn bn hb; have E2 := E.put b4 hb; (first | (replace EX := EX.but hb b4.blk (of_decide_eq_true rfl)) | (replace EX := EX.but0 hb mEX_4) | skip); (first | (replace hB9 := hB9.but hb b4.blk (of_decide_eq_true rfl)) | (replace hB9 := hB9.but0 hb mhB9_4) | skip); (first | (replace r54 := r54.but hb b4.blk (of_decide_eq_true rfl)) | (replace r54 := r54.but0 hb mr54_4) | skip); clear E b4; have E := E2; clear E2; have b4 := bn; clear bn hb; dsimp only [Act.put]; simp only [putA, Act.eval, Value.cells, Nat.reduceAdd, putL, sizL] at b4; (try (clear hcE hfE)); (try (have hcf := bcell E.low; obtain ⟨hcE, hfE⟩ := hcf)); (try (clear c4 f4)); (try (have c4 := b4.cell; have f4 := b4.free)); (try (clear k1 k4 k45)); (try (have kk := RRow.at145 (hB9) HY9.out; obtain ⟨k1, k4, k45⟩ := kk)))) | ((with_reducible refine at_store 4 ?_); (refine wp_put b4 rfl rfl ?_ ?_ ?_ ?_; (· kernel_rfl); (· first | rfl | kernel_rfl); (· first | decide | exact Nat.le_refl _ | simp [Act.eval, Value.cells] | (simp [Act.eval, Act.put, Value.cells]; done)); intro wn bn hb; have E2 := E.put b4 hb; (first | (replace EX := EX.but hb b4.blk (of_decide_eq_true rfl)) | (replace EX := EX.but0 hb mEX_4) | skip); (first | (replace hB9 := hB9.but hb b4.blk (of_decide_eq_true rfl)) | (replace hB9 := hB9.but0 hb mhB9_4) | skip); (first | (replace r54 := r54.but hb b4.blk (of_decide_eq_true rfl)) | (replace r54 := r54.but0 hb mr54_4) | skip); clear E b4; have E := E2; clear E2; have b4 := bn; clear bn hb; dsimp only [Act.put]; simp only [putA, Act.eval, Value.cells, Nat.reduceAdd, putL, sizL] at b4; (try (clear hcE hfE)); (try (have hcf := bcell E.low; obtain ⟨hcE, hfE⟩ := hcf)); (try (clear c4 f4)); (try (have c4 := b4.cell; have f4 := b4.free)); (try (clear k1 k4 k45)); (try (have kk := RRow.at145 (hB9) HY9.out; obtain ⟨k1, k4, k45⟩ := kk)))) | ((with_reducible refine at_store 4 ?_); (refine wp_put b4 rfl rfl ?_ ?_ ?_ ?_; (· kernel_rfl); (· first | rfl | kernel_rfl); (· first | decide | exact Nat.le_refl _ | simp [Act.eval, Value.cells] | (simp [Act.eval, Act.put, Value.cells]; done)); intro wn bn hb; have E2 := E.put b4 hb; (first | (replace EX := EX.but hb b4.blk (of_decide_eq_true rfl)) | (replace EX := EX.but0 hb mEX_4) | skip); (first | (replace hB9 := hB9.but hb b4.blk (of_decide_eq_true rfl)) | (replace hB9 := hB9.but0 hb mhB9_4) | skip); (first | (replace r54 := r54.but hb b4.blk (of_decide_eq_true rfl)) | (replace r54 := r54.but0 hb mr54_4) | skip); clear E b4; have E := E2; clear E2; have b4 := bn; clear bn hb; dsimp only [Act.put]; simp only [putA, Act.eval, Value.cells, Nat.reduceAdd, putL, sizL] at b4; (try (clear hcE hfE)); (try (have hcf := bcell E.low; obtain ⟨hcE, hfE⟩ := hcf)); (try (clear c4 f4)); (try (have c4 := b4.cell; have f4 := b4.free)); (try (clear k1 k4 k45)); (try (have kk := RRow.at145 (hB9) HY9.out; obtain ⟨k1, k4, k45⟩ := kk)))) | ((with_reducible refine at_store 4 ?_); (refine wp_put b4 rfl rfl ?_ ?_ ?_ ?_; (· kernel_rfl); (· first | rfl | kernel_rfl); (· first | decide | exact Nat.le_refl _ | simp [Act.eval, Value.cells] | (simp [Act.eval, Act.put, Value.cells]; done)); intro wn bn hb; have E2 := E.put b4 hb; (first | (replace EX := EX.but hb b4.blk (of_decide_eq_true rfl)) | (replace EX := EX.but0 hb mEX_4) | skip); (first | (replace hB9 := hB9.but hb b4.blk (of_decide_eq_true rfl)) | (replace hB9 := hB9.but0 hb mhB9_4) | skip); (first | (replace r54 := r54.but hb b4.blk (of_decide_eq_true rfl)) | (replace r54 := r54.but0 hb mr54_4) | skip); clear E b4; have E := E2; clear E2; have b4 := bn; clear bn hb; dsimp only [Act.put]; simp only [putA, Act.eval, Value.cells, Nat.reduceAdd, putL, sizL] at b4; (try (clear hcE hfE)); (try (have hcf := bcell E.low; obtain ⟨hcE, hfE⟩ := hcf)); (try (clear c4 f4)); (try (have c4 := b4.cell; have f4 := b4.free)); (try (clear k1 k4 k45)); (try (have kk := RRow.at145 (hB9) HY9.out; obtain ⟨k1, k4, k45⟩ := kk)))) | ((with_reducible refine at_store 4 ?_); (refine wp_put b4 rfl rfl ?_ ?_ ?_ ?_; (· kernel_rfl); (· first | rfl | kernel_rfl); (· first | decide | exact Nat.le_refl _ | simp [Act.eval, Value.cells] | (simp [Act.eval, Act.put, Value.cells]; done)); intro wn bn hb; have E2 := E.put b4 hb; (first | (replace EX := EX.but hb b4.blk (of_decide_eq_true rfl)) | (replace EX := EX.but0 hb mEX_4) | skip); (first | (replace hB9 := hB9.but hb b4.blk (of_decide_eq_true rfl)) | (replace hB9 := hB9.but0 hb mhB9_4) | skip); (first | (replace r54 := r54.but hb b4.blk (of_decide_eq_true rfl)) | (replace r54 := r54.but0 hb mr54_4) | skip); clear E b4; have E := E2; clear E2; have b4 := bn; clear bn hb; dsimp only [Act.put]; simp only [putA, Act.eval, Value.cells, Nat.reduceAdd, putL, sizL] at b4; (try (clear hcE hfE)); (try (have hcf := bcell E.low; obtain ⟨hcE, hfE⟩ := hcf)); (try (clear c4 f4)); (try (have c4 := b4.cell; have f4 := b4.free)); (try (clear k1 k4 k45)); (try (have kk := RRow.at145 (hB9) HY9.out; obtain ⟨k1, k4, k45⟩ := kk)))) | ((with_reducible refine at_store 4 ?_); (refine wp_put b4 rfl rfl ?_ ?_ ?_ ?_; (· kernel_rfl); (· first | rfl | kernel_rfl); (· first | decide | exact Nat.le_refl _ | simp [Act.eval, Value.cells] | (simp [Act.eval, Act.put, Value.cells]; done)); intro wn bn hb; have E2 := E.put b4 hb; (first | (replace EX := EX.but hb b4.blk (of_decide_eq_true rfl)) | (replace EX := EX.but0 hb mEX_4) | skip); (first | (replace hB9 := hB9.but hb b4.blk (of_decide_eq_true rfl)) | (replace hB9 := hB9.but0 hb mhB9_4) | skip); (first | (replace r54 := r54.but hb b4.blk (of_decide_eq_true rfl)) | (replace r54 := r54.but0 hb mr54_4) | skip); clear E b4; have E := E2; clear E2; have b4 := bn; clear bn hb; dsimp only [Act.put]; simp only [putA, Act.eval, Value.cells, Nat.reduceAdd, putL, sizL] at b4; (try (clear hcE hfE)); (try (have hcf := bcell E.low; obtain ⟨hcE, hfE⟩ := hcf)); (try (clear c4 f4)); (try (have c4 := b4.cell; have f4 := b4.free)); (try (clear k1 k4 k45)); (try (have kk := RRow.at145 (hB9) HY9.out; obtain ⟨k1, k4, k45⟩ := kk)))) | ((with_reducible refine at_reg 9 ?_); (refine wp_region_x (id := 9) (spOf []) [0, 1, 2, 3, 4, 5, 6, 7, 8, 9, 10, 11] [] [12] mixed ?_ ?_); (· decide +kernel); intro K ws hx hK; (try replace E := E.ext hx); (try replace b4 := b4.ext hx); (try replace hB9 := hB9.ext hx); (try (clear hcE hfE)); (try (have hcf := bcell E.low; obtain ⟨hcE, hfE⟩ := hcf)); (try (clear c4 f4)); (try (have c4 := b4.cell; have f4 := b4.free)); (try (clear k1 k4 k45)); (try (have kk := RRow.at145 (hB9) HY9.out; obtain ⟨k1, k4, k45⟩ := kk)); dsimp only [pickE, pickL, List.getElem?_cons_succ, List.getElem?_cons_zero] at hK ⊢) | ((with_reducible refine wpE_q ?_ ?_ ?_); rfl; rfl; intro wq hq _ _; (try (clear hcE hfE)); (try (have hcf := bcell (E.ext hq).low; obtain ⟨hcE, hfE⟩ := hcf)); (try (clear c4 f4)); (try (have c4 := (b4.ext hq).cell; have f4 := (b4.ext hq).free)); (try (clear k1 k4 k45)); (try (have kk := RRow.at145 ((hB9.ext hq)) HY9.out; obtain ⟨k1, k4, k45⟩ := kk))) | ((with_reducible refine at_nil 0 ?_); refine wpE_nil (fun wn hx hΦ hfp hdis => ?_); (try replace E := E.ext hx); (try replace b4 := b4.ext hx); (try replace hB9 := hB9.ext hx); (try (clear hcE hfE)); (try (have hcf := bcell E.low; obtain ⟨hcE, hfE⟩ := hcf)); (try (clear c4 f4)); (try (have c4 := b4.cell; have f4 := b4.free)); (try (clear k1 k4 k45)); (try (have kk := RRow.at145 (hB9) HY9.out; obtain ⟨k1, k4, k45⟩ := kk)); clear hΦ hfp hdis; refine hK _ _ ?_; clear hK) | ((with_reducible refine wpTxt_w0 ?_ ?_ ?_); rfl; rfl; intro _ _) | (with_reducible refine wpTxt_nil ?_))
          refine bodyPost_ret (v := .agg #[.int .i64 e, .int .i64 y.line, .int .i64 y.col, .string y.name]) (by simp [results, Try.f16, go_sem, c4]) rfl ?_
          exact fpost HRR.out E.low
      · have hnone : R1 = none := by
          have := HF.out
          rw [List.drop_of_length_le (by rw [List.length_map]; omega)] at this
          exact this.symm
        have hRR : exStsR l (os.map Sy.ps ++ own) = R := by
          have := HR.out
          rw [HR1.out, hnone] at this
          exact this
        have HRR := Lib.hid hRR
        have hwo : wtU (blockR (allS l)).1 ≤ wtU (allS l) := blockR_wt _
        rw [HB.out] at hwo
        dsimp only at hwo
        have hwl := St.wts_all l
        have hsum : os.length + bs.length ≤ 1000000000000 := by
          have h1 := wtU_len (os.map Sy.ps)
          have h2 := wtU_len (bs.map Sy.ps)
          rw [HBS.out] at h2
          have h3 : own.length = bs.length := by rw [← HBS.out, List.length_map]
          rw [List.length_map] at h1
          omega
        clear HF hRR hnone
        go_upto_region 13 with (first | ((with_reducible refine at_dst 54 ?_); refine wp_own (.tmp 52) (.tmp 53) rfl info_sy und_sys rfl (by decide) syC_len syC_ones (OwnR.nil W _ 57 6 syC) E (RRow.ext hosW.row E.low) rfl rfl ?_ ?_ ?_; (· (simp only [List.length_nil]; (try unfold maxLen); omega)); (· (simp only [List.length_nil]; omega)); intro L54 hL54 s54 v54 wn r54 E2 hA; replace hL54 := Lib.hid hL54; clear E; have E := E2; clear E2; have hz := hL54.out; rw [List.nil_append] at hz; rw [← hz] at r54; clear hz; replace b4 := b4.growO (OwnR.nil W _ 57 6 syC) hA (of_decide_eq_true rfl); obtain ⟨o54, k54, rfl, l54, m54⟩ := ORow.len r54.row; (try (clear hcE hfE)); (try (have hcf := bcell E.low; obtain ⟨hcE, hfE⟩ := hcf)); (try (clear c4 f4)); (try (have c4 := b4.cell; have f4 := b4.free)); (try simp only [Act.put, actL])) | ((with_reducible refine at_dst 56 ?_); refine wp_own (.tmp 54) (.tmp 55) rfl info_sy und_sys rfl (by decide) syC_len syC_ones r54 E (RRow.ext hBr E.low) rfl rfl ?_ ?_ ?_; (· ((try unfold maxLen); omega)); (· (omega)); intro L56 hL56 s56 v56 wn r56 E2 hA; replace hL56 := Lib.hid hL56; clear E; have E := E2; clear E2; replace b4 := b4.growO r54 hA (of_decide_eq_true rfl); obtain ⟨o56, k56, rfl, l56, m56⟩ := ORow.len r56.row; (try (clear hcE hfE)); (try (have hcf := bcell E.low; obtain ⟨hcE, hfE⟩ := hcf)); (try (clear c4 f4)); (try (have c4 := b4.cell; have f4 := b4.free)); (try simp only [Act.put, actL])))
        have hps : L56.map Sy.ps = os.map Sy.ps ++ own := by rw [← hL56.out, List.map_append, HBS.out]
        have hvs : Syms wn (.slice o56 L56.length k56) L56 := ⟨r56.rsy, fun x hx => by
          rw [← hL56.out] at hx
          rcases List.mem_append.1 hx with hx | hx
          · exact (hosW.perms x hx).ext E.low
          · exact (hBS2.perms x hx).ext E.low⟩
        obtain ⟨W2, hW2⟩ : ∃ W2, W2 = wn := ⟨_, rfl⟩
        subst hW2
        have hE1 : Only [] w W2 := hE0.trans E (fun x hx => by cases hx)
        have hvl : wtU (L56.map Sy.ps) ≤ 1900000000000 := by rw [hps, wtU_app]; omega
        have hvw : ∀ y : St, y ∈ l → wtU (L56.map Sy.ps) + St.wts y.thn ≤ 1000000000000 ∧ wtU (L56.map Sy.ps) + St.wts y.els ≤ 1000000000000 := fun y hy => by
          have := St.wts_mem hy
          rw [hps, wtU_app]
          constructor <;> omega
        have HPS := Lib.hid hps
        have hlW : RRow W2 55 stC (.slice a l.length c) l := RRow.ext hl hE1.low
        have hokW : St.oks W2 l := hok.ext hE1.low
        clear E hcE hfE r56 hps
        (try clear r54)
        have E := Only.refl [] W2
        go_loopw [10] (fun i wr => ∃ j : Nat, i = .int .i64 j ∧ j ≤ l.length ∧ Hid (exStsR (l.drop j) (L56.map Sy.ps) = R) ∧ Only [] W2 wr ∧ Loc [] w wr X4 31 #[.int .i64 0, .int .i64 0, .int .i64 0, .string ⟨#[]⟩]) (fun i _ => l.length - (intOf i).toNat)
        case atStart => exact ⟨0, rfl, Nat.zero_le _, Lib.hid (by rw [HPS.out]; exact HRR.out), E, b4⟩
        case round =>
          clear E b4 c4 f4
          obtain ⟨j, rfl, hj, HF, E, b4⟩ := hrel
          have c4 := b4.cell
          have f4 := b4.free
          obtain ⟨hcE, hfE⟩ := bcell E.low
          by_cases hlt : j < l.length
          · obtain ⟨y, hy⟩ := at_some hlt
            have hym := List.mem_of_getElem? hy
            obtain ⟨g, o, rfl, hg, hc⟩ := RRow.cells hlW hlt
            have hye2 : l[j] = y := (List.getElem?_eq_some_iff.1 hy).2
            rw [hye2] at hc
            have k0 : W2.cell? ⟨g, o + j * 55, none⟩ = some (.int .i64 y.h.kind) := hc 0 (by omega)
            have k53 : W2.cell? ⟨g, o + j * 55 + 53, none⟩ = some (y.h.ht.v y.thn.length) := hc 53 (by omega)
            have k54 : W2.cell? ⟨g, o + j * 55 + 54, none⟩ = some (y.h.he.v y.els.length) := hc 54 (by omega)
            have hsub := hlW.sub hy
            have hcp := (RRow.caps hlW).1
            have hcp2 := (RRow.caps hlW).2
            have hjc : j < c := by omega
            have hj1 : j + 1 ≤ c := by omega
            have hyo := hokW.mem hym
            have hyf := hfl.mem hym
            have hye := hev.mem hym
            have hsz : y.sz ≤ N := by have := St.sz_at hy; omega
            have hsz2 := hsz
            rw [St.sz_kids] at hsz2
            have hz1 : St.szs y.thn < N := by omega
            have hz2 : St.szs y.els < N := by omega
            obtain ⟨hw3, hw4⟩ := hvw y hym
            have HS := exStsR_step HF hy
            have hs := HS.out
            rw [exOneR_eq] at hs
            clear hy HS hc hye2 hsz2 hsz
            by_cases hk : y.h.kind = 18
            · obtain ⟨g5, g6⟩ := kd_t hk
              rw [if_pos hk] at hs
              obtain ⟨⟨f1, f2, f3, f5⟩, hF⟩ : ∃ F, exListR y.thn (L56.map Sy.ps) = F := ⟨_, rfl⟩
              obtain ⟨⟨p1, p2, p3, p4⟩, hG⟩ : ∃ F, exListR y.els (L56.map Sy.ps) = F := ⟨_, rfl⟩
              rw [hF, hG] at hs
              dsimp only at hs
              have HF2 := HF
              clear HF
              have HF := Lib.hid hF
              have HG := Lib.hid hG
              have HK := Lib.hid hk
              clear hF hG hk
              by_cases hf : f1 = 0
              · obtain ⟨g7, g8⟩ := kd_t hf
                have hin : (if f1 ≠ 0 then (⟨f1, f2, f3, f5⟩ : FT) else ⟨p1, p2, p3, p4⟩) = ⟨p1, p2, p3, p4⟩ := if_neg (by simpa using hf)
                rw [hin] at hs
                dsimp only at hs
                clear hin
                have HFZ := Lib.hid hf
                clear hf
                by_cases hp : p1 = 0
                · obtain ⟨g9, g10⟩ := kd_t hp
                  rw [if_neg (by simpa using hp)] at hs
                  have HS := Lib.hid hs
                  have HPZ := Lib.hid hp
                  clear hs hp
                  go_upto_region 9999 with (first | ((with_reducible refine at_dst 75 ?_); go_simp; ((refine (IH.out y.thn L56 (hyo.thn.ext E.low) (hyo.thns.ext E.low) hyf.thn hye.thn (hvs.ext E.low) hz1 hw3).mono ?_)); unfold FPost FT.v; rw [HF.out]; dsimp only; rintro e wn ⟨rfl, hx⟩; (try replace E := E.ext hx); (try replace b4 := b4.ext hx); (try (clear hcE hfE)); (try (have hcf := bcell E.low; obtain ⟨hcE, hfE⟩ := hcf)); (try (clear c4 f4)); (try (have c4 := b4.cell; have f4 := b4.free))) | ((with_reducible refine at_dst 11 ?_); go_simp; (generalize hX11 : Array.size (World.heap _) = X11); refine new_block hX11 ?_; intro wn bb hx; (try (have n4_11 := (b4.ne hX11).1; have n11_4 := (b4.ne hX11).2)); (try (have z11 := Nat.le_trans E.size (Nat.le_of_eq hX11))); have b11 := Loc.new bb E hX11; clear bb hX11; (try replace E := E.ext hx); (try replace b4 := b4.ext hx); (try (clear hcE hfE)); (try (have hcf := bcell E.low; obtain ⟨hcE, hfE⟩ := hcf)); (try (clear c4 f4)); (try (have c4 := b4.cell; have f4 := b4.free)); (try (have c11 := b11.cell; have f11 := b11.free))) | ((with_reducible refine at_dst 86 ?_); go_simp; ((refine (IH.out y.els L56 (hyo.els.ext E.low) (hyo.elss.ext E.low) hyf.els hye.els (hvs.ext E.low) hz2 hw4).mono ?_)); unfold FPost FT.v; rw [HG.out]; dsimp only; rintro e wn ⟨rfl, hx⟩; (try replace E := E.ext hx); (try replace b4 := b4.ext hx); (try replace b11 := b11.ext hx); (try (clear hcE hfE)); (try (have hcf := bcell E.low; obtain ⟨hcE, hfE⟩ := hcf)); (try (clear c4 f4)); (try (have c4 := b4.cell; have f4 := b4.free)); (try (clear c11 f11)); (try (have c11 := b11.cell; have f11 := b11.free))) | ((with_reducible refine at_dst 12 ?_); go_simp; (generalize hX12 : Array.size (World.heap _) = X12); refine new_block hX12 ?_; intro wn bb hx; (try (have n4_12 := (b4.ne hX12).1; have n12_4 := (b4.ne hX12).2)); (try (have n11_12 := (b11.ne hX12).1; have n12_11 := (b11.ne hX12).2)); (try (have z12 := Nat.le_trans E.size (Nat.le_of_eq hX12))); have b12 := Loc.new bb E hX12; clear bb hX12; (try replace E := E.ext hx); (try replace b4 := b4.ext hx); (try replace b11 := b11.ext hx); (try (clear hcE hfE)); (try (have hcf := bcell E.low; obtain ⟨hcE, hfE⟩ := hcf)); (try (clear c4 f4)); (try (have c4 := b4.cell; have f4 := b4.free)); (try (clear c11 f11)); (try (have c11 := b11.cell; have f11 := b11.free)); (try (have c12 := b12.cell; have f12 := b12.free))) | ((with_reducible refine at_store 11 ?_); (refine wp_put b11 rfl rfl ?_ ?_ ?_ ?_; (· kernel_rfl); (· first | rfl | kernel_rfl); (· first | decide | exact Nat.le_refl _ | simp [Act.eval, Value.cells] | (simp [Act.eval, Act.put, Value.cells]; done)); intro wn bn hb; have E2 := E.put b11 hb; (try replace b4 := b4.but hb n4_11); (first | (replace EX := EX.but hb b11.blk (of_decide_eq_true rfl)) | (replace EX := EX.but0 hb mEX_11) | skip); (first | (replace hB9 := hB9.but hb b11.blk (of_decide_eq_true rfl)) | (replace hB9 := hB9.but0 hb mhB9_11) | skip); (first | (replace r54 := r54.but hb b11.blk (of_decide_eq_true rfl)) | (replace r54 := r54.but0 hb mr54_11) | skip); clear E b11; have E := E2; clear E2; have b11 := bn; clear bn hb; dsimp only [Act.put]; simp only [putA, Act.eval, Value.cells, Nat.reduceAdd, putL, sizL] at b11; (try (clear hcE hfE)); (try (have hcf := bcell E.low; obtain ⟨hcE, hfE⟩ := hcf)); (try (clear c4 f4)); (try (have c4 := b4.cell; have f4 := b4.free)); (try (clear c11 f11)); (try (have c11 := b11.cell; have f11 := b11.free)))) | ((with_reducible refine at_store 12 ?_); (refine wp_put b12 rfl rfl ?_ ?_ ?_ ?_; (· kernel_rfl); (· first | rfl | kernel_rfl); (· first | decide | exact Nat.le_refl _ | simp [Act.eval, Value.cells] | (simp [Act.eval, Act.put, Value.cells]; done)); intro wn bn hb; have E2 := E.put b12 hb; (try replace b4 := b4.but hb n4_12); (try replace b11 := b11.but hb n11_12); (first | (replace EX := EX.but hb b12.blk (of_decide_eq_true rfl)) | (replace EX := EX.but0 hb mEX_12) | skip); (first | (replace hB9 := hB9.but hb b12.blk (of_decide_eq_true rfl)) | (replace hB9 := hB9.but0 hb mhB9_12) | skip); (first | (replace r54 := r54.but hb b12.blk (of_decide_eq_true rfl)) | (replace r54 := r54.but0 hb mr54_12) | skip); clear E b12; have E := E2; clear E2; have b12 := bn; clear bn hb; dsimp only [Act.put]; simp only [putA, Act.eval, Value.cells, Nat.reduceAdd, putL, sizL] at b12; (try (clear hcE hfE)); (try (have hcf := bcell E.low; obtain ⟨hcE, hfE⟩ := hcf)); (try (clear c4 f4)); (try (have c4 := b4.cell; have f4 := b4.free)); (try (clear c11 f11)); (try (have c11 := b11.cell; have f11 := b11.free)); (try (clear c12 f12)); (try (have c12 := b12.cell; have f12 := b12.free)))))
                  go_roundw
                  case rel => exact ⟨j + 1, by go_num, by omega, HS, E, b4⟩
                  case measure => simp [intOf]; omega
                · obtain ⟨g9, g10⟩ := kd_f hp
                  rw [if_pos hp] at hs
                  have HS := Lib.hid hs
                  have HPZ := Lib.hid hp
                  clear hs hp
                  go_upto_region 21 with (first | ((with_reducible refine at_dst 75 ?_); go_simp; ((refine (IH.out y.thn L56 (hyo.thn.ext E.low) (hyo.thns.ext E.low) hyf.thn hye.thn (hvs.ext E.low) hz1 hw3).mono ?_)); unfold FPost FT.v; rw [HF.out]; dsimp only; rintro e wn ⟨rfl, hx⟩; (try replace E := E.ext hx); (try replace b4 := b4.ext hx); (try (clear hcE hfE)); (try (have hcf := bcell E.low; obtain ⟨hcE, hfE⟩ := hcf)); (try (clear c4 f4)); (try (have c4 := b4.cell; have f4 := b4.free))) | ((with_reducible refine at_dst 11 ?_); go_simp; (generalize hX11 : Array.size (World.heap _) = X11); refine new_block hX11 ?_; intro wn bb hx; (try (have n4_11 := (b4.ne hX11).1; have n11_4 := (b4.ne hX11).2)); (try (have z11 := Nat.le_trans E.size (Nat.le_of_eq hX11))); have b11 := Loc.new bb E hX11; clear bb hX11; (try replace E := E.ext hx); (try replace b4 := b4.ext hx); (try (clear hcE hfE)); (try (have hcf := bcell E.low; obtain ⟨hcE, hfE⟩ := hcf)); (try (clear c4 f4)); (try (have c4 := b4.cell; have f4 := b4.free)); (try (have c11 := b11.cell; have f11 := b11.free))) | ((with_reducible refine at_dst 86 ?_); go_simp; ((refine (IH.out y.els L56 (hyo.els.ext E.low) (hyo.elss.ext E.low) hyf.els hye.els (hvs.ext E.low) hz2 hw4).mono ?_)); unfold FPost FT.v; rw [HG.out]; dsimp only; rintro e wn ⟨rfl, hx⟩; (try replace E := E.ext hx); (try replace b4 := b4.ext hx); (try replace b11 := b11.ext hx); (try (clear hcE hfE)); (try (have hcf := bcell E.low; obtain ⟨hcE, hfE⟩ := hcf)); (try (clear c4 f4)); (try (have c4 := b4.cell; have f4 := b4.free)); (try (clear c11 f11)); (try (have c11 := b11.cell; have f11 := b11.free))) | ((with_reducible refine at_dst 12 ?_); go_simp; (generalize hX12 : Array.size (World.heap _) = X12); refine new_block hX12 ?_; intro wn bb hx; (try (have n4_12 := (b4.ne hX12).1; have n12_4 := (b4.ne hX12).2)); (try (have n11_12 := (b11.ne hX12).1; have n12_11 := (b11.ne hX12).2)); (try (have z12 := Nat.le_trans E.size (Nat.le_of_eq hX12))); have b12 := Loc.new bb E hX12; clear bb hX12; (try replace E := E.ext hx); (try replace b4 := b4.ext hx); (try replace b11 := b11.ext hx); (try (clear hcE hfE)); (try (have hcf := bcell E.low; obtain ⟨hcE, hfE⟩ := hcf)); (try (clear c4 f4)); (try (have c4 := b4.cell; have f4 := b4.free)); (try (clear c11 f11)); (try (have c11 := b11.cell; have f11 := b11.free)); (try (have c12 := b12.cell; have f12 := b12.free))) | ((with_reducible refine at_store 11 ?_); (refine wp_put b11 rfl rfl ?_ ?_ ?_ ?_; (· kernel_rfl); (· first | rfl | kernel_rfl); (· first | decide | exact Nat.le_refl _ | simp [Act.eval, Value.cells] | (simp [Act.eval, Act.put, Value.cells]; done)); intro wn bn hb; have E2 := E.put b11 hb; (try replace b4 := b4.but hb n4_11); (first | (replace EX := EX.but hb b11.blk (of_decide_eq_true rfl)) | (replace EX := EX.but0 hb mEX_11) | skip); (first | (replace hB9 := hB9.but hb b11.blk (of_decide_eq_true rfl)) | (replace hB9 := hB9.but0 hb mhB9_11) | skip); (first | (replace r54 := r54.but hb b11.blk (of_decide_eq_true rfl)) | (replace r54 := r54.but0 hb mr54_11) | skip); clear E b11; have E := E2; clear E2; have b11 := bn; clear bn hb; dsimp only [Act.put]; simp only [putA, Act.eval, Value.cells, Nat.reduceAdd, putL, sizL] at b11; (try (clear hcE hfE)); (try (have hcf := bcell E.low; obtain ⟨hcE, hfE⟩ := hcf)); (try (clear c4 f4)); (try (have c4 := b4.cell; have f4 := b4.free)); (try (clear c11 f11)); (try (have c11 := b11.cell; have f11 := b11.free)))) | ((with_reducible refine at_store 12 ?_); (refine wp_put b12 rfl rfl ?_ ?_ ?_ ?_; (· kernel_rfl); (· first | rfl | kernel_rfl); (· first | decide | exact Nat.le_refl _ | simp [Act.eval, Value.cells] | (simp [Act.eval, Act.put, Value.cells]; done)); intro wn bn hb; have E2 := E.put b12 hb; (try replace b4 := b4.but hb n4_12); (try replace b11 := b11.but hb n11_12); (first | (replace EX := EX.but hb b12.blk (of_decide_eq_true rfl)) | (replace EX := EX.but0 hb mEX_12) | skip); (first | (replace hB9 := hB9.but hb b12.blk (of_decide_eq_true rfl)) | (replace hB9 := hB9.but0 hb mhB9_12) | skip); (first | (replace r54 := r54.but hb b12.blk (of_decide_eq_true rfl)) | (replace r54 := r54.but0 hb mr54_12) | skip); clear E b12; have E := E2; clear E2; have b12 := bn; clear bn hb; dsimp only [Act.put]; simp only [putA, Act.eval, Value.cells, Nat.reduceAdd, putL, sizL] at b12; (try (clear hcE hfE)); (try (have hcf := bcell E.low; obtain ⟨hcE, hfE⟩ := hcf)); (try (clear c4 f4)); (try (have c4 := b4.cell; have f4 := b4.free)); (try (clear c11 f11)); (try (have c11 := b11.cell; have f11 := b11.free)); (try (clear c12 f12)); (try (have c12 := b12.cell; have f12 := b12.free)))))
                  have E2 : Only [] w wn := hE1.trans E (fun x hx => by cases hx)
                  clear E hcE hfE
                  have E := E2
                  clear E2
                  obtain ⟨hcE, hfE⟩ := bcell E.low
                  go_upto_region 9999 with (first | ((with_reducible refine at_dst 90 ?_); (refine wp_all b12.blk rfl rfl ?_ ?_ ?_); (· kernel_rfl); (· kernel_rfl)) | ((with_reducible refine at_store 4 ?_); (refine wp_put b4 rfl rfl ?_ ?_ ?_ ?_; (· kernel_rfl); (· first | rfl | kernel_rfl); (· first | decide | exact Nat.le_refl _ | simp [Act.eval, Value.cells] | (simp [Act.eval, Act.put, Value.cells]; done)); intro wn bn hb; have E2 := E.put b4 hb; (try replace b11 := b11.but hb n11_4); (try replace b12 := b12.but hb n12_4); (first | (replace EX := EX.but hb b4.blk (of_decide_eq_true rfl)) | (replace EX := EX.but0 hb mEX_4) | skip); (first | (replace hB9 := hB9.but hb b4.blk (of_decide_eq_true rfl)) | (replace hB9 := hB9.but0 hb mhB9_4) | skip); (first | (replace r54 := r54.but hb b4.blk (of_decide_eq_true rfl)) | (replace r54 := r54.but0 hb mr54_4) | skip); clear E b4; have E := E2; clear E2; have b4 := bn; clear bn hb; dsimp only [Act.put]; simp only [putA, Act.eval, Value.cells, Nat.reduceAdd, putL, sizL] at b4; (try (clear hcE hfE)); (try (have hcf := bcell E.low; obtain ⟨hcE, hfE⟩ := hcf)); (try (clear c4 f4)); (try (have c4 := b4.cell; have f4 := b4.free)); (try (clear c11 f11)); (try (have c11 := b11.cell; have f11 := b11.free)); (try (clear c12 f12)); (try (have c12 := b12.cell; have f12 := b12.free)))) | ((with_reducible refine at_store 4 ?_); (refine wp_put b4 rfl rfl ?_ ?_ ?_ ?_; (· kernel_rfl); (· first | rfl | kernel_rfl); (· first | decide | exact Nat.le_refl _ | simp [Act.eval, Value.cells] | (simp [Act.eval, Act.put, Value.cells]; done)); intro wn bn hb; have E2 := E.put b4 hb; (try replace b11 := b11.but hb n11_4); (try replace b12 := b12.but hb n12_4); (first | (replace EX := EX.but hb b4.blk (of_decide_eq_true rfl)) | (replace EX := EX.but0 hb mEX_4) | skip); (first | (replace hB9 := hB9.but hb b4.blk (of_decide_eq_true rfl)) | (replace hB9 := hB9.but0 hb mhB9_4) | skip); (first | (replace r54 := r54.but hb b4.blk (of_decide_eq_true rfl)) | (replace r54 := r54.but0 hb mr54_4) | skip); clear E b4; have E := E2; clear E2; have b4 := bn; clear bn hb; dsimp only [Act.put]; simp only [putA, Act.eval, Value.cells, Nat.reduceAdd, putL, sizL] at b4; (try (clear hcE hfE)); (try (have hcf := bcell E.low; obtain ⟨hcE, hfE⟩ := hcf)); (try (clear c4 f4)); (try (have c4 := b4.cell; have f4 := b4.free)); (try (clear c11 f11)); (try (have c11 := b11.cell; have f11 := b11.free)); (try (clear c12 f12)); (try (have c12 := b12.cell; have f12 := b12.free)))) | ((with_reducible refine at_store 4 ?_); (refine wp_put b4 rfl rfl ?_ ?_ ?_ ?_; (· kernel_rfl); (· first | rfl | kernel_rfl); (· first | decide | exact Nat.le_refl _ | simp [Act.eval, Value.cells] | (simp [Act.eval, Act.put, Value.cells]; done)); intro wn bn hb; have E2 := E.put b4 hb; (try replace b11 := b11.but hb n11_4); (try replace b12 := b12.but hb n12_4); (first | (replace EX := EX.but hb b4.blk (of_decide_eq_true rfl)) | (replace EX := EX.but0 hb mEX_4) | skip); (first | (replace hB9 := hB9.but hb b4.blk (of_decide_eq_true rfl)) | (replace hB9 := hB9.but0 hb mhB9_4) | skip); (first | (replace r54 := r54.but hb b4.blk (of_decide_eq_true rfl)) | (replace r54 := r54.but0 hb mr54_4) | skip); clear E b4; have E := E2; clear E2; have b4 := bn; clear bn hb; dsimp only [Act.put]; simp only [putA, Act.eval, Value.cells, Nat.reduceAdd, putL, sizL] at b4; (try (clear hcE hfE)); (try (have hcf := bcell E.low; obtain ⟨hcE, hfE⟩ := hcf)); (try (clear c4 f4)); (try (have c4 := b4.cell; have f4 := b4.free)); (try (clear c11 f11)); (try (have c11 := b11.cell; have f11 := b11.free)); (try (clear c12 f12)); (try (have c12 := b12.cell; have f12 := b12.free)))) | ((with_reducible refine at_store 4 ?_); (refine wp_put b4 rfl rfl ?_ ?_ ?_ ?_; (· kernel_rfl); (· first | rfl | kernel_rfl); (· first | decide | exact Nat.le_refl _ | simp [Act.eval, Value.cells] | (simp [Act.eval, Act.put, Value.cells]; done)); intro wn bn hb; have E2 := E.put b4 hb; (try replace b11 := b11.but hb n11_4); (try replace b12 := b12.but hb n12_4); (first | (replace EX := EX.but hb b4.blk (of_decide_eq_true rfl)) | (replace EX := EX.but0 hb mEX_4) | skip); (first | (replace hB9 := hB9.but hb b4.blk (of_decide_eq_true rfl)) | (replace hB9 := hB9.but0 hb mhB9_4) | skip); (first | (replace r54 := r54.but hb b4.blk (of_decide_eq_true rfl)) | (replace r54 := r54.but0 hb mr54_4) | skip); clear E b4; have E := E2; clear E2; have b4 := bn; clear bn hb; dsimp only [Act.put]; simp only [putA, Act.eval, Value.cells, Nat.reduceAdd, putL, sizL] at b4; (try (clear hcE hfE)); (try (have hcf := bcell E.low; obtain ⟨hcE, hfE⟩ := hcf)); (try (clear c4 f4)); (try (have c4 := b4.cell; have f4 := b4.free)); (try (clear c11 f11)); (try (have c11 := b11.cell; have f11 := b11.free)); (try (clear c12 f12)); (try (have c12 := b12.cell; have f12 := b12.free)))) | ((with_reducible refine at_store 4 ?_); (refine wp_put b4 rfl rfl ?_ ?_ ?_ ?_; (· kernel_rfl); (· first | rfl | kernel_rfl); (· first | decide | exact Nat.le_refl _ | simp [Act.eval, Value.cells] | (simp [Act.eval, Act.put, Value.cells]; done)); intro wn bn hb; have E2 := E.put b4 hb; (try replace b11 := b11.but hb n11_4); (try replace b12 := b12.but hb n12_4); (first | (replace EX := EX.but hb b4.blk (of_decide_eq_true rfl)) | (replace EX := EX.but0 hb mEX_4) | skip); (first | (replace hB9 := hB9.but hb b4.blk (of_decide_eq_true rfl)) | (replace hB9 := hB9.but0 hb mhB9_4) | skip); (first | (replace r54 := r54.but hb b4.blk (of_decide_eq_true rfl)) | (replace r54 := r54.but0 hb mr54_4) | skip); clear E b4; have E := E2; clear E2; have b4 := bn; clear bn hb; dsimp only [Act.put]; simp only [putA, Act.eval, Value.cells, Nat.reduceAdd, putL, sizL] at b4; (try (clear hcE hfE)); (try (have hcf := bcell E.low; obtain ⟨hcE, hfE⟩ := hcf)); (try (clear c4 f4)); (try (have c4 := b4.cell; have f4 := b4.free)); (try (clear c11 f11)); (try (have c11 := b11.cell; have f11 := b11.free)); (try (clear c12 f12)); (try (have c12 := b12.cell; have f12 := b12.free)))) | ((with_reducible refine at_store 4 ?_); (refine wp_put b4 rfl rfl ?_ ?_ ?_ ?_; (· kernel_rfl); (· first | rfl | kernel_rfl); (· first | decide | exact Nat.le_refl _ | simp [Act.eval, Value.cells] | (simp [Act.eval, Act.put, Value.cells]; done)); intro wn bn hb; have E2 := E.put b4 hb; (try replace b11 := b11.but hb n11_4); (try replace b12 := b12.but hb n12_4); (first | (replace EX := EX.but hb b4.blk (of_decide_eq_true rfl)) | (replace EX := EX.but0 hb mEX_4) | skip); (first | (replace hB9 := hB9.but hb b4.blk (of_decide_eq_true rfl)) | (replace hB9 := hB9.but0 hb mhB9_4) | skip); (first | (replace r54 := r54.but hb b4.blk (of_decide_eq_true rfl)) | (replace r54 := r54.but0 hb mr54_4) | skip); clear E b4; have E := E2; clear E2; have b4 := bn; clear bn hb; dsimp only [Act.put]; simp only [putA, Act.eval, Value.cells, Nat.reduceAdd, putL, sizL] at b4; (try (clear hcE hfE)); (try (have hcf := bcell E.low; obtain ⟨hcE, hfE⟩ := hcf)); (try (clear c4 f4)); (try (have c4 := b4.cell; have f4 := b4.free)); (try (clear c11 f11)); (try (have c11 := b11.cell; have f11 := b11.free)); (try (clear c12 f12)); (try (have c12 := b12.cell; have f12 := b12.free)))))
                  refine bodyPost_ret (v := .agg #[.int .i64 p1, .int .i64 p2, .int .i64 p3, .string p4]) (by simp [results, Try.f16, go_sem, c4]) rfl ?_
                  exact fpost HS.out.symm E.low
              · obtain ⟨g7, g8⟩ := kd_f hf
                have hin : (if f1 ≠ 0 then (⟨f1, f2, f3, f5⟩ : FT) else ⟨p1, p2, p3, p4⟩) = ⟨f1, f2, f3, f5⟩ := if_pos hf
                rw [hin] at hs
                dsimp only at hs
                rw [if_pos hf] at hs
                clear hin
                have HS := Lib.hid hs
                have HFZ := Lib.hid hf
                clear hs hf
                go_upto_region 18 with (first | ((with_reducible refine at_dst 75 ?_); go_simp; ((refine (IH.out y.thn L56 (hyo.thn.ext E.low) (hyo.thns.ext E.low) hyf.thn hye.thn (hvs.ext E.low) hz1 hw3).mono ?_)); unfold FPost FT.v; rw [HF.out]; dsimp only; rintro e wn ⟨rfl, hx⟩; (try replace E := E.ext hx); (try replace b4 := b4.ext hx); (try (clear hcE hfE)); (try (have hcf := bcell E.low; obtain ⟨hcE, hfE⟩ := hcf)); (try (clear c4 f4)); (try (have c4 := b4.cell; have f4 := b4.free))) | ((with_reducible refine at_dst 11 ?_); go_simp; (generalize hX11 : Array.size (World.heap _) = X11); refine new_block hX11 ?_; intro wn bb hx; (try (have n4_11 := (b4.ne hX11).1; have n11_4 := (b4.ne hX11).2)); (try (have z11 := Nat.le_trans E.size (Nat.le_of_eq hX11))); have b11 := Loc.new bb E hX11; clear bb hX11; (try replace E := E.ext hx); (try replace b4 := b4.ext hx); (try (clear hcE hfE)); (try (have hcf := bcell E.low; obtain ⟨hcE, hfE⟩ := hcf)); (try (clear c4 f4)); (try (have c4 := b4.cell; have f4 := b4.free)); (try (have c11 := b11.cell; have f11 := b11.free))) | ((with_reducible refine at_store 11 ?_); (refine wp_put b11 rfl rfl ?_ ?_ ?_ ?_; (· kernel_rfl); (· first | rfl | kernel_rfl); (· first | decide | exact Nat.le_refl _ | simp [Act.eval, Value.cells] | (simp [Act.eval, Act.put, Value.cells]; done)); intro wn bn hb; have E2 := E.put b11 hb; (try replace b4 := b4.but hb n4_11); (first | (replace EX := EX.but hb b11.blk (of_decide_eq_true rfl)) | (replace EX := EX.but0 hb mEX_11) | skip); (first | (replace hB9 := hB9.but hb b11.blk (of_decide_eq_true rfl)) | (replace hB9 := hB9.but0 hb mhB9_11) | skip); (first | (replace r54 := r54.but hb b11.blk (of_decide_eq_true rfl)) | (replace r54 := r54.but0 hb mr54_11) | skip); clear E b11; have E := E2; clear E2; have b11 := bn; clear bn hb; dsimp only [Act.put]; simp only [putA, Act.eval, Value.cells, Nat.reduceAdd, putL, sizL] at b11; (try (clear hcE hfE)); (try (have hcf := bcell E.low; obtain ⟨hcE, hfE⟩ := hcf)); (try (clear c4 f4)); (try (have c4 := b4.cell; have f4 := b4.free)); (try (clear c11 f11)); (try (have c11 := b11.cell; have f11 := b11.free)))))
                have E2 : Only [] w wn := hE1.trans E (fun x hx => by cases hx)
                clear E hcE hfE
                have E := E2
                clear E2
                obtain ⟨hcE, hfE⟩ := bcell E.low
                go_upto_region 9999 with (first | ((with_reducible refine at_dst 79 ?_); (refine wp_all b11.blk rfl rfl ?_ ?_ ?_); (· kernel_rfl); (· kernel_rfl)) | ((with_reducible refine at_store 4 ?_); (refine wp_put b4 rfl rfl ?_ ?_ ?_ ?_; (· kernel_rfl); (· first | rfl | kernel_rfl); (· first | decide | exact Nat.le_refl _ | simp [Act.eval, Value.cells] | (simp [Act.eval, Act.put, Value.cells]; done)); intro wn bn hb; have E2 := E.put b4 hb; (try replace b11 := b11.but hb n11_4); (first | (replace EX := EX.but hb b4.blk (of_decide_eq_true rfl)) | (replace EX := EX.but0 hb mEX_4) | skip); (first | (replace hB9 := hB9.but hb b4.blk (of_decide_eq_true rfl)) | (replace hB9 := hB9.but0 hb mhB9_4) | skip); (first | (replace r54 := r54.but hb b4.blk (of_decide_eq_true rfl)) | (replace r54 := r54.but0 hb mr54_4) | skip); clear E b4; have E := E2; clear E2; have b4 := bn; clear bn hb; dsimp only [Act.put]; simp only [putA, Act.eval, Value.cells, Nat.reduceAdd, putL, sizL] at b4; (try (clear hcE hfE)); (try (have hcf := bcell E.low; obtain ⟨hcE, hfE⟩ := hcf)); (try (clear c4 f4)); (try (have c4 := b4.cell; have f4 := b4.free)); (try (clear c11 f11)); (try (have c11 := b11.cell; have f11 := b11.free)))) | ((with_reducible refine at_store 4 ?_); (refine wp_put b4 rfl rfl ?_ ?_ ?_ ?_; (· kernel_rfl); (· first | rfl | kernel_rfl); (· first | decide | exact Nat.le_refl _ | simp [Act.eval, Value.cells] | (simp [Act.eval, Act.put, Value.cells]; done)); intro wn bn hb; have E2 := E.put b4 hb; (try replace b11 := b11.but hb n11_4); (first | (replace EX := EX.but hb b4.blk (of_decide_eq_true rfl)) | (replace EX := EX.but0 hb mEX_4) | skip); (first | (replace hB9 := hB9.but hb b4.blk (of_decide_eq_true rfl)) | (replace hB9 := hB9.but0 hb mhB9_4) | skip); (first | (replace r54 := r54.but hb b4.blk (of_decide_eq_true rfl)) | (replace r54 := r54.but0 hb mr54_4) | skip); clear E b4; have E := E2; clear E2; have b4 := bn; clear bn hb; dsimp only [Act.put]; simp only [putA, Act.eval, Value.cells, Nat.reduceAdd, putL, sizL] at b4; (try (clear hcE hfE)); (try (have hcf := bcell E.low; obtain ⟨hcE, hfE⟩ := hcf)); (try (clear c4 f4)); (try (have c4 := b4.cell; have f4 := b4.free)); (try (clear c11 f11)); (try (have c11 := b11.cell; have f11 := b11.free)))) | ((with_reducible refine at_store 4 ?_); (refine wp_put b4 rfl rfl ?_ ?_ ?_ ?_; (· kernel_rfl); (· first | rfl | kernel_rfl); (· first | decide | exact Nat.le_refl _ | simp [Act.eval, Value.cells] | (simp [Act.eval, Act.put, Value.cells]; done)); intro wn bn hb; have E2 := E.put b4 hb; (try replace b11 := b11.but hb n11_4); (first | (replace EX := EX.but hb b4.blk (of_decide_eq_true rfl)) | (replace EX := EX.but0 hb mEX_4) | skip); (first | (replace hB9 := hB9.but hb b4.blk (of_decide_eq_true rfl)) | (replace hB9 := hB9.but0 hb mhB9_4) | skip); (first | (replace r54 := r54.but hb b4.blk (of_decide_eq_true rfl)) | (replace r54 := r54.but0 hb mr54_4) | skip); clear E b4; have E := E2; clear E2; have b4 := bn; clear bn hb; dsimp only [Act.put]; simp only [putA, Act.eval, Value.cells, Nat.reduceAdd, putL, sizL] at b4; (try (clear hcE hfE)); (try (have hcf := bcell E.low; obtain ⟨hcE, hfE⟩ := hcf)); (try (clear c4 f4)); (try (have c4 := b4.cell; have f4 := b4.free)); (try (clear c11 f11)); (try (have c11 := b11.cell; have f11 := b11.free)))) | ((with_reducible refine at_store 4 ?_); (refine wp_put b4 rfl rfl ?_ ?_ ?_ ?_; (· kernel_rfl); (· first | rfl | kernel_rfl); (· first | decide | exact Nat.le_refl _ | simp [Act.eval, Value.cells] | (simp [Act.eval, Act.put, Value.cells]; done)); intro wn bn hb; have E2 := E.put b4 hb; (try replace b11 := b11.but hb n11_4); (first | (replace EX := EX.but hb b4.blk (of_decide_eq_true rfl)) | (replace EX := EX.but0 hb mEX_4) | skip); (first | (replace hB9 := hB9.but hb b4.blk (of_decide_eq_true rfl)) | (replace hB9 := hB9.but0 hb mhB9_4) | skip); (first | (replace r54 := r54.but hb b4.blk (of_decide_eq_true rfl)) | (replace r54 := r54.but0 hb mr54_4) | skip); clear E b4; have E := E2; clear E2; have b4 := bn; clear bn hb; dsimp only [Act.put]; simp only [putA, Act.eval, Value.cells, Nat.reduceAdd, putL, sizL] at b4; (try (clear hcE hfE)); (try (have hcf := bcell E.low; obtain ⟨hcE, hfE⟩ := hcf)); (try (clear c4 f4)); (try (have c4 := b4.cell; have f4 := b4.free)); (try (clear c11 f11)); (try (have c11 := b11.cell; have f11 := b11.free)))) | ((with_reducible refine at_store 4 ?_); (refine wp_put b4 rfl rfl ?_ ?_ ?_ ?_; (· kernel_rfl); (· first | rfl | kernel_rfl); (· first | decide | exact Nat.le_refl _ | simp [Act.eval, Value.cells] | (simp [Act.eval, Act.put, Value.cells]; done)); intro wn bn hb; have E2 := E.put b4 hb; (try replace b11 := b11.but hb n11_4); (first | (replace EX := EX.but hb b4.blk (of_decide_eq_true rfl)) | (replace EX := EX.but0 hb mEX_4) | skip); (first | (replace hB9 := hB9.but hb b4.blk (of_decide_eq_true rfl)) | (replace hB9 := hB9.but0 hb mhB9_4) | skip); (first | (replace r54 := r54.but hb b4.blk (of_decide_eq_true rfl)) | (replace r54 := r54.but0 hb mr54_4) | skip); clear E b4; have E := E2; clear E2; have b4 := bn; clear bn hb; dsimp only [Act.put]; simp only [putA, Act.eval, Value.cells, Nat.reduceAdd, putL, sizL] at b4; (try (clear hcE hfE)); (try (have hcf := bcell E.low; obtain ⟨hcE, hfE⟩ := hcf)); (try (clear c4 f4)); (try (have c4 := b4.cell; have f4 := b4.free)); (try (clear c11 f11)); (try (have c11 := b11.cell; have f11 := b11.free)))) | ((with_reducible refine at_store 4 ?_); (refine wp_put b4 rfl rfl ?_ ?_ ?_ ?_; (· kernel_rfl); (· first | rfl | kernel_rfl); (· first | decide | exact Nat.le_refl _ | simp [Act.eval, Value.cells] | (simp [Act.eval, Act.put, Value.cells]; done)); intro wn bn hb; have E2 := E.put b4 hb; (try replace b11 := b11.but hb n11_4); (first | (replace EX := EX.but hb b4.blk (of_decide_eq_true rfl)) | (replace EX := EX.but0 hb mEX_4) | skip); (first | (replace hB9 := hB9.but hb b4.blk (of_decide_eq_true rfl)) | (replace hB9 := hB9.but0 hb mhB9_4) | skip); (first | (replace r54 := r54.but hb b4.blk (of_decide_eq_true rfl)) | (replace r54 := r54.but0 hb mr54_4) | skip); clear E b4; have E := E2; clear E2; have b4 := bn; clear bn hb; dsimp only [Act.put]; simp only [putA, Act.eval, Value.cells, Nat.reduceAdd, putL, sizL] at b4; (try (clear hcE hfE)); (try (have hcf := bcell E.low; obtain ⟨hcE, hfE⟩ := hcf)); (try (clear c4 f4)); (try (have c4 := b4.cell; have f4 := b4.free)); (try (clear c11 f11)); (try (have c11 := b11.cell; have f11 := b11.free)))))
                refine bodyPost_ret (v := .agg #[.int .i64 f1, .int .i64 f2, .int .i64 f3, .string f5]) (by simp [results, Try.f16, go_sem, c4]) rfl ?_
                exact fpost HS.out.symm E.low
            · obtain ⟨g5, g6⟩ := kd_f hk
              rw [if_neg hk] at hs
              have hwu : wtU [] + wtE (evSts [y]) ≤ 1900000000000 := by
                rw [evSts_one hk]
                have := hye.self
                have h0 : wtU [] = 0 := rfl
                omega
              rw [← evSts_one hk] at hs
              have HS := Lib.hid hs
              have HK := Lib.hid hk
              clear hs hk
              go_upto_region 24 with (first | ((with_reducible refine at_dst 96 ?_); go_simp; (have hc := quses_any (RRow.ext hsub E.low) (Ext_oks (hyo.ext E.low)) (few_one hyf) hwu); ((with_reducible refine hc.mono ?_)); clear hc; unfold YPost; rintro e wn ⟨ua, uc, us, rfl, HU, hU, hx⟩; replace HU := Lib.hid HU; (try replace E := E.ext hx); (try replace b4 := b4.ext hx); (try (clear hcE hfE)); (try (have hcf := bcell E.low; obtain ⟨hcE, hfE⟩ := hcf)); (try (clear c4 f4)); (try (have c4 := b4.cell; have f4 := b4.free))))
              obtain ⟨W3, hW3⟩ : ∃ W3, W3 = wn := ⟨_, rfl⟩
              subst hW3
              have hE2 : Only [] w W3 := hE1.trans E (fun x hx => by cases hx)
              have hE3 := E
              have hvW := hvs.ext E.low
              have hwv := hvl
              have hUr := hU.row
              have hUp := hU.perms
              have hul : us.length ≤ 9223372036854775807 := (RRow.lens hUr).2
              clear E hcE hfE
              have E := Only.refl [] W3
              obtain ⟨R3, hR3⟩ : ∃ R3, firstVis (L56.map Sy.ps) (adds [] (evSts [y])) = R3 := ⟨_, rfl⟩
              have hs := HS.out
              rw [hR3] at hs
              have HS := Lib.hid hs
              have HR3 := Lib.hid hR3
              clear hs hR3
              go_loopw [14] (fun i wr => ∃ q : Nat, i = .int .i64 q ∧ q ≤ us.length ∧ Hid (firstVis (L56.map Sy.ps) ((us.map Sy.ps).drop q) = R3) ∧ Only [] W3 wr ∧ Loc [] w wr X4 31 #[.int .i64 0, .int .i64 0, .int .i64 0, .string ⟨#[]⟩]) (fun i _ => us.length - (intOf i).toNat)
              case atStart => exact ⟨0, rfl, Nat.zero_le _, Lib.hid (by rw [HU.out]; exact HR3.out), E, b4⟩
              case round =>
                clear E b4 c4 f4
                obtain ⟨q, rfl, hq9, HV9, E, b4⟩ := hrel
                have c4 := b4.cell
                have f4 := b4.free
                obtain ⟨hcE, hfE⟩ := bcell E.low
                by_cases hlq : q < us.length
                · obtain ⟨u, hu⟩ := at_some hlq
                  have hum := List.mem_of_getElem? hu
                  have HU9 := Lib.hid hu
                  obtain ⟨g2, o2, rfl, hg2, -⟩ := hU.at hu
                  have HT := visF_step HV9 (map_at (f := Sy.ps) hu)
                  obtain ⟨⟨fc, fs⟩, hfi⟩ : ∃ F, visR u.ps (L56.map Sy.ps) = F := ⟨_, rfl⟩
                  have HVI := Lib.hid hfi
                  have hs := HT.out
                  rw [hfi] at hs
                  dsimp only at hs
                  clear hu hfi HT
                  by_cases hfz : fc = 0
                  · rw [if_neg (by simpa using hfz)] at hs
                    obtain ⟨g7, g8⟩ := kd_t hfz
                    have HT := Lib.hid hs
                    clear hs hfz
                    go_upto_region 9999 with (first | ((with_reducible refine at_dst 108 ?_); (refine wp_rec2 ((RRow.ext hUr E.low)) (HU9.out) syC_len rfl rfl ?_ ?_ ?_); (· kernel_rfl); (· kernel_rfl)) | ((with_reducible refine at_dst 109 ?_); go_simp; ((refine (qvisible_any (hvW.ext E.low) u (Reads.ext (hUp u hum) E.low) hwv).mono ?_)); unfold SIPost; rw [HVI.out]; dsimp only; rintro e wn ⟨rfl, hx⟩; (try replace E := E.ext hx); (try replace b4 := b4.ext hx); (try (clear hcE hfE)); (try (have hcf := bcell E.low; obtain ⟨hcE, hfE⟩ := hcf)); (try (clear c4 f4)); (try (have c4 := b4.cell; have f4 := b4.free))))
                    go_roundw
                    case rel => exact ⟨q + 1, by go_num, by omega, HT.out, E, b4⟩
                    case measure => simp [intOf]; omega
                  · rw [if_pos hfz] at hs
                    obtain ⟨g7, g8⟩ := kd_f hfz
                    have hRR : R = ⟨fc, u.line, u.col, fs⟩ := by
                      have := HS.out
                      rw [← hs, if_pos hfz] at this
                      exact this.symm
                    have HRR := Lib.hid hRR
                    clear hs hfz hRR
                    go_upto_region 28 with (first | ((with_reducible refine at_dst 108 ?_); (refine wp_rec2 ((RRow.ext hUr E.low)) (HU9.out) syC_len rfl rfl ?_ ?_ ?_); (· kernel_rfl); (· kernel_rfl)) | ((with_reducible refine at_dst 109 ?_); go_simp; ((refine (qvisible_any (hvW.ext E.low) u (Reads.ext (hUp u hum) E.low) hwv).mono ?_)); unfold SIPost; rw [HVI.out]; dsimp only; rintro e wn ⟨rfl, hx⟩; (try replace E := E.ext hx); (try replace b4 := b4.ext hx); (try (clear hcE hfE)); (try (have hcf := bcell E.low; obtain ⟨hcE, hfE⟩ := hcf)); (try (clear c4 f4)); (try (have c4 := b4.cell; have f4 := b4.free))))
                    have hB9 := RRow.ext hUr E.low
                    have HY9 := HU9
                    have E2 : Only [] w wn := hE2.trans E (fun x hx => by cases hx)
                    clear E hcE hfE
                    have E := E2
                    clear E2
                    obtain ⟨hcE, hfE⟩ := bcell E.low
                    have kk := hB9.at145 HY9.out
                    obtain ⟨k1, k4, k45⟩ := kk
                    go_upto_region 9999 with (first | ((with_reducible refine at_store 4 ?_); (refine wp_put b4 rfl rfl ?_ ?_ ?_ ?_; (· kernel_rfl); (· first | rfl | kernel_rfl); (· first | decide | exact Nat.le_refl _ | simp [Act.eval, Value.cells] | (simp [Act.eval, Act.put, Value.cells]; done)); intro wn bn hb; have E2 := E.put b4 hb; (first | (replace EX := EX.but hb b4.blk (of_decide_eq_true rfl)) | (replace EX := EX.but0 hb mEX_4) | skip); (first | (replace hB9 := hB9.but hb b4.blk (of_decide_eq_true rfl)) | (replace hB9 := hB9.but0 hb mhB9_4) | skip); (first | (replace r54 := r54.but hb b4.blk (of_decide_eq_true rfl)) | (replace r54 := r54.but0 hb mr54_4) | skip); clear E b4; have E := E2; clear E2; have b4 := bn; clear bn hb; dsimp only [Act.put]; simp only [putA, Act.eval, Value.cells, Nat.reduceAdd, putL, sizL] at b4; (try (clear hcE hfE)); (try (have hcf := bcell E.low; obtain ⟨hcE, hfE⟩ := hcf)); (try (clear c4 f4)); (try (have c4 := b4.cell; have f4 := b4.free)); (try (clear k1 k4 k45)); (try (have kk := RRow.at145 (hB9) HY9.out; obtain ⟨k1, k4, k45⟩ := kk)))) | ((with_reducible refine at_store 4 ?_); (refine wp_put b4 rfl rfl ?_ ?_ ?_ ?_; (· kernel_rfl); (· first | rfl | kernel_rfl); (· first | decide | exact Nat.le_refl _ | simp [Act.eval, Value.cells] | (simp [Act.eval, Act.put, Value.cells]; done)); intro wn bn hb; have E2 := E.put b4 hb; (first | (replace EX := EX.but hb b4.blk (of_decide_eq_true rfl)) | (replace EX := EX.but0 hb mEX_4) | skip); (first | (replace hB9 := hB9.but hb b4.blk (of_decide_eq_true rfl)) | (replace hB9 := hB9.but0 hb mhB9_4) | skip); (first | (replace r54 := r54.but hb b4.blk (of_decide_eq_true rfl)) | (replace r54 := r54.but0 hb mr54_4) | skip); clear E b4; have E := E2; clear E2; have b4 := bn; clear bn hb; dsimp only [Act.put]; simp only [putA, Act.eval, Value.cells, Nat.reduceAdd, putL, sizL] at b4; (try (clear hcE hfE)); (try (have hcf := bcell E.low; obtain ⟨hcE, hfE⟩ := hcf)); (try (clear c4 f4)); (try (have c4 := b4.cell; have f4 := b4.free)); (try (clear k1 k4 k45)); (try (have kk := RRow.at145 (hB9) HY9.out; obtain ⟨k1, k4, k45⟩ := kk)))) | ((with_reducible refine at_store 4 ?_); (refine wp_put b4 rfl rfl ?_ ?_ ?_ ?_; (· kernel_rfl); (· first | rfl | kernel_rfl); (· first | decide | exact Nat.le_refl _ | simp [Act.eval, Value.cells] | (simp [Act.eval, Act.put, Value.cells]; done)); intro wn bn hb; have E2 := E.put b4 hb; (first | (replace EX := EX.but hb b4.blk (of_decide_eq_true rfl)) | (replace EX := EX.but0 hb mEX_4) | skip); (first | (replace hB9 := hB9.but hb b4.blk (of_decide_eq_true rfl)) | (replace hB9 := hB9.but0 hb mhB9_4) | skip); (first | (replace r54 := r54.but hb b4.blk (of_decide_eq_true rfl)) | (replace r54 := r54.but0 hb mr54_4) | skip); clear E b4; have E := E2; clear E2; have b4 := bn; clear bn hb; dsimp only [Act.put]; simp only [putA, Act.eval, Value.cells, Nat.reduceAdd, putL, sizL] at b4; (try (clear hcE hfE)); (try (have hcf := bcell E.low; obtain ⟨hcE, hfE⟩ := hcf)); (try (clear c4 f4)); (try (have c4 := b4.cell; have f4 := b4.free)); (try (clear k1 k4 k45)); (try (have kk := RRow.at145 (hB9) HY9.out; obtain ⟨k1, k4, k45⟩ := kk)))) | ((with_reducible refine at_store 4 ?_); (refine wp_put b4 rfl rfl ?_ ?_ ?_ ?_; (· kernel_rfl); (· first | rfl | kernel_rfl); (· first | decide | exact Nat.le_refl _ | simp [Act.eval, Value.cells] | (simp [Act.eval, Act.put, Value.cells]; done)); intro wn bn hb; have E2 := E.put b4 hb; (first | (replace EX := EX.but hb b4.blk (of_decide_eq_true rfl)) | (replace EX := EX.but0 hb mEX_4) | skip); (first | (replace hB9 := hB9.but hb b4.blk (of_decide_eq_true rfl)) | (replace hB9 := hB9.but0 hb mhB9_4) | skip); (first | (replace r54 := r54.but hb b4.blk (of_decide_eq_true rfl)) | (replace r54 := r54.but0 hb mr54_4) | skip); clear E b4; have E := E2; clear E2; have b4 := bn; clear bn hb; dsimp only [Act.put]; simp only [putA, Act.eval, Value.cells, Nat.reduceAdd, putL, sizL] at b4; (try (clear hcE hfE)); (try (have hcf := bcell E.low; obtain ⟨hcE, hfE⟩ := hcf)); (try (clear c4 f4)); (try (have c4 := b4.cell; have f4 := b4.free)); (try (clear k1 k4 k45)); (try (have kk := RRow.at145 (hB9) HY9.out; obtain ⟨k1, k4, k45⟩ := kk)))) | ((with_reducible refine at_store 4 ?_); (refine wp_put b4 rfl rfl ?_ ?_ ?_ ?_; (· kernel_rfl); (· first | rfl | kernel_rfl); (· first | decide | exact Nat.le_refl _ | simp [Act.eval, Value.cells] | (simp [Act.eval, Act.put, Value.cells]; done)); intro wn bn hb; have E2 := E.put b4 hb; (first | (replace EX := EX.but hb b4.blk (of_decide_eq_true rfl)) | (replace EX := EX.but0 hb mEX_4) | skip); (first | (replace hB9 := hB9.but hb b4.blk (of_decide_eq_true rfl)) | (replace hB9 := hB9.but0 hb mhB9_4) | skip); (first | (replace r54 := r54.but hb b4.blk (of_decide_eq_true rfl)) | (replace r54 := r54.but0 hb mr54_4) | skip); clear E b4; have E := E2; clear E2; have b4 := bn; clear bn hb; dsimp only [Act.put]; simp only [putA, Act.eval, Value.cells, Nat.reduceAdd, putL, sizL] at b4; (try (clear hcE hfE)); (try (have hcf := bcell E.low; obtain ⟨hcE, hfE⟩ := hcf)); (try (clear c4 f4)); (try (have c4 := b4.cell; have f4 := b4.free)); (try (clear k1 k4 k45)); (try (have kk := RRow.at145 (hB9) HY9.out; obtain ⟨k1, k4, k45⟩ := kk)))) | ((with_reducible refine at_store 4 ?_); (refine wp_put b4 rfl rfl ?_ ?_ ?_ ?_; (· kernel_rfl); (· first | rfl | kernel_rfl); (· first | decide | exact Nat.le_refl _ | simp [Act.eval, Value.cells] | (simp [Act.eval, Act.put, Value.cells]; done)); intro wn bn hb; have E2 := E.put b4 hb; (first | (replace EX := EX.but hb b4.blk (of_decide_eq_true rfl)) | (replace EX := EX.but0 hb mEX_4) | skip); (first | (replace hB9 := hB9.but hb b4.blk (of_decide_eq_true rfl)) | (replace hB9 := hB9.but0 hb mhB9_4) | skip); (first | (replace r54 := r54.but hb b4.blk (of_decide_eq_true rfl)) | (replace r54 := r54.but0 hb mr54_4) | skip); clear E b4; have E := E2; clear E2; have b4 := bn; clear bn hb; dsimp only [Act.put]; simp only [putA, Act.eval, Value.cells, Nat.reduceAdd, putL, sizL] at b4; (try (clear hcE hfE)); (try (have hcf := bcell E.low; obtain ⟨hcE, hfE⟩ := hcf)); (try (clear c4 f4)); (try (have c4 := b4.cell; have f4 := b4.free)); (try (clear k1 k4 k45)); (try (have kk := RRow.at145 (hB9) HY9.out; obtain ⟨k1, k4, k45⟩ := kk)))))
                    refine bodyPost_ret (v := .agg #[.int .i64 fc, .int .i64 u.line, .int .i64 u.col, .string fs]) (by simp [results, Try.f16, go_sem, c4]) rfl ?_
                    exact fpost HRR.out E.low
                · have hz3 : FT.zero = R3 := by
                    have := HV9.out
                    rw [List.drop_of_length_le (by rw [List.length_map]; omega)] at this
                    exact this
                  have hs : exStsR (l.drop (j + 1)) (L56.map Sy.ps) = R := by
                    have := HS.out
                    rw [← hz3, if_neg (by simp [FT.zero])] at this
                    exact this
                  have HT := Lib.hid hs
                  clear hs hz3
                  have E2 : Only [] W2 wr := hE3.trans E (fun x hx => by cases hx)
                  clear E hcE hfE
                  have E := E2
                  clear E2
                  obtain ⟨hcE, hfE⟩ := bcell E.low
                  go_upto_region 9999 with (first | fail)
                  go_roundw
                  case rel => exact ⟨j + 1, by go_num, by omega, HT, E, b4⟩
                  case measure => simp [intOf]; omega
          · have hz5 : FT.zero = R := by
              have := HF.out
              rw [List.drop_of_length_le (by omega), exStsR] at this
              exact this
            have HZ := Lib.hid hz5
            clear hz5
            have E2 : Only [] w wr := hE1.trans E (fun x hx => by cases hx)
            clear E hcE hfE
            have E := E2
            clear E2
            obtain ⟨hcE, hfE⟩ := bcell E.low
            go_upto_region 9999 with (first | ((with_reducible refine at_store 4 ?_); (refine wp_put b4 rfl rfl ?_ ?_ ?_ ?_; (· kernel_rfl); (· first | rfl | kernel_rfl); (· first | decide | exact Nat.le_refl _ | simp [Act.eval, Value.cells] | (simp [Act.eval, Act.put, Value.cells]; done)); intro wn bn hb; have E2 := E.put b4 hb; (first | (replace EX := EX.but hb b4.blk (of_decide_eq_true rfl)) | (replace EX := EX.but0 hb mEX_4) | skip); (first | (replace hB9 := hB9.but hb b4.blk (of_decide_eq_true rfl)) | (replace hB9 := hB9.but0 hb mhB9_4) | skip); (first | (replace r54 := r54.but hb b4.blk (of_decide_eq_true rfl)) | (replace r54 := r54.but0 hb mr54_4) | skip); clear E b4; have E := E2; clear E2; have b4 := bn; clear bn hb; dsimp only [Act.put]; simp only [putA, Act.eval, Value.cells, Nat.reduceAdd, putL, sizL] at b4; (try (clear hcE hfE)); (try (have hcf := bcell E.low; obtain ⟨hcE, hfE⟩ := hcf)); (try (clear c4 f4)); (try (have c4 := b4.cell; have f4 := b4.free)))) | ((with_reducible refine at_store 4 ?_); (refine wp_put b4 rfl rfl ?_ ?_ ?_ ?_; (· kernel_rfl); (· first | rfl | kernel_rfl); (· first | decide | exact Nat.le_refl _ | simp [Act.eval, Value.cells] | (simp [Act.eval, Act.put, Value.cells]; done)); intro wn bn hb; have E2 := E.put b4 hb; (first | (replace EX := EX.but hb b4.blk (of_decide_eq_true rfl)) | (replace EX := EX.but0 hb mEX_4) | skip); (first | (replace hB9 := hB9.but hb b4.blk (of_decide_eq_true rfl)) | (replace hB9 := hB9.but0 hb mhB9_4) | skip); (first | (replace r54 := r54.but hb b4.blk (of_decide_eq_true rfl)) | (replace r54 := r54.but0 hb mr54_4) | skip); clear E b4; have E := E2; clear E2; have b4 := bn; clear bn hb; dsimp only [Act.put]; simp only [putA, Act.eval, Value.cells, Nat.reduceAdd, putL, sizL] at b4; (try (clear hcE hfE)); (try (have hcf := bcell E.low; obtain ⟨hcE, hfE⟩ := hcf)); (try (clear c4 f4)); (try (have c4 := b4.cell; have f4 := b4.free)))) | ((with_reducible refine at_store 4 ?_); (refine wp_put b4 rfl rfl ?_ ?_ ?_ ?_; (· kernel_rfl); (· first | rfl | kernel_rfl); (· first | decide | exact Nat.le_refl _ | simp [Act.eval, Value.cells] | (simp [Act.eval, Act.put, Value.cells]; done)); intro wn bn hb; have E2 := E.put b4 hb; (first | (replace EX := EX.but hb b4.blk (of_decide_eq_true rfl)) | (replace EX := EX.but0 hb mEX_4) | skip); (first | (replace hB9 := hB9.but hb b4.blk (of_decide_eq_true rfl)) | (replace hB9 := hB9.but0 hb mhB9_4) | skip); (first | (replace r54 := r54.but hb b4.blk (of_decide_eq_true rfl)) | (replace r54 := r54.but0 hb mr54_4) | skip); clear E b4; have E := E2; clear E2; have b4 := bn; clear bn hb; dsimp only [Act.put]; simp only [putA, Act.eval, Value.cells, Nat.reduceAdd, putL, sizL] at b4; (try (clear hcE hfE)); (try (have hcf := bcell E.low; obtain ⟨hcE, hfE⟩ := hcf)); (try (clear c4 f4)); (try (have c4 := b4.cell; have f4 := b4.free)))) | ((with_reducible refine at_store 4 ?_); (refine wp_put b4 rfl rfl ?_ ?_ ?_ ?_; (· kernel_rfl); (· first | rfl | kernel_rfl); (· first | decide | exact Nat.le_refl _ | simp [Act.eval, Value.cells] | (simp [Act.eval, Act.put, Value.cells]; done)); intro wn bn hb; have E2 := E.put b4 hb; (first | (replace EX := EX.but hb b4.blk (of_decide_eq_true rfl)) | (replace EX := EX.but0 hb mEX_4) | skip); (first | (replace hB9 := hB9.but hb b4.blk (of_decide_eq_true rfl)) | (replace hB9 := hB9.but0 hb mhB9_4) | skip); (first | (replace r54 := r54.but hb b4.blk (of_decide_eq_true rfl)) | (replace r54 := r54.but0 hb mr54_4) | skip); clear E b4; have E := E2; clear E2; have b4 := bn; clear bn hb; dsimp only [Act.put]; simp only [putA, Act.eval, Value.cells, Nat.reduceAdd, putL, sizL] at b4; (try (clear hcE hfE)); (try (have hcf := bcell E.low; obtain ⟨hcE, hfE⟩ := hcf)); (try (clear c4 f4)); (try (have c4 := b4.cell; have f4 := b4.free)))) | ((with_reducible refine at_store 4 ?_); (refine wp_put b4 rfl rfl ?_ ?_ ?_ ?_; (· kernel_rfl); (· first | rfl | kernel_rfl); (· first | decide | exact Nat.le_refl _ | simp [Act.eval, Value.cells] | (simp [Act.eval, Act.put, Value.cells]; done)); intro wn bn hb; have E2 := E.put b4 hb; (first | (replace EX := EX.but hb b4.blk (of_decide_eq_true rfl)) | (replace EX := EX.but0 hb mEX_4) | skip); (first | (replace hB9 := hB9.but hb b4.blk (of_decide_eq_true rfl)) | (replace hB9 := hB9.but0 hb mhB9_4) | skip); (first | (replace r54 := r54.but hb b4.blk (of_decide_eq_true rfl)) | (replace r54 := r54.but0 hb mr54_4) | skip); clear E b4; have E := E2; clear E2; have b4 := bn; clear bn hb; dsimp only [Act.put]; simp only [putA, Act.eval, Value.cells, Nat.reduceAdd, putL, sizL] at b4; (try (clear hcE hfE)); (try (have hcf := bcell E.low; obtain ⟨hcE, hfE⟩ := hcf)); (try (clear c4 f4)); (try (have c4 := b4.cell; have f4 := b4.free)))) | ((with_reducible refine at_store 4 ?_); (refine wp_put b4 rfl rfl ?_ ?_ ?_ ?_; (· kernel_rfl); (· first | rfl | kernel_rfl); (· first | decide | exact Nat.le_refl _ | simp [Act.eval, Value.cells] | (simp [Act.eval, Act.put, Value.cells]; done)); intro wn bn hb; have E2 := E.put b4 hb; (first | (replace EX := EX.but hb b4.blk (of_decide_eq_true rfl)) | (replace EX := EX.but0 hb mEX_4) | skip); (first | (replace hB9 := hB9.but hb b4.blk (of_decide_eq_true rfl)) | (replace hB9 := hB9.but0 hb mhB9_4) | skip); (first | (replace r54 := r54.but hb b4.blk (of_decide_eq_true rfl)) | (replace r54 := r54.but0 hb mr54_4) | skip); clear E b4; have E := E2; clear E2; have b4 := bn; clear bn hb; dsimp only [Act.put]; simp only [putA, Act.eval, Value.cells, Nat.reduceAdd, putL, sizL] at b4; (try (clear hcE hfE)); (try (have hcf := bcell E.low; obtain ⟨hcE, hfE⟩ := hcf)); (try (clear c4 f4)); (try (have c4 := b4.cell; have f4 := b4.free)))))
            refine bodyPost_ret (v := .agg #[.int .i64 0, .int .i64 0, .int .i64 0, .string ⟨#[]⟩]) (by simp [results, Try.f16, go_sem, c4]) rfl ?_
            exact fpost HZ.out.symm E.low
  · rw [if_pos hq] at hR
    obtain ⟨g3, g4⟩ := kd_f hq
    have HR := Lib.hid hR
    clear hR hq
    go_upto_region 9999 with (first | ((with_reducible refine at_dst 4 ?_); go_simp; (generalize hX4 : Array.size (World.heap _) = X4); refine new_block hX4 ?_; intro wn bb hx; (try (have z4 := Nat.le_trans E.size (Nat.le_of_eq hX4))); have b4 := Loc.new bb E hX4; clear bb hX4; (try replace E := E.ext hx); (try (have hcf := bcell E.low; obtain ⟨hcE, hfE⟩ := hcf)); (try (have c4 := b4.cell; have f4 := b4.free))) | ((with_reducible refine at_dst 19 ?_); go_simp; ((refine (qblock_any (RRow.ext hl E.low) (hok.ext E.low) hfl hwA).mono ?_)); unfold BPostB FT.v; rw [HB.out]; dsimp only; rintro e wn ⟨ba, bc, bs, rfl, HBS, hBS, hx⟩; replace HBS := Lib.hid HBS; have EX := Ext.refl wn; (try replace E := E.ext hx); (try replace b4 := b4.ext hx); (try (clear hcE hfE)); (try (have hcf := bcell E.low; obtain ⟨hcE, hfE⟩ := hcf)); (try (clear c4 f4)); (try (have c4 := b4.cell; have f4 := b4.free))) | ((with_reducible refine at_dst 6 ?_); go_simp; (generalize hX6 : Array.size (World.heap _) = X6); refine new_block hX6 ?_; intro wn bb hx; (try (have n4_6 := (b4.ne hX6).1; have n6_4 := (b4.ne hX6).2)); (try (have z6 := Nat.le_trans E.size (Nat.le_of_eq hX6))); (try (have mEX_6 := EX.notin (Nat.le_of_eq hX6))); have b6 := Loc.new bb E hX6; clear bb hX6; (try replace E := E.ext hx); (try replace b4 := b4.ext hx); (try replace EX := EX.ext hx); (try (clear hcE hfE)); (try (have hcf := bcell E.low; obtain ⟨hcE, hfE⟩ := hcf)); (try (clear c4 f4)); (try (have c4 := b4.cell; have f4 := b4.free)); (try (have c6 := b6.cell; have f6 := b6.free))) | ((with_reducible refine at_dst 25 ?_); (refine wp_all b6.blk rfl rfl ?_ ?_ ?_); (· kernel_rfl); (· kernel_rfl)) | ((with_reducible refine at_store 6 ?_); (refine wp_put b6 rfl rfl ?_ ?_ ?_ ?_; (· kernel_rfl); (· first | rfl | kernel_rfl); (· first | decide | exact Nat.le_refl _ | simp [Act.eval, Value.cells] | (simp [Act.eval, Act.put, Value.cells]; done)); intro wn bn hb; have E2 := E.put b6 hb; (try replace b4 := b4.but hb n4_6); (first | (replace EX := EX.but hb b6.blk (of_decide_eq_true rfl)) | (replace EX := EX.but0 hb mEX_6) | skip); (first | (replace hB9 := hB9.but hb b6.blk (of_decide_eq_true rfl)) | (replace hB9 := hB9.but0 hb mhB9_6) | skip); (first | (replace r54 := r54.but hb b6.blk (of_decide_eq_true rfl)) | (replace r54 := r54.but0 hb mr54_6) | skip); clear E b6; have E := E2; clear E2; have b6 := bn; clear bn hb; dsimp only [Act.put]; simp only [putA, Act.eval, Value.cells, Nat.reduceAdd, putL, sizL] at b6; (try (clear hcE hfE)); (try (have hcf := bcell E.low; obtain ⟨hcE, hfE⟩ := hcf)); (try (clear c4 f4)); (try (have c4 := b4.cell; have f4 := b4.free)); (try (clear c6 f6)); (try (have c6 := b6.cell; have f6 := b6.free)))) | ((with_reducible refine at_store 4 ?_); (refine wp_put b4 rfl rfl ?_ ?_ ?_ ?_; (· kernel_rfl); (· first | rfl | kernel_rfl); (· first | decide | exact Nat.le_refl _ | simp [Act.eval, Value.cells] | (simp [Act.eval, Act.put, Value.cells]; done)); intro wn bn hb; have E2 := E.put b4 hb; (try replace b6 := b6.but hb n6_4); (first | (replace EX := EX.but hb b4.blk (of_decide_eq_true rfl)) | (replace EX := EX.but0 hb mEX_4) | skip); (first | (replace hB9 := hB9.but hb b4.blk (of_decide_eq_true rfl)) | (replace hB9 := hB9.but0 hb mhB9_4) | skip); (first | (replace r54 := r54.but hb b4.blk (of_decide_eq_true rfl)) | (replace r54 := r54.but0 hb mr54_4) | skip); clear E b4; have E := E2; clear E2; have b4 := bn; clear bn hb; dsimp only [Act.put]; simp only [putA, Act.eval, Value.cells, Nat.reduceAdd, putL, sizL] at b4; (try (clear hcE hfE)); (try (have hcf := bcell E.low; obtain ⟨hcE, hfE⟩ := hcf)); (try (clear c4 f4)); (try (have c4 := b4.cell; have f4 := b4.free)); (try (clear c6 f6)); (try (have c6 := b6.cell; have f6 := b6.free)))) | ((with_reducible refine at_store 4 ?_); (refine wp_put b4 rfl rfl ?_ ?_ ?_ ?_; (· kernel_rfl); (· first | rfl | kernel_rfl); (· first | decide | exact Nat.le_refl _ | simp [Act.eval, Value.cells] | (simp [Act.eval, Act.put, Value.cells]; done)); intro wn bn hb; have E2 := E.put b4 hb; (try replace b6 := b6.but hb n6_4); (first | (replace EX := EX.but hb b4.blk (of_decide_eq_true rfl)) | (replace EX := EX.but0 hb mEX_4) | skip); (first | (replace hB9 := hB9.but hb b4.blk (of_decide_eq_true rfl)) | (replace hB9 := hB9.but0 hb mhB9_4) | skip); (first | (replace r54 := r54.but hb b4.blk (of_decide_eq_true rfl)) | (replace r54 := r54.but0 hb mr54_4) | skip); clear E b4; have E := E2; clear E2; have b4 := bn; clear bn hb; dsimp only [Act.put]; simp only [putA, Act.eval, Value.cells, Nat.reduceAdd, putL, sizL] at b4; (try (clear hcE hfE)); (try (have hcf := bcell E.low; obtain ⟨hcE, hfE⟩ := hcf)); (try (clear c4 f4)); (try (have c4 := b4.cell; have f4 := b4.free)); (try (clear c6 f6)); (try (have c6 := b6.cell; have f6 := b6.free)))) | ((with_reducible refine at_store 4 ?_); (refine wp_put b4 rfl rfl ?_ ?_ ?_ ?_; (· kernel_rfl); (· first | rfl | kernel_rfl); (· first | decide | exact Nat.le_refl _ | simp [Act.eval, Value.cells] | (simp [Act.eval, Act.put, Value.cells]; done)); intro wn bn hb; have E2 := E.put b4 hb; (try replace b6 := b6.but hb n6_4); (first | (replace EX := EX.but hb b4.blk (of_decide_eq_true rfl)) | (replace EX := EX.but0 hb mEX_4) | skip); (first | (replace hB9 := hB9.but hb b4.blk (of_decide_eq_true rfl)) | (replace hB9 := hB9.but0 hb mhB9_4) | skip); (first | (replace r54 := r54.but hb b4.blk (of_decide_eq_true rfl)) | (replace r54 := r54.but0 hb mr54_4) | skip); clear E b4; have E := E2; clear E2; have b4 := bn; clear bn hb; dsimp only [Act.put]; simp only [putA, Act.eval, Value.cells, Nat.reduceAdd, putL, sizL] at b4; (try (clear hcE hfE)); (try (have hcf := bcell E.low; obtain ⟨hcE, hfE⟩ := hcf)); (try (clear c4 f4)); (try (have c4 := b4.cell; have f4 := b4.free)); (try (clear c6 f6)); (try (have c6 := b6.cell; have f6 := b6.free)))) | ((with_reducible refine at_store 4 ?_); (refine wp_put b4 rfl rfl ?_ ?_ ?_ ?_; (· kernel_rfl); (· first | rfl | kernel_rfl); (· first | decide | exact Nat.le_refl _ | simp [Act.eval, Value.cells] | (simp [Act.eval, Act.put, Value.cells]; done)); intro wn bn hb; have E2 := E.put b4 hb; (try replace b6 := b6.but hb n6_4); (first | (replace EX := EX.but hb b4.blk (of_decide_eq_true rfl)) | (replace EX := EX.but0 hb mEX_4) | skip); (first | (replace hB9 := hB9.but hb b4.blk (of_decide_eq_true rfl)) | (replace hB9 := hB9.but0 hb mhB9_4) | skip); (first | (replace r54 := r54.but hb b4.blk (of_decide_eq_true rfl)) | (replace r54 := r54.but0 hb mr54_4) | skip); clear E b4; have E := E2; clear E2; have b4 := bn; clear bn hb; dsimp only [Act.put]; simp only [putA, Act.eval, Value.cells, Nat.reduceAdd, putL, sizL] at b4; (try (clear hcE hfE)); (try (have hcf := bcell E.low; obtain ⟨hcE, hfE⟩ := hcf)); (try (clear c4 f4)); (try (have c4 := b4.cell; have f4 := b4.free)); (try (clear c6 f6)); (try (have c6 := b6.cell; have f6 := b6.free)))) | ((with_reducible refine at_store 4 ?_); (refine wp_put b4 rfl rfl ?_ ?_ ?_ ?_; (· kernel_rfl); (· first | rfl | kernel_rfl); (· first | decide | exact Nat.le_refl _ | simp [Act.eval, Value.cells] | (simp [Act.eval, Act.put, Value.cells]; done)); intro wn bn hb; have E2 := E.put b4 hb; (try replace b6 := b6.but hb n6_4); (first | (replace EX := EX.but hb b4.blk (of_decide_eq_true rfl)) | (replace EX := EX.but0 hb mEX_4) | skip); (first | (replace hB9 := hB9.but hb b4.blk (of_decide_eq_true rfl)) | (replace hB9 := hB9.but0 hb mhB9_4) | skip); (first | (replace r54 := r54.but hb b4.blk (of_decide_eq_true rfl)) | (replace r54 := r54.but0 hb mr54_4) | skip); clear E b4; have E := E2; clear E2; have b4 := bn; clear bn hb; dsimp only [Act.put]; simp only [putA, Act.eval, Value.cells, Nat.reduceAdd, putL, sizL] at b4; (try (clear hcE hfE)); (try (have hcf := bcell E.low; obtain ⟨hcE, hfE⟩ := hcf)); (try (clear c4 f4)); (try (have c4 := b4.cell; have f4 := b4.free)); (try (clear c6 f6)); (try (have c6 := b6.cell; have f6 := b6.free)))) | ((with_reducible refine at_store 4 ?_); (refine wp_put b4 rfl rfl ?_ ?_ ?_ ?_; (· kernel_rfl); (· first | rfl | kernel_rfl); (· first | decide | exact Nat.le_refl _ | simp [Act.eval, Value.cells] | (simp [Act.eval, Act.put, Value.cells]; done)); intro wn bn hb; have E2 := E.put b4 hb; (try replace b6 := b6.but hb n6_4); (first | (replace EX := EX.but hb b4.blk (of_decide_eq_true rfl)) | (replace EX := EX.but0 hb mEX_4) | skip); (first | (replace hB9 := hB9.but hb b4.blk (of_decide_eq_true rfl)) | (replace hB9 := hB9.but0 hb mhB9_4) | skip); (first | (replace r54 := r54.but hb b4.blk (of_decide_eq_true rfl)) | (replace r54 := r54.but0 hb mr54_4) | skip); clear E b4; have E := E2; clear E2; have b4 := bn; clear bn hb; dsimp only [Act.put]; simp only [putA, Act.eval, Value.cells, Nat.reduceAdd, putL, sizL] at b4; (try (clear hcE hfE)); (try (have hcf := bcell E.low; obtain ⟨hcE, hfE⟩ := hcf)); (try (clear c4 f4)); (try (have c4 := b4.cell; have f4 := b4.free)); (try (clear c6 f6)); (try (have c6 := b6.cell; have f6 := b6.free)))))
    refine bodyPost_ret (v := .agg #[.int .i64 q1, .int .i64 q2, .int .i64 q3, .string q4]) (by simp [results, Try.f16, go_sem, c4]) rfl ?_
    exact fpost HR.out.symm E.low
theorem qcheck_all : ∀ N : Nat, ChkOk N
  | 0 => fun _ _ _ _ _ _ _ _ _ _ _ _ _ _ hz _ => absurd hz (Nat.not_lt_zero _)
  | N + 1 => qcheck_step (Lib.hid (qcheck_all N))
set_option maxHeartbeats 2000000 in
set_option maxRecDepth 100000 in
theorem qCheck_any {w : World} {nm : ByteArray} {ver : Int} {a : Option Addr} {n c : Nat} {l : List St} (hl : RRow w 55 stC (.slice a n c) l) (hok : St.oks w l) (hfl : St.fewls l) (hev : St.evfs l) (hw : wtU (([] : List Sy).map Sy.ps) + St.wts l ≤ 1000000000000) :
    Calls Try.prog 9 #[.agg #[.string nm, .int .i64 ver, .slice a n c]] w (FPost (exListR l []) w) := by
  obtain ⟨⟨q1, q2, q3, q4⟩, hF⟩ : ∃ F, exListR l [] = F := ⟨_, rfl⟩
  rw [hF]
  have HF : Hid (exListR l (([] : List Sy).map Sy.ps) = ⟨q1, q2, q3, q4⟩) := hF
  clear hF
  go_enter Try.func9, Try.ntmps9
  have E := Only.refl [] w
  go_upto_region 9999 with (first | ((with_reducible refine at_dst 1 ?_); go_simp; (generalize hX1 : Array.size (World.heap _) = X1); refine new_block hX1 ?_; intro wn bb hx; (try (have z1 := Nat.le_trans E.size (Nat.le_of_eq hX1))); have b1 := Loc.new bb E hX1; clear bb hX1; (try replace E := E.ext hx); (try (have hcf := bcell E.low; obtain ⟨hcE, hfE⟩ := hcf)); (try (have c1 := b1.cell; have f1 := b1.free))) | ((with_reducible refine at_dst 2 ?_); go_simp; (generalize hX2 : Array.size (World.heap _) = X2); refine new_block hX2 ?_; intro wn bb hx; (try (have n1_2 := (b1.ne hX2).1; have n2_1 := (b1.ne hX2).2)); (try (have z2 := Nat.le_trans E.size (Nat.le_of_eq hX2))); have b2 := Loc.new bb E hX2; clear bb hX2; (try replace E := E.ext hx); (try replace b1 := b1.ext hx); (try (clear hcE hfE)); (try (have hcf := bcell E.low; obtain ⟨hcE, hfE⟩ := hcf)); (try (clear c1 f1)); (try (have c1 := b1.cell; have f1 := b1.free)); (try (have c2 := b2.cell; have f2 := b2.free))) | ((with_reducible refine at_dst 5 ?_); go_simp; ((refine (qcheck_all _ l [] (RRow.ext hl E.low) (hok.ext E.low) hfl hev (syms_nil _) (Nat.lt_succ_self _) hw).mono ?_)); unfold FPost FT.v; rw [HF.out]; dsimp only; rintro e wn ⟨rfl, hx⟩; (try replace E := E.ext hx); (try replace b1 := b1.ext hx); (try replace b2 := b2.ext hx); (try (clear hcE hfE)); (try (have hcf := bcell E.low; obtain ⟨hcE, hfE⟩ := hcf)); (try (clear c1 f1)); (try (have c1 := b1.cell; have f1 := b1.free)); (try (clear c2 f2)); (try (have c2 := b2.cell; have f2 := b2.free))) | ((with_reducible refine at_store 2 ?_); (refine wp_put b2 rfl rfl ?_ ?_ ?_ ?_; (· kernel_rfl); (· first | rfl | kernel_rfl); (· first | decide | exact Nat.le_refl _ | simp [Act.eval, Value.cells] | (simp [Act.eval, Act.put, Value.cells]; done)); intro wn bn hb; have E2 := E.put b2 hb; (try replace b1 := b1.but hb n1_2); clear E b2; have E := E2; clear E2; have b2 := bn; clear bn hb; dsimp only [Act.put]; simp only [putA, Act.eval, Value.cells, Nat.reduceAdd, putL, sizL] at b2; (try (clear hcE hfE)); (try (have hcf := bcell E.low; obtain ⟨hcE, hfE⟩ := hcf)); (try (clear c1 f1)); (try (have c1 := b1.cell; have f1 := b1.free)); (try (clear c2 f2)); (try (have c2 := b2.cell; have f2 := b2.free)))))
  refine bodyPost_ret (v := .agg #[.int .i64 q1, .int .i64 q2, .int .i64 q3, .string q4]) (by simp [results, Try.f9, go_sem, c2]) rfl ?_
  exact fpost rfl E.low
end Go.Proofs.Ytnifgkgdphlleaa
