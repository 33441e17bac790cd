/- The iterator over the symbols that statements write: its walk. -/
import Derived.Test.YtnifgkgdphlleaaVj
set_option linter.unusedSimpArgs false
set_option linter.unusedVariables false
namespace Go.Proofs.Ytnifgkgdphlleaa
open Go.RowKit Tk
attribute [local go_sem] Oper.semAt_some
theorem bodyPost_nrm {P : Program} {fn : Func} {R : Ending → World → Prop} {a : Act} {w : World} {v : Value} (hr : (results fn a.tmps).run P w = .ok v w) (hd : a.defers = []) (hR : R (.returned v) w) : bodyPost P fn R .normal a w := ⟨hd, v, hr, hR⟩
set_option maxHeartbeats 8000000 in
set_option maxRecDepth 100000 in
theorem written_iter {w0 w : World} {X1 : Nat} {a : Option Addr} {n c : Nat} {l : List St} (hb : Blk w X1 22 #[.slice a n c]) (hl : RRow w0 55 stC (.slice a n c) l) (hok : St.oks w0 l) (hfl : St.fewls l) (E : Only [] w0 w) (m : Nat) :
    Iter m Try.prog 32 #[.pointer (some ⟨X1, 0, none⟩)] w0.heap.size (allS l) w := by
  intro lo J Jx W O hxW hJe hJo hY hJ0
  obtain ⟨rfl, n2⟩ := RRow.lens hl
  have hY := Lib.hid hY
  have hJe := Lib.hid hJe
  have hJo := Lib.hid hJo
  refine callsIn_wide.2 ?_
  have c1 := (hb.low hxW).cell
  have f1 := (hb.low hxW).free
  replace E := E.ext hxW
  have hE0 := E
  go_enter Try.func32, Try.ntmps32
  go_upto_region 1 with (first | fail)
  obtain ⟨hcE, hfE⟩ := bcell E.low
  clear c1 f1
  go_loopw [9] (fun i wr => ∃ (j : Nat) (pre : List Sy) (O : List Nat), i = .int .i64 j ∧ j ≤ l.length ∧ J pre O wr ∧ Hid (pre.map Sy.ps = allS (l.take j)) ∧ Only [] w0 wr) (fun i _ => l.length - (intOf i).toNat)
  case atStart => exact ⟨0, [], O, rfl, Nat.zero_le _, hJ0, rfl, E⟩
  case round =>
    clear E hcE hfE hJ0
    obtain ⟨j, pre, O, rfl, hj, hJ, HP, E⟩ := hrel
    obtain ⟨hcE, hfE⟩ := bcell E.low
    by_cases hlt : j < l.length
    · obtain ⟨y, hy⟩ := at_some hlt
      obtain ⟨g, o, rfl, hg, -⟩ := RRow.cells hl hlt
      have hlc := hl
      have HY := Lib.hid hy
      have hyo : y.ok w0 := by
        obtain ⟨h1, h2⟩ := List.getElem?_eq_some_iff.1 hy
        exact h2 ▸ hok.at h1
      have hyf : y.fewl := by
        obtain ⟨h1, h2⟩ := List.getElem?_eq_some_iff.1 hy
        exact h2 ▸ hfl.at h1
      clear hy
      have EX := Ext.refl wr
      go_upto_region 4 with (first | ((with_reducible refine at_dst 12 ?_); (refine wp_rec2 ((hlc.ext E.low)) (HY.out) stC_len rfl rfl ?_ ?_ ?_); (· kernel_rfl); (· kernel_rfl)) | ((with_reducible refine at_dst 4 ?_); go_simp; (generalize hX4 : Array.size (World.heap _) = X4); refine new_block hX4 ?_; intro wn bb hx; (try (have n6_4 := (b6.ne hX4).1; have n4_6 := (b6.ne hX4).2)); (try (have z4 := Nat.le_trans E.size (Nat.le_of_eq hX4))); (try (have mhsf_4 := hsf.notin (Nat.le_of_eq hX4))); (try (have mEX_4 := EX.notin (Nat.le_of_eq hX4))); have b4 := Loc.new bb E hX4; clear bb hX4; (try replace E := E.ext hx); (try replace b6 := b6.ext hx); (try replace hsf := hsf.ext hx); (try replace EX := EX.ext hx); (try (clear hcE hfE)); (try (have hcf := bcell E.low; obtain ⟨hcE, hfE⟩ := hcf)); (try (clear c4 f4)); (try (have c4 := b4.cell; have f4 := b4.free)); (try (clear c6 f6)); (try (have c6 := b6.cell; have f6 := b6.free))) | ((with_reducible refine at_dst 13 ?_); (refine wp_all b4.blk rfl rfl ?_ ?_ ?_); (· kernel_rfl); (· kernel_rfl)) | ((with_reducible refine at_dst 14 ?_); go_simp; ((refine (symbols_any (hyo.hd.ext E.low) hyf.hd).mono ?_)); unfold WPost; rintro e wn ⟨sa, sc, xs, rfl, HXS, hyr, hx⟩; have hJ1 := hJe.out _ _ _ _ hJ EX; have hO1 := fun b hb => (hJo.out _ _ _ hJ1 b hb).2; have hsf := Safe.made hyr hO1; clear hO1; replace HXS := Lib.hid HXS; (try replace E := E.ext hx); (try replace b4 := b4.ext hx); (try replace b6 := b6.ext hx); (try replace hsf := hsf.ext hx); (try replace EX := EX.ext hx); (try (clear hcE hfE)); (try (have hcf := bcell E.low; obtain ⟨hcE, hfE⟩ := hcf)); (try (clear c4 f4)); (try (have c4 := b4.cell; have f4 := b4.free)); (try (clear c6 f6)); (try (have c6 := b6.cell; have f6 := b6.free))) | ((with_reducible refine at_store 4 ?_); (refine wp_put b4 rfl rfl ?_ ?_ ?_ ?_; (· kernel_rfl); (· first | rfl | kernel_rfl); (· first | decide | exact Nat.le_refl _ | simp [Act.eval, Value.cells] | (simp [Act.eval, Act.put, Value.cells]; done)); intro wn bn hb; have E2 := E.put b4 hb; (try replace b6 := b6.but hb n6_4); (first | (replace hsf := hsf.but hb b4.blk (of_decide_eq_true rfl)) | (replace hsf := hsf.but0 hb mhsf_4) | skip); (first | (replace EX := EX.but hb b4.blk (of_decide_eq_true rfl)) | (replace EX := EX.but0 hb mEX_4) | skip); clear E b4; have E := E2; clear E2; have b4 := bn; clear bn hb; dsimp only [Act.put]; simp only [putA, Act.eval, Array.getD_eq_getD_getElem?, List.getElem?_toArray, List.getElem?_cons_succ, List.getElem?_cons_zero, Option.getD_some, Value.cells, List.toList_toArray, List.size_toArray, List.length_cons, List.length_nil, Nat.reduceAdd, List.take_succ_cons, List.take_zero, List.drop_succ_cons, List.drop_zero, List.drop_nil, List.cons_append, List.nil_append, List.append_nil, syC_size, stC_size, exC_size, nsC_size, lvC_size, rgC_size, cxC_size, spanC_size] at b4; (try (clear hcE hfE)); (try (have hcf := bcell E.low; obtain ⟨hcE, hfE⟩ := hcf)); (try (clear c4 f4)); (try (have c4 := b4.cell; have f4 := b4.free)); (try (clear c6 f6)); (try (have c6 := b6.cell; have f6 := b6.free)))))
      have hJ2 := hJe.out _ _ _ _ hJ EX
      clear hJ hJ1 EX
      have hxl : xs.length ≤ 9223372036854775807 := (RRow.lens hsf.cells).2
      go_loopw [16] (fun i wr => ∃ (k : Nat) (pre : List Sy) (O : List Nat), i = .int .i64 k ∧ k ≤ xs.length ∧ J pre O wr ∧ Hid (pre.map Sy.ps = allS (l.take j) ++ (symsP y.h).take k) ∧ Safe wr O sa sc xs ∧ Only [] w0 wr) (fun i _ => xs.length - (intOf i).toNat)
      case atStart => exact ⟨0, pre, O, rfl, Nat.zero_le _, hJ2, Lib.hid (by rw [HP.out]; simp), hsf, E⟩
      case round =>
        clear hJ2 hsf E HP b4 c4 f4 hcE hfE
        obtain ⟨k, pre, O, rfl, hk, hJ, HP, hsf, E⟩ := hrel
        obtain ⟨hcE, hfE⟩ := bcell E.low
        by_cases hltk : k < xs.length
        · obtain ⟨z, hz⟩ := at_some hltk
          have HX := Lib.hid hz
          obtain ⟨g2, hsa⟩ : ∃ g2, sa = some ⟨g2, 0, none⟩ := by
            obtain ⟨g', cap, e, -⟩ := ORow.at syC_len hsf.row (by omega)
            injection e with e _ _
            exact ⟨g', e⟩
          subst hsa
          clear hz
          have EX := Ext.refl wr
          go_upto_region 6 with (first | ((with_reducible refine at_dst 19 ?_); (refine wp_rec0 (hsf.cells) (HX.out) syC_len rfl rfl ?_ ?_ ?_); (· kernel_rfl); (· kernel_rfl)) | ((with_reducible refine at_dst 6 ?_); go_simp; (generalize hX6 : Array.size (World.heap _) = X6); refine new_block hX6 ?_; intro wn bb hx; (try (have n4_6 := (b4.ne hX6).1; have n6_4 := (b4.ne hX6).2)); (try (have z6 := Nat.le_trans E.size (Nat.le_of_eq hX6))); (try (have mhsf_6 := hsf.notin (Nat.le_of_eq hX6))); (try (have mEX_6 := EX.notin (Nat.le_of_eq hX6))); have b6 := Loc.new bb E hX6; clear bb hX6; (try replace E := E.ext hx); (try replace b4 := b4.ext hx); (try replace hsf := hsf.ext hx); (try replace EX := EX.ext hx); (try (clear hcE hfE)); (try (have hcf := bcell E.low; obtain ⟨hcE, hfE⟩ := hcf)); (try (clear c4 f4)); (try (have c4 := b4.cell; have f4 := b4.free)); (try (clear c6 f6)); (try (have c6 := b6.cell; have f6 := b6.free))) | ((with_reducible refine at_store 6 ?_); (refine wp_put b6 rfl rfl ?_ ?_ ?_ ?_; (· kernel_rfl); (· first | rfl | kernel_rfl); (· first | decide | exact Nat.le_refl _ | simp [Act.eval, Value.cells] | (simp [Act.eval, Act.put, Value.cells]; done)); intro wn bn hb; have E2 := E.put b6 hb; (try replace b4 := b4.but hb n4_6); (first | (replace hsf := hsf.but hb b6.blk (of_decide_eq_true rfl)) | (replace hsf := hsf.but0 hb mhsf_6) | skip); (first | (replace EX := EX.but hb b6.blk (of_decide_eq_true rfl)) | (replace EX := EX.but0 hb mEX_6) | skip); clear E b6; have E := E2; clear E2; have b6 := bn; clear bn hb; dsimp only [Act.put]; simp only [putA, Act.eval, Array.getD_eq_getD_getElem?, List.getElem?_toArray, List.getElem?_cons_succ, List.getElem?_cons_zero, Option.getD_some, Value.cells, List.toList_toArray, List.size_toArray, List.length_cons, List.length_nil, Nat.reduceAdd, List.take_succ_cons, List.take_zero, List.drop_succ_cons, List.drop_zero, List.drop_nil, List.cons_append, List.nil_append, List.append_nil, syC_size, stC_size, exC_size, nsC_size, lvC_size, rgC_size, cxC_size, spanC_size] at b6; (try (clear hcE hfE)); (try (have hcf := bcell E.low; obtain ⟨hcE, hfE⟩ := hcf)); (try (clear c4 f4)); (try (have c4 := b4.cell; have f4 := b4.free)); (try (clear c6 f6)); (try (have c6 := b6.cell; have f6 := b6.free)))))
          have hJ2 := hJe.out _ _ _ _ hJ EX
          have hzm : z ∈ xs := List.mem_of_getElem? HX.out
          have hps : (pre ++ [z]).map Sy.ps = allS (l.take j) ++ (symsP y.h).take (k + 1) := by
            rw [List.map_append, HP.out, ← HXS.out, take_at (map_at (f := Sy.ps) HX.out), List.append_assoc]; rfl
          have HPS := Lib.hid hps
          clear hps
          obtain ⟨fn, tmps, assign, body, hy, hR⟩ := hY.out pre z O wn hJ2 (hsf.perms z hzm) (pre_of HY.out HPS.out)
          replace hy : (Instr.yield lo #[.agg #[.int .i64 z.kind, .string z.name, .bool z.req, .slice z.hp.a z.perms.length z.hp.c, .int .i64 z.line, .int .i64 z.col]]).run Try.prog wn = .ok (.round lo fn tmps assign body) wn := hy
          refine (wpIn_wide (n := m)).1 ?_
          gi_wp2
          clear hy
          refine ⟨fun h => (by cases h), hR.mono ?_⟩
          clear hR
          rintro e W' (⟨rfl, O', hJ', ho, hO'⟩ | ⟨rfl, hJx'⟩)
          · have hsf' := hsf.step ho hO'
            have E' : Only [] w0 W' := E.trans ho fun b hb => .inr (hJo.out _ _ _ hJ2 b hb).1
            gi_wp2
            clear E hcE hfE hsf b6 c6 f6 hJ2 hJ EX
            go_upto_region 9999 with (first | fail)
            go_roundw
            case rel => exact ⟨k + 1, pre ++ [z], O', by go_num, by omega, hJ', HPS.out, hsf', E'⟩
            case measure => simp [intOf]; omega
          · gi_wp2
            clear E hcE hfE hsf b6 c6 f6 hJ2 hJ EX
            go_upto_region 9999 with (first | fail)
            refine bodyPost_ret (v := .tuple #[]) (by simp [results, Try.f32, go_sem]) rfl ⟨⟨_, rfl⟩, .inr ⟨pre ++ [z], pre_of HY.out HPS.out, hJx'⟩⟩
        · have hps : pre.map Sy.ps = allS (l.take (j + 1)) := by
            rw [HP.out, allS_take HY.out, List.take_of_length_le (l := symsP y.h) (by rw [← HXS.out, List.length_map]; omega)]
          have HPS := Lib.hid hps
          clear hps
          go_upto_region 9999 with (first | fail)
          go_roundw
          case rel => exact ⟨j + 1, pre, O, by go_num, by omega, hJ, HPS.out, E⟩
          case measure => simp [intOf]; omega
    · go_upto_region 9999 with (first | fail)
      refine bodyPost_nrm (v := .tuple #[]) (by simp [results, Try.f32, go_sem]) rfl ?_
      exact ⟨⟨_, rfl⟩, .inl ⟨pre, O, by rw [HP.out, List.take_of_length_le (by omega)], hJ⟩⟩
end Go.Proofs.Ytnifgkgdphlleaa
