/- Ql -/
import Derived.Test.YtnifgkgdphlleaaS18
import Derived.Test.YtnifgkgdphlleaaS17
set_option linter.unusedSimpArgs false
set_option linter.unusedVariables false
namespace Go.Proofs.Ytnifgkgdphlleaa
open Go.RowKit Tk
def stepR (all : List PS) (out : List PS) (x : PS) : List PS :=
  if (x.req && (isObj x.kind x.name || (findI x.kind x.name false all).isSome)) = true then out
  else match findI x.kind x.name true out with
    | some i => if x.req = true then out.modify i (·.add x.perms) else out ++ [x]
    | none => out ++ [x]
def blockR (all : List PS) : List PS × FT :=
  match scanB spR [] all with
  | some (e, x) => ([], ⟨e, x.line, x.col, x.name⟩)
  | none => (all.foldl (stepR all) [], FT.zero)
theorem stepR_wt (all out : List PS) (y : PS) : wtU (stepR all out y) ≤ wtU out + (1 + y.perms.length) := by
  have hn : wtU (out ++ [y]) ≤ wtU out + (1 + y.perms.length) := by rw [wtU_app]; simp [wtU]
  unfold stepR
  split
  · omega
  · split
    · split
      · have := wtU_mod y.perms out ‹_›; omega
      · exact hn
    · exact hn
theorem foldR_wt (all : List PS) : ∀ (l out : List PS), wtU (l.foldl (stepR all) out) ≤ wtU out + wtU l
  | [], out => by simp [wtU]
  | y :: l, out => by
    have h1 := foldR_wt all l (stepR all out y)
    have h2 := stepR_wt all out y
    have h3 : wtU (y :: l) = (1 + y.perms.length) + wtU l := by simp [wtU]
    rw [List.foldl_cons, h3]; omega
theorem findI_some {k : Int} {n : ByteArray} {r : Bool} : ∀ {l : List PS} {i : Nat}, findI k n r l = some i → ∃ x, l[i]? = some x ∧ x.kind = k ∧ x.name = n ∧ x.req = r
  | x :: l, i, h => by
    unfold findI at h
    split at h
    · rename_i hc
      injection h with h
      subst h
      exact ⟨x, rfl, hc⟩
    · obtain ⟨j, hj, rfl⟩ := Option.map_eq_some_iff.1 h
      obtain ⟨y, h1, h2⟩ := findI_some hj
      exact ⟨y, by simpa using h1, h2⟩
theorem scan_code {sp : Int → Int} : ∀ {l pre : List PS} {q : Int × PS}, scanB sp pre l = some q → q.1 ≠ 0
  | x :: l, pre, q, hq => by
    rw [scanB] at hq
    split at hq
    · rename_i hc
      injection hq with hq
      subst hq; exact hc
    · exact scan_code hq
theorem YRow.ext {w0 w w' : World} {v : Value} {xs : List Sy} (h : YRow w0 w v xs) (hx : Ext w w') : YRow w0 w' v xs := ⟨h.row.ext hx, h.perms.ext hx⟩
set_option maxHeartbeats 8000000 in
set_option maxRecDepth 100000 in
theorem qblock_any {w : World} {a : Option Addr} {n c : Nat} {l : List St} (hl : RRow w 55 stC (.slice a n c) l) (hok : St.oks w l) (hfl : St.fewls l) (hw : wtU (allS l) ≤ 1000000000000) :
    Calls Try.prog 27 #[.slice a n c] w (BPostB w (blockR (allS l))) := by
  obtain ⟨rfl, n2⟩ := RRow.lens hl
  obtain ⟨R, hR⟩ : ∃ R, blockR (allS l) = R := ⟨_, rfl⟩
  rw [hR]
  unfold blockR at hR
  rcases hs : scanB spR [] (allS l) with _ | ⟨e, z⟩
  · rw [hs] at hR
    dsimp only at hR
    have hB : allR (allS l) = (allS l, ⟨0, 0, 0, ⟨#[]⟩⟩) := by unfold allR; rw [hs]; rfl
    have HB := Lib.hid hB
    have HR := Lib.hid hR
    clear hR hs hB
    go_enter Try.func27, Try.ntmps27
    have E := Only.refl [] w
    go_upto_region 5 with (first | ((with_reducible refine at_dst 3 ?_); go_simp; (generalize hX3 : Array.size (World.heap _) = X3); refine new_block hX3 ?_; intro wn bb hx; (try (have z3 := Nat.le_trans E.size (Nat.le_of_eq hX3))); have b3 := Loc.new bb E hX3; clear bb hX3; (try replace E := E.ext hx); (try (have hcf := bcell E.low; obtain ⟨hcE, hfE⟩ := hcf)); (try (have c3 := b3.cell; have f3 := b3.free))) | ((with_reducible refine at_dst 12 ?_); go_simp; (have hc := qall_any (RRow.ext hl E.low) (hok.ext E.low) hfl hw; (refine hc.mono ?_)); clear hc; unfold BPostR FT.v; rw [HB.out]; dsimp only; rintro e wn ⟨ba, bc, bs, rfl, HBS, hBS, hx⟩; replace HBS := Lib.hid HBS; have EX := Ext.refl wn; (try replace E := E.ext hx); (try replace b3 := b3.ext hx); (try (clear hcE hfE)); (try (have hcf := bcell E.low; obtain ⟨hcE, hfE⟩ := hcf)); (try (clear c3 f3)); (try (have c3 := b3.cell; have f3 := b3.free))) | ((with_reducible refine at_dst 5 ?_); go_simp; (generalize hX5 : Array.size (World.heap _) = X5); refine new_block hX5 ?_; intro wn bb hx; (try (have n3_5 := (b3.ne hX5).1; have n5_3 := (b3.ne hX5).2)); (try (have z5 := Nat.le_trans E.size (Nat.le_of_eq hX5))); (try (have mEX_5 := EX.notin (Nat.le_of_eq hX5))); have b5 := Loc.new bb E hX5; clear bb hX5; (try replace E := E.ext hx); (try replace b3 := b3.ext hx); (try replace EX := EX.ext hx); (try (clear hcE hfE)); (try (have hcf := bcell E.low; obtain ⟨hcE, hfE⟩ := hcf)); (try (clear c3 f3)); (try (have c3 := b3.cell; have f3 := b3.free)); (try (have c5 := b5.cell; have f5 := b5.free))) | ((with_reducible refine at_store 5 ?_); (refine wp_put b5 rfl rfl ?_ ?_ ?_ ?_; (· kernel_rfl); (· first | rfl | kernel_rfl); (· first | decide | exact Nat.le_refl _ | simp [Act.eval, Value.cells] | (simp [Act.eval, Act.put, Value.cells]; done)); intro wn bn hb; have E2 := E.put b5 hb; (try replace b3 := b3.but hb n3_5); (first | (replace EX := EX.but hb b5.blk (of_decide_eq_true rfl)) | (replace EX := EX.but0 hb mEX_5) | skip); (first | (replace r0 := r0.but hb b5.blk (of_decide_eq_true rfl)) | (replace r0 := r0.but0 hb mr0_5) | skip); (first | (replace hPo := hPo.but hb b5.blk (of_decide_eq_true rfl)) | (replace hPo := hPo.but0 hb mhPo_5) | skip); clear E b5; have E := E2; clear E2; have b5 := bn; clear bn hb; dsimp only [Act.put]; simp only [putA, Act.eval, Value.cells, Nat.reduceAdd, putL, sizL] at b5; (try (clear hcE hfE)); (try (have hcf := bcell E.low; obtain ⟨hcE, hfE⟩ := hcf)); (try (clear c3 f3)); (try (have c3 := b3.cell; have f3 := b3.free)); (try (clear c5 f5)); (try (have c5 := b5.cell; have f5 := b5.free)))))
    obtain ⟨W, hW⟩ : ∃ W, W = wn := ⟨_, rfl⟩
    subst hW
    have hE0 := E
    have hBS := hBS.ext EX
    have hxr : RRow W 6 syC (.slice ba bs.length bc) bs := hBS.row.rsy
    have hPx : PermsOk W bs := hBS.perms.ok
    obtain ⟨all, hall⟩ : ∃ all, bs.map Sy.ps = all := ⟨_, rfl⟩
    have hV : all = allS l := by rw [← hall, HBS.out]
    have hwA : wtU all ≤ 1000000000000 := by rw [hV]; exact hw
    have hxl : bs.length ≤ 1000000000000 := by
      have h2 := wtU_len all
      rw [← hall, List.length_map, hall] at h2
      omega
    have HALL := Lib.hid hall
    have HV := Lib.hid hV
    clear E hcE hfE hBS EX b5 c5 f5 hall hV HBS
    have E := Only.refl [] W
    obtain ⟨hcE, hfE⟩ := bcell E.low
    have r0 := OwnR.nil W W 57 6 syC
    have hPo : PermsOk W [] := fun x hx => by cases hx
    go_upto_region 6 with (first | fail)
    go_loopw [6, 7] (fun v i wr => ∃ (j : Nat) (out : List Sy) (so : Option Addr) (sc2 : Nat), i = .int .i64 j ∧ j ≤ bs.length ∧ v = .slice so out.length sc2 ∧ Hid (out.map Sy.ps = (all.take j).foldl (stepR all) []) ∧ OwnR W wr 57 6 syC (.slice so out.length sc2) out ∧ PermsOk wr out ∧ Only [] W wr ∧ Loc [] w wr X3 31 #[.int .i64 0, .int .i64 0, .int .i64 0, .string ⟨#[]⟩]) (fun _ i _ => bs.length - (intOf i).toNat)
    case atStart => exact ⟨0, [], none, 0, rfl, Nat.zero_le _, rfl, rfl, r0, hPo, E, b3⟩
    case round =>
      clear r0 hPo E b3 c3 f3 hcE hfE
      obtain ⟨j, out, so, sc2, rfl, hj, rfl, HOUT, r0, hPo, E, b3⟩ := hrel
      have c3 := b3.cell
      have f3 := b3.free
      obtain ⟨hcE, hfE⟩ := bcell E.low
      by_cases hlt : j < bs.length
      · obtain ⟨y, hy⟩ := at_some hlt
        have HY := Lib.hid hy
        have hym := List.mem_of_getElem? hy
        have hya : all[j]? = some y.ps := by rw [← HALL.out]; exact map_at hy
        have hs := fold_take (stepR all) [] hya
        rw [← HOUT.out] at hs
        obtain ⟨g, o, rfl, hg, -⟩ := RRow.cells hxr hlt
        have hyp : y.perms.length ≤ 1000000000000 := by
          have := wtU_mem (List.mem_of_getElem? hya)
          dsimp only [Sy.ps] at this
          omega
        have hfy : few y.perms.length := by unfold few; omega
        have hwo : wtU (out.map Sy.ps) ≤ 1000000000000 := by
          have h1 := foldR_wt all (all.take j) []
          have h2 := wtU_take all j
          rw [← HOUT.out] at h1
          have h4 : wtU [] = 0 := rfl
          omega
        have hol : out.length ≤ 1000000000000 := by
          have h3 := wtU_len (out.map Sy.ps)
          rw [List.length_map] at h3
          omega
        have hstep : stepR all (out.map Sy.ps) y.ps = (if (y.req && (isObj y.kind y.name || (findI y.kind y.name false all).isSome)) = true then out.map Sy.ps else match findI y.kind y.name true (out.map Sy.ps) with
          | some i => if y.req = true then (out.map Sy.ps).modify i (·.add y.perms) else out.map Sy.ps ++ [y.ps]
          | none => out.map Sy.ps ++ [y.ps]) := rfl
        have hPy : ORow W 9 1 strC (y.hp.v y.perms.length) y.perms := hPx y hym
        obtain ⟨ob, hob⟩ : ∃ ob, isObj y.kind y.name = ob := ⟨_, rfl⟩
        obtain ⟨dv, hdv⟩ : ∃ dv, fOut (findI y.kind y.name false (bs.map Sy.ps)) = dv := ⟨_, rfl⟩
        obtain ⟨fv, hfv⟩ : ∃ fv, fOut (findI y.kind y.name true (out.map Sy.ps)) = fv := ⟨_, rfl⟩
        have HDE := Lib.hid hdv
        have HFI := Lib.hid hfv
        have HOB := Lib.hid hob
        rw [HALL.out] at hdv
        rw [hob] at hstep
        have hrq : y.req = true ∨ y.req = false := by cases y.req <;> simp
        clear hy hya
        rcases hrq with hrq | hrq
        · have HR2 := Lib.hid hrq
          rw [hrq, Bool.true_and] at hstep
          rcases (show ob = true ∨ ob = false by cases ob <;> simp) with rfl | rfl
          · rw [Bool.true_or, if_pos rfl] at hstep
            rw [hstep] at hs
            have HS := Lib.hid hs
            clear hs hstep hob hdv hfv
            go_upto_region 9999 with (first | ((with_reducible refine at_dst 28 ?_); (refine wp_rec2 ((RRow.ext hxr E.low)) (HY.out) syC_len rfl rfl ?_ ?_ ?_); (· kernel_rfl); (· kernel_rfl)) | ((with_reducible refine at_dst 8 ?_); go_simp; (generalize hX8 : Array.size (World.heap _) = X8); refine new_block hX8 ?_; intro wn bb hx; (try (have n3_8 := (b3.ne hX8).1; have n8_3 := (b3.ne hX8).2)); (try (have z8 := Nat.le_trans E.size (Nat.le_of_eq hX8))); (try (have mr0_8 := r0.notin (Nat.le_of_eq hX8))); have b8 := Loc.new bb E hX8; clear bb hX8; (try replace E := E.ext hx); (try replace b3 := b3.ext hx); (try replace r0 := r0.ext hx); (try replace hPo := hPo.ext hx); (try (clear hcE hfE)); (try (have hcf := bcell E.low; obtain ⟨hcE, hfE⟩ := hcf)); (try (clear c3 f3)); (try (have c3 := b3.cell; have f3 := b3.free)); (try (have c8 := b8.cell; have f8 := b8.free))) | ((with_reducible refine at_dst 32 ?_); (refine wp_all b8.blk rfl rfl ?_ ?_ ?_); (· kernel_rfl); (· kernel_rfl)) | ((with_reducible refine at_store 8 ?_); (refine wp_put b8 rfl rfl ?_ ?_ ?_ ?_; (· kernel_rfl); (· first | rfl | kernel_rfl); (· first | decide | exact Nat.le_refl _ | simp [Act.eval, Value.cells] | (simp [Act.eval, Act.put, Value.cells]; done)); intro wn bn hb; have E2 := E.put b8 hb; (try replace b3 := b3.but hb n3_8); (first | (replace EX := EX.but hb b8.blk (of_decide_eq_true rfl)) | (replace EX := EX.but0 hb mEX_8) | skip); (first | (replace r0 := r0.but hb b8.blk (of_decide_eq_true rfl)) | (replace r0 := r0.but0 hb mr0_8) | skip); (first | (replace hPo := hPo.but hb b8.blk (of_decide_eq_true rfl)) | (replace hPo := hPo.but0 hb mhPo_8) | skip); clear E b8; have E := E2; clear E2; have b8 := bn; clear bn hb; dsimp only [Act.put]; simp only [putA, Act.eval, Value.cells, Nat.reduceAdd, putL, sizL] at b8; (try (clear hcE hfE)); (try (have hcf := bcell E.low; obtain ⟨hcE, hfE⟩ := hcf)); (try (clear c3 f3)); (try (have c3 := b3.cell; have f3 := b3.free)); (try (clear c8 f8)); (try (have c8 := b8.cell; have f8 := b8.free)))) | (go_at_call 38; (refine (qobj_any y _).mono ?_); unfold BPost; rw [HOB.out]; rintro e wn ⟨rfl, hx⟩; (try replace E := E.ext hx); (try replace b3 := b3.ext hx); (try replace b8 := b8.ext hx); (try replace r0 := r0.ext hx); (try replace hPo := hPo.ext hx); (try (clear hcE hfE)); (try (have hcf := bcell E.low; obtain ⟨hcE, hfE⟩ := hcf)); (try (clear c3 f3)); (try (have c3 := b3.cell; have f3 := b3.free)); (try (clear c8 f8)); (try (have c8 := b8.cell; have f8 := b8.free))))
            go_roundw
            case rel => exact ⟨j + 1, out, so, sc2, by go_num, by omega, rfl, Lib.hid HS.out.symm, r0, hPo, E, b3⟩
            case measure => simp [intOf]; omega
          · rw [Bool.false_or] at hstep
            rcases hfd : findI y.kind y.name false all with _ | d
            · rw [hfd] at hstep hdv
              rw [if_neg (by decide)] at hstep
              rcases hfo : findI y.kind y.name true (out.map Sy.ps) with _ | i
              · rw [hfo] at hstep hfv
                dsimp only at hstep
                rw [hstep] at hs
                have HS := Lib.hid hs
                unfold fOut at hdv hfv
                dsimp only at hdv hfv
                subst hdv hfv
                clear hs hstep hob hfd hfo
                go_upto_region 9999 with (first | ((with_reducible refine at_dst 28 ?_); (refine wp_rec2 ((RRow.ext hxr E.low)) (HY.out) syC_len rfl rfl ?_ ?_ ?_); (· kernel_rfl); (· kernel_rfl)) | ((with_reducible refine at_dst 8 ?_); go_simp; (generalize hX8 : Array.size (World.heap _) = X8); refine new_block hX8 ?_; intro wn bb hx; (try (have n3_8 := (b3.ne hX8).1; have n8_3 := (b3.ne hX8).2)); (try (have z8 := Nat.le_trans E.size (Nat.le_of_eq hX8))); (try (have mr0_8 := r0.notin (Nat.le_of_eq hX8))); have b8 := Loc.new bb E hX8; clear bb hX8; (try replace E := E.ext hx); (try replace b3 := b3.ext hx); (try replace r0 := r0.ext hx); (try replace hPo := hPo.ext hx); (try (clear hcE hfE)); (try (have hcf := bcell E.low; obtain ⟨hcE, hfE⟩ := hcf)); (try (clear c3 f3)); (try (have c3 := b3.cell; have f3 := b3.free)); (try (have c8 := b8.cell; have f8 := b8.free))) | ((with_reducible refine at_dst 32 ?_); (refine wp_all b8.blk rfl rfl ?_ ?_ ?_); (· kernel_rfl); (· kernel_rfl)) | ((with_reducible refine at_dst 49 ?_); go_simp; (have hc := qfind_any r0.rsy y.kind y.name true; (refine hc.mono ?_)); clear hc; unfold IPost; rw [HFI.out]; rintro e wn ⟨rfl, hx⟩; (try replace E := E.ext hx); (try replace b3 := b3.ext hx); (try replace b8 := b8.ext hx); (try replace r0 := r0.ext hx); (try replace hPo := hPo.ext hx); (try (clear hcE hfE)); (try (have hcf := bcell E.low; obtain ⟨hcE, hfE⟩ := hcf)); (try (clear c3 f3)); (try (have c3 := b3.cell; have f3 := b3.free)); (try (clear c8 f8)); (try (have c8 := b8.cell; have f8 := b8.free))) | ((with_reducible refine at_dst 69 ?_); (refine wp_all b8.blk rfl rfl ?_ ?_ ?_); (· kernel_rfl); (· kernel_rfl)) | ((with_reducible refine at_dst 70 ?_); go_simp; (generalize hX70 : Array.size (World.heap _) = X70); refine new_block hX70 ?_; intro wn bb hx; (try (have n3_70 := (b3.ne hX70).1; have n70_3 := (b3.ne hX70).2)); (try (have n8_70 := (b8.ne hX70).1; have n70_8 := (b8.ne hX70).2)); (try (have z70 := Nat.le_trans E.size (Nat.le_of_eq hX70))); (try (have mr0_70 := r0.notin (Nat.le_of_eq hX70))); have b70 := bb; have g70 := Loc.new bb E hX70; clear bb hX70; (try replace E := E.ext hx); (try replace b3 := b3.ext hx); (try replace b8 := b8.ext hx); (try replace r0 := r0.ext hx); (try replace hPo := hPo.ext hx); (try (clear hcE hfE)); (try (have hcf := bcell E.low; obtain ⟨hcE, hfE⟩ := hcf)); (try (clear c3 f3)); (try (have c3 := b3.cell; have f3 := b3.free)); (try (clear c8 f8)); (try (have c8 := b8.cell; have f8 := b8.free))) | ((with_reducible refine at_dst 71 ?_); refine wp_own (.tmp 68) (.tmp 70) rfl info_sy und_sys rfl (by decide) syC_len syC_ones r0 E (RRow.blk (xs := [y]) syC_len b70 rfl (show 1 ≤ maxLen by decide)) rfl rfl ?_ ?_ ?_; (· (simp only [List.length_cons, List.length_nil]; (try unfold maxLen); omega)); (· (simp only [List.length_cons, List.length_nil]; omega)); intro L71 hL71 s71 v71 wn r1 E2 hA; replace hL71 := Lib.hid hL71; clear E; have E := E2; clear E2; replace hPo := hPo.grow r0 hA; replace b3 := b3.growO r0 hA (of_decide_eq_true rfl); obtain ⟨o71, k71, rfl, l71, m71⟩ := ORow.len r1.row; (try (clear hcE hfE)); (try (have hcf := bcell E.low; obtain ⟨hcE, hfE⟩ := hcf)); (try (clear c3 f3)); (try (have c3 := b3.cell; have f3 := b3.free)); (try (clear c8 f8)); (try (have c8 := b8.cell; have f8 := b8.free)); (try simp only [Act.put, actL])) | ((with_reducible refine at_store 8 ?_); (refine wp_put b8 rfl rfl ?_ ?_ ?_ ?_; (· kernel_rfl); (· first | rfl | kernel_rfl); (· first | decide | exact Nat.le_refl _ | simp [Act.eval, Value.cells] | (simp [Act.eval, Act.put, Value.cells]; done)); intro wn bn hb; have E2 := E.put b8 hb; (try replace b3 := b3.but hb n3_8); (first | (replace EX := EX.but hb b8.blk (of_decide_eq_true rfl)) | (replace EX := EX.but0 hb mEX_8) | skip); (first | (replace r0 := r0.but hb b8.blk (of_decide_eq_true rfl)) | (replace r0 := r0.but0 hb mr0_8) | skip); (first | (replace hPo := hPo.but hb b8.blk (of_decide_eq_true rfl)) | (replace hPo := hPo.but0 hb mhPo_8) | skip); clear E b8; have E := E2; clear E2; have b8 := bn; clear bn hb; dsimp only [Act.put]; simp only [putA, Act.eval, Value.cells, Nat.reduceAdd, putL, sizL] at b8; (try (clear hcE hfE)); (try (have hcf := bcell E.low; obtain ⟨hcE, hfE⟩ := hcf)); (try (clear c3 f3)); (try (have c3 := b3.cell; have f3 := b3.free)); (try (clear c8 f8)); (try (have c8 := b8.cell; have f8 := b8.free)))) | (go_at_call 38; (refine (qobj_any y _).mono ?_); unfold BPost; rw [HOB.out]; rintro e wn ⟨rfl, hx⟩; (try replace E := E.ext hx); (try replace b3 := b3.ext hx); (try replace b8 := b8.ext hx); (try replace r0 := r0.ext hx); (try replace hPo := hPo.ext hx); (try (clear hcE hfE)); (try (have hcf := bcell E.low; obtain ⟨hcE, hfE⟩ := hcf)); (try (clear c3 f3)); (try (have c3 := b3.cell; have f3 := b3.free)); (try (clear c8 f8)); (try (have c8 := b8.cell; have f8 := b8.free))) | (go_at_call 39; (have hc := qfind_any (RRow.ext hxr E.low) y.kind y.name false; (refine hc.mono ?_)); clear hc; unfold IPost; rw [HDE.out]; rintro e wn ⟨rfl, hx⟩; (try replace E := E.ext hx); (try replace b3 := b3.ext hx); (try replace b8 := b8.ext hx); (try replace r0 := r0.ext hx); (try replace hPo := hPo.ext hx); (try (clear hcE hfE)); (try (have hcf := bcell E.low; obtain ⟨hcE, hfE⟩ := hcf)); (try (clear c3 f3)); (try (have c3 := b3.cell; have f3 := b3.free)); (try (clear c8 f8)); (try (have c8 := b8.cell; have f8 := b8.free))))
                have hL := hL71.out
                subst hL
                have hPn : PermsOk wn (out ++ [y]) := fun z hz => by
                  rcases List.mem_append.1 hz with hz | hz
                  · exact hPo z hz
                  · rw [List.mem_singleton.1 hz]; exact hPy.low E.low
                go_roundw
                case rel => exact ⟨j + 1, out ++ [y], _, _, by go_num, by omega, rfl, Lib.hid (by rw [List.map_append]; exact HS.out.symm), r1, hPn, E, b3⟩
                case measure => simp [intOf]; omega
              · rw [hfo] at hstep hfv
                dsimp only at hstep
                rw [if_pos rfl] at hstep
                rw [hstep] at hs
                have HS := Lib.hid hs
                obtain ⟨px, hpx, hkx⟩ := findI_some hfo
                have hix : i < out.length := by
                  have := (List.getElem?_eq_some_iff.1 hpx).1
                  rwa [List.length_map] at this
                obtain ⟨old, hold⟩ := at_some hix
                have hps : old.ps = px := by
                  have := map_at (f := Sy.ps) hold
                  rw [hpx] at this; injection this with this; exact this.symm
                have HPX := Lib.hid hpx
                have HPS := Lib.hid hps
                have HO9 := Lib.hid hold
                obtain ⟨g9, rfl⟩ := r0.own_at hold
                have hoo : old.perms.length ≤ 1000000000000 := by
                  have := wtU_mem (List.mem_of_getElem? hpx)
                  rw [← hps] at this
                  dsimp only [Sy.ps] at this
                  omega
                have hfo2 : few old.perms.length := by unfold few; omega
                have k3 := r0.at3 hold
                unfold fOut at hdv hfv
                dsimp only at hdv hfv
                subst hdv hfv
                clear hs hstep hob hfd hfo hpx hkx hold hps
                go_upto_region 9999 with (first | ((with_reducible refine at_dst 28 ?_); (refine wp_rec2 ((RRow.ext hxr E.low)) (HY.out) syC_len rfl rfl ?_ ?_ ?_); (· kernel_rfl); (· kernel_rfl)) | ((with_reducible refine at_dst 8 ?_); go_simp; (generalize hX8 : Array.size (World.heap _) = X8); refine new_block hX8 ?_; intro wn bb hx; (try (have n3_8 := (b3.ne hX8).1; have n8_3 := (b3.ne hX8).2)); (try (have z8 := Nat.le_trans E.size (Nat.le_of_eq hX8))); (try (have mr0_8 := r0.notin (Nat.le_of_eq hX8))); have b8 := Loc.new bb E hX8; clear bb hX8; (try replace E := E.ext hx); (try replace b3 := b3.ext hx); (try replace r0 := r0.ext hx); (try replace hPo := hPo.ext hx); (try (clear hcE hfE)); (try (have hcf := bcell E.low; obtain ⟨hcE, hfE⟩ := hcf)); (try (clear c3 f3)); (try (have c3 := b3.cell; have f3 := b3.free)); (try (have c8 := b8.cell; have f8 := b8.free)); (try (clear k3)); (try (have k3 := (r0).at3 HO9.out))) | ((with_reducible refine at_dst 32 ?_); (refine wp_all b8.blk rfl rfl ?_ ?_ ?_); (· kernel_rfl); (· kernel_rfl)) | ((with_reducible refine at_dst 49 ?_); go_simp; (have hc := qfind_any r0.rsy y.kind y.name true; (refine hc.mono ?_)); clear hc; unfold IPost; rw [HFI.out]; rintro e wn ⟨rfl, hx⟩; (try replace E := E.ext hx); (try replace b3 := b3.ext hx); (try replace b8 := b8.ext hx); (try replace r0 := r0.ext hx); (try replace hPo := hPo.ext hx); (try (clear hcE hfE)); (try (have hcf := bcell E.low; obtain ⟨hcE, hfE⟩ := hcf)); (try (clear c3 f3)); (try (have c3 := b3.cell; have f3 := b3.free)); (try (clear c8 f8)); (try (have c8 := b8.cell; have f8 := b8.free)); (try (clear k3)); (try (have k3 := (r0).at3 HO9.out))) | ((with_reducible refine at_dst 65 ?_); go_simp; (have hc := qjoined_any (perm_reads hPo HO9.out) (Reads.ext (hPy.reads strC_l) E.low) hfo2 hfy; (refine hc.mono ?_)); clear hc; unfold SPost; rintro e wn ⟨da, dc, rfl, r65, hx⟩; replace r65 := r65.old E; (try replace E := E.ext hx); (try replace b3 := b3.ext hx); (try replace b8 := b8.ext hx); (try replace r0 := r0.ext hx); (try replace hPo := hPo.ext hx); (try (clear hcE hfE)); (try (have hcf := bcell E.low; obtain ⟨hcE, hfE⟩ := hcf)); (try (clear c3 f3)); (try (have c3 := b3.cell; have f3 := b3.free)); (try (clear c8 f8)); (try (have c8 := b8.cell; have f8 := b8.free)); (try (clear k3)); (try (have k3 := (r0).at3 HO9.out))) | ((with_reducible refine at_store 8 ?_); (refine wp_put b8 rfl rfl ?_ ?_ ?_ ?_; (· kernel_rfl); (· first | rfl | kernel_rfl); (· first | decide | exact Nat.le_refl _ | simp [Act.eval, Value.cells] | (simp [Act.eval, Act.put, Value.cells]; done)); intro wn bn hb; have E2 := E.put b8 hb; (try replace b3 := b3.but hb n3_8); (first | (replace EX := EX.but hb b8.blk (of_decide_eq_true rfl)) | (replace EX := EX.but0 hb mEX_8) | skip); (first | (replace r0 := r0.but hb b8.blk (of_decide_eq_true rfl)) | (replace r0 := r0.but0 hb mr0_8) | skip); (first | (replace hPo := hPo.but hb b8.blk (of_decide_eq_true rfl)) | (replace hPo := hPo.but0 hb mhPo_8) | skip); clear E b8; have E := E2; clear E2; have b8 := bn; clear bn hb; dsimp only [Act.put]; simp only [putA, Act.eval, Value.cells, Nat.reduceAdd, putL, sizL] at b8; (try (clear hcE hfE)); (try (have hcf := bcell E.low; obtain ⟨hcE, hfE⟩ := hcf)); (try (clear c3 f3)); (try (have c3 := b3.cell; have f3 := b3.free)); (try (clear c8 f8)); (try (have c8 := b8.cell; have f8 := b8.free)); (try (clear k3)); (try (have k3 := (r0).at3 HO9.out)))) | ((with_reducible refine at_store 67 ?_); (refine wp_put_part (off := 3) (⟨old.kind, old.name, old.req, ⟨da, dc⟩, joinN old.perms y.perms, old.line, old.col⟩ : Sy) r0 syC_len HO9.out rfl rfl rfl ?_ ?_ ?_ ?_); (· kernel_rfl); (· first | rfl | kernel_rfl); (· first | decide | exact Nat.le_refl _ | simp [Act.eval, Value.cells]); intro wn rn hb; have rp := r65.row.put r0 hb; replace hPo := hPo.put r0 hb; replace b3 := b3.but hb (r0.ne b3.blk (of_decide_eq_true rfl)); have E2 := r0.put E hb; clear E; have E := E2; clear E2 r0; dsimp only [Act.put]; (try (clear hcE hfE)); (try (have hcf := bcell E.low; obtain ⟨hcE, hfE⟩ := hcf)); (try (clear c3 f3)); (try (have c3 := b3.cell; have f3 := b3.free)); (try (clear c8 f8)); (try (have c8 := b8.cell; have f8 := b8.free)); (try (clear k3))) | ((with_reducible refine at_reg 12 ?_); (refine wp_region_kt (id := 12) [0, 0, 0, 0, 0, 0, 0, 0, 0, 0, 0, 0, 0] [0, 1, 2, 3, 4, 5, 6, 7, 8, 9, 10, 11, 12] mixed ?_ ?_); (· decide +kernel); intro K hK wn hx; (try replace E := E.ext hx); (try replace b3 := b3.ext hx); (try replace b8 := b8.ext hx); (try replace r0 := r0.ext hx); (try replace hPo := hPo.ext hx); (try (clear hcE hfE)); (try (have hcf := bcell E.low; obtain ⟨hcE, hfE⟩ := hcf)); (try (clear c3 f3)); (try (have c3 := b3.cell; have f3 := b3.free)); (try (clear c8 f8)); (try (have c8 := b8.cell; have f8 := b8.free)); (try (clear k3)); (try (have k3 := (r0).at3 HO9.out)); dsimp only [pickL, List.getElem?_cons_succ, List.getElem?_cons_zero]) | ((with_reducible refine at_tag 0 ?_); (first | ((with_reducible refine wpTag_q ?_ ?_ ?_); rfl; rfl; intro _ _) | ((with_reducible refine wpTag_w ?_ ?_ ?_); rfl; rfl; intro _ _) | ((with_reducible refine wpTag_no ?_ ?_); (· first | rfl | (go_simp; done))) | ((with_reducible refine wpTag_s ?_ ?_); rfl; intro _ _; go_simp))) | ((with_reducible refine at_tagn ?_); (with_reducible refine wpTag_nil ?_)) | (go_at_call 38; (refine (qobj_any y _).mono ?_); unfold BPost; rw [HOB.out]; rintro e wn ⟨rfl, hx⟩; (try replace E := E.ext hx); (try replace b3 := b3.ext hx); (try replace b8 := b8.ext hx); (try replace r0 := r0.ext hx); (try replace hPo := hPo.ext hx); (try (clear hcE hfE)); (try (have hcf := bcell E.low; obtain ⟨hcE, hfE⟩ := hcf)); (try (clear c3 f3)); (try (have c3 := b3.cell; have f3 := b3.free)); (try (clear c8 f8)); (try (have c8 := b8.cell; have f8 := b8.free)); (try (clear k3)); (try (have k3 := (r0).at3 HO9.out))) | (go_at_call 39; (have hc := qfind_any (RRow.ext hxr E.low) y.kind y.name false; (refine hc.mono ?_)); clear hc; unfold IPost; rw [HDE.out]; rintro e wn ⟨rfl, hx⟩; (try replace E := E.ext hx); (try replace b3 := b3.ext hx); (try replace b8 := b8.ext hx); (try replace r0 := r0.ext hx); (try replace hPo := hPo.ext hx); (try (clear hcE hfE)); (try (have hcf := bcell E.low; obtain ⟨hcE, hfE⟩ := hcf)); (try (clear c3 f3)); (try (have c3 := b3.cell; have f3 := b3.free)); (try (clear c8 f8)); (try (have c8 := b8.cell; have f8 := b8.free)); (try (clear k3)); (try (have k3 := (r0).at3 HO9.out))))
                have hmap : (out.set i ⟨old.kind, old.name, old.req, ⟨da, dc⟩, joinN old.perms y.perms, old.line, old.col⟩).map Sy.ps = (out.map Sy.ps).modify i (·.add y.perms) := by
                  rw [mod_set _ HPX.out, List.map_set, ← HPS.out]
                  rfl
                have hlen : (out.set i (⟨old.kind, old.name, old.req, ⟨da, dc⟩, joinN old.perms y.perms, old.line, old.col⟩ : Sy)).length = out.length := List.length_set
                have hPn : PermsOk wn (out.set i ⟨old.kind, old.name, old.req, ⟨da, dc⟩, joinN old.perms y.perms, old.line, old.col⟩) := fun z hz => by
                  rcases List.mem_or_eq_of_mem_set hz with hz | rfl
                  · exact hPo z hz
                  · exact rp
                have HLEN := Lib.hid hlen
                have HMAP := Lib.hid hmap
                clear hlen hmap
                go_roundw
                case rel => exact ⟨j + 1, out.set i ⟨old.kind, old.name, old.req, ⟨da, dc⟩, joinN old.perms y.perms, old.line, old.col⟩, some ⟨g9, 0, none⟩, sc2, by go_num, by omega, by rw [HLEN.out], Lib.hid (by rw [HMAP.out]; exact HS.out.symm), by rw [HLEN.out]; exact rn, hPn, E, b3⟩
                case measure => simp [intOf]; omega
            · rw [hfd, Option.isSome_some, if_pos rfl] at hstep
              rw [hfd] at hdv
              rw [hstep] at hs
              have HS := Lib.hid hs
              unfold fOut at hdv
              dsimp only at hdv
              subst hdv
              have hd0 : (0 : Int) ≤ (d : Int) := Int.natCast_nonneg d
              clear hs hstep hob hfv hfd
              go_upto_region 9999 with (first | ((with_reducible refine at_dst 28 ?_); (refine wp_rec2 ((RRow.ext hxr E.low)) (HY.out) syC_len rfl rfl ?_ ?_ ?_); (· kernel_rfl); (· kernel_rfl)) | ((with_reducible refine at_dst 8 ?_); go_simp; (generalize hX8 : Array.size (World.heap _) = X8); refine new_block hX8 ?_; intro wn bb hx; (try (have n3_8 := (b3.ne hX8).1; have n8_3 := (b3.ne hX8).2)); (try (have z8 := Nat.le_trans E.size (Nat.le_of_eq hX8))); (try (have mr0_8 := r0.notin (Nat.le_of_eq hX8))); have b8 := Loc.new bb E hX8; clear bb hX8; (try replace E := E.ext hx); (try replace b3 := b3.ext hx); (try replace r0 := r0.ext hx); (try replace hPo := hPo.ext hx); (try (clear hcE hfE)); (try (have hcf := bcell E.low; obtain ⟨hcE, hfE⟩ := hcf)); (try (clear c3 f3)); (try (have c3 := b3.cell; have f3 := b3.free)); (try (have c8 := b8.cell; have f8 := b8.free))) | ((with_reducible refine at_dst 32 ?_); (refine wp_all b8.blk rfl rfl ?_ ?_ ?_); (· kernel_rfl); (· kernel_rfl)) | ((with_reducible refine at_store 8 ?_); (refine wp_put b8 rfl rfl ?_ ?_ ?_ ?_; (· kernel_rfl); (· first | rfl | kernel_rfl); (· first | decide | exact Nat.le_refl _ | simp [Act.eval, Value.cells] | (simp [Act.eval, Act.put, Value.cells]; done)); intro wn bn hb; have E2 := E.put b8 hb; (try replace b3 := b3.but hb n3_8); (first | (replace EX := EX.but hb b8.blk (of_decide_eq_true rfl)) | (replace EX := EX.but0 hb mEX_8) | skip); (first | (replace r0 := r0.but hb b8.blk (of_decide_eq_true rfl)) | (replace r0 := r0.but0 hb mr0_8) | skip); (first | (replace hPo := hPo.but hb b8.blk (of_decide_eq_true rfl)) | (replace hPo := hPo.but0 hb mhPo_8) | skip); clear E b8; have E := E2; clear E2; have b8 := bn; clear bn hb; dsimp only [Act.put]; simp only [putA, Act.eval, Value.cells, Nat.reduceAdd, putL, sizL] at b8; (try (clear hcE hfE)); (try (have hcf := bcell E.low; obtain ⟨hcE, hfE⟩ := hcf)); (try (clear c3 f3)); (try (have c3 := b3.cell; have f3 := b3.free)); (try (clear c8 f8)); (try (have c8 := b8.cell; have f8 := b8.free)))) | (go_at_call 38; (refine (qobj_any y _).mono ?_); unfold BPost; rw [HOB.out]; rintro e wn ⟨rfl, hx⟩; (try replace E := E.ext hx); (try replace b3 := b3.ext hx); (try replace b8 := b8.ext hx); (try replace r0 := r0.ext hx); (try replace hPo := hPo.ext hx); (try (clear hcE hfE)); (try (have hcf := bcell E.low; obtain ⟨hcE, hfE⟩ := hcf)); (try (clear c3 f3)); (try (have c3 := b3.cell; have f3 := b3.free)); (try (clear c8 f8)); (try (have c8 := b8.cell; have f8 := b8.free))) | (go_at_call 39; (have hc := qfind_any (RRow.ext hxr E.low) y.kind y.name false; (refine hc.mono ?_)); clear hc; unfold IPost; rw [HDE.out]; rintro e wn ⟨rfl, hx⟩; (try replace E := E.ext hx); (try replace b3 := b3.ext hx); (try replace b8 := b8.ext hx); (try replace r0 := r0.ext hx); (try replace hPo := hPo.ext hx); (try (clear hcE hfE)); (try (have hcf := bcell E.low; obtain ⟨hcE, hfE⟩ := hcf)); (try (clear c3 f3)); (try (have c3 := b3.cell; have f3 := b3.free)); (try (clear c8 f8)); (try (have c8 := b8.cell; have f8 := b8.free))))
              go_roundw
              case rel => exact ⟨j + 1, out, so, sc2, by go_num, by omega, rfl, Lib.hid HS.out.symm, r0, hPo, E, b3⟩
              case measure => simp [intOf]; omega
        · have HR2 := Lib.hid hrq
          rw [hrq, Bool.false_and, if_neg (by decide)] at hstep
          have hstep2 : stepR all (out.map Sy.ps) y.ps = out.map Sy.ps ++ [y.ps] := by
            rw [hstep]
            cases findI y.kind y.name true (out.map Sy.ps) with
            | none => rfl
            | some i => rfl
          rw [hstep2] at hs
          have HS := Lib.hid hs
          clear hs hstep hstep2 hob hdv hfv
          go_upto_region 9999 with (first | ((with_reducible refine at_dst 28 ?_); (refine wp_rec2 ((RRow.ext hxr E.low)) (HY.out) syC_len rfl rfl ?_ ?_ ?_); (· kernel_rfl); (· kernel_rfl)) | ((with_reducible refine at_dst 8 ?_); go_simp; (generalize hX8 : Array.size (World.heap _) = X8); refine new_block hX8 ?_; intro wn bb hx; (try (have n3_8 := (b3.ne hX8).1; have n8_3 := (b3.ne hX8).2)); (try (have z8 := Nat.le_trans E.size (Nat.le_of_eq hX8))); (try (have mr0_8 := r0.notin (Nat.le_of_eq hX8))); have b8 := Loc.new bb E hX8; clear bb hX8; (try replace E := E.ext hx); (try replace b3 := b3.ext hx); (try replace r0 := r0.ext hx); (try replace hPo := hPo.ext hx); (try (clear hcE hfE)); (try (have hcf := bcell E.low; obtain ⟨hcE, hfE⟩ := hcf)); (try (clear c3 f3)); (try (have c3 := b3.cell; have f3 := b3.free)); (try (have c8 := b8.cell; have f8 := b8.free))) | ((with_reducible refine at_dst 49 ?_); go_simp; (have hc := qfind_any r0.rsy y.kind y.name true; (refine hc.mono ?_)); clear hc; unfold IPost; rw [HFI.out]; rintro e wn ⟨rfl, hx⟩; (try replace E := E.ext hx); (try replace b3 := b3.ext hx); (try replace b8 := b8.ext hx); (try replace r0 := r0.ext hx); (try replace hPo := hPo.ext hx); (try (clear hcE hfE)); (try (have hcf := bcell E.low; obtain ⟨hcE, hfE⟩ := hcf)); (try (clear c3 f3)); (try (have c3 := b3.cell; have f3 := b3.free)); (try (clear c8 f8)); (try (have c8 := b8.cell; have f8 := b8.free))) | ((with_reducible refine at_dst 69 ?_); (refine wp_all b8.blk rfl rfl ?_ ?_ ?_); (· kernel_rfl); (· kernel_rfl)) | ((with_reducible refine at_dst 70 ?_); go_simp; (generalize hX70 : Array.size (World.heap _) = X70); refine new_block hX70 ?_; intro wn bb hx; (try (have n3_70 := (b3.ne hX70).1; have n70_3 := (b3.ne hX70).2)); (try (have n8_70 := (b8.ne hX70).1; have n70_8 := (b8.ne hX70).2)); (try (have z70 := Nat.le_trans E.size (Nat.le_of_eq hX70))); (try (have mr0_70 := r0.notin (Nat.le_of_eq hX70))); have b70 := bb; have g70 := Loc.new bb E hX70; clear bb hX70; (try replace E := E.ext hx); (try replace b3 := b3.ext hx); (try replace b8 := b8.ext hx); (try replace r0 := r0.ext hx); (try replace hPo := hPo.ext hx); (try (clear hcE hfE)); (try (have hcf := bcell E.low; obtain ⟨hcE, hfE⟩ := hcf)); (try (clear c3 f3)); (try (have c3 := b3.cell; have f3 := b3.free)); (try (clear c8 f8)); (try (have c8 := b8.cell; have f8 := b8.free))) | ((with_reducible refine at_dst 71 ?_); refine wp_own (.tmp 68) (.tmp 70) rfl info_sy und_sys rfl (by decide) syC_len syC_ones r0 E (RRow.blk (xs := [y]) syC_len b70 rfl (show 1 ≤ maxLen by decide)) rfl rfl ?_ ?_ ?_; (· (simp only [List.length_cons, List.length_nil]; (try unfold maxLen); omega)); (· (simp only [List.length_cons, List.length_nil]; omega)); intro L71 hL71 s71 v71 wn r1 E2 hA; replace hL71 := Lib.hid hL71; clear E; have E := E2; clear E2; replace hPo := hPo.grow r0 hA; replace b3 := b3.growO r0 hA (of_decide_eq_true rfl); obtain ⟨o71, k71, rfl, l71, m71⟩ := ORow.len r1.row; (try (clear hcE hfE)); (try (have hcf := bcell E.low; obtain ⟨hcE, hfE⟩ := hcf)); (try (clear c3 f3)); (try (have c3 := b3.cell; have f3 := b3.free)); (try (clear c8 f8)); (try (have c8 := b8.cell; have f8 := b8.free)); (try simp only [Act.put, actL])) | ((with_reducible refine at_store 8 ?_); (refine wp_put b8 rfl rfl ?_ ?_ ?_ ?_; (· kernel_rfl); (· first | rfl | kernel_rfl); (· first | decide | exact Nat.le_refl _ | simp [Act.eval, Value.cells] | (simp [Act.eval, Act.put, Value.cells]; done)); intro wn bn hb; have E2 := E.put b8 hb; (try replace b3 := b3.but hb n3_8); (first | (replace EX := EX.but hb b8.blk (of_decide_eq_true rfl)) | (replace EX := EX.but0 hb mEX_8) | skip); (first | (replace r0 := r0.but hb b8.blk (of_decide_eq_true rfl)) | (replace r0 := r0.but0 hb mr0_8) | skip); (first | (replace hPo := hPo.but hb b8.blk (of_decide_eq_true rfl)) | (replace hPo := hPo.but0 hb mhPo_8) | skip); clear E b8; have E := E2; clear E2; have b8 := bn; clear bn hb; dsimp only [Act.put]; simp only [putA, Act.eval, Value.cells, Nat.reduceAdd, putL, sizL] at b8; (try (clear hcE hfE)); (try (have hcf := bcell E.low; obtain ⟨hcE, hfE⟩ := hcf)); (try (clear c3 f3)); (try (have c3 := b3.cell; have f3 := b3.free)); (try (clear c8 f8)); (try (have c8 := b8.cell; have f8 := b8.free)))))
          have hL := hL71.out
          subst hL
          have hPn : PermsOk wn (out ++ [y]) := fun z hz => by
            rcases List.mem_append.1 hz with hz | hz
            · exact hPo z hz
            · rw [List.mem_singleton.1 hz]; exact hPy.low E.low
          go_roundw
          case rel => exact ⟨j + 1, out ++ [y], _, _, by go_num, by omega, rfl, Lib.hid (by rw [List.map_append]; exact HS.out.symm), r1, hPn, E, b3⟩
          case measure => simp [intOf]; omega
      · have hjl : out.map Sy.ps = (allS l).foldl (stepR (allS l)) [] := by
          rw [HOUT.out, List.take_of_length_le (by rw [← HALL.out, List.length_map]; omega), HV.out]
        have HJL := Lib.hid hjl
        clear hjl
        have E2 : Only [] w wr := hE0.trans E (fun x hx => by cases hx)
        clear E hcE hfE
        have E := E2
        clear E2
        obtain ⟨hcE, hfE⟩ := bcell E.low
        go_upto_region 9999 with (first | ((with_reducible refine at_store 3 ?_); (refine wp_put b3 rfl rfl ?_ ?_ ?_ ?_; (· kernel_rfl); (· first | rfl | kernel_rfl); (· first | decide | exact Nat.le_refl _ | simp [Act.eval, Value.cells] | (simp [Act.eval, Act.put, Value.cells]; done)); intro wn bn hb; have E2 := E.put b3 hb; (first | (replace EX := EX.but hb b3.blk (of_decide_eq_true rfl)) | (replace EX := EX.but0 hb mEX_3) | skip); (first | (replace r0 := r0.but hb b3.blk (of_decide_eq_true rfl)) | (replace r0 := r0.but0 hb mr0_3) | skip); (first | (replace hPo := hPo.but hb b3.blk (of_decide_eq_true rfl)) | (replace hPo := hPo.but0 hb mhPo_3) | skip); clear E b3; have E := E2; clear E2; have b3 := bn; clear bn hb; dsimp only [Act.put]; simp only [putA, Act.eval, Value.cells, Nat.reduceAdd, putL, sizL] at b3; (try (clear hcE hfE)); (try (have hcf := bcell E.low; obtain ⟨hcE, hfE⟩ := hcf)); (try (clear c3 f3)); (try (have c3 := b3.cell; have f3 := b3.free)))) | ((with_reducible refine at_store 3 ?_); (refine wp_put b3 rfl rfl ?_ ?_ ?_ ?_; (· kernel_rfl); (· first | rfl | kernel_rfl); (· first | decide | exact Nat.le_refl _ | simp [Act.eval, Value.cells] | (simp [Act.eval, Act.put, Value.cells]; done)); intro wn bn hb; have E2 := E.put b3 hb; (first | (replace EX := EX.but hb b3.blk (of_decide_eq_true rfl)) | (replace EX := EX.but0 hb mEX_3) | skip); (first | (replace r0 := r0.but hb b3.blk (of_decide_eq_true rfl)) | (replace r0 := r0.but0 hb mr0_3) | skip); (first | (replace hPo := hPo.but hb b3.blk (of_decide_eq_true rfl)) | (replace hPo := hPo.but0 hb mhPo_3) | skip); clear E b3; have E := E2; clear E2; have b3 := bn; clear bn hb; dsimp only [Act.put]; simp only [putA, Act.eval, Value.cells, Nat.reduceAdd, putL, sizL] at b3; (try (clear hcE hfE)); (try (have hcf := bcell E.low; obtain ⟨hcE, hfE⟩ := hcf)); (try (clear c3 f3)); (try (have c3 := b3.cell; have f3 := b3.free)))))
        refine bodyPost_ret (v := .tuple #[.slice so out.length sc2, .agg #[.int .i64 0, .int .i64 0, .int .i64 0, .string ⟨#[]⟩]]) (by simp [results, Try.f27, go_sem, c3]) rfl ⟨so, sc2, out, by rw [← HR.out]; rfl, by rw [← HR.out]; exact HJL.out, ⟨r0.row.reads syC_len, fun x hx => (hPo x hx).reads strC_l⟩, E.low⟩
  · rw [hs] at hR
    dsimp only at hR
    have hB : allR (allS l) = ([], ⟨e, z.line, z.col, z.name⟩) := by unfold allR; rw [hs]
    have he : ¬ e = 0 := scan_code hs
    obtain ⟨g1, g2⟩ := kd_f he
    have HB := Lib.hid hB
    have HR := Lib.hid hR
    have HE := Lib.hid he
    clear hR hs hB he
    go_enter Try.func27, Try.ntmps27
    have E := Only.refl [] w
    go_upto_region 9999 with (first | ((with_reducible refine at_dst 3 ?_); go_simp; (generalize hX3 : Array.size (World.heap _) = X3); refine new_block hX3 ?_; intro wn bb hx; (try (have z3 := Nat.le_trans E.size (Nat.le_of_eq hX3))); have b3 := Loc.new bb E hX3; clear bb hX3; (try replace E := E.ext hx); (try (have hcf := bcell E.low; obtain ⟨hcE, hfE⟩ := hcf)); (try (have c3 := b3.cell; have f3 := b3.free))) | ((with_reducible refine at_dst 12 ?_); go_simp; (have hc := qall_any (RRow.ext hl E.low) (hok.ext E.low) hfl hw; (refine hc.mono ?_)); clear hc; unfold BPostR FT.v; rw [HB.out]; dsimp only; rintro e wn ⟨ba, bc, bs, rfl, HBS, hBS, hx⟩; replace HBS := Lib.hid HBS; have EX := Ext.refl wn; (try replace E := E.ext hx); (try replace b3 := b3.ext hx); (try (clear hcE hfE)); (try (have hcf := bcell E.low; obtain ⟨hcE, hfE⟩ := hcf)); (try (clear c3 f3)); (try (have c3 := b3.cell; have f3 := b3.free))) | ((with_reducible refine at_dst 5 ?_); go_simp; (generalize hX5 : Array.size (World.heap _) = X5); refine new_block hX5 ?_; intro wn bb hx; (try (have n3_5 := (b3.ne hX5).1; have n5_3 := (b3.ne hX5).2)); (try (have z5 := Nat.le_trans E.size (Nat.le_of_eq hX5))); (try (have mEX_5 := EX.notin (Nat.le_of_eq hX5))); have b5 := Loc.new bb E hX5; clear bb hX5; (try replace E := E.ext hx); (try replace b3 := b3.ext hx); (try replace EX := EX.ext hx); (try (clear hcE hfE)); (try (have hcf := bcell E.low; obtain ⟨hcE, hfE⟩ := hcf)); (try (clear c3 f3)); (try (have c3 := b3.cell; have f3 := b3.free)); (try (have c5 := b5.cell; have f5 := b5.free))) | ((with_reducible refine at_store 5 ?_); (refine wp_put b5 rfl rfl ?_ ?_ ?_ ?_; (· kernel_rfl); (· first | rfl | kernel_rfl); (· first | decide | exact Nat.le_refl _ | simp [Act.eval, Value.cells] | (simp [Act.eval, Act.put, Value.cells]; done)); intro wn bn hb; have E2 := E.put b5 hb; (try replace b3 := b3.but hb n3_5); (first | (replace EX := EX.but hb b5.blk (of_decide_eq_true rfl)) | (replace EX := EX.but0 hb mEX_5) | skip); (first | (replace r0 := r0.but hb b5.blk (of_decide_eq_true rfl)) | (replace r0 := r0.but0 hb mr0_5) | skip); (first | (replace hPo := hPo.but hb b5.blk (of_decide_eq_true rfl)) | (replace hPo := hPo.but0 hb mhPo_5) | skip); clear E b5; have E := E2; clear E2; have b5 := bn; clear bn hb; dsimp only [Act.put]; simp only [putA, Act.eval, Value.cells, Nat.reduceAdd, putL, sizL] at b5; (try (clear hcE hfE)); (try (have hcf := bcell E.low; obtain ⟨hcE, hfE⟩ := hcf)); (try (clear c3 f3)); (try (have c3 := b3.cell; have f3 := b3.free)); (try (clear c5 f5)); (try (have c5 := b5.cell; have f5 := b5.free)))) | ((with_reducible refine at_store 3 ?_); (refine wp_put b3 rfl rfl ?_ ?_ ?_ ?_; (· kernel_rfl); (· first | rfl | kernel_rfl); (· first | decide | exact Nat.le_refl _ | simp [Act.eval, Value.cells] | (simp [Act.eval, Act.put, Value.cells]; done)); intro wn bn hb; have E2 := E.put b3 hb; (try replace b5 := b5.but hb n5_3); (first | (replace EX := EX.but hb b3.blk (of_decide_eq_true rfl)) | (replace EX := EX.but0 hb mEX_3) | skip); (first | (replace r0 := r0.but hb b3.blk (of_decide_eq_true rfl)) | (replace r0 := r0.but0 hb mr0_3) | skip); (first | (replace hPo := hPo.but hb b3.blk (of_decide_eq_true rfl)) | (replace hPo := hPo.but0 hb mhPo_3) | skip); clear E b3; have E := E2; clear E2; have b3 := bn; clear bn hb; dsimp only [Act.put]; simp only [putA, Act.eval, Value.cells, Nat.reduceAdd, putL, sizL] at b3; (try (clear hcE hfE)); (try (have hcf := bcell E.low; obtain ⟨hcE, hfE⟩ := hcf)); (try (clear c3 f3)); (try (have c3 := b3.cell; have f3 := b3.free)); (try (clear c5 f5)); (try (have c5 := b5.cell; have f5 := b5.free)))) | ((with_reducible refine at_store 3 ?_); (refine wp_put b3 rfl rfl ?_ ?_ ?_ ?_; (· kernel_rfl); (· first | rfl | kernel_rfl); (· first | decide | exact Nat.le_refl _ | simp [Act.eval, Value.cells] | (simp [Act.eval, Act.put, Value.cells]; done)); intro wn bn hb; have E2 := E.put b3 hb; (try replace b5 := b5.but hb n5_3); (first | (replace EX := EX.but hb b3.blk (of_decide_eq_true rfl)) | (replace EX := EX.but0 hb mEX_3) | skip); (first | (replace r0 := r0.but hb b3.blk (of_decide_eq_true rfl)) | (replace r0 := r0.but0 hb mr0_3) | skip); (first | (replace hPo := hPo.but hb b3.blk (of_decide_eq_true rfl)) | (replace hPo := hPo.but0 hb mhPo_3) | skip); clear E b3; have E := E2; clear E2; have b3 := bn; clear bn hb; dsimp only [Act.put]; simp only [putA, Act.eval, Value.cells, Nat.reduceAdd, putL, sizL] at b3; (try (clear hcE hfE)); (try (have hcf := bcell E.low; obtain ⟨hcE, hfE⟩ := hcf)); (try (clear c3 f3)); (try (have c3 := b3.cell; have f3 := b3.free)); (try (clear c5 f5)); (try (have c5 := b5.cell; have f5 := b5.free)))) | ((with_reducible refine at_reg 3 ?_); (refine wp_region_x (id := 3) (spOf []) [0, 1] [] [2] mixed ?_ ?_); (· decide +kernel); intro K ws hx hK; (try replace E := E.ext hx); (try replace b3 := b3.ext hx); (try replace b5 := b5.ext hx); (try replace EX := EX.ext hx); (try (clear hcE hfE)); (try (have hcf := bcell E.low; obtain ⟨hcE, hfE⟩ := hcf)); (try (clear c3 f3)); (try (have c3 := b3.cell; have f3 := b3.free)); (try (clear c5 f5)); (try (have c5 := b5.cell; have f5 := b5.free)); dsimp only [pickE, pickL, List.getElem?_cons_succ, List.getElem?_cons_zero] at hK ⊢) | ((with_reducible refine at_j 0 ?_); (with_reducible refine wpE_q ?_ ?_ ?_); rfl; rfl; intro wq hq K2 hK2; (refine wp_all (b5.ext hq).blk rfl rfl ?_ ?_ ?_); (· kernel_rfl); (· kernel_rfl); refine hK2 _ ?_; clear hK2; (try simp only [Act.put, actL])) | ((with_reducible refine wpE_q ?_ ?_ ?_); rfl; rfl; intro wq hq _ _; (try (clear hcE hfE)); (try (have hcf := bcell (E.ext hq).low; obtain ⟨hcE, hfE⟩ := hcf)); (try (clear c3 f3)); (try (have c3 := (b3.ext hq).cell; have f3 := (b3.ext hq).free)); (try (clear c5 f5)); (try (have c5 := (b5.ext hq).cell; have f5 := (b5.ext hq).free))) | ((with_reducible refine at_nil 0 ?_); refine wpE_nil (fun wn hx hΦ hfp hdis => ?_); (try replace E := E.ext hx); (try replace b3 := b3.ext hx); (try replace b5 := b5.ext hx); (try replace EX := EX.ext hx); (try (clear hcE hfE)); (try (have hcf := bcell E.low; obtain ⟨hcE, hfE⟩ := hcf)); (try (clear c3 f3)); (try (have c3 := b3.cell; have f3 := b3.free)); (try (clear c5 f5)); (try (have c5 := b5.cell; have f5 := b5.free)); clear hΦ hfp hdis; refine hK _ _ ?_; clear hK) | ((with_reducible refine wpTxt_w0 ?_ ?_ ?_); rfl; rfl; intro _ _) | (with_reducible refine wpTxt_nil ?_))
    refine bodyPost_ret (v := .tuple #[.slice none 0 0, .agg #[.int .i64 e, .int .i64 z.line, .int .i64 z.col, .string z.name]]) (by simp [results, Try.f27, go_sem, c3]) rfl ⟨none, 0, [], by rw [← HR.out]; rfl, by rw [← HR.out]; rfl, ⟨RRow.nil _ _ _, fun x hx => by cases hx⟩, E.low⟩
end Go.Proofs.Ytnifgkgdphlleaa
