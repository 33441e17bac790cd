/- The walk of Missing: how many are missing. -/
import Derived.Test.YtnifgkgdphlleaaVh
set_option linter.unusedSimpArgs false
set_option linter.unusedVariables false
namespace Go.Proofs.Ytnifgkgdphlleaa
open Go.RowKit Tk
structure MS where
  found : Bool
  perms : List ByteArray
def meetB (x y : PS) : Bool := !y.req && (y.kind == x.kind) && (y.name.toList == x.name.toList)
def missStep (x : PS) (s : MS) (y : PS) : MS := if meetB x y = true then ⟨true, s.perms ++ y.perms⟩ else s
def missOf (x : PS) (have' : List PS) : MS := have'.foldl (missStep x) ⟨false, []⟩
def lessOf (perms : List ByteArray) (l : List ByteArray) : List ByteArray := l.filter fun q => decide (¬ q ∈ perms)
def missB (x : PS) (have' : List PS) : Bool := x.req && !isObj x.kind x.name && (!(missOf x have').found || decide (0 < (lessOf (missOf x have').perms x.perms).length))
def missN (need have' : List PS) : Nat := (need.filter fun x => missB x have').length
theorem missStep_len (x : PS) (s : MS) (y : PS) : (missStep x s y).perms.length ≤ s.perms.length + y.perms.length := by
  unfold missStep
  split
  · simp
  · omega
theorem miss_len (x : PS) : ∀ (l : List PS) (s : MS), (l.foldl (missStep x) s).perms.length ≤ s.perms.length + wtU l
  | [], s => by simp [wtU]
  | y :: l, s => by
    have h1 := miss_len x l (missStep x s y)
    have h2 := missStep_len x s y
    have h3 : wtU (y :: l) = (1 + y.perms.length) + wtU l := by simp [wtU]
    rw [List.foldl_cons, h3]; omega
theorem lessOf_snoc {perms l : List ByteArray} {j : Nat} (h : j < l.length) : lessOf perms (l.take (j + 1)) = if l[j] ∈ perms then lessOf perms (l.take j) else lessOf perms (l.take j) ++ [l[j]] := by
  unfold lessOf
  rw [List.take_succ_eq_append_getElem h, List.filter_append]
  split
  · rename_i h1; simp [h1]
  · rename_i h1; simp [h1]
theorem missN_snoc {need hv : List PS} {j : Nat} {y : PS} (h : need[j]? = some y) : missN (need.take (j + 1)) hv = missN (need.take j) hv + if missB y hv = true then 1 else 0 := by
  unfold missN
  rw [take_at h, List.filter_append, List.length_append]
  congr 1
  by_cases h1 : missB y hv = true
  · simp [h1]
  · simp [h1]
theorem OwnR.grow {α β : Type} {w0 w1 w w' : World} {t t2 : TypeId} {k k2 : Nat} {f : α → List Value} {f2 : β → List Value} {v v2 v' : Value} {xs : List α} {ys zs : List β} (h : OwnR w0 w t k f v xs) (r : OwnR w1 w t2 k2 f2 v2 ys) (hA : AppPost w w' t2 k2 f2 v2 v' zs) (hne : t ≠ t2) : OwnR w0 w' t k f v xs := ⟨h.row.grow r.row hA hne, h.new⟩
def MPost (n : Nat) (w : World) (e : Ending) (w' : World) : Prop := ∃ a c, e = .returned (.slice a n c) ∧ Ext w w'
set_option maxHeartbeats 16000000 in
set_option maxRecDepth 100000 in
theorem missing_any {w : World} {a a' : Option Addr} {n c n' c' : Nat} {need hv : List Sy} (hn : Syms w (.slice a n c) need) (hh : Syms w (.slice a' n' c') hv) (hwn : wtU (need.map Sy.ps) ≤ 1000000000000) (hwh : wtU (hv.map Sy.ps) ≤ 1000000000000) :
    Calls Try.prog 11 #[.slice a n c, .slice a' n' c'] w (MPost (missN (need.map Sy.ps) (hv.map Sy.ps)) w) := by
  obtain ⟨rfl, n2⟩ := hn.lens
  obtain ⟨rfl, n3⟩ := hh.lens
  have hnl : need.length ≤ 1000000000000 := by have := wtU_len (need.map Sy.ps); rw [List.length_map] at this; omega
  have hhl : hv.length ≤ 1000000000000 := by have := wtU_len (hv.map Sy.ps); rw [List.length_map] at this; omega
  go_enter Try.func11, Try.ntmps11
  have E := Only.refl [] w
  go_upto_region 3 with (first | fail)
  have r0 := OwnR.nil w w 57 6 syC
  go_loopw [5, 17] (fun v i wr => ∃ (j : Nat) (out : List Sy) (so : Option Addr) (sc : Nat), i = .int .i64 j ∧ j ≤ need.length ∧ v = .slice so out.length sc ∧ Hid (missN ((need.map Sy.ps).take j) (hv.map Sy.ps) = out.length) ∧ out.length ≤ j ∧ OwnR w wr 57 6 syC (.slice so out.length sc) out ∧ Only [] w wr) (fun _ i _ => need.length - (intOf i).toNat)
  case atStart => exact ⟨0, [], none, 0, rfl, Nat.zero_le _, rfl, rfl, Nat.zero_le _, r0, E⟩
  case round =>
    clear r0 E
    obtain ⟨j, out, so, sc, rfl, hj, rfl, HO, hoj, r0, E⟩ := hrel
    obtain ⟨hcE, hfE⟩ := bcell E.low
    by_cases hlt : j < need.length
    · obtain ⟨x, hx0⟩ := at_some hlt
      have HX := Lib.hid hx0
      have hxm := List.mem_of_getElem? hx0
      obtain ⟨g, o, rfl, hg, -⟩ := RRow.cells hn.row hlt
      have hs := missN_snoc (hv := hv.map Sy.ps) (map_at (f := Sy.ps) hx0)
      rw [HO.out] at hs
      clear hx0
      have hxl : x.perms.length ≤ 1000000000000 := by
        have := wtU_mem (List.mem_map_of_mem (f := Sy.ps) hxm)
        dsimp only [Sy.ps] at this
        omega
      obtain ⟨ob, hob⟩ : ∃ ob, isObj x.kind x.name = ob := ⟨_, rfl⟩
      rcases (show x.req = false ∨ (x.req = true ∧ ob = true) ∨ (x.req = true ∧ ob = false) by cases x.req <;> cases ob <;> simp) with hr | ⟨hr, ho⟩ | ⟨hr, ho⟩
      · have hm : missB x.ps (hv.map Sy.ps) = false := by unfold missB; simp [Sy.ps, hr]
        rw [hm, if_neg (by decide), Nat.add_zero] at hs
        have HS := Lib.hid hs
        have HM := Lib.hid hm
        clear hs hm
        go_upto_region 9999 with (first | ((with_reducible refine at_dst 20 ?_); (refine wp_rec2 ((RRow.ext hn.row E.low)) (HX.out) syC_len rfl rfl ?_ ?_ ?_); (· kernel_rfl); (· kernel_rfl)) | ((with_reducible refine at_dst 7 ?_); go_simp; (generalize hX7 : Array.size (World.heap _) = X7); refine new_block hX7 ?_; intro wn bb hx; (try (have n11_7 := (b11.ne hX7).1; have n7_11 := (b11.ne hX7).2)); (try (have z7 := Nat.le_trans E.size (Nat.le_of_eq hX7))); (try (have mr0_7 := r0.notin (Nat.le_of_eq hX7))); (try (have mr1_7 := r1.notin (Nat.le_of_eq hX7))); (try (have mr2_7 := r2.notin (Nat.le_of_eq hX7))); have b7 := Loc.new bb E hX7; clear bb hX7; (try replace E := E.ext hx); (try replace b11 := b11.ext hx); (try replace r0 := r0.ext hx); (try replace r1 := r1.ext hx); (try replace r2 := r2.ext hx); (try (clear hcE hfE)); (try (have hcf := bcell E.low; obtain ⟨hcE, hfE⟩ := hcf)); (try (clear c7 f7)); (try (have c7 := b7.cell; have f7 := b7.free)); (try (clear c11 f11)); (try (have c11 := b11.cell; have f11 := b11.free))) | ((with_reducible refine at_store 7 ?_); (refine wp_put b7 rfl rfl ?_ ?_ ?_ ?_; (· kernel_rfl); (· first | rfl | kernel_rfl); (· first | decide | exact Nat.le_refl _ | simp [Act.eval, Value.cells] | (simp [Act.eval, Act.put, Value.cells]; done)); intro wn bn hb; have E2 := E.put b7 hb; (try replace b11 := b11.but hb n11_7); (first | (replace r0 := r0.but hb b7.blk (of_decide_eq_true rfl)) | (replace r0 := r0.but0 hb mr0_7) | skip); (first | (replace r1 := r1.but hb b7.blk (of_decide_eq_true rfl)) | (replace r1 := r1.but0 hb mr1_7) | skip); (first | (replace r2 := r2.but hb b7.blk (of_decide_eq_true rfl)) | (replace r2 := r2.but0 hb mr2_7) | skip); clear E b7; have E := E2; clear E2; have b7 := bn; clear bn hb; dsimp only [Act.put]; simp only [putA, Act.eval, Array.getD_eq_getD_getElem?, List.getElem?_toArray, List.getElem?_cons_succ, List.getElem?_cons_zero, Option.getD_some, Value.cells, List.toList_toArray, List.size_toArray, List.length_cons, List.length_nil, Nat.reduceAdd, List.take_succ_cons, List.take_zero, List.drop_succ_cons, List.drop_zero, List.drop_nil, List.cons_append, List.nil_append, List.append_nil, syC_size, stC_size, exC_size, nsC_size, lvC_size, rgC_size, cxC_size, spanC_size] at b7; (try (clear hcE hfE)); (try (have hcf := bcell E.low; obtain ⟨hcE, hfE⟩ := hcf)); (try (clear c7 f7)); (try (have c7 := b7.cell; have f7 := b7.free)); (try (clear c11 f11)); (try (have c11 := b11.cell; have f11 := b11.free)))))
        go_roundw
        case rel => exact ⟨j + 1, out, so, sc, by go_num, by omega, rfl, HS.out, by omega, r0, E⟩
        case measure => simp [intOf]; omega
      · subst ho
        have hm : missB x.ps (hv.map Sy.ps) = false := by unfold missB; simp [Sy.ps, hob]
        rw [hm, if_neg (by decide), Nat.add_zero] at hs
        have HS := Lib.hid hs
        have HM := Lib.hid hm
        clear hs hm
        go_upto_region 9999 with (first | ((with_reducible refine at_dst 20 ?_); (refine wp_rec2 ((RRow.ext hn.row E.low)) (HX.out) syC_len rfl rfl ?_ ?_ ?_); (· kernel_rfl); (· kernel_rfl)) | ((with_reducible refine at_dst 7 ?_); go_simp; (generalize hX7 : Array.size (World.heap _) = X7); refine new_block hX7 ?_; intro wn bb hx; (try (have n11_7 := (b11.ne hX7).1; have n7_11 := (b11.ne hX7).2)); (try (have z7 := Nat.le_trans E.size (Nat.le_of_eq hX7))); (try (have mr0_7 := r0.notin (Nat.le_of_eq hX7))); (try (have mr1_7 := r1.notin (Nat.le_of_eq hX7))); (try (have mr2_7 := r2.notin (Nat.le_of_eq hX7))); have b7 := Loc.new bb E hX7; clear bb hX7; (try replace E := E.ext hx); (try replace b11 := b11.ext hx); (try replace r0 := r0.ext hx); (try replace r1 := r1.ext hx); (try replace r2 := r2.ext hx); (try (clear hcE hfE)); (try (have hcf := bcell E.low; obtain ⟨hcE, hfE⟩ := hcf)); (try (clear c7 f7)); (try (have c7 := b7.cell; have f7 := b7.free)); (try (clear c11 f11)); (try (have c11 := b11.cell; have f11 := b11.free))) | ((with_reducible refine at_dst 29 ?_); go_simp; ((with_reducible refine (objRole_any _ _ _).mono ?_)); unfold BPost; rintro e wn ⟨rfl, hx⟩; (try replace E := E.ext hx); (try replace b7 := b7.ext hx); (try replace b11 := b11.ext hx); (try replace r0 := r0.ext hx); (try replace r1 := r1.ext hx); (try replace r2 := r2.ext hx); (try (clear hcE hfE)); (try (have hcf := bcell E.low; obtain ⟨hcE, hfE⟩ := hcf)); (try (clear c7 f7)); (try (have c7 := b7.cell; have f7 := b7.free)); (try (clear c11 f11)); (try (have c11 := b11.cell; have f11 := b11.free))) | ((with_reducible refine at_store 7 ?_); (refine wp_put b7 rfl rfl ?_ ?_ ?_ ?_; (· kernel_rfl); (· first | rfl | kernel_rfl); (· first | decide | exact Nat.le_refl _ | simp [Act.eval, Value.cells] | (simp [Act.eval, Act.put, Value.cells]; done)); intro wn bn hb; have E2 := E.put b7 hb; (try replace b11 := b11.but hb n11_7); (first | (replace r0 := r0.but hb b7.blk (of_decide_eq_true rfl)) | (replace r0 := r0.but0 hb mr0_7) | skip); (first | (replace r1 := r1.but hb b7.blk (of_decide_eq_true rfl)) | (replace r1 := r1.but0 hb mr1_7) | skip); (first | (replace r2 := r2.but hb b7.blk (of_decide_eq_true rfl)) | (replace r2 := r2.but0 hb mr2_7) | skip); clear E b7; have E := E2; clear E2; have b7 := bn; clear bn hb; dsimp only [Act.put]; simp only [putA, Act.eval, Array.getD_eq_getD_getElem?, List.getElem?_toArray, List.getElem?_cons_succ, List.getElem?_cons_zero, Option.getD_some, Value.cells, List.toList_toArray, List.size_toArray, List.length_cons, List.length_nil, Nat.reduceAdd, List.take_succ_cons, List.take_zero, List.drop_succ_cons, List.drop_zero, List.drop_nil, List.cons_append, List.nil_append, List.append_nil, syC_size, stC_size, exC_size, nsC_size, lvC_size, rgC_size, cxC_size, spanC_size] at b7; (try (clear hcE hfE)); (try (have hcf := bcell E.low; obtain ⟨hcE, hfE⟩ := hcf)); (try (clear c7 f7)); (try (have c7 := b7.cell; have f7 := b7.free)); (try (clear c11 f11)); (try (have c11 := b11.cell; have f11 := b11.free)))))
        go_roundw
        case rel => exact ⟨j + 1, out, so, sc, by go_num, by omega, rfl, HS.out, by omega, r0, E⟩
        case measure => simp [intOf]; omega
      · subst ho
        have HS := Lib.hid hs
        clear hs
        go_upto_region 9 with (first | ((with_reducible refine at_dst 20 ?_); (refine wp_rec2 ((RRow.ext hn.row E.low)) (HX.out) syC_len rfl rfl ?_ ?_ ?_); (· kernel_rfl); (· kernel_rfl)) | ((with_reducible refine at_dst 7 ?_); go_simp; (generalize hX7 : Array.size (World.heap _) = X7); refine new_block hX7 ?_; intro wn bb hx; (try (have n11_7 := (b11.ne hX7).1; have n7_11 := (b11.ne hX7).2)); (try (have z7 := Nat.le_trans E.size (Nat.le_of_eq hX7))); (try (have mr0_7 := r0.notin (Nat.le_of_eq hX7))); (try (have mr1_7 := r1.notin (Nat.le_of_eq hX7))); (try (have mr2_7 := r2.notin (Nat.le_of_eq hX7))); have b7 := Loc.new bb E hX7; clear bb hX7; (try replace E := E.ext hx); (try replace b11 := b11.ext hx); (try replace r0 := r0.ext hx); (try replace r1 := r1.ext hx); (try replace r2 := r2.ext hx); (try (clear hcE hfE)); (try (have hcf := bcell E.low; obtain ⟨hcE, hfE⟩ := hcf)); (try (clear c7 f7)); (try (have c7 := b7.cell; have f7 := b7.free)); (try (clear c11 f11)); (try (have c11 := b11.cell; have f11 := b11.free))) | ((with_reducible refine at_dst 29 ?_); go_simp; ((with_reducible refine (objRole_any _ _ _).mono ?_)); unfold BPost; rintro e wn ⟨rfl, hx⟩; (try replace E := E.ext hx); (try replace b7 := b7.ext hx); (try replace b11 := b11.ext hx); (try replace r0 := r0.ext hx); (try replace r1 := r1.ext hx); (try replace r2 := r2.ext hx); (try (clear hcE hfE)); (try (have hcf := bcell E.low; obtain ⟨hcE, hfE⟩ := hcf)); (try (clear c7 f7)); (try (have c7 := b7.cell; have f7 := b7.free)); (try (clear c11 f11)); (try (have c11 := b11.cell; have f11 := b11.free))) | ((with_reducible refine at_store 7 ?_); (refine wp_put b7 rfl rfl ?_ ?_ ?_ ?_; (· kernel_rfl); (· first | rfl | kernel_rfl); (· first | decide | exact Nat.le_refl _ | simp [Act.eval, Value.cells] | (simp [Act.eval, Act.put, Value.cells]; done)); intro wn bn hb; have E2 := E.put b7 hb; (try replace b11 := b11.but hb n11_7); (first | (replace r0 := r0.but hb b7.blk (of_decide_eq_true rfl)) | (replace r0 := r0.but0 hb mr0_7) | skip); (first | (replace r1 := r1.but hb b7.blk (of_decide_eq_true rfl)) | (replace r1 := r1.but0 hb mr1_7) | skip); (first | (replace r2 := r2.but hb b7.blk (of_decide_eq_true rfl)) | (replace r2 := r2.but0 hb mr2_7) | skip); clear E b7; have E := E2; clear E2; have b7 := bn; clear bn hb; dsimp only [Act.put]; simp only [putA, Act.eval, Array.getD_eq_getD_getElem?, List.getElem?_toArray, List.getElem?_cons_succ, List.getElem?_cons_zero, Option.getD_some, Value.cells, List.toList_toArray, List.size_toArray, List.length_cons, List.length_nil, Nat.reduceAdd, List.take_succ_cons, List.take_zero, List.drop_succ_cons, List.drop_zero, List.drop_nil, List.cons_append, List.nil_append, List.append_nil, syC_size, stC_size, exC_size, nsC_size, lvC_size, rgC_size, cxC_size, spanC_size] at b7; (try (clear hcE hfE)); (try (have hcf := bcell E.low; obtain ⟨hcE, hfE⟩ := hcf)); (try (clear c7 f7)); (try (have c7 := b7.cell; have f7 := b7.free)); (try (clear c11 f11)); (try (have c11 := b11.cell; have f11 := b11.free)))))
        have r1 := OwnR.nil w wn 9 1 strC
        go_loopw [8, 9, 33] (fun fo pv i wr => ∃ (k : Nat) (S : MS) (po : Option Addr) (pc : Nat), i = .int .i64 k ∧ k ≤ hv.length ∧ fo = .bool S.found ∧ pv = .slice po S.perms.length pc ∧ Hid (((hv.map Sy.ps).take k).foldl (missStep x.ps) ⟨false, []⟩ = S) ∧ OwnR w wr 9 1 strC (.slice po S.perms.length pc) S.perms ∧ OwnR w wr 57 6 syC (.slice so out.length sc) out ∧ Only [] w wr ∧ Loc [] w wr X7 57 (syC x).toArray) (fun _ _ i _ => hv.length - (intOf i).toNat)
        case atStart => exact ⟨0, ⟨false, []⟩, none, 0, rfl, Nat.zero_le _, rfl, rfl, rfl, r1, r0, E, b7⟩
        case round =>
          clear r0 r1 E hcE hfE b7 c7 f7
          obtain ⟨k, S, po, pc, rfl, hk, rfl, rfl, HM, r1, r0, E, b7⟩ := hrel
          have c7 := b7.cell
          have f7 := b7.free
          obtain ⟨hcE, hfE⟩ := bcell E.low
          have hSl : S.perms.length ≤ 1000000000000 := by
            have h1 := miss_len x.ps ((hv.map Sy.ps).take k) ⟨false, []⟩
            have h2 := wtU_take (hv.map Sy.ps) k
            rw [HM.out] at h1
            dsimp only [List.length_nil] at h1
            omega
          by_cases hlt2 : k < hv.length
          · obtain ⟨y, hy⟩ := at_some hlt2
            have hym : y ∈ hv := List.mem_of_getElem? hy
            have hyl : y.perms.length ≤ 1000000000000 := by
              have := wtU_mem (List.mem_map_of_mem (f := Sy.ps) hym)
              dsimp only [Sy.ps] at this
              omega
            have HY := Lib.hid hy
            obtain ⟨g', o', rfl, hg', -⟩ := hh.at hy
            have hs := fold_take (missStep x.ps) ⟨false, []⟩ (map_at (f := Sy.ps) hy)
            rw [HM.out] at hs
            rw [show missStep x.ps S y.ps = (if meetB x.ps y.ps = true then ⟨true, S.perms ++ y.perms⟩ else S) from rfl] at hs
            clear hy
            have hmb : meetB x.ps y.ps = (!y.req && (y.kind == x.kind) && (y.name.toList == x.name.toList)) := rfl
            rcases (show y.req = true ∨ y.req = false by cases y.req <;> simp) with hyr | hyr
            · rw [hmb, hyr, if_neg (by simp)] at hs
              have HS2 := Lib.hid hs
              clear hmb hs
              go_upto_region 9999 with (first | ((with_reducible refine at_dst 36 ?_); (refine wp_rec2 ((RRow.ext hh.row E.low)) (HY.out) syC_len rfl rfl ?_ ?_ ?_); (· kernel_rfl); (· kernel_rfl)) | ((with_reducible refine at_dst 11 ?_); go_simp; (generalize hX11 : Array.size (World.heap _) = X11); refine new_block hX11 ?_; intro wn bb hx; (try (have n7_11 := (b7.ne hX11).1; have n11_7 := (b7.ne hX11).2)); (try (have z11 := Nat.le_trans E.size (Nat.le_of_eq hX11))); (try (have mr0_11 := r0.notin (Nat.le_of_eq hX11))); (try (have mr1_11 := r1.notin (Nat.le_of_eq hX11))); (try (have mr2_11 := r2.notin (Nat.le_of_eq hX11))); have b11 := Loc.new bb E hX11; clear bb hX11; (try replace E := E.ext hx); (try replace b7 := b7.ext hx); (try replace r0 := r0.ext hx); (try replace r1 := r1.ext hx); (try replace r2 := r2.ext hx); (try (clear hcE hfE)); (try (have hcf := bcell E.low; obtain ⟨hcE, hfE⟩ := hcf)); (try (clear c7 f7)); (try (have c7 := b7.cell; have f7 := b7.free)); (try (clear c11 f11)); (try (have c11 := b11.cell; have f11 := b11.free))) | ((with_reducible refine at_store 11 ?_); (refine wp_put b11 rfl rfl ?_ ?_ ?_ ?_; (· kernel_rfl); (· first | rfl | kernel_rfl); (· first | decide | exact Nat.le_refl _ | simp [Act.eval, Value.cells] | (simp [Act.eval, Act.put, Value.cells]; done)); intro wn bn hb; have E2 := E.put b11 hb; (try replace b7 := b7.but hb n7_11); (first | (replace r0 := r0.but hb b11.blk (of_decide_eq_true rfl)) | (replace r0 := r0.but0 hb mr0_11) | skip); (first | (replace r1 := r1.but hb b11.blk (of_decide_eq_true rfl)) | (replace r1 := r1.but0 hb mr1_11) | skip); (first | (replace r2 := r2.but hb b11.blk (of_decide_eq_true rfl)) | (replace r2 := r2.but0 hb mr2_11) | skip); clear E b11; have E := E2; clear E2; have b11 := bn; clear bn hb; dsimp only [Act.put]; simp only [putA, Act.eval, Array.getD_eq_getD_getElem?, List.getElem?_toArray, List.getElem?_cons_succ, List.getElem?_cons_zero, Option.getD_some, Value.cells, List.toList_toArray, List.size_toArray, List.length_cons, List.length_nil, Nat.reduceAdd, List.take_succ_cons, List.take_zero, List.drop_succ_cons, List.drop_zero, List.drop_nil, List.cons_append, List.nil_append, List.append_nil, syC_size, stC_size, exC_size, nsC_size, lvC_size, rgC_size, cxC_size, spanC_size] at b11; (try (clear hcE hfE)); (try (have hcf := bcell E.low; obtain ⟨hcE, hfE⟩ := hcf)); (try (clear c7 f7)); (try (have c7 := b7.cell; have f7 := b7.free)); (try (clear c11 f11)); (try (have c11 := b11.cell; have f11 := b11.free)))))
              go_roundw
              case rel => exact ⟨k + 1, S, _, _, by go_num, by omega, rfl, rfl, HS2.out, r1, r0, E, b7⟩
              case measure => simp [intOf]; omega
            · by_cases h3 : y.kind = x.kind
              · obtain ⟨g4, g5⟩ := kd_t h3
                by_cases h2 : y.name = x.name
                · have g3 := txt_t h2
                  rw [hmb, hyr, g4, g3, if_pos (by simp)] at hs
                  have HS2 := Lib.hid hs
                  have H3 := Lib.hid h3
                  have H2 := Lib.hid h2
                  clear h3 hs h2 hmb
                  go_upto_region 9999 with (first | ((with_reducible refine at_dst 36 ?_); (refine wp_rec2 ((RRow.ext hh.row E.low)) (HY.out) syC_len rfl rfl ?_ ?_ ?_); (· kernel_rfl); (· kernel_rfl)) | ((with_reducible refine at_dst 11 ?_); go_simp; (generalize hX11 : Array.size (World.heap _) = X11); refine new_block hX11 ?_; intro wn bb hx; (try (have n7_11 := (b7.ne hX11).1; have n11_7 := (b7.ne hX11).2)); (try (have z11 := Nat.le_trans E.size (Nat.le_of_eq hX11))); (try (have mr0_11 := r0.notin (Nat.le_of_eq hX11))); (try (have mr1_11 := r1.notin (Nat.le_of_eq hX11))); (try (have mr2_11 := r2.notin (Nat.le_of_eq hX11))); have b11 := Loc.new bb E hX11; clear bb hX11; (try replace E := E.ext hx); (try replace b7 := b7.ext hx); (try replace r0 := r0.ext hx); (try replace r1 := r1.ext hx); (try replace r2 := r2.ext hx); (try (clear hcE hfE)); (try (have hcf := bcell E.low; obtain ⟨hcE, hfE⟩ := hcf)); (try (clear c7 f7)); (try (have c7 := b7.cell; have f7 := b7.free)); (try (clear c11 f11)); (try (have c11 := b11.cell; have f11 := b11.free))) | ((with_reducible refine at_dst 57 ?_); refine wp_own (.tmp 54) (.tmp 56) rfl info_str und_strs rfl (by decide) strC_l strC_one r1 E (Reads.ext (hh.perms y hym) E.low) rfl rfl ?_ ?_ ?_; (· ((try unfold maxLen); omega)); (· ((try unfold maxLen); omega)); intro L57 hL57 s57 v57 wn r3 E2 hA; replace hL57 := Lib.hid hL57; (try replace b7 := b7.grow r1 hA (of_decide_eq_true rfl)); (try replace b11 := b11.grow r1 hA (of_decide_eq_true rfl)); (try replace r0 := r0.grow r1 hA (of_decide_eq_true rfl)); (try replace r2 := r2.grow r1 hA (of_decide_eq_true rfl)); clear E; have E := E2; clear E2; obtain ⟨o57, k57, rfl, l57, m57⟩ := ORow.len r3.row; (try (clear hcE hfE)); (try (have hcf := bcell E.low; obtain ⟨hcE, hfE⟩ := hcf)); (try (clear c7 f7)); (try (have c7 := b7.cell; have f7 := b7.free)); (try (clear c11 f11)); (try (have c11 := b11.cell; have f11 := b11.free)); (try simp only [Act.put, List.setIfInBounds_toArray, List.set_cons_zero, List.set_cons_succ])) | ((with_reducible refine at_store 11 ?_); (refine wp_put b11 rfl rfl ?_ ?_ ?_ ?_; (· kernel_rfl); (· first | rfl | kernel_rfl); (· first | decide | exact Nat.le_refl _ | simp [Act.eval, Value.cells] | (simp [Act.eval, Act.put, Value.cells]; done)); intro wn bn hb; have E2 := E.put b11 hb; (try replace b7 := b7.but hb n7_11); (first | (replace r0 := r0.but hb b11.blk (of_decide_eq_true rfl)) | (replace r0 := r0.but0 hb mr0_11) | skip); (first | (replace r1 := r1.but hb b11.blk (of_decide_eq_true rfl)) | (replace r1 := r1.but0 hb mr1_11) | skip); (first | (replace r2 := r2.but hb b11.blk (of_decide_eq_true rfl)) | (replace r2 := r2.but0 hb mr2_11) | skip); clear E b11; have E := E2; clear E2; have b11 := bn; clear bn hb; dsimp only [Act.put]; simp only [putA, Act.eval, Array.getD_eq_getD_getElem?, List.getElem?_toArray, List.getElem?_cons_succ, List.getElem?_cons_zero, Option.getD_some, Value.cells, List.toList_toArray, List.size_toArray, List.length_cons, List.length_nil, Nat.reduceAdd, List.take_succ_cons, List.take_zero, List.drop_succ_cons, List.drop_zero, List.drop_nil, List.cons_append, List.nil_append, List.append_nil, syC_size, stC_size, exC_size, nsC_size, lvC_size, rgC_size, cxC_size, spanC_size] at b11; (try (clear hcE hfE)); (try (have hcf := bcell E.low; obtain ⟨hcE, hfE⟩ := hcf)); (try (clear c7 f7)); (try (have c7 := b7.cell; have f7 := b7.free)); (try (clear c11 f11)); (try (have c11 := b11.cell; have f11 := b11.free)))))
                  go_roundw
                  case rel => exact ⟨k + 1, ⟨true, L57⟩, _, _, by go_num, by omega, rfl, rfl, by rw [← hL57.out]; exact HS2.out, r3, r0, E, b7⟩
                  case measure => simp [intOf]; omega
                · have g3 := txt_f h2
                  rw [hmb, hyr, g4, g3, if_neg (by simp)] at hs
                  have HS2 := Lib.hid hs
                  have H3 := Lib.hid h3
                  have H2 := Lib.hid h2
                  clear h3 hs h2 hmb
                  go_upto_region 9999 with (first | ((with_reducible refine at_dst 36 ?_); (refine wp_rec2 ((RRow.ext hh.row E.low)) (HY.out) syC_len rfl rfl ?_ ?_ ?_); (· kernel_rfl); (· kernel_rfl)) | ((with_reducible refine at_dst 11 ?_); go_simp; (generalize hX11 : Array.size (World.heap _) = X11); refine new_block hX11 ?_; intro wn bb hx; (try (have n7_11 := (b7.ne hX11).1; have n11_7 := (b7.ne hX11).2)); (try (have z11 := Nat.le_trans E.size (Nat.le_of_eq hX11))); (try (have mr0_11 := r0.notin (Nat.le_of_eq hX11))); (try (have mr1_11 := r1.notin (Nat.le_of_eq hX11))); (try (have mr2_11 := r2.notin (Nat.le_of_eq hX11))); have b11 := Loc.new bb E hX11; clear bb hX11; (try replace E := E.ext hx); (try replace b7 := b7.ext hx); (try replace r0 := r0.ext hx); (try replace r1 := r1.ext hx); (try replace r2 := r2.ext hx); (try (clear hcE hfE)); (try (have hcf := bcell E.low; obtain ⟨hcE, hfE⟩ := hcf)); (try (clear c7 f7)); (try (have c7 := b7.cell; have f7 := b7.free)); (try (clear c11 f11)); (try (have c11 := b11.cell; have f11 := b11.free))) | ((with_reducible refine at_store 11 ?_); (refine wp_put b11 rfl rfl ?_ ?_ ?_ ?_; (· kernel_rfl); (· first | rfl | kernel_rfl); (· first | decide | exact Nat.le_refl _ | simp [Act.eval, Value.cells] | (simp [Act.eval, Act.put, Value.cells]; done)); intro wn bn hb; have E2 := E.put b11 hb; (try replace b7 := b7.but hb n7_11); (first | (replace r0 := r0.but hb b11.blk (of_decide_eq_true rfl)) | (replace r0 := r0.but0 hb mr0_11) | skip); (first | (replace r1 := r1.but hb b11.blk (of_decide_eq_true rfl)) | (replace r1 := r1.but0 hb mr1_11) | skip); (first | (replace r2 := r2.but hb b11.blk (of_decide_eq_true rfl)) | (replace r2 := r2.but0 hb mr2_11) | skip); clear E b11; have E := E2; clear E2; have b11 := bn; clear bn hb; dsimp only [Act.put]; simp only [putA, Act.eval, Array.getD_eq_getD_getElem?, List.getElem?_toArray, List.getElem?_cons_succ, List.getElem?_cons_zero, Option.getD_some, Value.cells, List.toList_toArray, List.size_toArray, List.length_cons, List.length_nil, Nat.reduceAdd, List.take_succ_cons, List.take_zero, List.drop_succ_cons, List.drop_zero, List.drop_nil, List.cons_append, List.nil_append, List.append_nil, syC_size, stC_size, exC_size, nsC_size, lvC_size, rgC_size, cxC_size, spanC_size] at b11; (try (clear hcE hfE)); (try (have hcf := bcell E.low; obtain ⟨hcE, hfE⟩ := hcf)); (try (clear c7 f7)); (try (have c7 := b7.cell; have f7 := b7.free)); (try (clear c11 f11)); (try (have c11 := b11.cell; have f11 := b11.free)))))
                  go_roundw
                  case rel => exact ⟨k + 1, S, _, _, by go_num, by omega, rfl, rfl, HS2.out, r1, r0, E, b7⟩
                  case measure => simp [intOf]; omega
              · obtain ⟨g4, g5⟩ := kd_f h3
                rw [hmb, hyr, g4, if_neg (by simp)] at hs
                have HS2 := Lib.hid hs
                have H3 := Lib.hid h3
                clear h3 hs hmb
                go_upto_region 9999 with (first | ((with_reducible refine at_dst 36 ?_); (refine wp_rec2 ((RRow.ext hh.row E.low)) (HY.out) syC_len rfl rfl ?_ ?_ ?_); (· kernel_rfl); (· kernel_rfl)) | ((with_reducible refine at_dst 11 ?_); go_simp; (generalize hX11 : Array.size (World.heap _) = X11); refine new_block hX11 ?_; intro wn bb hx; (try (have n7_11 := (b7.ne hX11).1; have n11_7 := (b7.ne hX11).2)); (try (have z11 := Nat.le_trans E.size (Nat.le_of_eq hX11))); (try (have mr0_11 := r0.notin (Nat.le_of_eq hX11))); (try (have mr1_11 := r1.notin (Nat.le_of_eq hX11))); (try (have mr2_11 := r2.notin (Nat.le_of_eq hX11))); have b11 := Loc.new bb E hX11; clear bb hX11; (try replace E := E.ext hx); (try replace b7 := b7.ext hx); (try replace r0 := r0.ext hx); (try replace r1 := r1.ext hx); (try replace r2 := r2.ext hx); (try (clear hcE hfE)); (try (have hcf := bcell E.low; obtain ⟨hcE, hfE⟩ := hcf)); (try (clear c7 f7)); (try (have c7 := b7.cell; have f7 := b7.free)); (try (clear c11 f11)); (try (have c11 := b11.cell; have f11 := b11.free))) | ((with_reducible refine at_store 11 ?_); (refine wp_put b11 rfl rfl ?_ ?_ ?_ ?_; (· kernel_rfl); (· first | rfl | kernel_rfl); (· first | decide | exact Nat.le_refl _ | simp [Act.eval, Value.cells] | (simp [Act.eval, Act.put, Value.cells]; done)); intro wn bn hb; have E2 := E.put b11 hb; (try replace b7 := b7.but hb n7_11); (first | (replace r0 := r0.but hb b11.blk (of_decide_eq_true rfl)) | (replace r0 := r0.but0 hb mr0_11) | skip); (first | (replace r1 := r1.but hb b11.blk (of_decide_eq_true rfl)) | (replace r1 := r1.but0 hb mr1_11) | skip); (first | (replace r2 := r2.but hb b11.blk (of_decide_eq_true rfl)) | (replace r2 := r2.but0 hb mr2_11) | skip); clear E b11; have E := E2; clear E2; have b11 := bn; clear bn hb; dsimp only [Act.put]; simp only [putA, Act.eval, Array.getD_eq_getD_getElem?, List.getElem?_toArray, List.getElem?_cons_succ, List.getElem?_cons_zero, Option.getD_some, Value.cells, List.toList_toArray, List.size_toArray, List.length_cons, List.length_nil, Nat.reduceAdd, List.take_succ_cons, List.take_zero, List.drop_succ_cons, List.drop_zero, List.drop_nil, List.cons_append, List.nil_append, List.append_nil, syC_size, stC_size, exC_size, nsC_size, lvC_size, rgC_size, cxC_size, spanC_size] at b11; (try (clear hcE hfE)); (try (have hcf := bcell E.low; obtain ⟨hcE, hfE⟩ := hcf)); (try (clear c7 f7)); (try (have c7 := b7.cell; have f7 := b7.free)); (try (clear c11 f11)); (try (have c11 := b11.cell; have f11 := b11.free)))))
                go_roundw
                case rel => exact ⟨k + 1, S, _, _, by go_num, by omega, rfl, rfl, HS2.out, r1, r0, E, b7⟩
                case measure => simp [intOf]; omega
          · have hT : missOf x.ps (hv.map Sy.ps) = S := by
              unfold missOf
              rw [← HM.out, List.take_of_length_le (by rw [List.length_map]; omega)]
            have HT := Lib.hid hT
            clear hT HM
            obtain ⟨fo, M⟩ := S
            dsimp only at r1 hSl ⊢
            have hxp : Reads w (.slice x.hp.a x.perms.length x.hp.c) x.perms := hn.perms x hxm
            go_upto_region 17 with (first | fail)
            obtain ⟨W, hW⟩ : ∃ W, W = wr := ⟨_, rfl⟩
            subst hW
            have hE0 := E
            have rM := r1.reads
            have r0W := r0
            have b7W := b7
            have hxw := hxp.ext E.low
            clear E hcE hfE r1 r0 b7 c7 f7
            have E := Only.refl [] W
            have r2 := OwnR.nil W W 9 1 strC
            go_loopw [12, 62] (fun lv i wr => ∃ (k : Nat) (L : List ByteArray) (la : Option Addr) (lc : Nat), i = .int .i64 k ∧ k ≤ x.perms.length ∧ lv = .slice la L.length lc ∧ Hid (lessOf M (x.perms.take k) = L) ∧ L.length ≤ k ∧ OwnR W wr 9 1 strC (.slice la L.length lc) L ∧ Only [] W wr) (fun _ i _ => x.perms.length - (intOf i).toNat)
            case atStart => exact ⟨0, [], none, 0, rfl, Nat.zero_le _, rfl, rfl, Nat.le_refl _, r2, E⟩
            case round =>
              clear r2 E
              obtain ⟨k, L, la, lc, rfl, hk, rfl, HL, hLk, r2, E⟩ := hrel
              obtain ⟨hcE, hfE⟩ := bcell E.low
              by_cases hlt3 : k < x.perms.length
              · obtain ⟨g', o', hgo, hg', k0⟩ := hxw.cells hlt3
                have hs := lessOf_snoc (perms := M) hlt3
                rw [HL.out] at hs
                by_cases hm : x.perms[k] ∈ M
                · have g1 := mem_dt hm
                  rw [if_pos hm] at hs
                  have HS2 := Lib.hid hs
                  clear hm hs
                  go_upto_region 9999 with (first | ((with_reducible refine at_dst 68 ?_); go_simp; ((refine (contains_any (Reads.ext rM E.low) _).mono ?_)); unfold BPost; rintro e wn ⟨rfl, hx⟩; (try replace E := E.ext hx); (try replace b7 := b7.ext hx); (try replace b11 := b11.ext hx); (try replace r0 := r0.ext hx); (try replace r1 := r1.ext hx); (try replace r2 := r2.ext hx); (try (clear hcE hfE)); (try (have hcf := bcell E.low; obtain ⟨hcE, hfE⟩ := hcf)); (try (clear c7 f7)); (try (have c7 := b7.cell; have f7 := b7.free)); (try (clear c11 f11)); (try (have c11 := b11.cell; have f11 := b11.free))))
                  try simp only [← hgo]
                  clear hgo
                  go_roundw
                  case rel => exact ⟨k + 1, L, _, _, by go_num, by omega, rfl, HS2.out, by omega, r2, E⟩
                  case measure => simp [intOf]; omega
                · have g1 := mem_df hm
                  rw [if_neg hm] at hs
                  have HS2 := Lib.hid hs
                  clear hm hs
                  go_upto_region 9999 with (first | ((with_reducible refine at_dst 68 ?_); go_simp; ((refine (contains_any (Reads.ext rM E.low) _).mono ?_)); unfold BPost; rintro e wn ⟨rfl, hx⟩; (try replace E := E.ext hx); (try replace b7 := b7.ext hx); (try replace b11 := b11.ext hx); (try replace r0 := r0.ext hx); (try replace r1 := r1.ext hx); (try replace r2 := r2.ext hx); (try (clear hcE hfE)); (try (have hcf := bcell E.low; obtain ⟨hcE, hfE⟩ := hcf)); (try (clear c7 f7)); (try (have c7 := b7.cell; have f7 := b7.free)); (try (clear c11 f11)); (try (have c11 := b11.cell; have f11 := b11.free))) | ((with_reducible refine at_dst 72 ?_); go_simp; (generalize hX72 : Array.size (World.heap _) = X72); refine new_block hX72 ?_; intro wn bb hx; (try (have n7_72 := (b7.ne hX72).1; have n72_7 := (b7.ne hX72).2)); (try (have n11_72 := (b11.ne hX72).1; have n72_11 := (b11.ne hX72).2)); (try (have z72 := Nat.le_trans E.size (Nat.le_of_eq hX72))); (try (have mr0_72 := r0.notin (Nat.le_of_eq hX72))); (try (have mr1_72 := r1.notin (Nat.le_of_eq hX72))); (try (have mr2_72 := r2.notin (Nat.le_of_eq hX72))); have b72 := bb; have g72 := Loc.new bb E hX72; clear bb hX72; (try replace E := E.ext hx); (try replace b7 := b7.ext hx); (try replace b11 := b11.ext hx); (try replace r0 := r0.ext hx); (try replace r1 := r1.ext hx); (try replace r2 := r2.ext hx); (try (clear hcE hfE)); (try (have hcf := bcell E.low; obtain ⟨hcE, hfE⟩ := hcf)); (try (clear c7 f7)); (try (have c7 := b7.cell; have f7 := b7.free)); (try (clear c11 f11)); (try (have c11 := b11.cell; have f11 := b11.free))) | ((with_reducible refine at_dst 73 ?_); refine wp_own (.tmp 70) (.tmp 72) rfl info_str und_strs rfl (by decide) strC_l strC_one r2 E (RRow.blk (xs := [x.perms[k]]) strC_l b72 rfl (show 1 ≤ maxLen by decide)) rfl rfl ?_ ?_ ?_; (· (simp only [List.length_cons, List.length_nil]; (try unfold maxLen); omega)); (· (simp only [List.length_cons, List.length_nil]; (try unfold maxLen); omega)); intro L73 hL73 s73 v73 wn r3 E2 hA; replace hL73 := Lib.hid hL73; (try replace b7 := b7.grow r2 hA (of_decide_eq_true rfl)); (try replace b11 := b11.grow r2 hA (of_decide_eq_true rfl)); (try replace r0 := r0.grow r2 hA (of_decide_eq_true rfl)); (try replace r1 := r1.grow r2 hA (of_decide_eq_true rfl)); clear E; have E := E2; clear E2; obtain ⟨o73, k73, rfl, l73, m73⟩ := ORow.len r3.row; (try (clear hcE hfE)); (try (have hcf := bcell E.low; obtain ⟨hcE, hfE⟩ := hcf)); (try (clear c7 f7)); (try (have c7 := b7.cell; have f7 := b7.free)); (try (clear c11 f11)); (try (have c11 := b11.cell; have f11 := b11.free)); (try simp only [Act.put, List.setIfInBounds_toArray, List.set_cons_zero, List.set_cons_succ])))
                  have hl1 : (L ++ [x.perms[k]]).length = L.length + 1 := by simp
                  try simp only [← hgo]
                  clear hgo
                  go_roundw
                  case rel => exact ⟨k + 1, L73, _, _, by go_num, by omega, rfl, HS2.out.trans hL73.out, by rw [← hL73.out]; omega, r3, E⟩
                  case measure => simp [intOf]; omega
              · have hL2 : lessOf M x.perms = L := by
                  rw [← HL.out, List.take_of_length_le (by omega)]
                have hB : missB x.ps (hv.map Sy.ps) = (!fo || decide (0 < L.length)) := by
                  unfold missB
                  rw [HT.out]
                  show (x.req && !isObj x.kind x.name && (!fo || decide (0 < (lessOf M x.perms).length))) = _
                  rw [hr, hob, hL2]
                  rfl
                have HB := Lib.hid hB
                clear hL2 hB HL
                have hs := HS.out
                rw [HB.out] at hs
                have E2 : Only [] w wr := hE0.trans E (fun x hx => by cases hx)
                have r0 := r0W.ext E.low
                have b7 := b7W.ext E.low
                clear HS E hcE hfE
                have E := E2
                clear E2
                obtain ⟨hcE, hfE⟩ := bcell E.low
                have c7 := b7.cell
                have f7 := b7.free
                by_cases hd : fo = false ∨ 0 < L.length
                · rw [if_pos (by rcases hd with h | h <;> simp [h])] at hs
                  have HS := Lib.hid hs
                  clear hs
                  rcases hd with rfl | hd
                  · go_upto_region 9999 with (first | ((with_reducible refine at_dst 85 ?_); (refine wp_all b7.blk rfl rfl ?_ ?_ ?_); (· kernel_rfl); (· kernel_rfl)) | ((with_reducible refine at_dst 86 ?_); go_simp; (generalize hX86 : Array.size (World.heap _) = X86); refine new_block hX86 ?_; intro wn bb hx; (try (have n7_86 := (b7.ne hX86).1; have n86_7 := (b7.ne hX86).2)); (try (have n11_86 := (b11.ne hX86).1; have n86_11 := (b11.ne hX86).2)); (try (have z86 := Nat.le_trans E.size (Nat.le_of_eq hX86))); (try (have mr0_86 := r0.notin (Nat.le_of_eq hX86))); (try (have mr1_86 := r1.notin (Nat.le_of_eq hX86))); (try (have mr2_86 := r2.notin (Nat.le_of_eq hX86))); have b86 := bb; have g86 := Loc.new bb E hX86; clear bb hX86; (try replace E := E.ext hx); (try replace b7 := b7.ext hx); (try replace b11 := b11.ext hx); (try replace r0 := r0.ext hx); (try replace r1 := r1.ext hx); (try replace r2 := r2.ext hx); (try (clear hcE hfE)); (try (have hcf := bcell E.low; obtain ⟨hcE, hfE⟩ := hcf)); (try (clear c7 f7)); (try (have c7 := b7.cell; have f7 := b7.free)); (try (clear c11 f11)); (try (have c11 := b11.cell; have f11 := b11.free))) | ((with_reducible refine at_dst 87 ?_); refine wp_own (.tmp 84) (.tmp 86) rfl info_sy und_sys rfl (by decide) syC_len syC_ones r0 E (RRow.blk (xs := [(⟨x.kind, x.name, x.req, ⟨la, lc⟩, L, x.line, x.col⟩ : Sy)]) syC_len b86 rfl (show 1 ≤ maxLen by decide)) rfl rfl ?_ ?_ ?_; (· (simp only [List.length_cons, List.length_nil]; (try unfold maxLen); omega)); (· (simp only [List.length_cons, List.length_nil]; (try unfold maxLen); omega)); intro L87 hL87 s87 v87 wn r4 E2 hA; replace hL87 := Lib.hid hL87; (try replace b7 := b7.grow r0 hA (of_decide_eq_true rfl)); (try replace b11 := b11.grow r0 hA (of_decide_eq_true rfl)); (try replace r1 := r1.grow r0 hA (of_decide_eq_true rfl)); (try replace r2 := r2.grow r0 hA (of_decide_eq_true rfl)); clear E; have E := E2; clear E2; obtain ⟨o87, k87, rfl, l87, m87⟩ := ORow.len r4.row; (try (clear hcE hfE)); (try (have hcf := bcell E.low; obtain ⟨hcE, hfE⟩ := hcf)); (try (clear c7 f7)); (try (have c7 := b7.cell; have f7 := b7.free)); (try (clear c11 f11)); (try (have c11 := b11.cell; have f11 := b11.free)); (try simp only [Act.put, List.setIfInBounds_toArray, List.set_cons_zero, List.set_cons_succ])) | ((with_reducible refine at_store 83 ?_); (refine wp_put b7 rfl rfl ?_ ?_ ?_ ?_; (· kernel_rfl); (· first | rfl | kernel_rfl); (· first | decide | exact Nat.le_refl _ | simp [Act.eval, Value.cells] | (simp [Act.eval, Act.put, Value.cells]; done)); intro wn bn hb; have E2 := E.put b7 hb; (try replace b11 := b11.but hb n11_7); (first | (replace r0 := r0.but hb b7.blk (of_decide_eq_true rfl)) | (replace r0 := r0.but0 hb mr0_7) | skip); (first | (replace r1 := r1.but hb b7.blk (of_decide_eq_true rfl)) | (replace r1 := r1.but0 hb mr1_7) | skip); (first | (replace r2 := r2.but hb b7.blk (of_decide_eq_true rfl)) | (replace r2 := r2.but0 hb mr2_7) | skip); clear E b7; have E := E2; clear E2; have b7 := bn; clear bn hb; dsimp only [Act.put]; simp only [putA, Act.eval, Array.getD_eq_getD_getElem?, List.getElem?_toArray, List.getElem?_cons_succ, List.getElem?_cons_zero, Option.getD_some, Value.cells, List.toList_toArray, List.size_toArray, List.length_cons, List.length_nil, Nat.reduceAdd, List.take_succ_cons, List.take_zero, List.drop_succ_cons, List.drop_zero, List.drop_nil, List.cons_append, List.nil_append, List.append_nil, syC_size, stC_size, exC_size, nsC_size, lvC_size, rgC_size, cxC_size, spanC_size] at b7; (try (clear hcE hfE)); (try (have hcf := bcell E.low; obtain ⟨hcE, hfE⟩ := hcf)); (try (clear c7 f7)); (try (have c7 := b7.cell; have f7 := b7.free)); (try (clear c11 f11)); (try (have c11 := b11.cell; have f11 := b11.free)))))
                    go_roundw
                    case rel => exact ⟨j + 1, L87, _, _, by go_num, by omega, rfl, by rw [HS.out, ← hL87.out, List.length_append]; rfl, by rw [← hL87.out, List.length_append]; simp only [List.length_cons, List.length_nil]; omega, r4, E⟩
                    case measure => simp [intOf]; omega
                  · rcases (show fo = true ∨ fo = false by cases fo <;> simp) with rfl | rfl
                    all_goals
                      go_upto_region 9999 with (first | ((with_reducible refine at_dst 85 ?_); (refine wp_all b7.blk rfl rfl ?_ ?_ ?_); (· kernel_rfl); (· kernel_rfl)) | ((with_reducible refine at_dst 86 ?_); go_simp; (generalize hX86 : Array.size (World.heap _) = X86); refine new_block hX86 ?_; intro wn bb hx; (try (have n7_86 := (b7.ne hX86).1; have n86_7 := (b7.ne hX86).2)); (try (have n11_86 := (b11.ne hX86).1; have n86_11 := (b11.ne hX86).2)); (try (have z86 := Nat.le_trans E.size (Nat.le_of_eq hX86))); (try (have mr0_86 := r0.notin (Nat.le_of_eq hX86))); (try (have mr1_86 := r1.notin (Nat.le_of_eq hX86))); (try (have mr2_86 := r2.notin (Nat.le_of_eq hX86))); have b86 := bb; have g86 := Loc.new bb E hX86; clear bb hX86; (try replace E := E.ext hx); (try replace b7 := b7.ext hx); (try replace b11 := b11.ext hx); (try replace r0 := r0.ext hx); (try replace r1 := r1.ext hx); (try replace r2 := r2.ext hx); (try (clear hcE hfE)); (try (have hcf := bcell E.low; obtain ⟨hcE, hfE⟩ := hcf)); (try (clear c7 f7)); (try (have c7 := b7.cell; have f7 := b7.free)); (try (clear c11 f11)); (try (have c11 := b11.cell; have f11 := b11.free))) | ((with_reducible refine at_dst 87 ?_); refine wp_own (.tmp 84) (.tmp 86) rfl info_sy und_sys rfl (by decide) syC_len syC_ones r0 E (RRow.blk (xs := [(⟨x.kind, x.name, x.req, ⟨la, lc⟩, L, x.line, x.col⟩ : Sy)]) syC_len b86 rfl (show 1 ≤ maxLen by decide)) rfl rfl ?_ ?_ ?_; (· (simp only [List.length_cons, List.length_nil]; (try unfold maxLen); omega)); (· (simp only [List.length_cons, List.length_nil]; (try unfold maxLen); omega)); intro L87 hL87 s87 v87 wn r4 E2 hA; replace hL87 := Lib.hid hL87; (try replace b7 := b7.grow r0 hA (of_decide_eq_true rfl)); (try replace b11 := b11.grow r0 hA (of_decide_eq_true rfl)); (try replace r1 := r1.grow r0 hA (of_decide_eq_true rfl)); (try replace r2 := r2.grow r0 hA (of_decide_eq_true rfl)); clear E; have E := E2; clear E2; obtain ⟨o87, k87, rfl, l87, m87⟩ := ORow.len r4.row; (try (clear hcE hfE)); (try (have hcf := bcell E.low; obtain ⟨hcE, hfE⟩ := hcf)); (try (clear c7 f7)); (try (have c7 := b7.cell; have f7 := b7.free)); (try (clear c11 f11)); (try (have c11 := b11.cell; have f11 := b11.free)); (try simp only [Act.put, List.setIfInBounds_toArray, List.set_cons_zero, List.set_cons_succ])) | ((with_reducible refine at_store 83 ?_); (refine wp_put b7 rfl rfl ?_ ?_ ?_ ?_; (· kernel_rfl); (· first | rfl | kernel_rfl); (· first | decide | exact Nat.le_refl _ | simp [Act.eval, Value.cells] | (simp [Act.eval, Act.put, Value.cells]; done)); intro wn bn hb; have E2 := E.put b7 hb; (try replace b11 := b11.but hb n11_7); (first | (replace r0 := r0.but hb b7.blk (of_decide_eq_true rfl)) | (replace r0 := r0.but0 hb mr0_7) | skip); (first | (replace r1 := r1.but hb b7.blk (of_decide_eq_true rfl)) | (replace r1 := r1.but0 hb mr1_7) | skip); (first | (replace r2 := r2.but hb b7.blk (of_decide_eq_true rfl)) | (replace r2 := r2.but0 hb mr2_7) | skip); clear E b7; have E := E2; clear E2; have b7 := bn; clear bn hb; dsimp only [Act.put]; simp only [putA, Act.eval, Array.getD_eq_getD_getElem?, List.getElem?_toArray, List.getElem?_cons_succ, List.getElem?_cons_zero, Option.getD_some, Value.cells, List.toList_toArray, List.size_toArray, List.length_cons, List.length_nil, Nat.reduceAdd, List.take_succ_cons, List.take_zero, List.drop_succ_cons, List.drop_zero, List.drop_nil, List.cons_append, List.nil_append, List.append_nil, syC_size, stC_size, exC_size, nsC_size, lvC_size, rgC_size, cxC_size, spanC_size] at b7; (try (clear hcE hfE)); (try (have hcf := bcell E.low; obtain ⟨hcE, hfE⟩ := hcf)); (try (clear c7 f7)); (try (have c7 := b7.cell; have f7 := b7.free)); (try (clear c11 f11)); (try (have c11 := b11.cell; have f11 := b11.free)))))
                      go_roundw
                      case rel => exact ⟨j + 1, L87, _, _, by go_num, by omega, rfl, by rw [HS.out, ← hL87.out, List.length_append]; rfl, by rw [← hL87.out, List.length_append]; simp only [List.length_cons, List.length_nil]; omega, r4, E⟩
                      case measure => simp [intOf]; omega
                · rw [if_neg (by simp only [not_or] at hd; simp [hd.2]; simpa using hd.1)] at hs
                  have HS := Lib.hid hs
                  clear hs
                  have hf : fo = true := by cases fo <;> simp_all
                  have hl0 : ¬ 0 < L.length := fun h => hd (.inr h)
                  subst hf
                  clear hd
                  go_upto_region 9999 with (first | fail)
                  go_roundw
                  case rel => exact ⟨j + 1, out, so, sc, by go_num, by omega, rfl, HS.out, by omega, r0, E⟩
                  case measure => simp [intOf]; omega
    · have hz : missN (need.map Sy.ps) (hv.map Sy.ps) = out.length := by
        have := HO.out
        rw [List.take_of_length_le (by rw [List.length_map]; omega)] at this
        exact this
      have HZ := Lib.hid hz
      clear hz
      go_upto_region 9999 with (first | fail)
      refine bodyPost_ret (v := .slice so out.length sc) (by simp [results, Try.f11, go_sem]) rfl ?_
      exact ⟨so, sc, by rw [HZ.out], E.low⟩
end Go.Proofs.Ytnifgkgdphlleaa
