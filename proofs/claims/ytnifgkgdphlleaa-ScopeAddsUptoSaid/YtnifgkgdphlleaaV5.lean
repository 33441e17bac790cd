/- Symbols: a clash, finding and copying them, in the program and in the reference. -/
import Derived.Test.YtnifgkgdphlleaaV4
set_option linter.unusedSimpArgs false
set_option linter.unusedVariables false
namespace Go.Proofs.Ytnifgkgdphlleaa
open Go.RowKit Tk
theorem info_sy : (Try.prog.info? 57).map (fun i => (i.zero, i.size, i.bytes)) = some (some (.agg #[.int .i64 0, .string ⟨#[]⟩, .bool false, .slice none 0 0, .int .i64 0, .int .i64 0]), 6, 72) := by kernel_rfl
theorem und_sys : Try.prog.underlying 54 = some (.slice 57) := by kernel_rfl
/-- a slice of symbols, as it is read -/
structure Syms (w : World) (v : Value) (xs : List Sy) : Prop where
  row : RRow w 6 syC v xs
  perms : ∀ x ∈ xs, Reads w (x.hp.v x.perms.length) x.perms
theorem Syms.ext {w w1 : World} {v : Value} {xs : List Sy} (h : Syms w v xs) (hx : Ext w w1) : Syms w1 v xs := ⟨h.row.ext hx, fun x hm => (h.perms x hm).ext hx⟩
theorem Syms.lens {w : World} {a : Option Addr} {n c : Nat} {xs : List Sy} (h : Syms w (.slice a n c) xs) : n = xs.length ∧ xs.length ≤ 9223372036854775807 := by
  obtain ⟨ao, cap, e, h1, h2⟩ := RRow.len h.row
  injection e with e1 e2 e3
  unfold maxLen at h2
  exact ⟨e2, by omega⟩
theorem Syms.at {w : World} {a : Option Addr} {n c : Nat} {xs : List Sy} (h : Syms w (.slice a n c) xs) {i : Nat} {y : Sy} (hy : xs[i]? = some y) : ∃ g o, a = some ⟨g, o, none⟩ ∧ g < w.heap.size ∧
    w.cell? ⟨g, o + i * 6, none⟩ = some (.int .i64 y.kind) ∧ w.cell? ⟨g, o + i * 6 + 1, none⟩ = some (.string y.name) ∧ w.cell? ⟨g, o + i * 6 + 2, none⟩ = some (.bool y.req) ∧
    w.cell? ⟨g, o + i * 6 + 3, none⟩ = some (.slice y.hp.a y.perms.length y.hp.c) ∧ w.cell? ⟨g, o + i * 6 + 4, none⟩ = some (.int .i64 y.line) ∧ w.cell? ⟨g, o + i * 6 + 5, none⟩ = some (.int .i64 y.col) := by
  obtain ⟨hi, e⟩ := List.getElem?_eq_some_iff.1 hy
  subst e
  obtain ⟨g, o, e, hg, hc⟩ := RRow.cells h.row hi
  exact ⟨g, o, e, hg, hc 0 (by omega), hc 1 (by omega), hc 2 (by omega), hc 3 (by omega), hc 4 (by omega), hc 5 (by omega)⟩
theorem at_some {α : Type} {xs : List α} {j : Nat} (h : j < xs.length) : ∃ y, xs[j]? = some y := ⟨_, List.getElem?_eq_getElem h⟩
theorem drop_at {α : Type} {xs : List α} {j : Nat} {y : α} (h : xs[j]? = some y) : xs.drop j = y :: xs.drop (j + 1) := by
  obtain ⟨hi, e⟩ := List.getElem?_eq_some_iff.1 h
  subst e; exact List.drop_eq_getElem_cons hi
theorem take_at {α : Type} {xs : List α} {j : Nat} {y : α} (h : xs[j]? = some y) : xs.take (j + 1) = xs.take j ++ [y] := by
  obtain ⟨hi, e⟩ := List.getElem?_eq_some_iff.1 h
  subst e; exact List.take_succ_eq_append_getElem hi
/-! ### a clash -/
def clashG (sp : Int → Int) (x : Sy) : List Sy → Bool → Int
  | [], t => if t then 12 else 0
  | y :: l, t => if sp y.kind ≠ sp x.kind ∨ y.name ≠ x.name then clashG sp x l t else if y.kind ≠ x.kind then 13 else clashG sp x l (t || (!x.req && !y.req))
def clashP (sp : Int → Int) (l : List Sy) (x : Sy) : Int := clashG sp x l (!x.req && isObj x.kind x.name)
theorem clash_end {sp : Int → Int} {x : Sy} {l : List Sy} {j : Nat} {t : Bool} {R : Int} (h : Hid (clashG sp x (l.drop j) t = R)) (hj : l.length ≤ j) : (if t then 12 else 0) = R := by
  have := h.out
  rw [List.drop_of_length_le hj] at this
  exact this
theorem clash_step {sp : Int → Int} {x y : Sy} {l : List Sy} {j : Nat} {t : Bool} {R : Int} (h : Hid (clashG sp x (l.drop j) t = R)) (hy : l[j]? = some y) :
    Hid ((if sp y.kind ≠ sp x.kind ∨ y.name ≠ x.name then clashG sp x (l.drop (j + 1)) t else if y.kind ≠ x.kind then 13 else clashG sp x (l.drop (j + 1)) (t || (!x.req && !y.req))) = R) := by
  have := h.out
  rw [drop_at hy] at this
  exact this
theorem ipost {n m : Int} {w w' : World} (h : n = m) (hx : Ext w w') : IPost m w (.returned (.int .i64 n)) w' := by subst h; exact ⟨rfl, hx⟩
set_option maxHeartbeats 4000000 in
set_option maxRecDepth 100000 in
theorem clash_any {w : World} {a : Option Addr} {n c : Nat} {l : List Sy} (hl : Syms w (.slice a n c) l) (x : Sy) :
    Calls Try.prog 22 #[.slice a n c, .agg (syC x).toArray] w (IPost (clashP spC l x) w) := by
  obtain ⟨rfl, n2⟩ := hl.lens
  obtain ⟨R, hR⟩ : ∃ R, clashP spC l x = R := ⟨_, rfl⟩
  rw [hR]
  unfold clashP at hR
  obtain ⟨t0, ht0⟩ : ∃ t, (!x.req && isObj x.kind x.name) = t := ⟨_, rfl⟩
  rw [ht0] at hR
  have HR := Lib.hid hR
  clear hR
  have hx0 : x.req = true ∨ x.req = false := by cases x.req <;> simp
  obtain ⟨io, hio⟩ : ∃ io, isObj x.kind x.name = io := ⟨_, rfl⟩
  rw [hio] at ht0
  go_enter Try.func22, Try.ntmps22
  have E := Only.refl [] w
  rcases hx0 with hx0 | hx0
  all_goals
    rw [hx0] at ht0
    simp only [Bool.not_true, Bool.not_false, Bool.false_and, Bool.true_and] at ht0
    subst ht0
    go_upto_region 3 with (first | ((with_reducible refine at_dst 3 ?_); go_simp; (generalize hX3 : Array.size (World.heap _) = X3); refine new_block hX3 ?_; intro wn bb hx; (try (have n7_3 := (b7.ne hX3).1; have n3_7 := (b7.ne hX3).2)); (try (have z3 := Nat.le_trans E.size (Nat.le_of_eq hX3))); have b3 := Loc.new bb E hX3; clear bb hX3; (try replace E := E.ext hx); (try replace b7 := b7.ext hx); (try (clear hcE hfE)); (try (have hcf := bcell E.low; obtain ⟨hcE, hfE⟩ := hcf)); (try (clear c3 f3)); (try (have c3 := b3.cell; have f3 := b3.free)); (try (clear c7 f7)); (try (have c7 := b7.cell; have f7 := b7.free))) | ((with_reducible refine at_dst 16 ?_); go_simp; ((with_reducible refine (objRole_any _ _ _).mono ?_)); unfold BPost; rintro e wn ⟨rfl, hx⟩; (try replace E := E.ext hx); (try replace b3 := b3.ext hx); (try replace b7 := b7.ext hx); (try (clear hcE hfE)); (try (have hcf := bcell E.low; obtain ⟨hcE, hfE⟩ := hcf)); (try (clear c3 f3)); (try (have c3 := b3.cell; have f3 := b3.free)); (try (clear c7 f7)); (try (have c7 := b7.cell; have f7 := b7.free))))
    go_loopw [5, 20] (fun v i wr => ∃ (j : Nat) (t : Bool), i = .int .i64 j ∧ j ≤ l.length ∧ v = .bool t ∧ Hid (clashG spC x (l.drop j) t = R) ∧ Only [] w wr ∧ Loc [] w wr X3 57 (syC x).toArray) (fun _ i _ => l.length - (intOf i).toNat)
    case atStart => exact ⟨0, _, rfl, Nat.zero_le _, rfl, HR, E, b3⟩
    case round =>
      clear HR E b3 c3 f3 hcE hfE
      obtain ⟨j, t, rfl, hj, rfl, HR, E, b3⟩ := hrel
      have c3 := b3.cell
      have f3 := b3.free
      obtain ⟨hcE, hfE⟩ := bcell E.low
      by_cases hlt : j < l.length
      · obtain ⟨y, hy⟩ := at_some hlt
        have HY := Lib.hid hy
        obtain ⟨g, o, rfl, hg, -⟩ := hl.at hy
        have HS := clash_step HR hy
        clear hy HR
        by_cases h1 : spC y.kind = spC x.kind
        · obtain ⟨g1, g2⟩ := kd_t h1
          have H1 := Lib.hid h1
          clear h1
          by_cases h2 : y.name = x.name
          · have g3 := txt_t h2
            have H2 := Lib.hid h2
            clear h2
            by_cases h3 : y.kind = x.kind
            · obtain ⟨g4, g5⟩ := kd_t h3
              have HS2 := HS.out
              rw [if_neg (by rintro (h | h); exact h H1.out; exact h H2.out), if_neg (by simp [h3])] at HS2
              have H3 := Lib.hid h3
              have hyr : y.req = true ∨ y.req = false := by cases y.req <;> simp
              have htb : t = true ∨ t = false := by cases t <;> simp
              have HQ := Lib.hid HS2
              clear h3 HS2
              go_upto_region 8 with (first | ((with_reducible refine at_dst 23 ?_); (refine wp_rec2 ((hl.row.ext E.low)) (HY.out) syC_len rfl rfl ?_ ?_ ?_); (· kernel_rfl); (· kernel_rfl)) | ((with_reducible refine at_dst 7 ?_); go_simp; (generalize hX7 : Array.size (World.heap _) = X7); refine new_block hX7 ?_; intro wn bb hx; (try (have n3_7 := (b3.ne hX7).1; have n7_3 := (b3.ne hX7).2)); (try (have z7 := Nat.le_trans E.size (Nat.le_of_eq hX7))); have b7 := Loc.new bb E hX7; clear bb hX7; (try replace E := E.ext hx); (try replace b3 := b3.ext hx); (try (clear hcE hfE)); (try (have hcf := bcell E.low; obtain ⟨hcE, hfE⟩ := hcf)); (try (clear c3 f3)); (try (have c3 := b3.cell; have f3 := b3.free)); (try (clear c7 f7)); (try (have c7 := b7.cell; have f7 := b7.free))) | ((with_reducible refine at_dst 26 ?_); go_simp; ((with_reducible refine (space_any _ _).mono ?_)); unfold IPost; rintro e wn ⟨rfl, hx⟩; (try replace E := E.ext hx); (try replace b3 := b3.ext hx); (try replace b7 := b7.ext hx); (try (clear hcE hfE)); (try (have hcf := bcell E.low; obtain ⟨hcE, hfE⟩ := hcf)); (try (clear c3 f3)); (try (have c3 := b3.cell; have f3 := b3.free)); (try (clear c7 f7)); (try (have c7 := b7.cell; have f7 := b7.free))) | ((with_reducible refine at_dst 29 ?_); go_simp; ((with_reducible refine (space_any _ _).mono ?_)); unfold IPost; rintro e wn ⟨rfl, hx⟩; (try replace E := E.ext hx); (try replace b3 := b3.ext hx); (try replace b7 := b7.ext hx); (try (clear hcE hfE)); (try (have hcf := bcell E.low; obtain ⟨hcE, hfE⟩ := hcf)); (try (clear c3 f3)); (try (have c3 := b3.cell; have f3 := b3.free)); (try (clear c7 f7)); (try (have c7 := b7.cell; have f7 := b7.free))) | ((with_reducible refine at_store 7 ?_); (refine wp_put b7 rfl rfl ?_ ?_ ?_ ?_; (· kernel_rfl); (· first | rfl | kernel_rfl); (· first | decide | exact Nat.le_refl _ | simp [Act.eval, Value.cells] | (simp [Act.eval, Act.put, Value.cells]; done)); intro wn bn hb; have E2 := E.put b7 hb; (try replace b3 := b3.but hb n3_7); clear E b7; have E := E2; clear E2; have b7 := bn; clear bn hb; dsimp only [Act.put]; simp only [putA, Act.eval, Array.getD_eq_getD_getElem?, List.getElem?_toArray, List.getElem?_cons_succ, List.getElem?_cons_zero, Option.getD_some, Value.cells, List.toList_toArray, List.size_toArray, List.length_cons, List.length_nil, Nat.reduceAdd, List.take_succ_cons, List.take_zero, List.drop_succ_cons, List.drop_zero, List.drop_nil, List.cons_append, List.nil_append, List.append_nil, syC_size, stC_size, exC_size, nsC_size, lvC_size, rgC_size, cxC_size, spanC_size] at b7; (try (clear hcE hfE)); (try (have hcf := bcell E.low; obtain ⟨hcE, hfE⟩ := hcf)); (try (clear c3 f3)); (try (have c3 := b3.cell; have f3 := b3.free)); (try (clear c7 f7)); (try (have c7 := b7.cell; have f7 := b7.free)))) | ((with_reducible refine at_reg 5 ?_); (refine wp_region_s (id := 5) [2, 2, 2, 2, 3, 3, 2, 0, 2, 2, 2, 2, 2, 2] [0, 1, 3, 4, 2, 5, 6, 7, 8, 9, 10, 11, 12, 13] mixed ?_ ?_); (· decide +kernel); intro K hK wn hx; (try replace E := E.ext hx); (try replace b3 := b3.ext hx); (try replace b7 := b7.ext hx); (try (clear hcE hfE)); (try (have hcf := bcell E.low; obtain ⟨hcE, hfE⟩ := hcf)); (try (clear c3 f3)); (try (have c3 := b3.cell; have f3 := b3.free)); (try (clear c7 f7)); (try (have c7 := b7.cell; have f7 := b7.free)); dsimp only [pickL, List.getElem?_cons_succ, List.getElem?_cons_zero]) | ((with_reducible refine at_tag 0 ?_); (first | ((with_reducible refine wpTag_q ?_ ?_ ?_); rfl; rfl; intro _ _) | ((with_reducible refine wpTag_w ?_ ?_ ?_); rfl; rfl; intro _ _) | ((with_reducible refine wpTag_no ?_ ?_); (· first | rfl | (go_simp; done))) | ((with_reducible refine wpTag_s ?_ ?_); rfl; intro _ _; go_simp))) | ((with_reducible refine at_tag 2 ?_); (first | ((with_reducible refine wpTag_no ?_ ?_); (· first | rfl | (go_simp; done))) | (apply wpTag_2; (· rfl); (· first | rfl | go_simp); (· intro wq hq; (try (clear hcE hfE)); (try (have hcf := bcell (E.ext hq).low; obtain ⟨hcE, hfE⟩ := hcf)); (try (clear c3 f3)); (try (have c3 := (b3.ext hq).cell; have f3 := (b3.ext hq).free)); (try (clear c7 f7)); (try (have c7 := (b7.ext hq).cell; have f7 := (b7.ext hq).free)); go_simp <;> rfl); (try simp only [Act.put, List.setIfInBounds_toArray, List.set_cons_zero, List.set_cons_succ])))) | ((with_reducible refine at_tag 3 ?_); (first | ((with_reducible refine wpTag_no ?_ ?_); (· first | rfl | (go_simp; done))) | ((refine wpTag_3 ?_ ?_ (fun K2 hK2 => ?_)); (· rfl); (· first | rfl | go_simp)))) | ((with_reducible refine at_and ?_ ?_); (· first | exact hx | exact Ext.refl _)) | ((with_reducible refine at_tagn ?_); (with_reducible refine wpTag_nil ?_)))
              rcases hyr with hyr | hyr <;> rcases htb with rfl | rfl
              all_goals
                have HS2 := HQ.out
                rw [hx0, hyr] at HS2
                clear HQ
                have HQ := Lib.hid HS2
                clear HS2
                go_upto_region 9999 with (first | fail)
                go_roundw
                case rel => exact ⟨j + 1, _, by go_num, by omega, rfl, HQ, E, b3⟩
                case measure => simp [intOf]; omega
            · obtain ⟨g4, g5⟩ := kd_f h3
              have HS2 := HS.out
              rw [if_neg (by rintro (h | h); exact h H1.out; exact h H2.out), if_pos h3] at HS2
              have HQ := Lib.hid HS2
              have H3 := Lib.hid h3
              clear h3 HS2
              go_upto_region 9999 with (first | ((with_reducible refine at_dst 23 ?_); (refine wp_rec2 ((hl.row.ext E.low)) (HY.out) syC_len rfl rfl ?_ ?_ ?_); (· kernel_rfl); (· kernel_rfl)) | ((with_reducible refine at_dst 7 ?_); go_simp; (generalize hX7 : Array.size (World.heap _) = X7); refine new_block hX7 ?_; intro wn bb hx; (try (have n3_7 := (b3.ne hX7).1; have n7_3 := (b3.ne hX7).2)); (try (have z7 := Nat.le_trans E.size (Nat.le_of_eq hX7))); have b7 := Loc.new bb E hX7; clear bb hX7; (try replace E := E.ext hx); (try replace b3 := b3.ext hx); (try (clear hcE hfE)); (try (have hcf := bcell E.low; obtain ⟨hcE, hfE⟩ := hcf)); (try (clear c3 f3)); (try (have c3 := b3.cell; have f3 := b3.free)); (try (clear c7 f7)); (try (have c7 := b7.cell; have f7 := b7.free))) | ((with_reducible refine at_dst 26 ?_); go_simp; ((with_reducible refine (space_any _ _).mono ?_)); unfold IPost; rintro e wn ⟨rfl, hx⟩; (try replace E := E.ext hx); (try replace b3 := b3.ext hx); (try replace b7 := b7.ext hx); (try (clear hcE hfE)); (try (have hcf := bcell E.low; obtain ⟨hcE, hfE⟩ := hcf)); (try (clear c3 f3)); (try (have c3 := b3.cell; have f3 := b3.free)); (try (clear c7 f7)); (try (have c7 := b7.cell; have f7 := b7.free))) | ((with_reducible refine at_dst 29 ?_); go_simp; ((with_reducible refine (space_any _ _).mono ?_)); unfold IPost; rintro e wn ⟨rfl, hx⟩; (try replace E := E.ext hx); (try replace b3 := b3.ext hx); (try replace b7 := b7.ext hx); (try (clear hcE hfE)); (try (have hcf := bcell E.low; obtain ⟨hcE, hfE⟩ := hcf)); (try (clear c3 f3)); (try (have c3 := b3.cell; have f3 := b3.free)); (try (clear c7 f7)); (try (have c7 := b7.cell; have f7 := b7.free))) | ((with_reducible refine at_store 7 ?_); (refine wp_put b7 rfl rfl ?_ ?_ ?_ ?_; (· kernel_rfl); (· first | rfl | kernel_rfl); (· first | decide | exact Nat.le_refl _ | simp [Act.eval, Value.cells] | (simp [Act.eval, Act.put, Value.cells]; done)); intro wn bn hb; have E2 := E.put b7 hb; (try replace b3 := b3.but hb n3_7); clear E b7; have E := E2; clear E2; have b7 := bn; clear bn hb; dsimp only [Act.put]; simp only [putA, Act.eval, Array.getD_eq_getD_getElem?, List.getElem?_toArray, List.getElem?_cons_succ, List.getElem?_cons_zero, Option.getD_some, Value.cells, List.toList_toArray, List.size_toArray, List.length_cons, List.length_nil, Nat.reduceAdd, List.take_succ_cons, List.take_zero, List.drop_succ_cons, List.drop_zero, List.drop_nil, List.cons_append, List.nil_append, List.append_nil, syC_size, stC_size, exC_size, nsC_size, lvC_size, rgC_size, cxC_size, spanC_size] at b7; (try (clear hcE hfE)); (try (have hcf := bcell E.low; obtain ⟨hcE, hfE⟩ := hcf)); (try (clear c3 f3)); (try (have c3 := b3.cell; have f3 := b3.free)); (try (clear c7 f7)); (try (have c7 := b7.cell; have f7 := b7.free)))) | ((with_reducible refine at_reg 5 ?_); (refine wp_region_s (id := 5) [2, 2, 2, 2, 3, 3, 2, 0, 2, 2, 2, 2, 2, 2] [0, 1, 3, 4, 2, 5, 6, 7, 8, 9, 10, 11, 12, 13] mixed ?_ ?_); (· decide +kernel); intro K hK wn hx; (try replace E := E.ext hx); (try replace b3 := b3.ext hx); (try replace b7 := b7.ext hx); (try (clear hcE hfE)); (try (have hcf := bcell E.low; obtain ⟨hcE, hfE⟩ := hcf)); (try (clear c3 f3)); (try (have c3 := b3.cell; have f3 := b3.free)); (try (clear c7 f7)); (try (have c7 := b7.cell; have f7 := b7.free)); dsimp only [pickL, List.getElem?_cons_succ, List.getElem?_cons_zero]) | ((with_reducible refine at_tag 0 ?_); (first | ((with_reducible refine wpTag_q ?_ ?_ ?_); rfl; rfl; intro _ _) | ((with_reducible refine wpTag_w ?_ ?_ ?_); rfl; rfl; intro _ _) | ((with_reducible refine wpTag_no ?_ ?_); (· first | rfl | (go_simp; done))) | ((with_reducible refine wpTag_s ?_ ?_); rfl; intro _ _; go_simp))) | ((with_reducible refine at_tag 2 ?_); (first | ((with_reducible refine wpTag_no ?_ ?_); (· first | rfl | (go_simp; done))) | (apply wpTag_2; (· rfl); (· first | rfl | go_simp); (· intro wq hq; (try (clear hcE hfE)); (try (have hcf := bcell (E.ext hq).low; obtain ⟨hcE, hfE⟩ := hcf)); (try (clear c3 f3)); (try (have c3 := (b3.ext hq).cell; have f3 := (b3.ext hq).free)); (try (clear c7 f7)); (try (have c7 := (b7.ext hq).cell; have f7 := (b7.ext hq).free)); go_simp <;> rfl); (try simp only [Act.put, List.setIfInBounds_toArray, List.set_cons_zero, List.set_cons_succ])))) | ((with_reducible refine at_tag 3 ?_); (first | ((with_reducible refine wpTag_no ?_ ?_); (· first | rfl | (go_simp; done))) | ((refine wpTag_3 ?_ ?_ (fun K2 hK2 => ?_)); (· rfl); (· first | rfl | go_simp)))) | ((with_reducible refine at_and ?_ ?_); (· first | exact hx | exact Ext.refl _)) | ((with_reducible refine at_tagn ?_); (with_reducible refine wpTag_nil ?_)))
              go_ret
              exact ipost HQ.out E.low
          · have g3 := txt_f h2
            have HQ := Lib.hid (show clashG spC x (l.drop (j + 1)) t = R by rw [← HS.out, if_pos (.inr h2)])
            clear h2
            go_upto_region 9999 with (first | ((with_reducible refine at_dst 23 ?_); (refine wp_rec2 ((hl.row.ext E.low)) (HY.out) syC_len rfl rfl ?_ ?_ ?_); (· kernel_rfl); (· kernel_rfl)) | ((with_reducible refine at_dst 7 ?_); go_simp; (generalize hX7 : Array.size (World.heap _) = X7); refine new_block hX7 ?_; intro wn bb hx; (try (have n3_7 := (b3.ne hX7).1; have n7_3 := (b3.ne hX7).2)); (try (have z7 := Nat.le_trans E.size (Nat.le_of_eq hX7))); have b7 := Loc.new bb E hX7; clear bb hX7; (try replace E := E.ext hx); (try replace b3 := b3.ext hx); (try (clear hcE hfE)); (try (have hcf := bcell E.low; obtain ⟨hcE, hfE⟩ := hcf)); (try (clear c3 f3)); (try (have c3 := b3.cell; have f3 := b3.free)); (try (clear c7 f7)); (try (have c7 := b7.cell; have f7 := b7.free))) | ((with_reducible refine at_dst 26 ?_); go_simp; ((with_reducible refine (space_any _ _).mono ?_)); unfold IPost; rintro e wn ⟨rfl, hx⟩; (try replace E := E.ext hx); (try replace b3 := b3.ext hx); (try replace b7 := b7.ext hx); (try (clear hcE hfE)); (try (have hcf := bcell E.low; obtain ⟨hcE, hfE⟩ := hcf)); (try (clear c3 f3)); (try (have c3 := b3.cell; have f3 := b3.free)); (try (clear c7 f7)); (try (have c7 := b7.cell; have f7 := b7.free))) | ((with_reducible refine at_dst 29 ?_); go_simp; ((with_reducible refine (space_any _ _).mono ?_)); unfold IPost; rintro e wn ⟨rfl, hx⟩; (try replace E := E.ext hx); (try replace b3 := b3.ext hx); (try replace b7 := b7.ext hx); (try (clear hcE hfE)); (try (have hcf := bcell E.low; obtain ⟨hcE, hfE⟩ := hcf)); (try (clear c3 f3)); (try (have c3 := b3.cell; have f3 := b3.free)); (try (clear c7 f7)); (try (have c7 := b7.cell; have f7 := b7.free))) | ((with_reducible refine at_store 7 ?_); (refine wp_put b7 rfl rfl ?_ ?_ ?_ ?_; (· kernel_rfl); (· first | rfl | kernel_rfl); (· first | decide | exact Nat.le_refl _ | simp [Act.eval, Value.cells] | (simp [Act.eval, Act.put, Value.cells]; done)); intro wn bn hb; have E2 := E.put b7 hb; (try replace b3 := b3.but hb n3_7); clear E b7; have E := E2; clear E2; have b7 := bn; clear bn hb; dsimp only [Act.put]; simp only [putA, Act.eval, Array.getD_eq_getD_getElem?, List.getElem?_toArray, List.getElem?_cons_succ, List.getElem?_cons_zero, Option.getD_some, Value.cells, List.toList_toArray, List.size_toArray, List.length_cons, List.length_nil, Nat.reduceAdd, List.take_succ_cons, List.take_zero, List.drop_succ_cons, List.drop_zero, List.drop_nil, List.cons_append, List.nil_append, List.append_nil, syC_size, stC_size, exC_size, nsC_size, lvC_size, rgC_size, cxC_size, spanC_size] at b7; (try (clear hcE hfE)); (try (have hcf := bcell E.low; obtain ⟨hcE, hfE⟩ := hcf)); (try (clear c3 f3)); (try (have c3 := b3.cell; have f3 := b3.free)); (try (clear c7 f7)); (try (have c7 := b7.cell; have f7 := b7.free)))) | ((with_reducible refine at_reg 5 ?_); (refine wp_region_s (id := 5) [2, 2, 2, 2, 3, 3, 2, 0, 2, 2, 2, 2, 2, 2] [0, 1, 3, 4, 2, 5, 6, 7, 8, 9, 10, 11, 12, 13] mixed ?_ ?_); (· decide +kernel); intro K hK wn hx; (try replace E := E.ext hx); (try replace b3 := b3.ext hx); (try replace b7 := b7.ext hx); (try (clear hcE hfE)); (try (have hcf := bcell E.low; obtain ⟨hcE, hfE⟩ := hcf)); (try (clear c3 f3)); (try (have c3 := b3.cell; have f3 := b3.free)); (try (clear c7 f7)); (try (have c7 := b7.cell; have f7 := b7.free)); dsimp only [pickL, List.getElem?_cons_succ, List.getElem?_cons_zero]) | ((with_reducible refine at_tag 0 ?_); (first | ((with_reducible refine wpTag_q ?_ ?_ ?_); rfl; rfl; intro _ _) | ((with_reducible refine wpTag_w ?_ ?_ ?_); rfl; rfl; intro _ _) | ((with_reducible refine wpTag_no ?_ ?_); (· first | rfl | (go_simp; done))) | ((with_reducible refine wpTag_s ?_ ?_); rfl; intro _ _; go_simp))) | ((with_reducible refine at_tag 2 ?_); (first | ((with_reducible refine wpTag_no ?_ ?_); (· first | rfl | (go_simp; done))) | (apply wpTag_2; (· rfl); (· first | rfl | go_simp); (· intro wq hq; (try (clear hcE hfE)); (try (have hcf := bcell (E.ext hq).low; obtain ⟨hcE, hfE⟩ := hcf)); (try (clear c3 f3)); (try (have c3 := (b3.ext hq).cell; have f3 := (b3.ext hq).free)); (try (clear c7 f7)); (try (have c7 := (b7.ext hq).cell; have f7 := (b7.ext hq).free)); go_simp <;> rfl); (try simp only [Act.put, List.setIfInBounds_toArray, List.set_cons_zero, List.set_cons_succ])))) | ((with_reducible refine at_tag 3 ?_); (first | ((with_reducible refine wpTag_no ?_ ?_); (· first | rfl | (go_simp; done))) | ((refine wpTag_3 ?_ ?_ (fun K2 hK2 => ?_)); (· rfl); (· first | rfl | go_simp)))) | ((with_reducible refine at_and ?_ ?_); (· first | exact hx | exact Ext.refl _)) | ((with_reducible refine at_tagn ?_); (with_reducible refine wpTag_nil ?_)))
            go_roundw
            case rel => exact ⟨j + 1, t, by go_num, by omega, rfl, HQ, E, b3⟩
            case measure => simp [intOf]; omega
        · obtain ⟨g1, g2⟩ := kd_f h1
          have HQ := Lib.hid (show clashG spC x (l.drop (j + 1)) t = R by rw [← HS.out, if_pos (.inl h1)])
          clear h1
          go_upto_region 9999 with (first | ((with_reducible refine at_dst 23 ?_); (refine wp_rec2 ((hl.row.ext E.low)) (HY.out) syC_len rfl rfl ?_ ?_ ?_); (· kernel_rfl); (· kernel_rfl)) | ((with_reducible refine at_dst 7 ?_); go_simp; (generalize hX7 : Array.size (World.heap _) = X7); refine new_block hX7 ?_; intro wn bb hx; (try (have n3_7 := (b3.ne hX7).1; have n7_3 := (b3.ne hX7).2)); (try (have z7 := Nat.le_trans E.size (Nat.le_of_eq hX7))); have b7 := Loc.new bb E hX7; clear bb hX7; (try replace E := E.ext hx); (try replace b3 := b3.ext hx); (try (clear hcE hfE)); (try (have hcf := bcell E.low; obtain ⟨hcE, hfE⟩ := hcf)); (try (clear c3 f3)); (try (have c3 := b3.cell; have f3 := b3.free)); (try (clear c7 f7)); (try (have c7 := b7.cell; have f7 := b7.free))) | ((with_reducible refine at_dst 26 ?_); go_simp; ((with_reducible refine (space_any _ _).mono ?_)); unfold IPost; rintro e wn ⟨rfl, hx⟩; (try replace E := E.ext hx); (try replace b3 := b3.ext hx); (try replace b7 := b7.ext hx); (try (clear hcE hfE)); (try (have hcf := bcell E.low; obtain ⟨hcE, hfE⟩ := hcf)); (try (clear c3 f3)); (try (have c3 := b3.cell; have f3 := b3.free)); (try (clear c7 f7)); (try (have c7 := b7.cell; have f7 := b7.free))) | ((with_reducible refine at_dst 29 ?_); go_simp; ((with_reducible refine (space_any _ _).mono ?_)); unfold IPost; rintro e wn ⟨rfl, hx⟩; (try replace E := E.ext hx); (try replace b3 := b3.ext hx); (try replace b7 := b7.ext hx); (try (clear hcE hfE)); (try (have hcf := bcell E.low; obtain ⟨hcE, hfE⟩ := hcf)); (try (clear c3 f3)); (try (have c3 := b3.cell; have f3 := b3.free)); (try (clear c7 f7)); (try (have c7 := b7.cell; have f7 := b7.free))) | ((with_reducible refine at_store 7 ?_); (refine wp_put b7 rfl rfl ?_ ?_ ?_ ?_; (· kernel_rfl); (· first | rfl | kernel_rfl); (· first | decide | exact Nat.le_refl _ | simp [Act.eval, Value.cells] | (simp [Act.eval, Act.put, Value.cells]; done)); intro wn bn hb; have E2 := E.put b7 hb; (try replace b3 := b3.but hb n3_7); clear E b7; have E := E2; clear E2; have b7 := bn; clear bn hb; dsimp only [Act.put]; simp only [putA, Act.eval, Array.getD_eq_getD_getElem?, List.getElem?_toArray, List.getElem?_cons_succ, List.getElem?_cons_zero, Option.getD_some, Value.cells, List.toList_toArray, List.size_toArray, List.length_cons, List.length_nil, Nat.reduceAdd, List.take_succ_cons, List.take_zero, List.drop_succ_cons, List.drop_zero, List.drop_nil, List.cons_append, List.nil_append, List.append_nil, syC_size, stC_size, exC_size, nsC_size, lvC_size, rgC_size, cxC_size, spanC_size] at b7; (try (clear hcE hfE)); (try (have hcf := bcell E.low; obtain ⟨hcE, hfE⟩ := hcf)); (try (clear c3 f3)); (try (have c3 := b3.cell; have f3 := b3.free)); (try (clear c7 f7)); (try (have c7 := b7.cell; have f7 := b7.free)))) | ((with_reducible refine at_reg 5 ?_); (refine wp_region_s (id := 5) [2, 2, 2, 2, 3, 3, 2, 0, 2, 2, 2, 2, 2, 2] [0, 1, 3, 4, 2, 5, 6, 7, 8, 9, 10, 11, 12, 13] mixed ?_ ?_); (· decide +kernel); intro K hK wn hx; (try replace E := E.ext hx); (try replace b3 := b3.ext hx); (try replace b7 := b7.ext hx); (try (clear hcE hfE)); (try (have hcf := bcell E.low; obtain ⟨hcE, hfE⟩ := hcf)); (try (clear c3 f3)); (try (have c3 := b3.cell; have f3 := b3.free)); (try (clear c7 f7)); (try (have c7 := b7.cell; have f7 := b7.free)); dsimp only [pickL, List.getElem?_cons_succ, List.getElem?_cons_zero]) | ((with_reducible refine at_tag 0 ?_); (first | ((with_reducible refine wpTag_q ?_ ?_ ?_); rfl; rfl; intro _ _) | ((with_reducible refine wpTag_w ?_ ?_ ?_); rfl; rfl; intro _ _) | ((with_reducible refine wpTag_no ?_ ?_); (· first | rfl | (go_simp; done))) | ((with_reducible refine wpTag_s ?_ ?_); rfl; intro _ _; go_simp))) | ((with_reducible refine at_tag 2 ?_); (first | ((with_reducible refine wpTag_no ?_ ?_); (· first | rfl | (go_simp; done))) | (apply wpTag_2; (· rfl); (· first | rfl | go_simp); (· intro wq hq; (try (clear hcE hfE)); (try (have hcf := bcell (E.ext hq).low; obtain ⟨hcE, hfE⟩ := hcf)); (try (clear c3 f3)); (try (have c3 := (b3.ext hq).cell; have f3 := (b3.ext hq).free)); (try (clear c7 f7)); (try (have c7 := (b7.ext hq).cell; have f7 := (b7.ext hq).free)); go_simp <;> rfl); (try simp only [Act.put, List.setIfInBounds_toArray, List.set_cons_zero, List.set_cons_succ])))) | ((with_reducible refine at_tag 3 ?_); (first | ((with_reducible refine wpTag_no ?_ ?_); (· first | rfl | (go_simp; done))) | ((refine wpTag_3 ?_ ?_ (fun K2 hK2 => ?_)); (· rfl); (· first | rfl | go_simp)))) | ((with_reducible refine at_and ?_ ?_); (· first | exact hx | exact Ext.refl _)) | ((with_reducible refine at_tagn ?_); (with_reducible refine wpTag_nil ?_)))
          go_roundw
          case rel => exact ⟨j + 1, t, by go_num, by omega, rfl, HQ, E, b3⟩
          case measure => simp [intOf]; omega
      · have HE := Lib.hid (clash_end HR (by omega))
        have htb : t = true ∨ t = false := by cases t <;> simp
        rcases htb with rfl | rfl
        all_goals
          go_upto_region 9999 with (first | fail)
          go_ret
          exact ipost HE.out E.low
end Go.Proofs.Ytnifgkgdphlleaa
