/- The uses of the program: levels, ranges, contexts, expressions. -/
import Derived.Test.YtnifgkgdphlleaaVb
set_option linter.unusedSimpArgs false
set_option linter.unusedVariables false
namespace Go.Proofs.Ytnifgkgdphlleaa
open Go.RowKit Tk
theorem RRow.lens {α : Type} {k : Nat} {f : α → List Value} {w : World} {a : Option Addr} {n c : Nat} {xs : List α} (h : RRow w k f (.slice a n c) xs) : n = xs.length ∧ xs.length ≤ 9223372036854775807 := by
  obtain ⟨ao, cap, e, h1, h2⟩ := RRow.len h
  injection e with e1 e2 e3
  unfold maxLen at h2
  exact ⟨e2, by omega⟩
def catEv (p : Int × Int) (l : List (ByteArray × ByteArray)) : List Ev := l.flatMap (evCat p)
theorem cat_take {p : Int × Int} {l : List (ByteArray × ByteArray)} {j : Nat} {y : ByteArray × ByteArray} (h : l[j]? = some y) (U : List PS) : adds U (catEv p (l.take (j + 1))) = addU (addU (adds U (catEv p (l.take j))) ⟨p, 8, y.1, []⟩) ⟨p, 8, y.2, []⟩ := by
  rw [take_at h]; unfold catEv; rw [List.flatMap_append, adds_app]; rfl
theorem cat_wt (p : Int × Int) (l : List (ByteArray × ByteArray)) : wtE (catEv p l) = 2 * l.length := by
  induction l with
  | nil => rfl
  | cons x l ih =>
    have e : catEv p (x :: l) = evCat p x ++ catEv p l := rfl
    rw [e, wtE_app, ih, List.length_cons]
    have : wtE (evCat p x) = 2 := rfl
    omega
theorem wt_cat {U : List PS} {p : Int × Int} {l : List (ByteArray × ByteArray)} {j : Nat} {N : Nat} (h : j < l.length) (hw : wtU U + wtE (catEv p l) ≤ N) : wtU (adds U (catEv p (l.take j))) + 2 ≤ N := by
  have h1 := adds_wt (catEv p (l.take j)) U
  rw [cat_wt, List.length_take] at h1
  rw [cat_wt] at hw
  omega
theorem addU_w0 {U : List PS} {v : Ev} {N n : Nat} (h : wtU U + n ≤ N) (hv : 1 + v.perms.length ≤ n) : wtU (addU U v) + (n - (1 + v.perms.length)) ≤ N := by
  have := addU_wt U v; omega
set_option maxHeartbeats 2000000 in
set_option maxRecDepth 100000 in
theorem sulevel_any {w0 w : World} {b m : Nat} {U : List PS} {p : Int × Int} (hu : UAt w0 w b m U p) {l : Lvl} (hl : l.ok w0) (hw : wtU U + wtE (evLvl p l) ≤ 1900000000000) :
    Calls Try.prog 62 #[.pointer (some ⟨b, 0, none⟩), .agg (lvC l).toArray] w (UPost w0 b m (adds U (evLvl p l)) p w) := by
  have n2 := (RRow.lens hl.c).2
  have hw2 : wtU (addU U ⟨p, 7, l.sens, []⟩) + wtE (catEv p l.cats) ≤ 1900000000000 := by
    have := addU_wt U ⟨p, 7, l.sens, []⟩
    unfold evLvl at hw; rw [wtE_cons] at hw
    unfold catEv
    dsimp only [List.length_nil] at this hw
    omega
  go_enter Try.func62, Try.ntmps62
  have E := hu.only
  have FR : UFr b m w w := UFr.refl
  go_upto_region 3 with (first | ((with_reducible refine at_dst 3 ?_); go_simp; (generalize hX3 : Array.size (World.heap _) = X3); refine new_block hX3 ?_; intro wn bb hx; (try (have n5_3 := (b5.ne hX3).1; have n3_5 := (b5.ne hX3).2)); (try (have z3 := Nat.le_trans E.size (Nat.le_of_eq hX3))); (try (have mhu_3 := hu.notin (Nat.le_of_eq hX3))); (try (have mFR_3 := FR.notin (Nat.le_of_eq hX3))); have b3 := Loc.new bb E hX3; clear bb hX3; (try replace E := E.ext hx); (try replace b5 := b5.ext hx); (try replace hu := hu.ext hx); (try replace FR := FR.ext hx); (try (clear hcE hfE)); (try (have hcf := bcell E.low; obtain ⟨hcE, hfE⟩ := hcf)); (try (clear c3 f3)); (try (have c3 := b3.cell; have f3 := b3.free)); (try (clear c5 f5)); (try (have c5 := b5.cell; have f5 := b5.free))) | ((with_reducible refine at_dst 9 ?_); go_simp; ((with_reducible refine (suadd_any hu 7 l.sens (PR.nil w0 _) (by rw [List.length_nil]; unfold evLvl at hw; rw [wtE_cons] at hw; dsimp only [List.length_nil] at hw; omega)).mono ?_)); unfold UPost; rintro e wn ⟨rfl, hu2, hF⟩; (try replace b3 := hu.loc b3 hF (of_decide_eq_true rfl)); (try replace b5 := hu.loc b5 hF (of_decide_eq_true rfl)); replace FR := FR.trans hF; clear hu E hF; have hu := hu2; clear hu2; have E := hu.only; (try (clear hcE hfE)); (try (have hcf := bcell E.low; obtain ⟨hcE, hfE⟩ := hcf)); (try (clear c3 f3)); (try (have c3 := b3.cell; have f3 := b3.free)); (try (clear c5 f5)); (try (have c5 := b5.cell; have f5 := b5.free))))
  go_loopw [13] (fun i wr => ∃ j : Nat, i = .int .i64 j ∧ j ≤ l.cats.length ∧ UAt w0 wr b m (adds (addU U ⟨p, 7, l.sens, []⟩) (catEv p (l.cats.take j))) p ∧ UFr b m w wr ∧ Loc [] w0 wr X3 45 (lvC l).toArray) (fun i _ => l.cats.length - (intOf i).toNat)
  case atStart => exact ⟨0, rfl, Nat.zero_le _, hu, FR, b3⟩
  case round =>
    clear hu FR E b3 c3 f3
    obtain ⟨j, rfl, hj, hu, FR, b3⟩ := hrel
    have E := hu.only
    have c3 := b3.cell
    have f3 := b3.free
    obtain ⟨hcE, hfE⟩ := bcell E.low
    by_cases hlt : j < l.cats.length
    · obtain ⟨y, hy⟩ := at_some hlt
      obtain ⟨g, o, hgo, hg, -⟩ := RRow.cells hl.c hlt
      have hwc := wt_cat hlt hw2
      have HY := Lib.hid hy
      have hs := cat_take (p := p) hy (addU U ⟨p, 7, l.sens, []⟩)
      have HS := Lib.hid hs
      clear hy hs
      have hlc : RRow w0 2 spanC (.slice (some ⟨g, o, none⟩) l.cats.length l.hc.c) l.cats := hgo ▸ hl.c
      go_upto_region 9999 with (first | ((with_reducible refine at_dst 16 ?_); (refine wp_rec2 ((hlc.ext E.low)) (HY.out) spanC_len rfl rfl ?_ ?_ ?_); (· kernel_rfl); (· kernel_rfl)) | ((with_reducible refine at_dst 5 ?_); go_simp; (generalize hX5 : Array.size (World.heap _) = X5); refine new_block hX5 ?_; intro wn bb hx; (try (have n3_5 := (b3.ne hX5).1; have n5_3 := (b3.ne hX5).2)); (try (have z5 := Nat.le_trans E.size (Nat.le_of_eq hX5))); (try (have mhu_5 := hu.notin (Nat.le_of_eq hX5))); (try (have mFR_5 := FR.notin (Nat.le_of_eq hX5))); have b5 := Loc.new bb E hX5; clear bb hX5; (try replace E := E.ext hx); (try replace b3 := b3.ext hx); (try replace hu := hu.ext hx); (try replace FR := FR.ext hx); (try (clear hcE hfE)); (try (have hcf := bcell E.low; obtain ⟨hcE, hfE⟩ := hcf)); (try (clear c3 f3)); (try (have c3 := b3.cell; have f3 := b3.free)); (try (clear c5 f5)); (try (have c5 := b5.cell; have f5 := b5.free))) | ((with_reducible refine at_dst 20 ?_); go_simp; ((with_reducible refine (suadd_any hu 8 y.1 (PR.nil w0 _) (by rw [List.length_nil]; omega)).mono ?_)); unfold UPost; rintro e wn ⟨rfl, hu2, hF⟩; (try replace b3 := hu.loc b3 hF (of_decide_eq_true rfl)); (try replace b5 := hu.loc b5 hF (of_decide_eq_true rfl)); replace FR := FR.trans hF; clear hu E hF; have hu := hu2; clear hu2; have E := hu.only; (try (clear hcE hfE)); (try (have hcf := bcell E.low; obtain ⟨hcE, hfE⟩ := hcf)); (try (clear c3 f3)); (try (have c3 := b3.cell; have f3 := b3.free)); (try (clear c5 f5)); (try (have c5 := b5.cell; have f5 := b5.free))) | ((with_reducible refine at_dst 24 ?_); go_simp; ((with_reducible refine (suadd_any hu 8 y.2 (PR.nil w0 _) (by rw [List.length_nil]; have := addU_wt (adds (addU U ⟨p, 7, l.sens, []⟩) (catEv p (l.cats.take j))) ⟨p, 8, y.1, []⟩; dsimp only [List.length_nil] at this; omega)).mono ?_)); unfold UPost; rintro e wn ⟨rfl, hu2, hF⟩; (try replace b3 := hu.loc b3 hF (of_decide_eq_true rfl)); (try replace b5 := hu.loc b5 hF (of_decide_eq_true rfl)); replace FR := FR.trans hF; clear hu E hF; have hu := hu2; clear hu2; have E := hu.only; (try (clear hcE hfE)); (try (have hcf := bcell E.low; obtain ⟨hcE, hfE⟩ := hcf)); (try (clear c3 f3)); (try (have c3 := b3.cell; have f3 := b3.free)); (try (clear c5 f5)); (try (have c5 := b5.cell; have f5 := b5.free))) | ((with_reducible refine at_store 5 ?_); (refine wp_put b5 rfl rfl ?_ ?_ ?_ ?_; (· kernel_rfl); (· first | rfl | kernel_rfl); (· first | decide | exact Nat.le_refl _ | simp [Act.eval, Value.cells] | (simp [Act.eval, Act.put, Value.cells]; done)); intro wn bn hb; have E2 := E.put b5 hb; (try replace b3 := b3.but hb n3_5); (first | (replace hu := hu.but b5 hb (of_decide_eq_true rfl)) | (replace hu := hu.but0 hb mhu_5) | skip); (first | (replace FR := FR.but hb b5.blk (of_decide_eq_true rfl)) | (replace FR := FR.but0 hb mFR_5) | skip); clear E b5; have E := E2; clear E2; have b5 := bn; clear bn hb; dsimp only [Act.put]; simp only [putA, Act.eval, Array.getD_eq_getD_getElem?, List.getElem?_toArray, List.getElem?_cons_succ, List.getElem?_cons_zero, Option.getD_some, Value.cells, List.toList_toArray, List.size_toArray, List.length_cons, List.length_nil, Nat.reduceAdd, List.take_succ_cons, List.take_zero, List.drop_succ_cons, List.drop_zero, List.drop_nil, List.cons_append, List.nil_append, List.append_nil, syC_size, stC_size, exC_size, nsC_size, lvC_size, rgC_size, cxC_size, spanC_size] at b5; (try (clear hcE hfE)); (try (have hcf := bcell E.low; obtain ⟨hcE, hfE⟩ := hcf)); (try (clear c3 f3)); (try (have c3 := b3.cell; have f3 := b3.free)); (try (clear c5 f5)); (try (have c5 := b5.cell; have f5 := b5.free)))))
      simp only [← hgo]
      clear hgo
      go_roundw
      case rel => exact ⟨j + 1, by go_num, by omega, HS.out ▸ hu, FR, b3⟩
      case measure => simp [intOf]; omega
    · go_upto_region 9999 with (first | fail)
      refine bodyPost_ret (v := .tuple #[]) (by simp [results, Try.f62, go_sem]) rfl (upost hu (by rw [List.take_of_length_le (by omega)]; rfl) FR)
theorem wt_one {U : List PS} {v : Ev} {n N : Nat} (hw : wtU U + ((1 + v.perms.length) + n) ≤ N) : wtU (addU U v) + n ≤ N := by
  have := addU_wt U v; omega
set_option maxHeartbeats 2000000 in
set_option maxRecDepth 100000 in
theorem suspan_any {w0 w : World} {b m : Nat} {U : List PS} {p : Int × Int} (hu : UAt w0 w b m U p) {r : Rng} (hr : r.ok w0) (hw : wtU U + wtE (evRng p r) ≤ 1900000000000) :
    Calls Try.prog 63 #[.pointer (some ⟨b, 0, none⟩), .agg (rgC r).toArray] w (UPost w0 b m (adds U (evRng p r)) p w) := by
  go_enter Try.func63, Try.ntmps63
  have E := hu.only
  have FR : UFr b m w w := UFr.refl
  go_upto_region 9999 with (first | ((with_reducible refine at_dst 3 ?_); go_simp; (generalize hX3 : Array.size (World.heap _) = X3); refine new_block hX3 ?_; intro wn bb hx; (try (have z3 := Nat.le_trans E.size (Nat.le_of_eq hX3))); (try (have mhu_3 := hu.notin (Nat.le_of_eq hX3))); (try (have mFR_3 := FR.notin (Nat.le_of_eq hX3))); have b3 := Loc.new bb E hX3; clear bb hX3; (try replace E := E.ext hx); (try replace hu := hu.ext hx); (try replace FR := FR.ext hx); (try (clear hcE hfE)); (try (have hcf := bcell E.low; obtain ⟨hcE, hfE⟩ := hcf)); (try (clear c3 f3)); (try (have c3 := b3.cell; have f3 := b3.free))) | ((with_reducible refine at_dst 6 ?_); (refine wp_part (vs := (lvC (r).lo).toArray) b3.blk rfl rfl ?_ ?_ ?_ ?_); (· kernel_rfl); (· kernel_rfl); (· kernel_rfl)) | ((with_reducible refine at_dst 7 ?_); go_simp; ((with_reducible refine (sulevel_any hu hr.lo (by unfold evRng at hw; rw [wtE_app] at hw; omega)).mono ?_)); unfold UPost; rintro e wn ⟨rfl, hu2, hF⟩; (try replace b3 := hu.loc b3 hF (of_decide_eq_true rfl)); replace FR := FR.trans hF; clear hu E hF; have hu := hu2; clear hu2; have E := hu.only; (try (clear hcE hfE)); (try (have hcf := bcell E.low; obtain ⟨hcE, hfE⟩ := hcf)); (try (clear c3 f3)); (try (have c3 := b3.cell; have f3 := b3.free))) | ((with_reducible refine at_dst 10 ?_); (refine wp_part (vs := (lvC (r).hi).toArray) b3.blk rfl rfl ?_ ?_ ?_ ?_); (· kernel_rfl); (· kernel_rfl); (· kernel_rfl)) | ((with_reducible refine at_dst 11 ?_); go_simp; ((with_reducible refine (sulevel_any hu hr.hi (wt_adds (by unfold evRng at hw; rw [wtE_app] at hw; exact hw))).mono ?_)); unfold UPost; rintro e wn ⟨rfl, hu2, hF⟩; (try replace b3 := hu.loc b3 hF (of_decide_eq_true rfl)); replace FR := FR.trans hF; clear hu E hF; have hu := hu2; clear hu2; have E := hu.only; (try (clear hcE hfE)); (try (have hcf := bcell E.low; obtain ⟨hcE, hfE⟩ := hcf)); (try (clear c3 f3)); (try (have c3 := b3.cell; have f3 := b3.free))))
  refine bodyPost_ret (v := .tuple #[]) (by simp [results, Try.f63, go_sem]) rfl (upost hu (adds_app _ _ _).symm FR)
set_option maxHeartbeats 2000000 in
set_option maxRecDepth 100000 in
theorem sucontext_any {w0 w : World} {b m : Nat} {U : List PS} {p : Int × Int} (hu : UAt w0 w b m U p) {c : Ctx} (hc : c.rng.ok w0) (hw : wtU U + wtE (evCtx p c) ≤ 1900000000000) :
    Calls Try.prog 64 #[.pointer (some ⟨b, 0, none⟩), .agg (cxC c).toArray] w (UPost w0 b m (adds U (evCtx p c)) p w) := by
  go_enter Try.func64, Try.ntmps64
  have E := hu.only
  have FR : UFr b m w w := UFr.refl
  go_upto_region 9999 with (first | ((with_reducible refine at_dst 3 ?_); go_simp; (generalize hX3 : Array.size (World.heap _) = X3); refine new_block hX3 ?_; intro wn bb hx; (try (have z3 := Nat.le_trans E.size (Nat.le_of_eq hX3))); (try (have mhu_3 := hu.notin (Nat.le_of_eq hX3))); (try (have mFR_3 := FR.notin (Nat.le_of_eq hX3))); have b3 := Loc.new bb E hX3; clear bb hX3; (try replace E := E.ext hx); (try replace hu := hu.ext hx); (try replace FR := FR.ext hx); (try (clear hcE hfE)); (try (have hcf := bcell E.low; obtain ⟨hcE, hfE⟩ := hcf)); (try (clear c3 f3)); (try (have c3 := b3.cell; have f3 := b3.free))) | ((with_reducible refine at_dst 7 ?_); go_simp; ((with_reducible refine (suadd_any hu 5 c.user (PR.nil w0 _) (by unfold evCtx at hw; rw [wtE_cons] at hw; rw [List.length_nil] at hw ⊢; omega)).mono ?_)); unfold UPost; rintro e wn ⟨rfl, hu2, hF⟩; (try replace b3 := hu.loc b3 hF (of_decide_eq_true rfl)); replace FR := FR.trans hF; clear hu E hF; have hu := hu2; clear hu2; have E := hu.only; (try (clear hcE hfE)); (try (have hcf := bcell E.low; obtain ⟨hcE, hfE⟩ := hcf)); (try (clear c3 f3)); (try (have c3 := b3.cell; have f3 := b3.free))) | ((with_reducible refine at_dst 11 ?_); go_simp; ((with_reducible refine (suadd_any hu 4 c.role (PR.nil w0 _) (by unfold evCtx at hw; rw [wtE_cons, wtE_cons] at hw; have := wt_one hw; rw [List.length_nil] at this ⊢; omega)).mono ?_)); unfold UPost; rintro e wn ⟨rfl, hu2, hF⟩; (try replace b3 := hu.loc b3 hF (of_decide_eq_true rfl)); replace FR := FR.trans hF; clear hu E hF; have hu := hu2; clear hu2; have E := hu.only; (try (clear hcE hfE)); (try (have hcf := bcell E.low; obtain ⟨hcE, hfE⟩ := hcf)); (try (clear c3 f3)); (try (have c3 := b3.cell; have f3 := b3.free))) | ((with_reducible refine at_dst 15 ?_); go_simp; ((with_reducible refine (suadd_any hu 2 c.type (PR.nil w0 _) (by unfold evCtx at hw; rw [wtE_cons, wtE_cons, wtE_cons] at hw; have := wt_one (wt_one hw); rw [List.length_nil] at this ⊢; omega)).mono ?_)); unfold UPost; rintro e wn ⟨rfl, hu2, hF⟩; (try replace b3 := hu.loc b3 hF (of_decide_eq_true rfl)); replace FR := FR.trans hF; clear hu E hF; have hu := hu2; clear hu2; have E := hu.only; (try (clear hcE hfE)); (try (have hcf := bcell E.low; obtain ⟨hcE, hfE⟩ := hcf)); (try (clear c3 f3)); (try (have c3 := b3.cell; have f3 := b3.free))) | ((with_reducible refine at_dst 18 ?_); (refine wp_part (vs := (rgC (c).rng).toArray) b3.blk rfl rfl ?_ ?_ ?_ ?_); (· kernel_rfl); (· kernel_rfl); (· kernel_rfl)) | ((with_reducible refine at_dst 19 ?_); go_simp; ((with_reducible refine (suspan_any hu hc (by unfold evCtx at hw; rw [wtE_cons, wtE_cons, wtE_cons] at hw; exact wt_one (wt_one (wt_one hw)))).mono ?_)); unfold UPost; rintro e wn ⟨rfl, hu2, hF⟩; (try replace b3 := hu.loc b3 hF (of_decide_eq_true rfl)); replace FR := FR.trans hF; clear hu E hF; have hu := hu2; clear hu2; have E := hu.only; (try (clear hcE hfE)); (try (have hcf := bcell E.low; obtain ⟨hcE, hfE⟩ := hcf)); (try (clear c3 f3)); (try (have c3 := b3.cell; have f3 := b3.free))))
  refine bodyPost_ret (v := .tuple #[]) (by simp [results, Try.f64, go_sem]) rfl (upost hu rfl FR)
def evTyp (p : Int × Int) (h : StH) : List Ev := evSet p 0 h.source ++ evSet p 0 h.target
set_option maxHeartbeats 2000000 in
set_option maxRecDepth 100000 in
theorem sutypes_any {w0 w : World} {b m : Nat} {U : List PS} {p : Int × Int} (hu : UAt w0 w b m U p) {s : St} (hs : s.h.ok w0) (hw : wtU U + wtE (evTyp p s.h) ≤ 1900000000000) :
    Calls Try.prog 65 #[.pointer (some ⟨b, 0, none⟩), .agg (stC s).toArray] w (UPost w0 b m (adds U (evTyp p s.h)) p w) := by
  go_enter Try.func65, Try.ntmps65
  have E := hu.only
  have FR : UFr b m w w := UFr.refl
  go_upto_region 9999 with (first | ((with_reducible refine at_dst 3 ?_); go_simp; (generalize hX3 : Array.size (World.heap _) = X3); refine new_block hX3 ?_; intro wn bb hx; (try (have z3 := Nat.le_trans E.size (Nat.le_of_eq hX3))); (try (have mhu_3 := hu.notin (Nat.le_of_eq hX3))); (try (have mFR_3 := FR.notin (Nat.le_of_eq hX3))); have b3 := Loc.new bb E hX3; clear bb hX3; (try replace E := E.ext hx); (try replace hu := hu.ext hx); (try replace FR := FR.ext hx); (try (clear hcE hfE)); (try (have hcf := bcell E.low; obtain ⟨hcE, hfE⟩ := hcf)); (try (clear c3 f3)); (try (have c3 := b3.cell; have f3 := b3.free))) | ((with_reducible refine at_dst 6 ?_); (refine wp_part (vs := (nsC (s).h.source).toArray) b3.blk rfl rfl ?_ ?_ ?_ ?_); (· kernel_rfl); (· kernel_rfl); (· kernel_rfl)) | ((with_reducible refine at_dst 7 ?_); go_simp; ((with_reducible refine (suset_any hu 0 hs.source (by unfold evTyp at hw; rw [wtE_app] at hw; omega)).mono ?_)); unfold UPost; rintro e wn ⟨rfl, hu2, hF⟩; (try replace b3 := hu.loc b3 hF (of_decide_eq_true rfl)); replace FR := FR.trans hF; clear hu E hF; have hu := hu2; clear hu2; have E := hu.only; (try (clear hcE hfE)); (try (have hcf := bcell E.low; obtain ⟨hcE, hfE⟩ := hcf)); (try (clear c3 f3)); (try (have c3 := b3.cell; have f3 := b3.free))) | ((with_reducible refine at_dst 10 ?_); (refine wp_part (vs := (nsC (s).h.target).toArray) b3.blk rfl rfl ?_ ?_ ?_ ?_); (· kernel_rfl); (· kernel_rfl); (· kernel_rfl)) | ((with_reducible refine at_dst 11 ?_); go_simp; ((with_reducible refine (suset_any hu 0 hs.target (wt_adds (by unfold evTyp at hw; rw [wtE_app] at hw; exact hw))).mono ?_)); unfold UPost; rintro e wn ⟨rfl, hu2, hF⟩; (try replace b3 := hu.loc b3 hF (of_decide_eq_true rfl)); replace FR := FR.trans hF; clear hu E hF; have hu := hu2; clear hu2; have E := hu.only; (try (clear hcE hfE)); (try (have hcf := bcell E.low; obtain ⟨hcE, hfE⟩ := hcf)); (try (clear c3 f3)); (try (have c3 := b3.cell; have f3 := b3.free))))
  refine bodyPost_ret (v := .tuple #[]) (by simp [results, Try.f65, go_sem]) rfl (upost hu (adds_app _ _ _).symm FR)
def evExH (p : Int × Int) (h : ExH) : List Ev :=
  if h.op = 1 then evList p 6 h.names
  else if h.op = 9 ∧ 0 ≤ h.a then (if h.a.tmod 5 = 0 then evList p 5 h.names else if h.a.tmod 5 = 1 then evList p 4 h.names else if h.a.tmod 5 = 2 then evList p 0 h.names else [])
  else []
mutual
def evEx (p : Int × Int) : Ex → List Ev
  | .mk h kids => evExH p h ++ evExs p kids
def evExs (p : Int × Int) : List Ex → List Ev
  | [] => []
  | e :: l => evEx p e ++ evExs p l
end
mutual
def Ex.sz : Ex → Nat
  | .mk _ kids => 1 + Ex.szs kids
def Ex.szs : List Ex → Nat
  | [] => 0
  | e :: l => e.sz + Ex.szs l
end
theorem Ex.sz_kids (e : Ex) : e.sz = 1 + Ex.szs e.kids := by cases e; rw [Ex.sz]; rfl
theorem Ex.sz_at : ∀ {l : List Ex} {i : Nat} {y : Ex}, l[i]? = some y → y.sz ≤ Ex.szs l
  | e :: l, 0, y, h => by
    injection h with h; subst h
    rw [Ex.szs]; omega
  | e :: l, i + 1, y, h => by
    have := Ex.sz_at (l := l) (i := i) (y := y) (by simpa using h)
    rw [Ex.szs]; omega
theorem evExs_app (p : Int × Int) : ∀ a b : List Ex, evExs p (a ++ b) = evExs p a ++ evExs p b
  | [], b => by rw [List.nil_append, evExs]; rfl
  | e :: a, b => by rw [List.cons_append, evExs, evExs, evExs_app p a b, List.append_assoc]
theorem evEx_eq (p : Int × Int) (e : Ex) : evEx p e = evExH p e.h ++ evExs p e.kids := by cases e; rw [evEx]; rfl
theorem evExs_take {p : Int × Int} {l : List Ex} {j : Nat} {y : Ex} (h : l[j]? = some y) (U : List PS) : adds U (evExs p (l.take (j + 1))) = adds (adds U (evExs p (l.take j))) (evEx p y) := by
  rw [take_at h, evExs_app, adds_app, evExs, evExs, List.append_nil]
theorem wt_exs {U : List PS} {p : Int × Int} {l : List Ex} {j : Nat} {y : Ex} {N : Nat} (h : l[j]? = some y) (hw : wtU U + wtE (evExs p l) ≤ N) : wtU (adds U (evExs p (l.take j))) + wtE (evEx p y) ≤ N := by
  have h1 := adds_wt (evExs p (l.take j)) U
  have h2 : wtE (evExs p (l.take j)) + wtE (evEx p y) ≤ wtE (evExs p l) := by
    have := List.take_append_drop j l
    rw [← congrArg (fun l => wtE (evExs p l)) this, evExs_app, wtE_app, drop_at h, evExs, wtE_app]; omega
  omega
end Go.Proofs.Ytnifgkgdphlleaa
