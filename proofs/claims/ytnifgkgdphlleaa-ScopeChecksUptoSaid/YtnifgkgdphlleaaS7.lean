/- Vd -/
import Derived.Test.YtnifgkgdphlleaaS6
set_option linter.unusedSimpArgs false
set_option linter.unusedVariables false
namespace Go.Proofs.Ytnifgkgdphlleaa
open Go.RowKit Tk
set_option maxHeartbeats 8000000 in
set_option maxRecDepth 100000 in
theorem suexpr_any {w0 : World} {b m : Nat} {p : Int × Int} : ∀ (N : Nat) (e : Ex) {w : World} {U : List PS}, UAt w0 w b m U p → e.ok w0 → e.sz ≤ N → wtU U + wtE (evEx p e) ≤ 1900000000000 →
    Calls Try.prog 67 #[.pointer (some ⟨b, 0, none⟩), .agg (exC e).toArray] w (UPost w0 b m (adds U (evEx p e)) p w) := by
  intro N
  induction N with
  | zero => intro e w U hu he hN; rw [Ex.sz_kids] at hN; omega
  | succ N ih =>
    intro e w U hu he hN hw
    have IH : Hid (∀ (U : List PS) (e : Ex) {w : World}, UAt w0 w b m U p → e.ok w0 → e.sz ≤ N → wtU U + wtE (evEx p e) ≤ 1900000000000 → Calls Try.prog 67 #[.pointer (some ⟨b, 0, none⟩), .agg (exC e).toArray] w (UPost w0 b m (adds U (evEx p e)) p w)) := fun U e {w} => ih e
    clear ih
    have n2 := (RRow.lens he.kids).2
    rw [evEx_eq, wtE_app] at hw
    have hw1 : wtU U + wtE (evExH p e.h) ≤ 1900000000000 := by omega
    have hw2 : wtU (adds U (evExH p e.h)) + wtE (evExs p e.kids) ≤ 1900000000000 := wt_adds hw
    rw [Ex.sz_kids] at hN
    obtain ⟨op, hop⟩ : ∃ op, e.h.op = op := ⟨_, rfl⟩
    obtain ⟨ea, hea⟩ : ∃ ea, e.h.a = ea := ⟨_, rfl⟩
    go_enter Try.func67, Try.ntmps67
    have E := hu.only
    have FR : UFr b m w w := UFr.refl
    have fin : ∀ (v : List Ev), evExH p e.h = v → Hid (evExH p e.h = v) := fun v h => h
    have hge : (0 : Int) ≤ ea ∨ ea < 0 := by omega
    obtain ⟨r, hr⟩ : ∃ r, ea.tmod 5 = r := ⟨_, rfl⟩
    rcases (show op = 1 ∨ (op = 9 ∧ 0 ≤ ea ∧ r = 0) ∨ (op = 9 ∧ 0 ≤ ea ∧ r = 1) ∨ (op = 9 ∧ 0 ≤ ea ∧ r = 2) ∨ (op = 9 ∧ 0 ≤ ea ∧ ¬ r = 0 ∧ ¬ r = 1 ∧ ¬ r = 2) ∨ (op = 9 ∧ ea < 0) ∨ (¬ op = 1 ∧ ¬ op = 9) by omega) with h1 | ⟨h1, h2, h3⟩ | ⟨h1, h2, h3⟩ | ⟨h1, h2, h3⟩ | ⟨h1, h2, h3, h4, h5⟩ | ⟨h1, h2⟩ | ⟨h1, h2⟩
    · have HH := fin (evList p 6 e.h.names) (by unfold evExH; rw [hop, if_pos h1])
      subst h1
      go_upto_region 11 with (first | ((with_reducible refine at_dst 3 ?_); go_simp; (generalize hX3 : Array.size (World.heap _) = X3); refine new_block hX3 ?_; intro wn bb hx; (try (have n5_3 := (b5.ne hX3).1; have n3_5 := (b5.ne hX3).2)); (try (have z3 := Nat.le_trans E.size (Nat.le_of_eq hX3))); (try (have mhu_3 := hu.notin (Nat.le_of_eq hX3))); (try (have mFR_3 := FR.notin (Nat.le_of_eq hX3))); have b3 := Loc.new bb E hX3; clear bb hX3; (try replace E := E.ext hx); (try replace b5 := b5.ext hx); (try replace hu := hu.ext hx); (try replace FR := FR.ext hx); (try (clear hcE hfE)); (try (have hcf := bcell E.low; obtain ⟨hcE, hfE⟩ := hcf)); (try (clear c3 f3)); (try (have c3 := b3.cell; have f3 := b3.free)); (try (clear c5 f5)); (try (have c5 := b5.cell; have f5 := b5.free))) | ((with_reducible refine at_dst 13 ?_); go_simp; ((with_reducible refine (sulist_any hu 6 he.names (by rw [HH.out] at hw1; exact hw1)).mono ?_)); unfold UPost; rintro e wn ⟨rfl, hu2, hF⟩; (try replace b3 := hu.loc b3 hF (of_decide_eq_true rfl)); (try replace b5 := hu.loc b5 hF (of_decide_eq_true rfl)); replace FR := FR.trans hF; clear hu E hF; have hu := hu2; clear hu2; have E := hu.only; (try (clear hcE hfE)); (try (have hcf := bcell E.low; obtain ⟨hcE, hfE⟩ := hcf)); (try (clear c3 f3)); (try (have c3 := b3.cell; have f3 := b3.free)); (try (clear c5 f5)); (try (have c5 := b5.cell; have f5 := b5.free))))
      rw [← HH.out] at hu
      clear HH hop hea hr
      go_upto_region 12 with (first | fail)
      go_loopw [47] (fun i wr => ∃ j : Nat, i = .int .i64 j ∧ j ≤ e.kids.length ∧ UAt w0 wr b m (adds (adds U (evExH p e.h)) (evExs p (e.kids.take j))) p ∧ UFr b m w wr) (fun i _ => e.kids.length - (intOf i).toNat)
      case atStart => exact ⟨0, rfl, Nat.zero_le _, hu, FR⟩
      case round =>
        clear hu FR E b3 c3 f3
        obtain ⟨j, rfl, hj, hu, FR⟩ := hrel
        have E := hu.only
        obtain ⟨hcE, hfE⟩ := bcell E.low
        by_cases hlt : j < e.kids.length
        · obtain ⟨y, hy⟩ := at_some hlt
          obtain ⟨g, o, hgo, hg, -⟩ := RRow.cells he.kids hlt
          have HY := Lib.hid hy
          have hs := evExs_take (p := p) hy (adds U (evExH p e.h))
          have HS := Lib.hid hs
          have hsz : y.sz ≤ N := by have := Ex.sz_at hy; omega
          have hyo : y.ok w0 := by
            obtain ⟨h1, h2⟩ := List.getElem?_eq_some_iff.1 hy
            exact h2 ▸ he.subs.at h1
          have hkc : RRow w0 10 exC (.slice (some ⟨g, o, none⟩) e.kids.length e.h.hk.c) e.kids := hgo ▸ he.kids
          clear hy hs
          go_upto_region 9999 with (first | ((with_reducible refine at_dst 50 ?_); (refine wp_rec2 ((hkc.ext E.low)) (HY.out) exC_len rfl rfl ?_ ?_ ?_); (· kernel_rfl); (· kernel_rfl)) | ((with_reducible refine at_dst 5 ?_); go_simp; (generalize hX5 : Array.size (World.heap _) = X5); refine new_block hX5 ?_; intro wn bb hx; (try (have n3_5 := (b3.ne hX5).1; have n5_3 := (b3.ne hX5).2)); (try (have z5 := Nat.le_trans E.size (Nat.le_of_eq hX5))); (try (have mhu_5 := hu.notin (Nat.le_of_eq hX5))); (try (have mFR_5 := FR.notin (Nat.le_of_eq hX5))); have b5 := Loc.new bb E hX5; clear bb hX5; (try replace E := E.ext hx); (try replace b3 := b3.ext hx); (try replace hu := hu.ext hx); (try replace FR := FR.ext hx); (try (clear hcE hfE)); (try (have hcf := bcell E.low; obtain ⟨hcE, hfE⟩ := hcf)); (try (clear c3 f3)); (try (have c3 := b3.cell; have f3 := b3.free)); (try (clear c5 f5)); (try (have c5 := b5.cell; have f5 := b5.free))) | ((with_reducible refine at_dst 52 ?_); (refine wp_all b5.blk rfl rfl ?_ ?_ ?_); (· kernel_rfl); (· kernel_rfl)) | ((with_reducible refine at_dst 53 ?_); go_simp; ((with_reducible refine (IH.out _ y hu hyo hsz (wt_exs HY.out hw2)).mono ?_)); unfold UPost; rintro e wn ⟨rfl, hu2, hF⟩; (try replace b3 := hu.loc b3 hF (of_decide_eq_true rfl)); (try replace b5 := hu.loc b5 hF (of_decide_eq_true rfl)); replace FR := FR.trans hF; clear hu E hF; have hu := hu2; clear hu2; have E := hu.only; (try (clear hcE hfE)); (try (have hcf := bcell E.low; obtain ⟨hcE, hfE⟩ := hcf)); (try (clear c3 f3)); (try (have c3 := b3.cell; have f3 := b3.free)); (try (clear c5 f5)); (try (have c5 := b5.cell; have f5 := b5.free))) | ((with_reducible refine at_store 5 ?_); (refine wp_put b5 rfl rfl ?_ ?_ ?_ ?_; (· kernel_rfl); (· first | rfl | kernel_rfl); (· first | decide | exact Nat.le_refl _ | simp [Act.eval, Value.cells] | (simp [Act.eval, Act.put, Value.cells]; done)); intro wn bn hb; have E2 := E.put b5 hb; (try replace b3 := b3.but hb n3_5); (first | (replace hu := hu.but b5 hb (of_decide_eq_true rfl)) | (replace hu := hu.but0 hb mhu_5) | skip); (first | (replace FR := FR.but hb b5.blk (of_decide_eq_true rfl)) | (replace FR := FR.but0 hb mFR_5) | skip); clear E b5; have E := E2; clear E2; have b5 := bn; clear bn hb; dsimp only [Act.put]; simp only [putA, Act.eval, Value.cells, Nat.reduceAdd, putL, sizL] at b5; (try (clear hcE hfE)); (try (have hcf := bcell E.low; obtain ⟨hcE, hfE⟩ := hcf)); (try (clear c3 f3)); (try (have c3 := b3.cell; have f3 := b3.free)); (try (clear c5 f5)); (try (have c5 := b5.cell; have f5 := b5.free)))))
          simp only [← hgo]
          clear hgo
          go_roundw
          case rel => exact ⟨j + 1, by go_num, by omega, HS.out ▸ hu, FR⟩
          case measure => simp [intOf]; omega
        · go_upto_region 9999 with (first | fail)
          refine bodyPost_ret (v := .tuple #[]) (by simp [results, Try.f67, go_sem]) rfl (upost hu (by rw [List.take_of_length_le (by omega), ← adds_app, evEx_eq]) FR)
    · have HH := fin (evList p 5 e.h.names) (by unfold evExH; rw [hop, hea, h1, if_neg (by omega), if_pos ⟨rfl, h2⟩, hr, if_pos h3])
      subst h1 h3
      go_upto_region 11 with (first | ((with_reducible refine at_dst 3 ?_); go_simp; (generalize hX3 : Array.size (World.heap _) = X3); refine new_block hX3 ?_; intro wn bb hx; (try (have n5_3 := (b5.ne hX3).1; have n3_5 := (b5.ne hX3).2)); (try (have z3 := Nat.le_trans E.size (Nat.le_of_eq hX3))); (try (have mhu_3 := hu.notin (Nat.le_of_eq hX3))); (try (have mFR_3 := FR.notin (Nat.le_of_eq hX3))); have b3 := Loc.new bb E hX3; clear bb hX3; (try replace E := E.ext hx); (try replace b5 := b5.ext hx); (try replace hu := hu.ext hx); (try replace FR := FR.ext hx); (try (clear hcE hfE)); (try (have hcf := bcell E.low; obtain ⟨hcE, hfE⟩ := hcf)); (try (clear c3 f3)); (try (have c3 := b3.cell; have f3 := b3.free)); (try (clear c5 f5)); (try (have c5 := b5.cell; have f5 := b5.free))) | ((with_reducible refine at_dst 31 ?_); go_simp; ((with_reducible refine (sulist_any hu 5 he.names (by rw [HH.out] at hw1; exact hw1)).mono ?_)); unfold UPost; rintro e wn ⟨rfl, hu2, hF⟩; (try replace b3 := hu.loc b3 hF (of_decide_eq_true rfl)); (try replace b5 := hu.loc b5 hF (of_decide_eq_true rfl)); replace FR := FR.trans hF; clear hu E hF; have hu := hu2; clear hu2; have E := hu.only; (try (clear hcE hfE)); (try (have hcf := bcell E.low; obtain ⟨hcE, hfE⟩ := hcf)); (try (clear c3 f3)); (try (have c3 := b3.cell; have f3 := b3.free)); (try (clear c5 f5)); (try (have c5 := b5.cell; have f5 := b5.free))))
      rw [← HH.out] at hu
      clear HH hop hea hr
      go_upto_region 12 with (first | fail)
      go_loopw [47] (fun i wr => ∃ j : Nat, i = .int .i64 j ∧ j ≤ e.kids.length ∧ UAt w0 wr b m (adds (adds U (evExH p e.h)) (evExs p (e.kids.take j))) p ∧ UFr b m w wr) (fun i _ => e.kids.length - (intOf i).toNat)
      case atStart => exact ⟨0, rfl, Nat.zero_le _, hu, FR⟩
      case round =>
        clear hu FR E b3 c3 f3
        obtain ⟨j, rfl, hj, hu, FR⟩ := hrel
        have E := hu.only
        obtain ⟨hcE, hfE⟩ := bcell E.low
        by_cases hlt : j < e.kids.length
        · obtain ⟨y, hy⟩ := at_some hlt
          obtain ⟨g, o, hgo, hg, -⟩ := RRow.cells he.kids hlt
          have HY := Lib.hid hy
          have hs := evExs_take (p := p) hy (adds U (evExH p e.h))
          have HS := Lib.hid hs
          have hsz : y.sz ≤ N := by have := Ex.sz_at hy; omega
          have hyo : y.ok w0 := by
            obtain ⟨h1, h2⟩ := List.getElem?_eq_some_iff.1 hy
            exact h2 ▸ he.subs.at h1
          have hkc : RRow w0 10 exC (.slice (some ⟨g, o, none⟩) e.kids.length e.h.hk.c) e.kids := hgo ▸ he.kids
          clear hy hs
          go_upto_region 9999 with (first | ((with_reducible refine at_dst 50 ?_); (refine wp_rec2 ((hkc.ext E.low)) (HY.out) exC_len rfl rfl ?_ ?_ ?_); (· kernel_rfl); (· kernel_rfl)) | ((with_reducible refine at_dst 5 ?_); go_simp; (generalize hX5 : Array.size (World.heap _) = X5); refine new_block hX5 ?_; intro wn bb hx; (try (have n3_5 := (b3.ne hX5).1; have n5_3 := (b3.ne hX5).2)); (try (have z5 := Nat.le_trans E.size (Nat.le_of_eq hX5))); (try (have mhu_5 := hu.notin (Nat.le_of_eq hX5))); (try (have mFR_5 := FR.notin (Nat.le_of_eq hX5))); have b5 := Loc.new bb E hX5; clear bb hX5; (try replace E := E.ext hx); (try replace b3 := b3.ext hx); (try replace hu := hu.ext hx); (try replace FR := FR.ext hx); (try (clear hcE hfE)); (try (have hcf := bcell E.low; obtain ⟨hcE, hfE⟩ := hcf)); (try (clear c3 f3)); (try (have c3 := b3.cell; have f3 := b3.free)); (try (clear c5 f5)); (try (have c5 := b5.cell; have f5 := b5.free))) | ((with_reducible refine at_dst 52 ?_); (refine wp_all b5.blk rfl rfl ?_ ?_ ?_); (· kernel_rfl); (· kernel_rfl)) | ((with_reducible refine at_dst 53 ?_); go_simp; ((with_reducible refine (IH.out _ y hu hyo hsz (wt_exs HY.out hw2)).mono ?_)); unfold UPost; rintro e wn ⟨rfl, hu2, hF⟩; (try replace b3 := hu.loc b3 hF (of_decide_eq_true rfl)); (try replace b5 := hu.loc b5 hF (of_decide_eq_true rfl)); replace FR := FR.trans hF; clear hu E hF; have hu := hu2; clear hu2; have E := hu.only; (try (clear hcE hfE)); (try (have hcf := bcell E.low; obtain ⟨hcE, hfE⟩ := hcf)); (try (clear c3 f3)); (try (have c3 := b3.cell; have f3 := b3.free)); (try (clear c5 f5)); (try (have c5 := b5.cell; have f5 := b5.free))) | ((with_reducible refine at_store 5 ?_); (refine wp_put b5 rfl rfl ?_ ?_ ?_ ?_; (· kernel_rfl); (· first | rfl | kernel_rfl); (· first | decide | exact Nat.le_refl _ | simp [Act.eval, Value.cells] | (simp [Act.eval, Act.put, Value.cells]; done)); intro wn bn hb; have E2 := E.put b5 hb; (try replace b3 := b3.but hb n3_5); (first | (replace hu := hu.but b5 hb (of_decide_eq_true rfl)) | (replace hu := hu.but0 hb mhu_5) | skip); (first | (replace FR := FR.but hb b5.blk (of_decide_eq_true rfl)) | (replace FR := FR.but0 hb mFR_5) | skip); clear E b5; have E := E2; clear E2; have b5 := bn; clear bn hb; dsimp only [Act.put]; simp only [putA, Act.eval, Value.cells, Nat.reduceAdd, putL, sizL] at b5; (try (clear hcE hfE)); (try (have hcf := bcell E.low; obtain ⟨hcE, hfE⟩ := hcf)); (try (clear c3 f3)); (try (have c3 := b3.cell; have f3 := b3.free)); (try (clear c5 f5)); (try (have c5 := b5.cell; have f5 := b5.free)))))
          simp only [← hgo]
          clear hgo
          go_roundw
          case rel => exact ⟨j + 1, by go_num, by omega, HS.out ▸ hu, FR⟩
          case measure => simp [intOf]; omega
        · go_upto_region 9999 with (first | fail)
          refine bodyPost_ret (v := .tuple #[]) (by simp [results, Try.f67, go_sem]) rfl (upost hu (by rw [List.take_of_length_le (by omega), ← adds_app, evEx_eq]) FR)
    · have HH := fin (evList p 4 e.h.names) (by unfold evExH; rw [hop, hea, h1, if_neg (by omega), if_pos ⟨rfl, h2⟩, hr, if_neg (by omega), if_pos h3])
      subst h1 h3
      go_upto_region 11 with (first | ((with_reducible refine at_dst 3 ?_); go_simp; (generalize hX3 : Array.size (World.heap _) = X3); refine new_block hX3 ?_; intro wn bb hx; (try (have n5_3 := (b5.ne hX3).1; have n3_5 := (b5.ne hX3).2)); (try (have z3 := Nat.le_trans E.size (Nat.le_of_eq hX3))); (try (have mhu_3 := hu.notin (Nat.le_of_eq hX3))); (try (have mFR_3 := FR.notin (Nat.le_of_eq hX3))); have b3 := Loc.new bb E hX3; clear bb hX3; (try replace E := E.ext hx); (try replace b5 := b5.ext hx); (try replace hu := hu.ext hx); (try replace FR := FR.ext hx); (try (clear hcE hfE)); (try (have hcf := bcell E.low; obtain ⟨hcE, hfE⟩ := hcf)); (try (clear c3 f3)); (try (have c3 := b3.cell; have f3 := b3.free)); (try (clear c5 f5)); (try (have c5 := b5.cell; have f5 := b5.free))) | ((with_reducible refine at_dst 37 ?_); go_simp; ((with_reducible refine (sulist_any hu 4 he.names (by rw [HH.out] at hw1; exact hw1)).mono ?_)); unfold UPost; rintro e wn ⟨rfl, hu2, hF⟩; (try replace b3 := hu.loc b3 hF (of_decide_eq_true rfl)); (try replace b5 := hu.loc b5 hF (of_decide_eq_true rfl)); replace FR := FR.trans hF; clear hu E hF; have hu := hu2; clear hu2; have E := hu.only; (try (clear hcE hfE)); (try (have hcf := bcell E.low; obtain ⟨hcE, hfE⟩ := hcf)); (try (clear c3 f3)); (try (have c3 := b3.cell; have f3 := b3.free)); (try (clear c5 f5)); (try (have c5 := b5.cell; have f5 := b5.free))))
      rw [← HH.out] at hu
      clear HH hop hea hr
      go_upto_region 12 with (first | fail)
      go_loopw [47] (fun i wr => ∃ j : Nat, i = .int .i64 j ∧ j ≤ e.kids.length ∧ UAt w0 wr b m (adds (adds U (evExH p e.h)) (evExs p (e.kids.take j))) p ∧ UFr b m w wr) (fun i _ => e.kids.length - (intOf i).toNat)
      case atStart => exact ⟨0, rfl, Nat.zero_le _, hu, FR⟩
      case round =>
        clear hu FR E b3 c3 f3
        obtain ⟨j, rfl, hj, hu, FR⟩ := hrel
        have E := hu.only
        obtain ⟨hcE, hfE⟩ := bcell E.low
        by_cases hlt : j < e.kids.length
        · obtain ⟨y, hy⟩ := at_some hlt
          obtain ⟨g, o, hgo, hg, -⟩ := RRow.cells he.kids hlt
          have HY := Lib.hid hy
          have hs := evExs_take (p := p) hy (adds U (evExH p e.h))
          have HS := Lib.hid hs
          have hsz : y.sz ≤ N := by have := Ex.sz_at hy; omega
          have hyo : y.ok w0 := by
            obtain ⟨h1, h2⟩ := List.getElem?_eq_some_iff.1 hy
            exact h2 ▸ he.subs.at h1
          have hkc : RRow w0 10 exC (.slice (some ⟨g, o, none⟩) e.kids.length e.h.hk.c) e.kids := hgo ▸ he.kids
          clear hy hs
          go_upto_region 9999 with (first | ((with_reducible refine at_dst 50 ?_); (refine wp_rec2 ((hkc.ext E.low)) (HY.out) exC_len rfl rfl ?_ ?_ ?_); (· kernel_rfl); (· kernel_rfl)) | ((with_reducible refine at_dst 5 ?_); go_simp; (generalize hX5 : Array.size (World.heap _) = X5); refine new_block hX5 ?_; intro wn bb hx; (try (have n3_5 := (b3.ne hX5).1; have n5_3 := (b3.ne hX5).2)); (try (have z5 := Nat.le_trans E.size (Nat.le_of_eq hX5))); (try (have mhu_5 := hu.notin (Nat.le_of_eq hX5))); (try (have mFR_5 := FR.notin (Nat.le_of_eq hX5))); have b5 := Loc.new bb E hX5; clear bb hX5; (try replace E := E.ext hx); (try replace b3 := b3.ext hx); (try replace hu := hu.ext hx); (try replace FR := FR.ext hx); (try (clear hcE hfE)); (try (have hcf := bcell E.low; obtain ⟨hcE, hfE⟩ := hcf)); (try (clear c3 f3)); (try (have c3 := b3.cell; have f3 := b3.free)); (try (clear c5 f5)); (try (have c5 := b5.cell; have f5 := b5.free))) | ((with_reducible refine at_dst 52 ?_); (refine wp_all b5.blk rfl rfl ?_ ?_ ?_); (· kernel_rfl); (· kernel_rfl)) | ((with_reducible refine at_dst 53 ?_); go_simp; ((with_reducible refine (IH.out _ y hu hyo hsz (wt_exs HY.out hw2)).mono ?_)); unfold UPost; rintro e wn ⟨rfl, hu2, hF⟩; (try replace b3 := hu.loc b3 hF (of_decide_eq_true rfl)); (try replace b5 := hu.loc b5 hF (of_decide_eq_true rfl)); replace FR := FR.trans hF; clear hu E hF; have hu := hu2; clear hu2; have E := hu.only; (try (clear hcE hfE)); (try (have hcf := bcell E.low; obtain ⟨hcE, hfE⟩ := hcf)); (try (clear c3 f3)); (try (have c3 := b3.cell; have f3 := b3.free)); (try (clear c5 f5)); (try (have c5 := b5.cell; have f5 := b5.free))) | ((with_reducible refine at_store 5 ?_); (refine wp_put b5 rfl rfl ?_ ?_ ?_ ?_; (· kernel_rfl); (· first | rfl | kernel_rfl); (· first | decide | exact Nat.le_refl _ | simp [Act.eval, Value.cells] | (simp [Act.eval, Act.put, Value.cells]; done)); intro wn bn hb; have E2 := E.put b5 hb; (try replace b3 := b3.but hb n3_5); (first | (replace hu := hu.but b5 hb (of_decide_eq_true rfl)) | (replace hu := hu.but0 hb mhu_5) | skip); (first | (replace FR := FR.but hb b5.blk (of_decide_eq_true rfl)) | (replace FR := FR.but0 hb mFR_5) | skip); clear E b5; have E := E2; clear E2; have b5 := bn; clear bn hb; dsimp only [Act.put]; simp only [putA, Act.eval, Value.cells, Nat.reduceAdd, putL, sizL] at b5; (try (clear hcE hfE)); (try (have hcf := bcell E.low; obtain ⟨hcE, hfE⟩ := hcf)); (try (clear c3 f3)); (try (have c3 := b3.cell; have f3 := b3.free)); (try (clear c5 f5)); (try (have c5 := b5.cell; have f5 := b5.free)))))
          simp only [← hgo]
          clear hgo
          go_roundw
          case rel => exact ⟨j + 1, by go_num, by omega, HS.out ▸ hu, FR⟩
          case measure => simp [intOf]; omega
        · go_upto_region 9999 with (first | fail)
          refine bodyPost_ret (v := .tuple #[]) (by simp [results, Try.f67, go_sem]) rfl (upost hu (by rw [List.take_of_length_le (by omega), ← adds_app, evEx_eq]) FR)
    · have HH := fin (evList p 0 e.h.names) (by unfold evExH; rw [hop, hea, h1, if_neg (by omega), if_pos ⟨rfl, h2⟩, hr, if_neg (by omega), if_neg (by omega), if_pos h3])
      subst h1 h3
      go_upto_region 11 with (first | ((with_reducible refine at_dst 3 ?_); go_simp; (generalize hX3 : Array.size (World.heap _) = X3); refine new_block hX3 ?_; intro wn bb hx; (try (have n5_3 := (b5.ne hX3).1; have n3_5 := (b5.ne hX3).2)); (try (have z3 := Nat.le_trans E.size (Nat.le_of_eq hX3))); (try (have mhu_3 := hu.notin (Nat.le_of_eq hX3))); (try (have mFR_3 := FR.notin (Nat.le_of_eq hX3))); have b3 := Loc.new bb E hX3; clear bb hX3; (try replace E := E.ext hx); (try replace b5 := b5.ext hx); (try replace hu := hu.ext hx); (try replace FR := FR.ext hx); (try (clear hcE hfE)); (try (have hcf := bcell E.low; obtain ⟨hcE, hfE⟩ := hcf)); (try (clear c3 f3)); (try (have c3 := b3.cell; have f3 := b3.free)); (try (clear c5 f5)); (try (have c5 := b5.cell; have f5 := b5.free))) | ((with_reducible refine at_dst 43 ?_); go_simp; ((with_reducible refine (sulist_any hu 0 he.names (by rw [HH.out] at hw1; exact hw1)).mono ?_)); unfold UPost; rintro e wn ⟨rfl, hu2, hF⟩; (try replace b3 := hu.loc b3 hF (of_decide_eq_true rfl)); (try replace b5 := hu.loc b5 hF (of_decide_eq_true rfl)); replace FR := FR.trans hF; clear hu E hF; have hu := hu2; clear hu2; have E := hu.only; (try (clear hcE hfE)); (try (have hcf := bcell E.low; obtain ⟨hcE, hfE⟩ := hcf)); (try (clear c3 f3)); (try (have c3 := b3.cell; have f3 := b3.free)); (try (clear c5 f5)); (try (have c5 := b5.cell; have f5 := b5.free))))
      rw [← HH.out] at hu
      clear HH hop hea hr
      go_upto_region 12 with (first | fail)
      go_loopw [47] (fun i wr => ∃ j : Nat, i = .int .i64 j ∧ j ≤ e.kids.length ∧ UAt w0 wr b m (adds (adds U (evExH p e.h)) (evExs p (e.kids.take j))) p ∧ UFr b m w wr) (fun i _ => e.kids.length - (intOf i).toNat)
      case atStart => exact ⟨0, rfl, Nat.zero_le _, hu, FR⟩
      case round =>
        clear hu FR E b3 c3 f3
        obtain ⟨j, rfl, hj, hu, FR⟩ := hrel
        have E := hu.only
        obtain ⟨hcE, hfE⟩ := bcell E.low
        by_cases hlt : j < e.kids.length
        · obtain ⟨y, hy⟩ := at_some hlt
          obtain ⟨g, o, hgo, hg, -⟩ := RRow.cells he.kids hlt
          have HY := Lib.hid hy
          have hs := evExs_take (p := p) hy (adds U (evExH p e.h))
          have HS := Lib.hid hs
          have hsz : y.sz ≤ N := by have := Ex.sz_at hy; omega
          have hyo : y.ok w0 := by
            obtain ⟨h1, h2⟩ := List.getElem?_eq_some_iff.1 hy
            exact h2 ▸ he.subs.at h1
          have hkc : RRow w0 10 exC (.slice (some ⟨g, o, none⟩) e.kids.length e.h.hk.c) e.kids := hgo ▸ he.kids
          clear hy hs
          go_upto_region 9999 with (first | ((with_reducible refine at_dst 50 ?_); (refine wp_rec2 ((hkc.ext E.low)) (HY.out) exC_len rfl rfl ?_ ?_ ?_); (· kernel_rfl); (· kernel_rfl)) | ((with_reducible refine at_dst 5 ?_); go_simp; (generalize hX5 : Array.size (World.heap _) = X5); refine new_block hX5 ?_; intro wn bb hx; (try (have n3_5 := (b3.ne hX5).1; have n5_3 := (b3.ne hX5).2)); (try (have z5 := Nat.le_trans E.size (Nat.le_of_eq hX5))); (try (have mhu_5 := hu.notin (Nat.le_of_eq hX5))); (try (have mFR_5 := FR.notin (Nat.le_of_eq hX5))); have b5 := Loc.new bb E hX5; clear bb hX5; (try replace E := E.ext hx); (try replace b3 := b3.ext hx); (try replace hu := hu.ext hx); (try replace FR := FR.ext hx); (try (clear hcE hfE)); (try (have hcf := bcell E.low; obtain ⟨hcE, hfE⟩ := hcf)); (try (clear c3 f3)); (try (have c3 := b3.cell; have f3 := b3.free)); (try (clear c5 f5)); (try (have c5 := b5.cell; have f5 := b5.free))) | ((with_reducible refine at_dst 52 ?_); (refine wp_all b5.blk rfl rfl ?_ ?_ ?_); (· kernel_rfl); (· kernel_rfl)) | ((with_reducible refine at_dst 53 ?_); go_simp; ((with_reducible refine (IH.out _ y hu hyo hsz (wt_exs HY.out hw2)).mono ?_)); unfold UPost; rintro e wn ⟨rfl, hu2, hF⟩; (try replace b3 := hu.loc b3 hF (of_decide_eq_true rfl)); (try replace b5 := hu.loc b5 hF (of_decide_eq_true rfl)); replace FR := FR.trans hF; clear hu E hF; have hu := hu2; clear hu2; have E := hu.only; (try (clear hcE hfE)); (try (have hcf := bcell E.low; obtain ⟨hcE, hfE⟩ := hcf)); (try (clear c3 f3)); (try (have c3 := b3.cell; have f3 := b3.free)); (try (clear c5 f5)); (try (have c5 := b5.cell; have f5 := b5.free))) | ((with_reducible refine at_store 5 ?_); (refine wp_put b5 rfl rfl ?_ ?_ ?_ ?_; (· kernel_rfl); (· first | rfl | kernel_rfl); (· first | decide | exact Nat.le_refl _ | simp [Act.eval, Value.cells] | (simp [Act.eval, Act.put, Value.cells]; done)); intro wn bn hb; have E2 := E.put b5 hb; (try replace b3 := b3.but hb n3_5); (first | (replace hu := hu.but b5 hb (of_decide_eq_true rfl)) | (replace hu := hu.but0 hb mhu_5) | skip); (first | (replace FR := FR.but hb b5.blk (of_decide_eq_true rfl)) | (replace FR := FR.but0 hb mFR_5) | skip); clear E b5; have E := E2; clear E2; have b5 := bn; clear bn hb; dsimp only [Act.put]; simp only [putA, Act.eval, Value.cells, Nat.reduceAdd, putL, sizL] at b5; (try (clear hcE hfE)); (try (have hcf := bcell E.low; obtain ⟨hcE, hfE⟩ := hcf)); (try (clear c3 f3)); (try (have c3 := b3.cell; have f3 := b3.free)); (try (clear c5 f5)); (try (have c5 := b5.cell; have f5 := b5.free)))))
          simp only [← hgo]
          clear hgo
          go_roundw
          case rel => exact ⟨j + 1, by go_num, by omega, HS.out ▸ hu, FR⟩
          case measure => simp [intOf]; omega
        · go_upto_region 9999 with (first | fail)
          refine bodyPost_ret (v := .tuple #[]) (by simp [results, Try.f67, go_sem]) rfl (upost hu (by rw [List.take_of_length_le (by omega), ← adds_app, evEx_eq]) FR)
    · have HH := fin [] (by unfold evExH; rw [hop, hea, h1, if_neg (by omega), if_pos ⟨rfl, h2⟩, hr, if_neg h3, if_neg h4, if_neg h5])
      subst h1
      obtain ⟨g3, -⟩ := kd_f h3
      obtain ⟨g4, -⟩ := kd_f h4
      obtain ⟨g5, -⟩ := kd_f h5
      clear h3 h4 h5
      go_upto_region 11 with (first | ((with_reducible refine at_dst 3 ?_); go_simp; (generalize hX3 : Array.size (World.heap _) = X3); refine new_block hX3 ?_; intro wn bb hx; (try (have n5_3 := (b5.ne hX3).1; have n3_5 := (b5.ne hX3).2)); (try (have z3 := Nat.le_trans E.size (Nat.le_of_eq hX3))); (try (have mhu_3 := hu.notin (Nat.le_of_eq hX3))); (try (have mFR_3 := FR.notin (Nat.le_of_eq hX3))); have b3 := Loc.new bb E hX3; clear bb hX3; (try replace E := E.ext hx); (try replace b5 := b5.ext hx); (try replace hu := hu.ext hx); (try replace FR := FR.ext hx); (try (clear hcE hfE)); (try (have hcf := bcell E.low; obtain ⟨hcE, hfE⟩ := hcf)); (try (clear c3 f3)); (try (have c3 := b3.cell; have f3 := b3.free)); (try (clear c5 f5)); (try (have c5 := b5.cell; have f5 := b5.free))))
      have hu2 : UAt w0 wn b m (adds U (evExH p e.h)) p := by rw [HH.out]; exact hu
      clear hu
      have hu := hu2
      clear hu2
      clear HH hop hea hr
      go_upto_region 12 with (first | fail)
      go_loopw [47] (fun i wr => ∃ j : Nat, i = .int .i64 j ∧ j ≤ e.kids.length ∧ UAt w0 wr b m (adds (adds U (evExH p e.h)) (evExs p (e.kids.take j))) p ∧ UFr b m w wr) (fun i _ => e.kids.length - (intOf i).toNat)
      case atStart => exact ⟨0, rfl, Nat.zero_le _, hu, FR⟩
      case round =>
        clear hu FR E b3 c3 f3
        obtain ⟨j, rfl, hj, hu, FR⟩ := hrel
        have E := hu.only
        obtain ⟨hcE, hfE⟩ := bcell E.low
        by_cases hlt : j < e.kids.length
        · obtain ⟨y, hy⟩ := at_some hlt
          obtain ⟨g, o, hgo, hg, -⟩ := RRow.cells he.kids hlt
          have HY := Lib.hid hy
          have hs := evExs_take (p := p) hy (adds U (evExH p e.h))
          have HS := Lib.hid hs
          have hsz : y.sz ≤ N := by have := Ex.sz_at hy; omega
          have hyo : y.ok w0 := by
            obtain ⟨h1, h2⟩ := List.getElem?_eq_some_iff.1 hy
            exact h2 ▸ he.subs.at h1
          have hkc : RRow w0 10 exC (.slice (some ⟨g, o, none⟩) e.kids.length e.h.hk.c) e.kids := hgo ▸ he.kids
          clear hy hs
          go_upto_region 9999 with (first | ((with_reducible refine at_dst 50 ?_); (refine wp_rec2 ((hkc.ext E.low)) (HY.out) exC_len rfl rfl ?_ ?_ ?_); (· kernel_rfl); (· kernel_rfl)) | ((with_reducible refine at_dst 5 ?_); go_simp; (generalize hX5 : Array.size (World.heap _) = X5); refine new_block hX5 ?_; intro wn bb hx; (try (have n3_5 := (b3.ne hX5).1; have n5_3 := (b3.ne hX5).2)); (try (have z5 := Nat.le_trans E.size (Nat.le_of_eq hX5))); (try (have mhu_5 := hu.notin (Nat.le_of_eq hX5))); (try (have mFR_5 := FR.notin (Nat.le_of_eq hX5))); have b5 := Loc.new bb E hX5; clear bb hX5; (try replace E := E.ext hx); (try replace b3 := b3.ext hx); (try replace hu := hu.ext hx); (try replace FR := FR.ext hx); (try (clear hcE hfE)); (try (have hcf := bcell E.low; obtain ⟨hcE, hfE⟩ := hcf)); (try (clear c3 f3)); (try (have c3 := b3.cell; have f3 := b3.free)); (try (clear c5 f5)); (try (have c5 := b5.cell; have f5 := b5.free))) | ((with_reducible refine at_dst 52 ?_); (refine wp_all b5.blk rfl rfl ?_ ?_ ?_); (· kernel_rfl); (· kernel_rfl)) | ((with_reducible refine at_dst 53 ?_); go_simp; ((with_reducible refine (IH.out _ y hu hyo hsz (wt_exs HY.out hw2)).mono ?_)); unfold UPost; rintro e wn ⟨rfl, hu2, hF⟩; (try replace b3 := hu.loc b3 hF (of_decide_eq_true rfl)); (try replace b5 := hu.loc b5 hF (of_decide_eq_true rfl)); replace FR := FR.trans hF; clear hu E hF; have hu := hu2; clear hu2; have E := hu.only; (try (clear hcE hfE)); (try (have hcf := bcell E.low; obtain ⟨hcE, hfE⟩ := hcf)); (try (clear c3 f3)); (try (have c3 := b3.cell; have f3 := b3.free)); (try (clear c5 f5)); (try (have c5 := b5.cell; have f5 := b5.free))) | ((with_reducible refine at_store 5 ?_); (refine wp_put b5 rfl rfl ?_ ?_ ?_ ?_; (· kernel_rfl); (· first | rfl | kernel_rfl); (· first | decide | exact Nat.le_refl _ | simp [Act.eval, Value.cells] | (simp [Act.eval, Act.put, Value.cells]; done)); intro wn bn hb; have E2 := E.put b5 hb; (try replace b3 := b3.but hb n3_5); (first | (replace hu := hu.but b5 hb (of_decide_eq_true rfl)) | (replace hu := hu.but0 hb mhu_5) | skip); (first | (replace FR := FR.but hb b5.blk (of_decide_eq_true rfl)) | (replace FR := FR.but0 hb mFR_5) | skip); clear E b5; have E := E2; clear E2; have b5 := bn; clear bn hb; dsimp only [Act.put]; simp only [putA, Act.eval, Value.cells, Nat.reduceAdd, putL, sizL] at b5; (try (clear hcE hfE)); (try (have hcf := bcell E.low; obtain ⟨hcE, hfE⟩ := hcf)); (try (clear c3 f3)); (try (have c3 := b3.cell; have f3 := b3.free)); (try (clear c5 f5)); (try (have c5 := b5.cell; have f5 := b5.free)))))
          simp only [← hgo]
          clear hgo
          go_roundw
          case rel => exact ⟨j + 1, by go_num, by omega, HS.out ▸ hu, FR⟩
          case measure => simp [intOf]; omega
        · go_upto_region 9999 with (first | fail)
          refine bodyPost_ret (v := .tuple #[]) (by simp [results, Try.f67, go_sem]) rfl (upost hu (by rw [List.take_of_length_le (by omega), ← adds_app, evEx_eq]) FR)
    · have HH := fin [] (by unfold evExH; rw [hop, hea, h1, if_neg (by omega), if_neg (by omega)])
      subst h1
      have h3 : ¬ (0 : Int) ≤ ea := by omega
      go_upto_region 11 with (first | ((with_reducible refine at_dst 3 ?_); go_simp; (generalize hX3 : Array.size (World.heap _) = X3); refine new_block hX3 ?_; intro wn bb hx; (try (have n5_3 := (b5.ne hX3).1; have n3_5 := (b5.ne hX3).2)); (try (have z3 := Nat.le_trans E.size (Nat.le_of_eq hX3))); (try (have mhu_3 := hu.notin (Nat.le_of_eq hX3))); (try (have mFR_3 := FR.notin (Nat.le_of_eq hX3))); have b3 := Loc.new bb E hX3; clear bb hX3; (try replace E := E.ext hx); (try replace b5 := b5.ext hx); (try replace hu := hu.ext hx); (try replace FR := FR.ext hx); (try (clear hcE hfE)); (try (have hcf := bcell E.low; obtain ⟨hcE, hfE⟩ := hcf)); (try (clear c3 f3)); (try (have c3 := b3.cell; have f3 := b3.free)); (try (clear c5 f5)); (try (have c5 := b5.cell; have f5 := b5.free))))
      have hu2 : UAt w0 wn b m (adds U (evExH p e.h)) p := by rw [HH.out]; exact hu
      clear hu
      have hu := hu2
      clear hu2
      clear HH hop hea hr
      go_upto_region 12 with (first | fail)
      go_loopw [47] (fun i wr => ∃ j : Nat, i = .int .i64 j ∧ j ≤ e.kids.length ∧ UAt w0 wr b m (adds (adds U (evExH p e.h)) (evExs p (e.kids.take j))) p ∧ UFr b m w wr) (fun i _ => e.kids.length - (intOf i).toNat)
      case atStart => exact ⟨0, rfl, Nat.zero_le _, hu, FR⟩
      case round =>
        clear hu FR E b3 c3 f3
        obtain ⟨j, rfl, hj, hu, FR⟩ := hrel
        have E := hu.only
        obtain ⟨hcE, hfE⟩ := bcell E.low
        by_cases hlt : j < e.kids.length
        · obtain ⟨y, hy⟩ := at_some hlt
          obtain ⟨g, o, hgo, hg, -⟩ := RRow.cells he.kids hlt
          have HY := Lib.hid hy
          have hs := evExs_take (p := p) hy (adds U (evExH p e.h))
          have HS := Lib.hid hs
          have hsz : y.sz ≤ N := by have := Ex.sz_at hy; omega
          have hyo : y.ok w0 := by
            obtain ⟨h1, h2⟩ := List.getElem?_eq_some_iff.1 hy
            exact h2 ▸ he.subs.at h1
          have hkc : RRow w0 10 exC (.slice (some ⟨g, o, none⟩) e.kids.length e.h.hk.c) e.kids := hgo ▸ he.kids
          clear hy hs
          go_upto_region 9999 with (first | ((with_reducible refine at_dst 50 ?_); (refine wp_rec2 ((hkc.ext E.low)) (HY.out) exC_len rfl rfl ?_ ?_ ?_); (· kernel_rfl); (· kernel_rfl)) | ((with_reducible refine at_dst 5 ?_); go_simp; (generalize hX5 : Array.size (World.heap _) = X5); refine new_block hX5 ?_; intro wn bb hx; (try (have n3_5 := (b3.ne hX5).1; have n5_3 := (b3.ne hX5).2)); (try (have z5 := Nat.le_trans E.size (Nat.le_of_eq hX5))); (try (have mhu_5 := hu.notin (Nat.le_of_eq hX5))); (try (have mFR_5 := FR.notin (Nat.le_of_eq hX5))); have b5 := Loc.new bb E hX5; clear bb hX5; (try replace E := E.ext hx); (try replace b3 := b3.ext hx); (try replace hu := hu.ext hx); (try replace FR := FR.ext hx); (try (clear hcE hfE)); (try (have hcf := bcell E.low; obtain ⟨hcE, hfE⟩ := hcf)); (try (clear c3 f3)); (try (have c3 := b3.cell; have f3 := b3.free)); (try (clear c5 f5)); (try (have c5 := b5.cell; have f5 := b5.free))) | ((with_reducible refine at_dst 52 ?_); (refine wp_all b5.blk rfl rfl ?_ ?_ ?_); (· kernel_rfl); (· kernel_rfl)) | ((with_reducible refine at_dst 53 ?_); go_simp; ((with_reducible refine (IH.out _ y hu hyo hsz (wt_exs HY.out hw2)).mono ?_)); unfold UPost; rintro e wn ⟨rfl, hu2, hF⟩; (try replace b3 := hu.loc b3 hF (of_decide_eq_true rfl)); (try replace b5 := hu.loc b5 hF (of_decide_eq_true rfl)); replace FR := FR.trans hF; clear hu E hF; have hu := hu2; clear hu2; have E := hu.only; (try (clear hcE hfE)); (try (have hcf := bcell E.low; obtain ⟨hcE, hfE⟩ := hcf)); (try (clear c3 f3)); (try (have c3 := b3.cell; have f3 := b3.free)); (try (clear c5 f5)); (try (have c5 := b5.cell; have f5 := b5.free))) | ((with_reducible refine at_store 5 ?_); (refine wp_put b5 rfl rfl ?_ ?_ ?_ ?_; (· kernel_rfl); (· first | rfl | kernel_rfl); (· first | decide | exact Nat.le_refl _ | simp [Act.eval, Value.cells] | (simp [Act.eval, Act.put, Value.cells]; done)); intro wn bn hb; have E2 := E.put b5 hb; (try replace b3 := b3.but hb n3_5); (first | (replace hu := hu.but b5 hb (of_decide_eq_true rfl)) | (replace hu := hu.but0 hb mhu_5) | skip); (first | (replace FR := FR.but hb b5.blk (of_decide_eq_true rfl)) | (replace FR := FR.but0 hb mFR_5) | skip); clear E b5; have E := E2; clear E2; have b5 := bn; clear bn hb; dsimp only [Act.put]; simp only [putA, Act.eval, Value.cells, Nat.reduceAdd, putL, sizL] at b5; (try (clear hcE hfE)); (try (have hcf := bcell E.low; obtain ⟨hcE, hfE⟩ := hcf)); (try (clear c3 f3)); (try (have c3 := b3.cell; have f3 := b3.free)); (try (clear c5 f5)); (try (have c5 := b5.cell; have f5 := b5.free)))))
          simp only [← hgo]
          clear hgo
          go_roundw
          case rel => exact ⟨j + 1, by go_num, by omega, HS.out ▸ hu, FR⟩
          case measure => simp [intOf]; omega
        · go_upto_region 9999 with (first | fail)
          refine bodyPost_ret (v := .tuple #[]) (by simp [results, Try.f67, go_sem]) rfl (upost hu (by rw [List.take_of_length_le (by omega), ← adds_app, evEx_eq]) FR)
    · have HH := fin [] (by unfold evExH; rw [hop, if_neg h1, if_neg (by omega)])
      obtain ⟨g1, -⟩ := kd_f h1
      obtain ⟨g2, -⟩ := kd_f h2
      clear h1 h2
      go_upto_region 11 with (first | ((with_reducible refine at_dst 3 ?_); go_simp; (generalize hX3 : Array.size (World.heap _) = X3); refine new_block hX3 ?_; intro wn bb hx; (try (have n5_3 := (b5.ne hX3).1; have n3_5 := (b5.ne hX3).2)); (try (have z3 := Nat.le_trans E.size (Nat.le_of_eq hX3))); (try (have mhu_3 := hu.notin (Nat.le_of_eq hX3))); (try (have mFR_3 := FR.notin (Nat.le_of_eq hX3))); have b3 := Loc.new bb E hX3; clear bb hX3; (try replace E := E.ext hx); (try replace b5 := b5.ext hx); (try replace hu := hu.ext hx); (try replace FR := FR.ext hx); (try (clear hcE hfE)); (try (have hcf := bcell E.low; obtain ⟨hcE, hfE⟩ := hcf)); (try (clear c3 f3)); (try (have c3 := b3.cell; have f3 := b3.free)); (try (clear c5 f5)); (try (have c5 := b5.cell; have f5 := b5.free))))
      have hu2 : UAt w0 wn b m (adds U (evExH p e.h)) p := by rw [HH.out]; exact hu
      clear hu
      have hu := hu2
      clear hu2
      clear HH hop hea hr
      go_upto_region 12 with (first | fail)
      go_loopw [47] (fun i wr => ∃ j : Nat, i = .int .i64 j ∧ j ≤ e.kids.length ∧ UAt w0 wr b m (adds (adds U (evExH p e.h)) (evExs p (e.kids.take j))) p ∧ UFr b m w wr) (fun i _ => e.kids.length - (intOf i).toNat)
      case atStart => exact ⟨0, rfl, Nat.zero_le _, hu, FR⟩
      case round =>
        clear hu FR E b3 c3 f3
        obtain ⟨j, rfl, hj, hu, FR⟩ := hrel
        have E := hu.only
        obtain ⟨hcE, hfE⟩ := bcell E.low
        by_cases hlt : j < e.kids.length
        · obtain ⟨y, hy⟩ := at_some hlt
          obtain ⟨g, o, hgo, hg, -⟩ := RRow.cells he.kids hlt
          have HY := Lib.hid hy
          have hs := evExs_take (p := p) hy (adds U (evExH p e.h))
          have HS := Lib.hid hs
          have hsz : y.sz ≤ N := by have := Ex.sz_at hy; omega
          have hyo : y.ok w0 := by
            obtain ⟨h1, h2⟩ := List.getElem?_eq_some_iff.1 hy
            exact h2 ▸ he.subs.at h1
          have hkc : RRow w0 10 exC (.slice (some ⟨g, o, none⟩) e.kids.length e.h.hk.c) e.kids := hgo ▸ he.kids
          clear hy hs
          go_upto_region 9999 with (first | ((with_reducible refine at_dst 50 ?_); (refine wp_rec2 ((hkc.ext E.low)) (HY.out) exC_len rfl rfl ?_ ?_ ?_); (· kernel_rfl); (· kernel_rfl)) | ((with_reducible refine at_dst 5 ?_); go_simp; (generalize hX5 : Array.size (World.heap _) = X5); refine new_block hX5 ?_; intro wn bb hx; (try (have n3_5 := (b3.ne hX5).1; have n5_3 := (b3.ne hX5).2)); (try (have z5 := Nat.le_trans E.size (Nat.le_of_eq hX5))); (try (have mhu_5 := hu.notin (Nat.le_of_eq hX5))); (try (have mFR_5 := FR.notin (Nat.le_of_eq hX5))); have b5 := Loc.new bb E hX5; clear bb hX5; (try replace E := E.ext hx); (try replace b3 := b3.ext hx); (try replace hu := hu.ext hx); (try replace FR := FR.ext hx); (try (clear hcE hfE)); (try (have hcf := bcell E.low; obtain ⟨hcE, hfE⟩ := hcf)); (try (clear c3 f3)); (try (have c3 := b3.cell; have f3 := b3.free)); (try (clear c5 f5)); (try (have c5 := b5.cell; have f5 := b5.free))) | ((with_reducible refine at_dst 52 ?_); (refine wp_all b5.blk rfl rfl ?_ ?_ ?_); (· kernel_rfl); (· kernel_rfl)) | ((with_reducible refine at_dst 53 ?_); go_simp; ((with_reducible refine (IH.out _ y hu hyo hsz (wt_exs HY.out hw2)).mono ?_)); unfold UPost; rintro e wn ⟨rfl, hu2, hF⟩; (try replace b3 := hu.loc b3 hF (of_decide_eq_true rfl)); (try replace b5 := hu.loc b5 hF (of_decide_eq_true rfl)); replace FR := FR.trans hF; clear hu E hF; have hu := hu2; clear hu2; have E := hu.only; (try (clear hcE hfE)); (try (have hcf := bcell E.low; obtain ⟨hcE, hfE⟩ := hcf)); (try (clear c3 f3)); (try (have c3 := b3.cell; have f3 := b3.free)); (try (clear c5 f5)); (try (have c5 := b5.cell; have f5 := b5.free))) | ((with_reducible refine at_store 5 ?_); (refine wp_put b5 rfl rfl ?_ ?_ ?_ ?_; (· kernel_rfl); (· first | rfl | kernel_rfl); (· first | decide | exact Nat.le_refl _ | simp [Act.eval, Value.cells] | (simp [Act.eval, Act.put, Value.cells]; done)); intro wn bn hb; have E2 := E.put b5 hb; (try replace b3 := b3.but hb n3_5); (first | (replace hu := hu.but b5 hb (of_decide_eq_true rfl)) | (replace hu := hu.but0 hb mhu_5) | skip); (first | (replace FR := FR.but hb b5.blk (of_decide_eq_true rfl)) | (replace FR := FR.but0 hb mFR_5) | skip); clear E b5; have E := E2; clear E2; have b5 := bn; clear bn hb; dsimp only [Act.put]; simp only [putA, Act.eval, Value.cells, Nat.reduceAdd, putL, sizL] at b5; (try (clear hcE hfE)); (try (have hcf := bcell E.low; obtain ⟨hcE, hfE⟩ := hcf)); (try (clear c3 f3)); (try (have c3 := b3.cell; have f3 := b3.free)); (try (clear c5 f5)); (try (have c5 := b5.cell; have f5 := b5.free)))))
          simp only [← hgo]
          clear hgo
          go_roundw
          case rel => exact ⟨j + 1, by go_num, by omega, HS.out ▸ hu, FR⟩
          case measure => simp [intOf]; omega
        · go_upto_region 9999 with (first | fail)
          refine bodyPost_ret (v := .tuple #[]) (by simp [results, Try.f67, go_sem]) rfl (upost hu (by rw [List.take_of_length_le (by omega), ← adds_app, evEx_eq]) FR)
end Go.Proofs.Ytnifgkgdphlleaa
