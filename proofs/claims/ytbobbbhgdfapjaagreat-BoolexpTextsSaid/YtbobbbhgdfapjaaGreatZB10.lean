/- H5 -/
import Derived.Test.YtbobbbhgdfapjaaGreatZB1
import Derived.Test.YtbobbbhgdfapjaaGreatZB2
import Derived.Test.YtbobbbhgdfapjaaGreatZB3
import Derived.Test.YtbobbbhgdfapjaaGreatZB4
import Derived.Test.YtbobbbhgdfapjaaGreatZB5
import Derived.Test.YtbobbbhgdfapjaaGreatZB6
set_option linter.unusedSimpArgs false
set_option linter.unusedVariables false
namespace Go.Proofs.YtbobbbhgdfapjaaGreat
set_option maxHeartbeats 8000000
set_option maxRecDepth 100000
open Go.RowKit Tk
@[reducible] def QchkOk (N : Nat) : Prop := ∀ (x : Ex) (l : Int) {w : World}, x.ok w → x.small → x.sz < N → 0 ≤ l ∧ l + N ≤ 9000000000000000000 → Calls Tryz.prog 41 #[.agg (exC x).toArray, .int .i64 l] w (IPost (chk x l) w)
theorem qcheck_step {N : Nat} (IH : Hid (QchkOk N)) : QchkOk (N + 1) := by
 intro x l w hxo hs hz hl
 obtain ⟨hl0, hl1⟩ := hl
 have hl2 : 0 ≤ l + 1 ∧ l + 1 + N ≤ 9000000000000000000 := ⟨by omega, by omega⟩
 rw [Ex.sz_kids] at hz
 have n2 := (RRow.lens hxo.kids).2
 have n3 := (Reads.lens hxo.names).2
 obtain ⟨n, hn⟩ : ∃ n, opn x.h.op = n := ⟨_, rfl⟩
 have hv := opn_vals x.h.op
 have HN := Lib.hid hn
 obtain ⟨V, hV⟩ : ∃ V, nodeE x l = V := ⟨_, rfl⟩
 have hCV : V ≠ 0 → chk x l = V := fun h => by rw [chk_eq, hV, if_pos h]
 have hCZ : V = 0 → chk x l = chks x.kids (l + 1) := fun h => by rw [chk_eq, hV, if_neg (by simpa using h)]
 unfold nodeE namedE at hV
 rw [hn] at hV hv
 have hnn : n = 0 ∨ ¬ n = 0 := by omega
 clear hn
 have hCV := Lib.hid hCV
 have hCZ := Lib.hid hCZ

 by_cases h0 : 12 < l
 · rw [if_pos h0] at hV
   have HV := Lib.hid hV
   clear hV
   rcases hnn with hnn | hnn
   all_goals
    (first | (have gn := kd_t hnn; obtain ⟨g1, g2⟩ := gn) | (have gn := kd_f hnn; obtain ⟨g1, g2⟩ := gn))
    clear hnn
    go_enter Tryz.func41, Tryz.ntmps41
    have E := Only.refl [] w
    go_upto_region 9999 with (first | ((with_reducible refine at_dst 2 ?_); go_simp; (generalize hX2 : Array.size (World.heap _) = X2); refine new_block hX2 ?_; intro wn bb hx; (try have z2 := Nat.le_trans E.size (Nat.le_of_eq hX2)); have b2 := Loc.new bb E hX2; clear bb hX2; (try replace E := E.ext hx); (try replace hcE := bcell E.low); (try replace c2 := b2.cf)))
    all_goals
     go_ret
     exact ipost (HV.out.trans (hCV.out (by rw [← HV.out]; decide)).symm) E.low
 rw [if_neg h0] at hV
 by_cases h1 : n < 0
 · rw [if_pos (.inl h1)] at hV
   have HV := Lib.hid hV
   have hnn' : ¬ n = 0 := by omega
   obtain ⟨g1, g2⟩ := kd_f hnn'
   clear hV hnn hnn'
   go_enter Tryz.func41, Tryz.ntmps41
   have E := Only.refl [] w
   go_upto_region 9999 with (first | ((first | ((with_reducible refine at_dst 12 ?_); go_simp; ((with_reducible refine (qoperands_any _ _).mono ?_)); unfold IPost; rw [HN.out]; rintro e wn ⟨rfl, hx⟩) | ((with_reducible refine at_dst 2 ?_); go_simp; (generalize hXn : Array.size (World.heap _) = X2); refine new_block hXn ?_; intro wn bb hx; have b2 := Loc.new bb E hXn; have zz := Nat.le_trans E.size (Nat.le_of_eq hXn); clear bb hXn)); (try replace E := E.ext hx); (try replace b2 := b2.ext hx); (try replace hcE := bcell E.low); (try replace c2 := b2.cf)))
   all_goals
    go_ret
    exact ipost (HV.out.trans (hCV.out (by rw [← HV.out]; decide)).symm) E.low
 by_cases hall : x.h.a = 0 ∧ x.h.b = 0 ∧ x.h.rel = 0 ∧ (x.h.s0 = 0 ∧ x.h.s1 = 0 ∧ x.h.s2 = 0 ∧ x.h.s3 = 0) ∧ (x.kids.length : Int) = n ∧ (x.h.names.length : Int) = (if n = 0 then 1 else 0)
 rotate_left
 · have hV2 : 2 = V := by
     rw [← hV, if_pos]
     refine Classical.byContradiction fun hq => hall ?_
     simp only [not_or, ne_eq, Classical.not_not] at hq
     exact ⟨hq.2.1, hq.2.2.1, hq.2.2.2.1, ⟨hq.2.2.2.2.1, hq.2.2.2.2.2.1, hq.2.2.2.2.2.2.1, hq.2.2.2.2.2.2.2.1⟩, hq.2.2.2.2.2.2.2.2.1, hq.2.2.2.2.2.2.2.2.2⟩
   have HV := Lib.hid hV2
   clear hV hV2
   by_cases h2 : x.h.a = 0
   · by_cases h3 : x.h.b = 0
     · by_cases h4 : x.h.rel = 0
       · by_cases h5 : x.h.s0 = 0 ∧ x.h.s1 = 0 ∧ x.h.s2 = 0 ∧ x.h.s3 = 0
         · obtain ⟨e0, e1, e2, e3⟩ := h5
           obtain ⟨u0, v0⟩ := kd_t e0
           obtain ⟨u1, v1⟩ := kd_t e1
           obtain ⟨u2, v2⟩ := kd_t e2
           obtain ⟨u3, v3⟩ := kd_t e3
           by_cases h6 : (x.kids.length : Int) = n
           · have h7 : ¬ (x.h.names.length : Int) = (if n = 0 then 1 else 0) := fun h => hall ⟨h2, h3, h4, ⟨e0, e1, e2, e3⟩, h6, h⟩
             obtain ⟨gh2, kh2⟩ := kd_t h2
             obtain ⟨gh3, kh3⟩ := kd_t h3
             obtain ⟨gh4, kh4⟩ := kd_t h4
             obtain ⟨gh6, kh6⟩ := kd_t h6
             have Hh2 := Lib.hid h2
             have Hh3 := Lib.hid h3
             have Hh4 := Lib.hid h4
             have Hh6 := Lib.hid h6
             rcases hnn with hnn | hnn
             all_goals
              (first | (have gn := kd_t hnn; obtain ⟨g1, g2⟩ := gn) | (have gn := kd_f hnn; obtain ⟨g1, g2⟩ := gn))
              (first | (rw [if_pos hnn] at h7) | (rw [if_neg hnn] at h7; have hpos : 0 < n := by omega))
              obtain ⟨gh7, kh7⟩ := kd_f h7
              have Hh7 := Lib.hid h7
              clear h7
              clear hall hnn h2 h3 h4 h6
              go_enter Tryz.func41, Tryz.ntmps41
              have E := Only.refl [] w
              go_upto_region 9999 with (first | ((first | ((with_reducible refine at_dst 12 ?_); go_simp; ((with_reducible refine (qoperands_any _ _).mono ?_)); unfold IPost; rw [HN.out]; rintro e wn ⟨rfl, hx⟩) | ((with_reducible refine at_dst 2 ?_); go_simp; (generalize hXn : Array.size (World.heap _) = X2); refine new_block hXn ?_; intro wn bb hx; have b2 := Loc.new bb E hXn; have zz := Nat.le_trans E.size (Nat.le_of_eq hXn); clear bb hXn)); (try replace E := E.ext hx); (try replace b2 := b2.ext hx); (try replace hcE := bcell E.low); (try replace c2 := b2.cf)))
              all_goals
               go_ret
               exact ipost (HV.out.trans (hCV.out (by rw [← HV.out]; decide)).symm) E.low
           · obtain ⟨gh2, kh2⟩ := kd_t h2
             obtain ⟨gh3, kh3⟩ := kd_t h3
             obtain ⟨gh4, kh4⟩ := kd_t h4
             obtain ⟨gh6, kh6⟩ := kd_f h6
             have Hh2 := Lib.hid h2
             have Hh3 := Lib.hid h3
             have Hh4 := Lib.hid h4
             have Hh6 := Lib.hid h6
             rcases hnn with hnn | hnn
             all_goals
              (first | (have gn := kd_t hnn; obtain ⟨g1, g2⟩ := gn) | (have gn := kd_f hnn; obtain ⟨g1, g2⟩ := gn))
              clear hall hnn h2 h3 h4 h6
              go_enter Tryz.func41, Tryz.ntmps41
              have E := Only.refl [] w
              go_upto_region 9999 with (first | ((first | ((with_reducible refine at_dst 12 ?_); go_simp; ((with_reducible refine (qoperands_any _ _).mono ?_)); unfold IPost; rw [HN.out]; rintro e wn ⟨rfl, hx⟩) | ((with_reducible refine at_dst 2 ?_); go_simp; (generalize hXn : Array.size (World.heap _) = X2); refine new_block hXn ?_; intro wn bb hx; have b2 := Loc.new bb E hXn; have zz := Nat.le_trans E.size (Nat.le_of_eq hXn); clear bb hXn)); (try replace E := E.ext hx); (try replace b2 := b2.ext hx); (try replace hcE := bcell E.low); (try replace c2 := b2.cf)))
              all_goals
               go_ret
               exact ipost (HV.out.trans (hCV.out (by rw [← HV.out]; decide)).symm) E.low
         · rcases (show ¬ x.h.s0 = 0 ∨ (x.h.s0 = 0 ∧ ¬ x.h.s1 = 0) ∨ (x.h.s0 = 0 ∧ x.h.s1 = 0 ∧ ¬ x.h.s2 = 0) ∨ (x.h.s0 = 0 ∧ x.h.s1 = 0 ∧ x.h.s2 = 0 ∧ ¬ x.h.s3 = 0) by omega) with e0 | ⟨e0, e1⟩ | ⟨e0, e1, e2⟩ | ⟨e0, e1, e2, e3⟩
           all_goals
            (first | (have q := kd_t e0; obtain ⟨u0, v0⟩ := q) | (have q := kd_f e0; obtain ⟨u0, v0⟩ := q))
            (try (first | (have q := kd_t e1; obtain ⟨u1, v1⟩ := q) | (have q := kd_f e1; obtain ⟨u1, v1⟩ := q)))
            (try (first | (have q := kd_t e2; obtain ⟨u2, v2⟩ := q) | (have q := kd_f e2; obtain ⟨u2, v2⟩ := q)))
            (try (first | (have q := kd_t e3; obtain ⟨u3, v3⟩ := q) | (have q := kd_f e3; obtain ⟨u3, v3⟩ := q)))
            obtain ⟨gh2, kh2⟩ := kd_t h2
            obtain ⟨gh3, kh3⟩ := kd_t h3
            obtain ⟨gh4, kh4⟩ := kd_t h4
            have Hh2 := Lib.hid h2
            have Hh3 := Lib.hid h3
            have Hh4 := Lib.hid h4
            rcases hnn with hnn | hnn
            all_goals
             (first | (have gn := kd_t hnn; obtain ⟨g1, g2⟩ := gn) | (have gn := kd_f hnn; obtain ⟨g1, g2⟩ := gn))
             clear hall hnn h2 h3 h4
             go_enter Tryz.func41, Tryz.ntmps41
             have E := Only.refl [] w
             go_upto_region 9999 with (first | ((first | ((with_reducible refine at_dst 12 ?_); go_simp; ((with_reducible refine (qoperands_any _ _).mono ?_)); unfold IPost; rw [HN.out]; rintro e wn ⟨rfl, hx⟩) | ((with_reducible refine at_dst 2 ?_); go_simp; (generalize hXn : Array.size (World.heap _) = X2); refine new_block hXn ?_; intro wn bb hx; have b2 := Loc.new bb E hXn; have zz := Nat.le_trans E.size (Nat.le_of_eq hXn); clear bb hXn)); (try replace E := E.ext hx); (try replace b2 := b2.ext hx); (try replace hcE := bcell E.low); (try replace c2 := b2.cf)))
             all_goals
              go_ret
              exact ipost (HV.out.trans (hCV.out (by rw [← HV.out]; decide)).symm) E.low
       · obtain ⟨gh2, kh2⟩ := kd_t h2
         obtain ⟨gh3, kh3⟩ := kd_t h3
         obtain ⟨gh4, kh4⟩ := kd_f h4
         have Hh2 := Lib.hid h2
         have Hh3 := Lib.hid h3
         have Hh4 := Lib.hid h4
         rcases hnn with hnn | hnn
         all_goals
          (first | (have gn := kd_t hnn; obtain ⟨g1, g2⟩ := gn) | (have gn := kd_f hnn; obtain ⟨g1, g2⟩ := gn))
          clear hall hnn h2 h3 h4
          go_enter Tryz.func41, Tryz.ntmps41
          have E := Only.refl [] w
          go_upto_region 9999 with (first | ((first | ((with_reducible refine at_dst 12 ?_); go_simp; ((with_reducible refine (qoperands_any _ _).mono ?_)); unfold IPost; rw [HN.out]; rintro e wn ⟨rfl, hx⟩) | ((with_reducible refine at_dst 2 ?_); go_simp; (generalize hXn : Array.size (World.heap _) = X2); refine new_block hXn ?_; intro wn bb hx; have b2 := Loc.new bb E hXn; have zz := Nat.le_trans E.size (Nat.le_of_eq hXn); clear bb hXn)); (try replace E := E.ext hx); (try replace b2 := b2.ext hx); (try replace hcE := bcell E.low); (try replace c2 := b2.cf)))
          all_goals
           go_ret
           exact ipost (HV.out.trans (hCV.out (by rw [← HV.out]; decide)).symm) E.low
     · obtain ⟨gh2, kh2⟩ := kd_t h2
       obtain ⟨gh3, kh3⟩ := kd_f h3
       have Hh2 := Lib.hid h2
       have Hh3 := Lib.hid h3
       rcases hnn with hnn | hnn
       all_goals
        (first | (have gn := kd_t hnn; obtain ⟨g1, g2⟩ := gn) | (have gn := kd_f hnn; obtain ⟨g1, g2⟩ := gn))
        clear hall hnn h2 h3
        go_enter Tryz.func41, Tryz.ntmps41
        have E := Only.refl [] w
        go_upto_region 9999 with (first | ((first | ((with_reducible refine at_dst 12 ?_); go_simp; ((with_reducible refine (qoperands_any _ _).mono ?_)); unfold IPost; rw [HN.out]; rintro e wn ⟨rfl, hx⟩) | ((with_reducible refine at_dst 2 ?_); go_simp; (generalize hXn : Array.size (World.heap _) = X2); refine new_block hXn ?_; intro wn bb hx; have b2 := Loc.new bb E hXn; have zz := Nat.le_trans E.size (Nat.le_of_eq hXn); clear bb hXn)); (try replace E := E.ext hx); (try replace b2 := b2.ext hx); (try replace hcE := bcell E.low); (try replace c2 := b2.cf)))
        all_goals
         go_ret
         exact ipost (HV.out.trans (hCV.out (by rw [← HV.out]; decide)).symm) E.low
   · obtain ⟨gh2, kh2⟩ := kd_f h2
     have Hh2 := Lib.hid h2
     rcases hnn with hnn | hnn
     all_goals
      (first | (have gn := kd_t hnn; obtain ⟨g1, g2⟩ := gn) | (have gn := kd_f hnn; obtain ⟨g1, g2⟩ := gn))
      clear hall hnn h2
      go_enter Tryz.func41, Tryz.ntmps41
      have E := Only.refl [] w
      go_upto_region 9999 with (first | ((first | ((with_reducible refine at_dst 12 ?_); go_simp; ((with_reducible refine (qoperands_any _ _).mono ?_)); unfold IPost; rw [HN.out]; rintro e wn ⟨rfl, hx⟩) | ((with_reducible refine at_dst 2 ?_); go_simp; (generalize hXn : Array.size (World.heap _) = X2); refine new_block hXn ?_; intro wn bb hx; have b2 := Loc.new bb E hXn; have zz := Nat.le_trans E.size (Nat.le_of_eq hXn); clear bb hXn)); (try replace E := E.ext hx); (try replace b2 := b2.ext hx); (try replace hcE := bcell E.low); (try replace c2 := b2.cf)))
      all_goals
       go_ret
       exact ipost (HV.out.trans (hCV.out (by rw [← HV.out]; decide)).symm) E.low
 obtain ⟨h2, h3, h4, h5, h6, h7⟩ := hall
 rw [if_neg (by rintro (h | h | h | h | h | h | h | h | h | h); exact h1 h; exact h h2; exact h h3; exact h h4; exact h h5.1; exact h h5.2.1; exact h h5.2.2.1; exact h h5.2.2.2; exact h h6; exact h h7)] at hV
 obtain ⟨e0, e1, e2, e3⟩ := h5
 obtain ⟨u0, v0⟩ := kd_t e0
 obtain ⟨u1, v1⟩ := kd_t e1
 obtain ⟨u2, v2⟩ := kd_t e2
 obtain ⟨u3, v3⟩ := kd_t e3
 obtain ⟨gh2, kh2⟩ := kd_t h2
 obtain ⟨gh3, kh3⟩ := kd_t h3
 obtain ⟨gh4, kh4⟩ := kd_t h4
 obtain ⟨gh6, kh6⟩ := kd_t h6
 have hcase : (n = 0 ∧ ∃ nm, x.h.names = [nm] ∧ identB nm = false ∧ V = 10) ∨ (V = 0 ∧ ((n = 0 ∧ ∃ nm, x.h.names = [nm] ∧ identB nm = true) ∨ (0 < n ∧ x.h.names = []))) := by
  rcases hnn with hnn | hnn
  · rw [if_pos hnn] at h7
    obtain ⟨nm, hnm⟩ : ∃ nm, x.h.names = [nm] := by
     have h8 : x.h.names.length = 1 := by omega
     match hq : x.h.names, h8 with
     | [nm], _ => exact ⟨nm, rfl⟩
    rw [hnm, show firstN [nm] = nm from rfl] at hV
    cases hid : identB nm with
    | false =>
      rw [if_pos ⟨hnn, hid⟩] at hV
      exact .inl ⟨hnn, nm, hnm, hid, hV.symm⟩
    | true =>
      rw [if_neg (by rintro ⟨-, h⟩; rw [hid] at h; cases h)] at hV
      exact .inr ⟨hV.symm, .inl ⟨hnn, nm, hnm, hid⟩⟩
  · rw [if_neg hnn] at h7
    rw [if_neg (by rintro ⟨h, -⟩; exact hnn h)] at hV
    exact .inr ⟨hV.symm, .inr ⟨by omega, List.length_eq_zero_iff.1 (by omega)⟩⟩
 clear hV h7 hnn h2 h3 h4 e0 e1 e2 e3 h6
 rcases hcase with ⟨hnn, nm, hnm, hid, rfl⟩ | ⟨rfl, hcase⟩
 · obtain ⟨g1, g2⟩ := kd_t hnn
   have hsz : nm.size ≤ maxLen := hs.names nm (by rw [hnm]; simp)
   have hlt : 0 < x.h.names.length := by rw [hnm]; exact Nat.one_pos
   obtain ⟨gg, oo, hgo2, hg2, k0⟩ := hxo.names.cells hlt
   have hn0 : x.h.names[0] = nm := by simp [hnm]
   rw [hn0, Nat.add_zero] at k0
   have hl1 : x.h.names.length = 1 := by rw [hnm]; rfl
   have hl1' : (x.h.names.length : Int) = 1 := by omega
   obtain ⟨gl1, gl2⟩ := kd_t hl1'
   unfold identB at hid
   have HNM := Lib.hid hnm
   clear hnm hn0 hl1 hl1' hnn
   go_enter Tryz.func41, Tryz.ntmps41
   have E := Only.refl [] w
   go_upto_region 9999 with (first | ((first | ((with_reducible refine at_dst 12 ?_); go_simp; ((with_reducible refine (qoperands_any _ _).mono ?_)); unfold IPost; rw [HN.out]; rintro e wn ⟨rfl, hx⟩) | ((with_reducible refine at_dst 2 ?_); go_simp; (generalize hXn : Array.size (World.heap _) = X2); refine new_block hXn ?_; intro wn bb hx; have b2 := Loc.new bb E hXn; have zz := Nat.le_trans E.size (Nat.le_of_eq hXn); clear bb hXn)); (try replace E := E.ext hx); (try replace b2 := b2.ext hx); (try replace hcE := bcell E.low); (try replace c2 := b2.cf)) | (go_at_call 69; ((refine (rIdentifier_any _ hsz _).mono ?_)); rintro e wn ⟨rfl, rfl⟩; have hx := Ext.refl wn; (try replace E := E.ext hx); (try replace b2 := b2.ext hx); (try replace hcE := bcell E.low); (try replace c2 := b2.cf)))
   all_goals
    go_ret
    exact ipost (hCV.out (by decide)).symm E.low
 · obtain ⟨C, hC⟩ : ∃ C, chks x.kids (l + 1) = C := ⟨_, rfl⟩
   have HC := Lib.hid hC
   have hCC : chk x l = C := (hCZ.out rfl).trans hC
   rw [hCC]
   clear hC hCC
   rcases hcase with ⟨hnn, nm, hnm, hid⟩ | ⟨hn0, hnm⟩
   · have hgx := hnn
     obtain ⟨g1, g2⟩ := kd_t hnn
     have hsz : nm.size ≤ maxLen := hs.names nm (by rw [hnm]; simp)
     have hlt : 0 < x.h.names.length := by rw [hnm]; exact Nat.one_pos
     obtain ⟨gg, oo, hgo2, hg2, k0⟩ := hxo.names.cells hlt
     have hn0 : x.h.names[0] = nm := by simp [hnm]
     rw [hn0, Nat.add_zero] at k0
     have hl1 : x.h.names.length = 1 := by rw [hnm]; rfl
     have hl1' : (x.h.names.length : Int) = 1 := by omega
     obtain ⟨gl1, gl2⟩ := kd_t hl1'
     unfold identB at hid
     have HNM := Lib.hid hnm
     clear hnm hn0 hl1 hl1' hnn hgx
     go_enter Tryz.func41, Tryz.ntmps41
     have E := Only.refl [] w
     go_upto_region 11 with (first | ((first | ((with_reducible refine at_dst 12 ?_); go_simp; ((with_reducible refine (qoperands_any _ _).mono ?_)); unfold IPost; rw [HN.out]; rintro e wn ⟨rfl, hx⟩) | ((with_reducible refine at_dst 2 ?_); go_simp; (generalize hXn : Array.size (World.heap _) = X2); refine new_block hXn ?_; intro wn bb hx; have b2 := Loc.new bb E hXn; have zz := Nat.le_trans E.size (Nat.le_of_eq hXn); clear bb hXn)); (try replace E := E.ext hx); (try replace b2 := b2.ext hx); (try replace hcE := bcell E.low); (try replace c2 := b2.cf)) | (go_at_call 69; ((refine (rIdentifier_any _ hsz _).mono ?_)); rintro e wn ⟨rfl, rfl⟩; have hx := Ext.refl wn; (try replace E := E.ext hx); (try replace b2 := b2.ext hx); (try replace hcE := bcell E.low); (try replace c2 := b2.cf)))
     go_loopw [6] (fun i wr => ∃ j : Nat, i = .int .i64 j ∧ j ≤ x.kids.length ∧ Hid (chks (x.kids.drop j) (l + 1) = C) ∧ Only [] w wr ∧ Loc [] w wr X2 28 (exC x).toArray) (fun i _ => x.kids.length - (intOf i).toNat)
     case atStart => exact ⟨0, rfl, Nat.zero_le _, HC, E, b2⟩
     case round =>
      clear E b2 c2 hcE HC
      obtain ⟨j, rfl, hj, HV, E, b2⟩ := hrel
      have c2 := b2.cf
      have hcE := bcell E.low
      by_cases hlt : j < x.kids.length
      · obtain ⟨y, hy⟩ := at_some hlt
        have hym := List.mem_of_getElem? hy
        have hyo := hxo.subs.mem hym
        have hys := hs.kids.mem hym
        have hysz : y.sz < N := by have := Ex.sz_at hy; omega
        have HY := Lib.hid hy
        obtain ⟨g, o, hgo, hg, -⟩ := RRow.cells hxo.kids hlt
        have hkc : RRow w 10 exC (.slice (some ⟨g, o, none⟩) x.kids.length x.h.hk.c) x.kids := hgo ▸ hxo.kids
        have hst := chks_at HV hy
        obtain ⟨cy, hcy⟩ : ∃ cy, chk y (l + 1) = cy := ⟨_, rfl⟩
        rw [hcy] at hst
        have HCY := Lib.hid hcy
        clear hy hcy HV
        by_cases h1 : cy = 0
        · rw [if_neg (by simpa using h1)] at hst
          obtain ⟨g3, g4⟩ := kd_t h1
          have HS := Lib.hid hst
          have H1 := Lib.hid h1
          clear hst h1
          go_upto_region 9999 with (first | ((with_reducible refine at_dst 82 ?_); (refine wp_rec2 ((RRow.ext hkc E.low)) (HY.out) exC_len rfl rfl ?_ ?_ ?_); (· kernel_rfl); (· kernel_rfl)) | ((with_reducible refine at_dst 85 ?_); go_simp; (have hc := IH.out y (l + 1) (hyo.ext E.low) hys hysz hl2); (first | with_reducible refine hc.mono ?_ | refine hc.mono ?_); clear hc; unfold IPost; rw [HCY.out]; rintro e wn ⟨rfl, hx⟩; (try replace E := E.ext hx); (try replace b2 := b2.ext hx); (try replace hcE := bcell E.low); (try replace c2 := b2.cf)))
          try simp only [← hgo]
          clear hgo
          go_roundw
          case rel => exact ⟨j + 1, by go_num, by omega, HS, E, b2⟩
          case measure => simp [intOf]; omega
        · rw [if_pos h1] at hst
          obtain ⟨g3, g4⟩ := kd_f h1
          have HS := Lib.hid hst
          have H1 := Lib.hid h1
          clear hst h1
          go_upto_region 9999 with (first | ((with_reducible refine at_dst 82 ?_); (refine wp_rec2 ((RRow.ext hkc E.low)) (HY.out) exC_len rfl rfl ?_ ?_ ?_); (· kernel_rfl); (· kernel_rfl)) | ((with_reducible refine at_dst 85 ?_); go_simp; (have hc := IH.out y (l + 1) (hyo.ext E.low) hys hysz hl2); (first | with_reducible refine hc.mono ?_ | refine hc.mono ?_); clear hc; unfold IPost; rw [HCY.out]; rintro e wn ⟨rfl, hx⟩; (try replace E := E.ext hx); (try replace b2 := b2.ext hx); (try replace hcE := bcell E.low); (try replace c2 := b2.cf)))
          go_ret
          exact ipost HS.out E.low
      · have hz2 : 0 = C := by
          have := HV.out
          rw [List.drop_of_length_le (by omega), chks] at this
          exact this
        have HZ := Lib.hid hz2
        clear hz2
        go_upto_region 9999 with (first | fail)
        go_ret
        exact ipost HZ.out E.low
   · have hnn : ¬ n = 0 := by omega
     obtain ⟨g1, g2⟩ := kd_f hnn
     have hl0 : (x.h.names.length : Int) = 0 := by rw [hnm]; rfl
     obtain ⟨gl1, gl2⟩ := kd_t hl0
     clear hnm hl0 hnn
     go_enter Tryz.func41, Tryz.ntmps41
     have E := Only.refl [] w
     go_upto_region 11 with (first | ((first | ((with_reducible refine at_dst 12 ?_); go_simp; ((with_reducible refine (qoperands_any _ _).mono ?_)); unfold IPost; rw [HN.out]; rintro e wn ⟨rfl, hx⟩) | ((with_reducible refine at_dst 2 ?_); go_simp; (generalize hXn : Array.size (World.heap _) = X2); refine new_block hXn ?_; intro wn bb hx; have b2 := Loc.new bb E hXn; have zz := Nat.le_trans E.size (Nat.le_of_eq hXn); clear bb hXn)); (try replace E := E.ext hx); (try replace b2 := b2.ext hx); (try replace hcE := bcell E.low); (try replace c2 := b2.cf)))
     go_loopw [6] (fun i wr => ∃ j : Nat, i = .int .i64 j ∧ j ≤ x.kids.length ∧ Hid (chks (x.kids.drop j) (l + 1) = C) ∧ Only [] w wr ∧ Loc [] w wr X2 28 (exC x).toArray) (fun i _ => x.kids.length - (intOf i).toNat)
     case atStart => exact ⟨0, rfl, Nat.zero_le _, HC, E, b2⟩
     case round =>
      clear E b2 c2 hcE HC
      obtain ⟨j, rfl, hj, HV, E, b2⟩ := hrel
      have c2 := b2.cf
      have hcE := bcell E.low
      by_cases hlt : j < x.kids.length
      · obtain ⟨y, hy⟩ := at_some hlt
        have hym := List.mem_of_getElem? hy
        have hyo := hxo.subs.mem hym
        have hys := hs.kids.mem hym
        have hysz : y.sz < N := by have := Ex.sz_at hy; omega
        have HY := Lib.hid hy
        obtain ⟨g, o, hgo, hg, -⟩ := RRow.cells hxo.kids hlt
        have hkc : RRow w 10 exC (.slice (some ⟨g, o, none⟩) x.kids.length x.h.hk.c) x.kids := hgo ▸ hxo.kids
        have hst := chks_at HV hy
        obtain ⟨cy, hcy⟩ : ∃ cy, chk y (l + 1) = cy := ⟨_, rfl⟩
        rw [hcy] at hst
        have HCY := Lib.hid hcy
        clear hy hcy HV
        by_cases h1 : cy = 0
        · rw [if_neg (by simpa using h1)] at hst
          obtain ⟨g3, g4⟩ := kd_t h1
          have HS := Lib.hid hst
          have H1 := Lib.hid h1
          clear hst h1
          go_upto_region 9999 with (first | ((with_reducible refine at_dst 82 ?_); (refine wp_rec2 ((RRow.ext hkc E.low)) (HY.out) exC_len rfl rfl ?_ ?_ ?_); (· kernel_rfl); (· kernel_rfl)) | ((with_reducible refine at_dst 85 ?_); go_simp; (have hc := IH.out y (l + 1) (hyo.ext E.low) hys hysz hl2); (first | with_reducible refine hc.mono ?_ | refine hc.mono ?_); clear hc; unfold IPost; rw [HCY.out]; rintro e wn ⟨rfl, hx⟩; (try replace E := E.ext hx); (try replace b2 := b2.ext hx); (try replace hcE := bcell E.low); (try replace c2 := b2.cf)))
          try simp only [← hgo]
          clear hgo
          go_roundw
          case rel => exact ⟨j + 1, by go_num, by omega, HS, E, b2⟩
          case measure => simp [intOf]; omega
        · rw [if_pos h1] at hst
          obtain ⟨g3, g4⟩ := kd_f h1
          have HS := Lib.hid hst
          have H1 := Lib.hid h1
          clear hst h1
          go_upto_region 9999 with (first | ((with_reducible refine at_dst 82 ?_); (refine wp_rec2 ((RRow.ext hkc E.low)) (HY.out) exC_len rfl rfl ?_ ?_ ?_); (· kernel_rfl); (· kernel_rfl)) | ((with_reducible refine at_dst 85 ?_); go_simp; (have hc := IH.out y (l + 1) (hyo.ext E.low) hys hysz hl2); (first | with_reducible refine hc.mono ?_ | refine hc.mono ?_); clear hc; unfold IPost; rw [HCY.out]; rintro e wn ⟨rfl, hx⟩; (try replace E := E.ext hx); (try replace b2 := b2.ext hx); (try replace hcE := bcell E.low); (try replace c2 := b2.cf)))
          go_ret
          exact ipost HS.out E.low
      · have hz2 : 0 = C := by
          have := HV.out
          rw [List.drop_of_length_le (by omega), chks] at this
          exact this
        have HZ := Lib.hid hz2
        clear hz2
        go_upto_region 9999 with (first | fail)
        go_ret
        exact ipost HZ.out E.low
theorem qcheck_any : ∀ N : Nat, QchkOk N
 | 0 => fun _ _ _ _ _ hz _ => absurd hz (Nat.not_lt_zero _)
 | N + 1 => qcheck_step (Lib.hid (qcheck_any N))
theorem qCheck_any {w : World} {x : Ex} (hxo : x.ok w) (hs : x.small) (hz : x.sz ≤ 1000000000000) : Calls Tryz.prog 13 #[.agg (exC x).toArray] w (IPost (chk x 1) w) := by
 have hl2 : (0 : Int) ≤ 1 ∧ (1 : Int) + ((x.sz + 1 : Nat) : Int) ≤ 9000000000000000000 := ⟨by omega, by omega⟩
 go_enter Tryz.func13, Tryz.ntmps13
 have E := Only.refl [] w
 go_upto_region 9999 with (first | ((first | ((with_reducible refine at_dst 4 ?_); go_simp; (have hc := qcheck_any (x.sz + 1) x 1 (hxo.ext E.low) hs (Nat.lt_succ_self _) hl2); (first | with_reducible refine hc.mono ?_ | refine hc.mono ?_); clear hc; unfold IPost; rintro e wn ⟨rfl, hx⟩) | ((with_reducible refine at_dst 1 ?_); go_simp; (generalize hXn : Array.size (World.heap _) = X1); refine new_block hXn ?_; intro wn bb hx; have b1 := Loc.new bb E hXn; have zz := Nat.le_trans E.size (Nat.le_of_eq hXn); clear bb hXn)); (try replace E := E.ext hx); (try replace b1 := b1.ext hx); (try replace hcE := bcell E.low); (try replace c1 := b1.cf)) | ((with_reducible refine at_dst 3 ?_); (refine wp_all b1.blk rfl rfl ?_ ?_ ?_); (· kernel_rfl); (· kernel_rfl)))
 go_ret
 exact ⟨rfl, E.low⟩
end Go.Proofs.YtbobbbhgdfapjaaGreat
