/- H3 -/
import Derived.Test.YtbobbbhgdfapjaaZR1
import Derived.Test.YtbobbbhgdfapjaaZR2
import Derived.Test.YtbobbbhgdfapjaaZR3
import Derived.Test.YtbobbbhgdfapjaaZR4
import Derived.Test.YtbobbbhgdfapjaaZR5
set_option linter.unusedSimpArgs false
set_option linter.unusedVariables false
namespace Go.Proofs.Ytbobbbhgdfapjaa
set_option maxHeartbeats 8000000
set_option maxRecDepth 100000
open Go.RowKit Tk
def identB (s : ByteArray) : Bool := nameB s.data.toList && !kwB s.data.toList
def namedE (op : Int) : Int := if opn op = 0 then 1 else 0
def firstN (l : List ByteArray) : ByteArray := l.headD ⟨#[]⟩
def nodeE (x : Ex) (l : Int) : Int :=
 if 12 < l then 4
 else if opn x.h.op < 0 ∨ x.h.a ≠ 0 ∨ x.h.b ≠ 0 ∨ x.h.rel ≠ 0 ∨ x.h.s0 ≠ 0 ∨ x.h.s1 ≠ 0 ∨ x.h.s2 ≠ 0 ∨ x.h.s3 ≠ 0 ∨ (x.kids.length : Int) ≠ opn x.h.op ∨ (x.h.names.length : Int) ≠ namedE x.h.op then 2
 else if opn x.h.op = 0 ∧ identB (firstN x.h.names) = false then 10 else 0
mutual
def chk : Ex → Int → Int
 | .mk h k, l => if nodeE (.mk h k) l ≠ 0 then nodeE (.mk h k) l else chks k (l + 1)
def chks : List Ex → Int → Int
 | [], _ => 0
 | e :: r, l => if chk e l ≠ 0 then chk e l else chks r l
end
theorem chk_eq (x : Ex) (l : Int) : chk x l = if nodeE x l ≠ 0 then nodeE x l else chks x.kids (l + 1) := by cases x; rw [chk]; rfl
theorem chks_at {l : List Ex} {j : Nat} {y : Ex} {v R : Int} (h : Hid (chks (l.drop j) v = R)) (hy : l[j]? = some y) : (if chk y v ≠ 0 then chk y v else chks (l.drop (j + 1)) v) = R := by
 have := h.out
 rw [drop_at hy, chks] at this
 exact this
mutual
def Ex.small : Ex → Prop
 | .mk h k => (∀ n ∈ h.names, n.size ≤ maxLen) ∧ Ex.smalls k
def Ex.smalls : List Ex → Prop
 | [] => True
 | e :: l => e.small ∧ Ex.smalls l
end
theorem Ex.small.names {x : Ex} (h : x.small) : ∀ n ∈ x.h.names, n.size ≤ maxLen := by cases x; unfold Ex.small at h; exact h.1
theorem Ex.small.kids {x : Ex} (h : x.small) : Ex.smalls x.kids := by cases x; unfold Ex.small at h; exact h.2
theorem Ex.smalls.mem : ∀ {l : List Ex}, Ex.smalls l → ∀ {x : Ex}, x ∈ l → x.small
 | y :: l, h, x, hm => by
   unfold Ex.smalls at h
   rcases List.mem_cons.1 hm with rfl | hm
   · exact h.1
   · exact Ex.smalls.mem h.2 hm
theorem bnode_any {w : World} {x : Ex} (hx : x.ok w) (hs : x.small) (l : Int) : Calls Try.prog 52 #[.agg (exC x).toArray, .int .i64 l] w (IPost (nodeE x l) w) := by
 have hxo := hx
 clear hx
 have n2 := (RRow.lens hxo.kids).2
 have n3 := (Reads.lens hxo.names).2
 obtain ⟨n, hn⟩ : ∃ n, opn x.h.op = n := ⟨_, rfl⟩
 have hv := opn_vals x.h.op
 have HN := Lib.hid hn
 obtain ⟨V, hV⟩ : ∃ V, nodeE x l = V := ⟨_, rfl⟩
 rw [hV]
 unfold nodeE namedE at hV
 rw [hn] at hV hv
 have hnn : n = 0 ∨ ¬ n = 0 := by omega
 clear hn

 by_cases h0 : 12 < l
 · rw [if_pos h0] at hV
   have HV := Lib.hid hV
   clear hV
   rcases hnn with hnn | hnn
   all_goals
    (first | (have gn := kd_t hnn; obtain ⟨g1, g2⟩ := gn) | (have gn := kd_f hnn; obtain ⟨g1, g2⟩ := gn))
    clear hnn
    go_enter Try.func52, Try.ntmps52
    have E := Only.refl [] w
    go_upto_region 9999 with (first | ((first | ((with_reducible refine at_dst 9 ?_); go_simp; ((with_reducible refine (boperands_any _ _).mono ?_)); unfold IPost; rw [HN.out]; rintro e wn ⟨rfl, hx⟩) | ((with_reducible refine at_dst 2 ?_); go_simp; (generalize hXn : Array.size (World.heap _) = X2); refine new_block hXn ?_; intro wn bb hx; have b2 := Loc.new bb E hXn; have zz := Nat.le_trans E.size (Nat.le_of_eq hXn); clear bb hXn)); (try replace E := E.ext hx); (try replace b2 := b2.ext hx); (try replace hcE := bcell E.low); (try replace c2 := b2.cf)))
    all_goals
     go_ret
     exact ipost HV.out E.low
 rw [if_neg h0] at hV
 by_cases h1 : n < 0
 · rw [if_pos (.inl h1)] at hV
   have HV := Lib.hid hV
   have hnn' : ¬ n = 0 := by omega
   obtain ⟨g1, g2⟩ := kd_f hnn'
   clear hV hnn hnn'
   go_enter Try.func52, Try.ntmps52
   have E := Only.refl [] w
   go_upto_region 9999 with (first | ((first | ((with_reducible refine at_dst 9 ?_); go_simp; ((with_reducible refine (boperands_any _ _).mono ?_)); unfold IPost; rw [HN.out]; rintro e wn ⟨rfl, hx⟩) | ((with_reducible refine at_dst 2 ?_); go_simp; (generalize hXn : Array.size (World.heap _) = X2); refine new_block hXn ?_; intro wn bb hx; have b2 := Loc.new bb E hXn; have zz := Nat.le_trans E.size (Nat.le_of_eq hXn); clear bb hXn)); (try replace E := E.ext hx); (try replace b2 := b2.ext hx); (try replace hcE := bcell E.low); (try replace c2 := b2.cf)))
   all_goals
    go_ret
    exact ipost HV.out E.low
 by_cases hall : x.h.a = 0 ∧ x.h.b = 0 ∧ x.h.rel = 0 ∧ (x.h.s0 = 0 ∧ x.h.s1 = 0 ∧ x.h.s2 = 0 ∧ x.h.s3 = 0) ∧ (x.kids.length : Int) = n ∧ (x.h.names.length : Int) = (if n = 0 then 1 else 0)
 rotate_left
 · have hV2 : 2 = V := by
     rw [← hV, if_pos]
     refine Classical.byContradiction fun hq => hall ?_
     simp only [not_or, ne_eq, Classical.not_not] at hq
     exact ⟨hq.2.1, hq.2.2.1, hq.2.2.2.1, ⟨hq.2.2.2.2.1, hq.2.2.2.2.2.1, hq.2.2.2.2.2.2.1, hq.2.2.2.2.2.2.2.1⟩, hq.2.2.2.2.2.2.2.2.1, hq.2.2.2.2.2.2.2.2.2⟩
   have HV := Lib.hid hV2
   clear hV hV2
   by_cases h2 : x.h.a = 0
   · by_cases h3 : x.h.b = 0
     · by_cases h4 : x.h.rel = 0
       · by_cases h5 : x.h.s0 = 0 ∧ x.h.s1 = 0 ∧ x.h.s2 = 0 ∧ x.h.s3 = 0
         · obtain ⟨e0, e1, e2, e3⟩ := h5
           obtain ⟨u0, v0⟩ := kd_t e0
           obtain ⟨u1, v1⟩ := kd_t e1
           obtain ⟨u2, v2⟩ := kd_t e2
           obtain ⟨u3, v3⟩ := kd_t e3
           by_cases h6 : (x.kids.length : Int) = n
           · have h7 : ¬ (x.h.names.length : Int) = (if n = 0 then 1 else 0) := fun h => hall ⟨h2, h3, h4, ⟨e0, e1, e2, e3⟩, h6, h⟩
             obtain ⟨gh2, kh2⟩ := kd_t h2
             obtain ⟨gh3, kh3⟩ := kd_t h3
             obtain ⟨gh4, kh4⟩ := kd_t h4
             obtain ⟨gh6, kh6⟩ := kd_t h6
             have Hh2 := Lib.hid h2
             have Hh3 := Lib.hid h3
             have Hh4 := Lib.hid h4
             have Hh6 := Lib.hid h6
             rcases hnn with hnn | hnn
             all_goals
              (first | (have gn := kd_t hnn; obtain ⟨g1, g2⟩ := gn) | (have gn := kd_f hnn; obtain ⟨g1, g2⟩ := gn))
              (first | (rw [if_pos hnn] at h7) | (rw [if_neg hnn] at h7))
              obtain ⟨gh7, kh7⟩ := kd_f h7
              have Hh7 := Lib.hid h7
              clear h7
              clear hall hnn h2 h3 h4 h6
              go_enter Try.func52, Try.ntmps52
              have E := Only.refl [] w
              go_upto_region 9999 with (first | ((first | ((with_reducible refine at_dst 9 ?_); go_simp; ((with_reducible refine (boperands_any _ _).mono ?_)); unfold IPost; rw [HN.out]; rintro e wn ⟨rfl, hx⟩) | ((with_reducible refine at_dst 2 ?_); go_simp; (generalize hXn : Array.size (World.heap _) = X2); refine new_block hXn ?_; intro wn bb hx; have b2 := Loc.new bb E hXn; have zz := Nat.le_trans E.size (Nat.le_of_eq hXn); clear bb hXn)); (try replace E := E.ext hx); (try replace b2 := b2.ext hx); (try replace hcE := bcell E.low); (try replace c2 := b2.cf)))
              all_goals
               go_ret
               exact ipost HV.out E.low
           · obtain ⟨gh2, kh2⟩ := kd_t h2
             obtain ⟨gh3, kh3⟩ := kd_t h3
             obtain ⟨gh4, kh4⟩ := kd_t h4
             obtain ⟨gh6, kh6⟩ := kd_f h6
             have Hh2 := Lib.hid h2
             have Hh3 := Lib.hid h3
             have Hh4 := Lib.hid h4
             have Hh6 := Lib.hid h6
             rcases hnn with hnn | hnn
             all_goals
              (first | (have gn := kd_t hnn; obtain ⟨g1, g2⟩ := gn) | (have gn := kd_f hnn; obtain ⟨g1, g2⟩ := gn))
              clear hall hnn h2 h3 h4 h6
              go_enter Try.func52, Try.ntmps52
              have E := Only.refl [] w
              go_upto_region 9999 with (first | ((first | ((with_reducible refine at_dst 9 ?_); go_simp; ((with_reducible refine (boperands_any _ _).mono ?_)); unfold IPost; rw [HN.out]; rintro e wn ⟨rfl, hx⟩) | ((with_reducible refine at_dst 2 ?_); go_simp; (generalize hXn : Array.size (World.heap _) = X2); refine new_block hXn ?_; intro wn bb hx; have b2 := Loc.new bb E hXn; have zz := Nat.le_trans E.size (Nat.le_of_eq hXn); clear bb hXn)); (try replace E := E.ext hx); (try replace b2 := b2.ext hx); (try replace hcE := bcell E.low); (try replace c2 := b2.cf)))
              all_goals
               go_ret
               exact ipost HV.out E.low
         · rcases (show ¬ x.h.s0 = 0 ∨ (x.h.s0 = 0 ∧ ¬ x.h.s1 = 0) ∨ (x.h.s0 = 0 ∧ x.h.s1 = 0 ∧ ¬ x.h.s2 = 0) ∨ (x.h.s0 = 0 ∧ x.h.s1 = 0 ∧ x.h.s2 = 0 ∧ ¬ x.h.s3 = 0) by omega) with e0 | ⟨e0, e1⟩ | ⟨e0, e1, e2⟩ | ⟨e0, e1, e2, e3⟩
           all_goals
            (first | (have q := kd_t e0; obtain ⟨u0, v0⟩ := q) | (have q := kd_f e0; obtain ⟨u0, v0⟩ := q))
            (try (first | (have q := kd_t e1; obtain ⟨u1, v1⟩ := q) | (have q := kd_f e1; obtain ⟨u1, v1⟩ := q)))
            (try (first | (have q := kd_t e2; obtain ⟨u2, v2⟩ := q) | (have q := kd_f e2; obtain ⟨u2, v2⟩ := q)))
            (try (first | (have q := kd_t e3; obtain ⟨u3, v3⟩ := q) | (have q := kd_f e3; obtain ⟨u3, v3⟩ := q)))
            obtain ⟨gh2, kh2⟩ := kd_t h2
            obtain ⟨gh3, kh3⟩ := kd_t h3
            obtain ⟨gh4, kh4⟩ := kd_t h4
            have Hh2 := Lib.hid h2
            have Hh3 := Lib.hid h3
            have Hh4 := Lib.hid h4
            rcases hnn with hnn | hnn
            all_goals
             (first | (have gn := kd_t hnn; obtain ⟨g1, g2⟩ := gn) | (have gn := kd_f hnn; obtain ⟨g1, g2⟩ := gn))
             clear hall hnn h2 h3 h4
             go_enter Try.func52, Try.ntmps52
             have E := Only.refl [] w
             go_upto_region 9999 with (first | ((first | ((with_reducible refine at_dst 9 ?_); go_simp; ((with_reducible refine (boperands_any _ _).mono ?_)); unfold IPost; rw [HN.out]; rintro e wn ⟨rfl, hx⟩) | ((with_reducible refine at_dst 2 ?_); go_simp; (generalize hXn : Array.size (World.heap _) = X2); refine new_block hXn ?_; intro wn bb hx; have b2 := Loc.new bb E hXn; have zz := Nat.le_trans E.size (Nat.le_of_eq hXn); clear bb hXn)); (try replace E := E.ext hx); (try replace b2 := b2.ext hx); (try replace hcE := bcell E.low); (try replace c2 := b2.cf)))
             all_goals
              go_ret
              exact ipost HV.out E.low
       · obtain ⟨gh2, kh2⟩ := kd_t h2
         obtain ⟨gh3, kh3⟩ := kd_t h3
         obtain ⟨gh4, kh4⟩ := kd_f h4
         have Hh2 := Lib.hid h2
         have Hh3 := Lib.hid h3
         have Hh4 := Lib.hid h4
         rcases hnn with hnn | hnn
         all_goals
          (first | (have gn := kd_t hnn; obtain ⟨g1, g2⟩ := gn) | (have gn := kd_f hnn; obtain ⟨g1, g2⟩ := gn))
          clear hall hnn h2 h3 h4
          go_enter Try.func52, Try.ntmps52
          have E := Only.refl [] w
          go_upto_region 9999 with (first | ((first | ((with_reducible refine at_dst 9 ?_); go_simp; ((with_reducible refine (boperands_any _ _).mono ?_)); unfold IPost; rw [HN.out]; rintro e wn ⟨rfl, hx⟩) | ((with_reducible refine at_dst 2 ?_); go_simp; (generalize hXn : Array.size (World.heap _) = X2); refine new_block hXn ?_; intro wn bb hx; have b2 := Loc.new bb E hXn; have zz := Nat.le_trans E.size (Nat.le_of_eq hXn); clear bb hXn)); (try replace E := E.ext hx); (try replace b2 := b2.ext hx); (try replace hcE := bcell E.low); (try replace c2 := b2.cf)))
          all_goals
           go_ret
           exact ipost HV.out E.low
     · obtain ⟨gh2, kh2⟩ := kd_t h2
       obtain ⟨gh3, kh3⟩ := kd_f h3
       have Hh2 := Lib.hid h2
       have Hh3 := Lib.hid h3
       rcases hnn with hnn | hnn
       all_goals
        (first | (have gn := kd_t hnn; obtain ⟨g1, g2⟩ := gn) | (have gn := kd_f hnn; obtain ⟨g1, g2⟩ := gn))
        clear hall hnn h2 h3
        go_enter Try.func52, Try.ntmps52
        have E := Only.refl [] w
        go_upto_region 9999 with (first | ((first | ((with_reducible refine at_dst 9 ?_); go_simp; ((with_reducible refine (boperands_any _ _).mono ?_)); unfold IPost; rw [HN.out]; rintro e wn ⟨rfl, hx⟩) | ((with_reducible refine at_dst 2 ?_); go_simp; (generalize hXn : Array.size (World.heap _) = X2); refine new_block hXn ?_; intro wn bb hx; have b2 := Loc.new bb E hXn; have zz := Nat.le_trans E.size (Nat.le_of_eq hXn); clear bb hXn)); (try replace E := E.ext hx); (try replace b2 := b2.ext hx); (try replace hcE := bcell E.low); (try replace c2 := b2.cf)))
        all_goals
         go_ret
         exact ipost HV.out E.low
   · obtain ⟨gh2, kh2⟩ := kd_f h2
     have Hh2 := Lib.hid h2
     rcases hnn with hnn | hnn
     all_goals
      (first | (have gn := kd_t hnn; obtain ⟨g1, g2⟩ := gn) | (have gn := kd_f hnn; obtain ⟨g1, g2⟩ := gn))
      clear hall hnn h2
      go_enter Try.func52, Try.ntmps52
      have E := Only.refl [] w
      go_upto_region 9999 with (first | ((first | ((with_reducible refine at_dst 9 ?_); go_simp; ((with_reducible refine (boperands_any _ _).mono ?_)); unfold IPost; rw [HN.out]; rintro e wn ⟨rfl, hx⟩) | ((with_reducible refine at_dst 2 ?_); go_simp; (generalize hXn : Array.size (World.heap _) = X2); refine new_block hXn ?_; intro wn bb hx; have b2 := Loc.new bb E hXn; have zz := Nat.le_trans E.size (Nat.le_of_eq hXn); clear bb hXn)); (try replace E := E.ext hx); (try replace b2 := b2.ext hx); (try replace hcE := bcell E.low); (try replace c2 := b2.cf)))
      all_goals
       go_ret
       exact ipost HV.out E.low
 obtain ⟨h2, h3, h4, h5, h6, h7⟩ := hall
 rw [if_neg (by rintro (h | h | h | h | h | h | h | h | h | h); exact h1 h; exact h h2; exact h h3; exact h h4; exact h h5.1; exact h h5.2.1; exact h h5.2.2.1; exact h h5.2.2.2; exact h h6; exact h h7)] at hV
 obtain ⟨e0, e1, e2, e3⟩ := h5
 obtain ⟨u0, v0⟩ := kd_t e0
 obtain ⟨u1, v1⟩ := kd_t e1
 obtain ⟨u2, v2⟩ := kd_t e2
 obtain ⟨u3, v3⟩ := kd_t e3
 obtain ⟨gh2, kh2⟩ := kd_t h2
 obtain ⟨gh3, kh3⟩ := kd_t h3
 obtain ⟨gh4, kh4⟩ := kd_t h4
 obtain ⟨gh6, kh6⟩ := kd_t h6
 rcases hnn with hnn | hnn
 · obtain ⟨g1, g2⟩ := kd_t hnn
   rw [if_pos hnn] at h7
   obtain ⟨gh7, kh7⟩ := kd_t h7
   obtain ⟨nm, hnm⟩ : ∃ nm, x.h.names = [nm] := by
    have h8 : x.h.names.length = 1 := by omega
    match hq : x.h.names, h8 with
    | [nm], _ => exact ⟨nm, rfl⟩
   have hsz : nm.size ≤ maxLen := hs.names nm (by rw [hnm]; simp)
   have hlt : 0 < x.h.names.length := by omega
   obtain ⟨gg, oo, hgo, hg, k0⟩ := hxo.names.cells hlt
   have hn0 : x.h.names[0] = nm := by simp [hnm]
   rw [hn0, Nat.add_zero] at k0
   rw [hnm] at hV
   rcases hid : identB nm with _ | _
   all_goals
    rw [show firstN [nm] = nm from rfl, hid] at hV
    unfold identB at hid
    simp only [hnn, true_and, if_true, Bool.true_eq_false, if_false, and_false] at hV
    have HV := Lib.hid hV
    have HNM := Lib.hid hnm
    clear hV hnm h2 h3 h4 e0 e1 e2 e3 h6 h7 hnn hn0
    go_enter Try.func52, Try.ntmps52
    have E := Only.refl [] w
    go_upto_region 9999 with (first | ((first | ((with_reducible refine at_dst 9 ?_); go_simp; ((with_reducible refine (boperands_any _ _).mono ?_)); unfold IPost; rw [HN.out]; rintro e wn ⟨rfl, hx⟩) | ((with_reducible refine at_dst 2 ?_); go_simp; (generalize hXn : Array.size (World.heap _) = X2); refine new_block hXn ?_; intro wn bb hx; have b2 := Loc.new bb E hXn; have zz := Nat.le_trans E.size (Nat.le_of_eq hXn); clear bb hXn)); (try replace E := E.ext hx); (try replace b2 := b2.ext hx); (try replace hcE := bcell E.low); (try replace c2 := b2.cf)) | (go_at_call 81; ((refine (tIdentifier_any _ hsz _).mono ?_)); rintro e wn ⟨rfl, rfl⟩; have hx := Ext.refl wn; (try replace E := E.ext hx); (try replace b2 := b2.ext hx); (try replace hcE := bcell E.low); (try replace c2 := b2.cf)))
    all_goals
     go_ret
     exact ipost HV.out E.low
 · obtain ⟨g1, g2⟩ := kd_f hnn
   rw [if_neg hnn] at h7
   obtain ⟨gh7, kh7⟩ := kd_t h7
   rw [if_neg (by rintro ⟨h, -⟩; exact hnn h)] at hV
   have HV := Lib.hid hV
   clear hV h2 h3 h4 e0 e1 e2 e3 h6 h7 hnn
   go_enter Try.func52, Try.ntmps52
   have E := Only.refl [] w
   go_upto_region 9999 with (first | ((first | ((with_reducible refine at_dst 9 ?_); go_simp; ((with_reducible refine (boperands_any _ _).mono ?_)); unfold IPost; rw [HN.out]; rintro e wn ⟨rfl, hx⟩) | ((with_reducible refine at_dst 2 ?_); go_simp; (generalize hXn : Array.size (World.heap _) = X2); refine new_block hXn ?_; intro wn bb hx; have b2 := Loc.new bb E hXn; have zz := Nat.le_trans E.size (Nat.le_of_eq hXn); clear bb hXn)); (try replace E := E.ext hx); (try replace b2 := b2.ext hx); (try replace hcE := bcell E.low); (try replace c2 := b2.cf)))
   all_goals
    go_ret
    exact ipost HV.out E.low
end Go.Proofs.Ytbobbbhgdfapjaa
