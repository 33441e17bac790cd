/- H8, Lo -/
import Derived.Test.YtbobbbhgdfapjaaZR1
import Derived.Test.YtbobbbhgdfapjaaZR2
import Derived.Test.YtbobbbhgdfapjaaZR3
import Derived.Test.YtbobbbhgdfapjaaZR4
import Derived.Test.YtbobbbhgdfapjaaZR9
import Derived.Test.YtbobbbhgdfapjaaZR10
import Derived.Test.YtbobbbhgdfapjaaZR5
import Derived.Test.YtbobbbhgdfapjaaZR11
import Derived.Test.YtbobbbhgdfapjaaZR12
import Derived.Test.YtbobbbhgdfapjaaZR13
import Derived.Test.YtbobbbhgdfapjaaZR14
import Derived.Test.YtbobbbhgdfapjaaZR15
set_option linter.unusedSimpArgs false
set_option linter.unusedVariables false
namespace Go.Proofs.Ytbobbbhgdfapjaa
set_option maxHeartbeats 8000000
set_option maxRecDepth 100000
open Go.RowKit Tk
@[reducible] def q6SameOk (N : Nat) : Prop := ∀ (x y : Ex) {w : World}, x.ok w → y.ok w → x.sz < N → Calls Try.prog 8 #[.agg (exC x).toArray, .agg (exC y).toArray] w (BPost (sameE x y) w)
theorem q6Same_step {N : Nat} (IH : Hid (q6SameOk N)) : q6SameOk (N + 1) := by
 intro x y w hxo hyo hz
 rw [Ex.sz_kids] at hz
 have n2 := (RRow.lens hxo.kids).2
 have n3 := (RRow.lens hyo.kids).2
 have n4 := (Reads.lens hxo.names).2
 have n5 := (Reads.lens hyo.names).2
 obtain ⟨R, hR⟩ : ∃ R, sameE x y = R := ⟨_, rfl⟩
 rw [hR]
 rw [sameE_eq] at hR
 have HR := Lib.hid hR
 clear hR
 go_enter Try.func8, Try.ntmps8
 have E := Only.refl [] w
 by_cases cop : x.h.op = y.h.op
 rotate_left
 · have hF : R = false := by rw [← HR.out]; simp [headSame, cop]
   obtain ⟨dop, eop⟩ := kd_f cop
   have HF := Lib.hid hF
   have Cop := Lib.hid cop
   clear hF cop
   go_upto_region 9999 with (first | ((first | ((first | ((with_reducible refine at_dst 2 ?_); go_simp; (generalize hXn : Array.size (World.heap _) = X2); refine new_block hXn ?_; intro wn bb hx; have b2 := Loc.new bb E hXn) | ((with_reducible refine at_dst 3 ?_); go_simp; (generalize hXn : Array.size (World.heap _) = X3); refine new_block hXn ?_; intro wn bb hx; have b3 := Loc.new bb E hXn)); (try have ⟨nn, nm⟩ := b2.ne hXn); have zz := Nat.le_trans E.size (Nat.le_of_eq hXn); clear bb hXn)); (try replace E := E.ext hx); (try replace b2 := b2.ext hx); (try replace hcE := bcell E.low); (try replace c2 := b2.cf); (try replace c3 := b3.cf)))
   all_goals
    go_ret
    exact ⟨by rw [HF.out]; rfl, E.low⟩
 obtain ⟨dop, eop⟩ := kd_t cop
 have Cop := Lib.hid cop
 clear cop
 by_cases ca : x.h.a = y.h.a
 rotate_left
 · have hF : R = false := by rw [← HR.out]; simp [headSame, ca]
   obtain ⟨da, ea⟩ := kd_f ca
   have HF := Lib.hid hF
   have Ca := Lib.hid ca
   clear hF ca
   go_upto_region 9999 with (first | ((first | ((first | ((with_reducible refine at_dst 2 ?_); go_simp; (generalize hXn : Array.size (World.heap _) = X2); refine new_block hXn ?_; intro wn bb hx; have b2 := Loc.new bb E hXn) | ((with_reducible refine at_dst 3 ?_); go_simp; (generalize hXn : Array.size (World.heap _) = X3); refine new_block hXn ?_; intro wn bb hx; have b3 := Loc.new bb E hXn)); (try have ⟨nn, nm⟩ := b2.ne hXn); have zz := Nat.le_trans E.size (Nat.le_of_eq hXn); clear bb hXn)); (try replace E := E.ext hx); (try replace b2 := b2.ext hx); (try replace hcE := bcell E.low); (try replace c2 := b2.cf); (try replace c3 := b3.cf)))
   all_goals
    go_ret
    exact ⟨by rw [HF.out]; rfl, E.low⟩
 obtain ⟨da, ea⟩ := kd_t ca
 have Ca := Lib.hid ca
 clear ca
 by_cases cr : x.h.rel = y.h.rel
 rotate_left
 · have hF : R = false := by rw [← HR.out]; simp [headSame, cr]
   obtain ⟨dr, er⟩ := kd_f cr
   have HF := Lib.hid hF
   have Cr := Lib.hid cr
   clear hF cr
   go_upto_region 9999 with (first | ((first | ((first | ((with_reducible refine at_dst 2 ?_); go_simp; (generalize hXn : Array.size (World.heap _) = X2); refine new_block hXn ?_; intro wn bb hx; have b2 := Loc.new bb E hXn) | ((with_reducible refine at_dst 3 ?_); go_simp; (generalize hXn : Array.size (World.heap _) = X3); refine new_block hXn ?_; intro wn bb hx; have b3 := Loc.new bb E hXn)); (try have ⟨nn, nm⟩ := b2.ne hXn); have zz := Nat.le_trans E.size (Nat.le_of_eq hXn); clear bb hXn)); (try replace E := E.ext hx); (try replace b2 := b2.ext hx); (try replace hcE := bcell E.low); (try replace c2 := b2.cf); (try replace c3 := b3.cf)))
   all_goals
    go_ret
    exact ⟨by rw [HF.out]; rfl, E.low⟩
 obtain ⟨dr, er⟩ := kd_t cr
 have Cr := Lib.hid cr
 clear cr
 by_cases cb : x.h.b = y.h.b
 rotate_left
 · have hF : R = false := by rw [← HR.out]; simp [headSame, cb]
   obtain ⟨db, eb⟩ := kd_f cb
   have HF := Lib.hid hF
   have Cb := Lib.hid cb
   clear hF cb
   go_upto_region 9999 with (first | ((first | ((first | ((with_reducible refine at_dst 2 ?_); go_simp; (generalize hXn : Array.size (World.heap _) = X2); refine new_block hXn ?_; intro wn bb hx; have b2 := Loc.new bb E hXn) | ((with_reducible refine at_dst 3 ?_); go_simp; (generalize hXn : Array.size (World.heap _) = X3); refine new_block hXn ?_; intro wn bb hx; have b3 := Loc.new bb E hXn)); (try have ⟨nn, nm⟩ := b2.ne hXn); have zz := Nat.le_trans E.size (Nat.le_of_eq hXn); clear bb hXn)); (try replace E := E.ext hx); (try replace b2 := b2.ext hx); (try replace hcE := bcell E.low); (try replace c2 := b2.cf); (try replace c3 := b3.cf)))
   all_goals
    go_ret
    exact ⟨by rw [HF.out]; rfl, E.low⟩
 obtain ⟨db, eb⟩ := kd_t cb
 have Cb := Lib.hid cb
 clear cb
 by_cases cs0 : x.h.s0 = y.h.s0
 rotate_left
 · have hF : R = false := by rw [← HR.out]; simp [headSame, cs0]
   obtain ⟨ds0, es0⟩ := kd_f cs0
   have HF := Lib.hid hF
   have Cs0 := Lib.hid cs0
   clear hF cs0
   go_upto_region 9999 with (first | ((first | ((first | ((with_reducible refine at_dst 2 ?_); go_simp; (generalize hXn : Array.size (World.heap _) = X2); refine new_block hXn ?_; intro wn bb hx; have b2 := Loc.new bb E hXn) | ((with_reducible refine at_dst 3 ?_); go_simp; (generalize hXn : Array.size (World.heap _) = X3); refine new_block hXn ?_; intro wn bb hx; have b3 := Loc.new bb E hXn)); (try have ⟨nn, nm⟩ := b2.ne hXn); have zz := Nat.le_trans E.size (Nat.le_of_eq hXn); clear bb hXn)); (try replace E := E.ext hx); (try replace b2 := b2.ext hx); (try replace hcE := bcell E.low); (try replace c2 := b2.cf); (try replace c3 := b3.cf)))
   all_goals
    go_ret
    exact ⟨by rw [HF.out]; rfl, E.low⟩
 obtain ⟨ds0, es0⟩ := kd_t cs0
 have Cs0 := Lib.hid cs0
 clear cs0
 by_cases cs1 : x.h.s1 = y.h.s1
 rotate_left
 · have hF : R = false := by rw [← HR.out]; simp [headSame, cs1]
   obtain ⟨ds1, es1⟩ := kd_f cs1
   have HF := Lib.hid hF
   have Cs1 := Lib.hid cs1
   clear hF cs1
   go_upto_region 9999 with (first | ((first | ((first | ((with_reducible refine at_dst 2 ?_); go_simp; (generalize hXn : Array.size (World.heap _) = X2); refine new_block hXn ?_; intro wn bb hx; have b2 := Loc.new bb E hXn) | ((with_reducible refine at_dst 3 ?_); go_simp; (generalize hXn : Array.size (World.heap _) = X3); refine new_block hXn ?_; intro wn bb hx; have b3 := Loc.new bb E hXn)); (try have ⟨nn, nm⟩ := b2.ne hXn); have zz := Nat.le_trans E.size (Nat.le_of_eq hXn); clear bb hXn)); (try replace E := E.ext hx); (try replace b2 := b2.ext hx); (try replace hcE := bcell E.low); (try replace c2 := b2.cf); (try replace c3 := b3.cf)))
   all_goals
    go_ret
    exact ⟨by rw [HF.out]; rfl, E.low⟩
 obtain ⟨ds1, es1⟩ := kd_t cs1
 have Cs1 := Lib.hid cs1
 clear cs1
 by_cases cs2 : x.h.s2 = y.h.s2
 rotate_left
 · have hF : R = false := by rw [← HR.out]; simp [headSame, cs2]
   obtain ⟨ds2, es2⟩ := kd_f cs2
   have HF := Lib.hid hF
   have Cs2 := Lib.hid cs2
   clear hF cs2
   go_upto_region 9999 with (first | ((first | ((first | ((with_reducible refine at_dst 2 ?_); go_simp; (generalize hXn : Array.size (World.heap _) = X2); refine new_block hXn ?_; intro wn bb hx; have b2 := Loc.new bb E hXn) | ((with_reducible refine at_dst 3 ?_); go_simp; (generalize hXn : Array.size (World.heap _) = X3); refine new_block hXn ?_; intro wn bb hx; have b3 := Loc.new bb E hXn)); (try have ⟨nn, nm⟩ := b2.ne hXn); have zz := Nat.le_trans E.size (Nat.le_of_eq hXn); clear bb hXn)); (try replace E := E.ext hx); (try replace b2 := b2.ext hx); (try replace hcE := bcell E.low); (try replace c2 := b2.cf); (try replace c3 := b3.cf)))
   all_goals
    go_ret
    exact ⟨by rw [HF.out]; rfl, E.low⟩
 obtain ⟨ds2, es2⟩ := kd_t cs2
 have Cs2 := Lib.hid cs2
 clear cs2
 by_cases cs3 : x.h.s3 = y.h.s3
 rotate_left
 · have hF : R = false := by rw [← HR.out]; simp [headSame, cs3]
   obtain ⟨ds3, es3⟩ := kd_f cs3
   have HF := Lib.hid hF
   have Cs3 := Lib.hid cs3
   clear hF cs3
   go_upto_region 9999 with (first | ((first | ((first | ((with_reducible refine at_dst 2 ?_); go_simp; (generalize hXn : Array.size (World.heap _) = X2); refine new_block hXn ?_; intro wn bb hx; have b2 := Loc.new bb E hXn) | ((with_reducible refine at_dst 3 ?_); go_simp; (generalize hXn : Array.size (World.heap _) = X3); refine new_block hXn ?_; intro wn bb hx; have b3 := Loc.new bb E hXn)); (try have ⟨nn, nm⟩ := b2.ne hXn); have zz := Nat.le_trans E.size (Nat.le_of_eq hXn); clear bb hXn)); (try replace E := E.ext hx); (try replace b2 := b2.ext hx); (try replace hcE := bcell E.low); (try replace c2 := b2.cf); (try replace c3 := b3.cf)))
   all_goals
    go_ret
    exact ⟨by rw [HF.out]; rfl, E.low⟩
 obtain ⟨ds3, es3⟩ := kd_t cs3
 have Cs3 := Lib.hid cs3
 clear cs3
 by_cases hnl : x.h.names.length = y.h.names.length
 rotate_left
 · have hF : R = false := by
     have : ¬ x.h.names = y.h.names := fun h => hnl (by rw [h])
     rw [← HR.out]; simp [headSame, this]
   obtain ⟨dn, en⟩ := kd_f (show ¬ (x.h.names.length : Int) = (y.h.names.length : Int) by omega)
   have HF := Lib.hid hF
   have HNL := Lib.hid hnl
   clear hF hnl
   go_upto_region 9999 with (first | ((first | ((first | ((with_reducible refine at_dst 2 ?_); go_simp; (generalize hXn : Array.size (World.heap _) = X2); refine new_block hXn ?_; intro wn bb hx; have b2 := Loc.new bb E hXn) | ((with_reducible refine at_dst 3 ?_); go_simp; (generalize hXn : Array.size (World.heap _) = X3); refine new_block hXn ?_; intro wn bb hx; have b3 := Loc.new bb E hXn)); (try have ⟨nn, nm⟩ := b2.ne hXn); have zz := Nat.le_trans E.size (Nat.le_of_eq hXn); clear bb hXn)); (try replace E := E.ext hx); (try replace b2 := b2.ext hx); (try replace hcE := bcell E.low); (try replace c2 := b2.cf); (try replace c3 := b3.cf)))
   all_goals
    go_ret
    exact ⟨by rw [HF.out]; rfl, E.low⟩
 obtain ⟨dn, en⟩ := kd_t (show (x.h.names.length : Int) = (y.h.names.length : Int) by omega)
 have HNL := Lib.hid hnl
 clear hnl
 by_cases hkl : x.kids.length = y.kids.length
 rotate_left
 · have hF : R = false := by rw [← HR.out]; simp [headSame, hkl]
   obtain ⟨dk, ek⟩ := kd_f (show ¬ (x.kids.length : Int) = (y.kids.length : Int) by omega)
   have HF := Lib.hid hF
   have HKL := Lib.hid hkl
   clear hF hkl
   go_upto_region 9999 with (first | ((first | ((first | ((with_reducible refine at_dst 2 ?_); go_simp; (generalize hXn : Array.size (World.heap _) = X2); refine new_block hXn ?_; intro wn bb hx; have b2 := Loc.new bb E hXn) | ((with_reducible refine at_dst 3 ?_); go_simp; (generalize hXn : Array.size (World.heap _) = X3); refine new_block hXn ?_; intro wn bb hx; have b3 := Loc.new bb E hXn)); (try have ⟨nn, nm⟩ := b2.ne hXn); have zz := Nat.le_trans E.size (Nat.le_of_eq hXn); clear bb hXn)); (try replace E := E.ext hx); (try replace b2 := b2.ext hx); (try replace hcE := bcell E.low); (try replace c2 := b2.cf); (try replace c3 := b3.cf)))
   all_goals
    go_ret
    exact ⟨by rw [HF.out]; rfl, E.low⟩
 obtain ⟨dk, ek⟩ := kd_t (show (x.kids.length : Int) = (y.kids.length : Int) by omega)
 have HKL := Lib.hid hkl
 clear hkl
 go_upto_region 4 with (first | ((first | ((first | ((with_reducible refine at_dst 2 ?_); go_simp; (generalize hXn : Array.size (World.heap _) = X2); refine new_block hXn ?_; intro wn bb hx; have b2 := Loc.new bb E hXn) | ((with_reducible refine at_dst 3 ?_); go_simp; (generalize hXn : Array.size (World.heap _) = X3); refine new_block hXn ?_; intro wn bb hx; have b3 := Loc.new bb E hXn)); (try have ⟨nn, nm⟩ := b2.ne hXn); have zz := Nat.le_trans E.size (Nat.le_of_eq hXn); clear bb hXn)); (try replace E := E.ext hx); (try replace b2 := b2.ext hx); (try replace hcE := bcell E.low); (try replace c2 := b2.cf); (try replace c3 := b3.cf)))
 go_loopw [5] (fun i wr => ∃ j : Nat, i = .int .i64 j ∧ j ≤ x.h.names.length ∧ Hid (x.h.names.take j = y.h.names.take j) ∧ Only [] w wr ∧ Loc [] w wr X2 28 (exC x).toArray ∧ Loc [] w wr X3 28 (exC y).toArray) (fun i _ => x.h.names.length - (intOf i).toNat)
 case atStart => exact ⟨0, rfl, Nat.zero_le _, rfl, E, b2, b3⟩
 case round =>
  clear E b2 c2 b3 c3
  (try clear hcE)
  obtain ⟨j, rfl, hj, HA, E, b2, b3⟩ := hrel
  have c2 := b2.cf
  have c3 := b3.cf
  have hcE := bcell E.low
  by_cases hlt : j < x.h.names.length
  · have hlt2 : j < y.h.names.length := HNL.out ▸ hlt
    obtain ⟨g, o, hgo, hg, k0⟩ := hxo.names.cells hlt
    obtain ⟨g2, o2, hgo2, hg2, m0⟩ := hyo.names.cells hlt2
    by_cases he : x.h.names[j] = y.h.names[j]
    · have g1 := txt_t he
      have HE := Lib.hid he
      clear he
      go_upto_region 9999 with (first | ((with_reducible refine at_reg 6 ?_); (refine wp_region_x (id := 6) (spOf []) [0, 1, 2, 3, 4, 5, 6, 7, 8, 9, 10] [] [] mixed ?_ ?_); (· decide +kernel); intro K ws hx hK; (try replace E := E.ext hx); (try replace b2 := b2.ext hx); (try replace b3 := b3.ext hx); (try replace hcE := bcell E.low); (try replace c2 := b2.cf); (try replace c3 := b3.cf); dsimp only [pickE, pickL, List.getElem?_cons_succ, List.getElem?_cons_zero] at hK ⊢) | ((with_reducible refine wpE_q ?_ ?_ ?_); rfl; rfl; intro wq hq _ _; (try replace hcE := bcell (E.ext hq).low); (try replace c2 := (b2.ext hq).cf); (try replace c3 := (b3.ext hq).cf)) | ((with_reducible refine at_nil 0 ?_); refine wpE_nil (fun wn hx hΦ hfp hdis => ?_); (try replace E := E.ext hx); (try replace b2 := b2.ext hx); (try replace b3 := b3.ext hx); (try replace hcE := bcell E.low); (try replace c2 := b2.cf); (try replace c3 := b3.cf); clear hΦ hfp hdis; refine hK _ _ ?_; clear hK) | (with_reducible refine wpTxt_nil ?_))
      (try simp only [← hgo])
      (try simp only [← hgo2])
      clear hgo hgo2
      go_roundw
      case rel => exact ⟨j + 1, by go_num, by omega, Lib.hid (by rw [List.take_succ_eq_append_getElem hlt, List.take_succ_eq_append_getElem hlt2, HA.out, HE.out]), E, b2, b3⟩
      case measure => simp [intOf]; omega
    · have g1 := txt_f he
      have hz : R = false := by
       have hne : ¬ x.h.names = y.h.names := fun h => he (by simp only [h])
       rw [← HR.out]; simp [headSame, hne]
      have HE := Lib.hid he
      have HZ := Lib.hid hz
      clear he hz
      go_upto_region 9999 with (first | ((with_reducible refine at_reg 6 ?_); (refine wp_region_x (id := 6) (spOf []) [0, 1, 2, 3, 4, 5, 6, 7, 8, 9, 10] [] [] mixed ?_ ?_); (· decide +kernel); intro K ws hx hK; (try replace E := E.ext hx); (try replace b2 := b2.ext hx); (try replace b3 := b3.ext hx); (try replace hcE := bcell E.low); (try replace c2 := b2.cf); (try replace c3 := b3.cf); dsimp only [pickE, pickL, List.getElem?_cons_succ, List.getElem?_cons_zero] at hK ⊢) | ((with_reducible refine wpE_q ?_ ?_ ?_); rfl; rfl; intro wq hq _ _; (try replace hcE := bcell (E.ext hq).low); (try replace c2 := (b2.ext hq).cf); (try replace c3 := (b3.ext hq).cf)) | ((with_reducible refine at_nil 0 ?_); refine wpE_nil (fun wn hx hΦ hfp hdis => ?_); (try replace E := E.ext hx); (try replace b2 := b2.ext hx); (try replace b3 := b3.ext hx); (try replace hcE := bcell E.low); (try replace c2 := b2.cf); (try replace c3 := b3.cf); clear hΦ hfp hdis; refine hK _ _ ?_; clear hK) | (with_reducible refine wpTxt_nil ?_))
      go_ret
      exact ⟨by rw [HZ.out]; rfl, E.low⟩
  · have hnn : x.h.names = y.h.names := by
      have := HA.out
      rwa [List.take_of_length_le (by omega), List.take_of_length_le (by have := HNL.out; omega)] at this
    have hH : headSame x y = true := by unfold headSame; simp [Cop.out, Ca.out, Cr.out, Cb.out, Cs0.out, Cs1.out, Cs2.out, Cs3.out, hnn, HKL.out]
    have hS : sames (x.kids.drop 0) (y.kids.drop 0) = R := by rw [List.drop_zero, List.drop_zero, ← HR.out, hH, Bool.true_and]
    have HS := Lib.hid hS
    clear hH hS hnn HA
    go_upto_region 9 with (first | fail)
    go_loopw [6] (fun i wr => ∃ j : Nat, i = .int .i64 j ∧ j ≤ x.kids.length ∧ Hid (sames (x.kids.drop j) (y.kids.drop j) = R) ∧ Only [] w wr ∧ Loc [] w wr X2 28 (exC x).toArray ∧ Loc [] w wr X3 28 (exC y).toArray) (fun i _ => x.kids.length - (intOf i).toNat)
    case atStart => exact ⟨0, rfl, Nat.zero_le _, HS, E, b2, b3⟩
    case round =>
     clear E b2 c2 b3 c3 HS
     (try clear hcE)
     obtain ⟨j, rfl, hj, HS, E, b2, b3⟩ := hrel
     have c2 := b2.cf
     have c3 := b3.cf
     have hcE := bcell E.low
     by_cases hlt : j < x.kids.length
     · have hlt2 : j < y.kids.length := HKL.out ▸ hlt
       obtain ⟨a, ha⟩ := at_some hlt
       obtain ⟨b, hb⟩ := at_some hlt2
       have hao := hxo.subs.mem (List.mem_of_getElem? ha)
       have hbo := hyo.subs.mem (List.mem_of_getElem? hb)
       have hsz : a.sz < N := by have := Ex.sz_at ha; omega
       have HX := Lib.hid ha
       have HY := Lib.hid hb
       obtain ⟨g, o, hgo, hg, -⟩ := RRow.cells hxo.kids hlt
       have hkx : RRow w 10 exC (.slice (some ⟨g, o, none⟩) x.kids.length x.h.hk.c) x.kids := hgo ▸ hxo.kids
       obtain ⟨g2, o2, hgo2, hg2, -⟩ := RRow.cells hyo.kids hlt2
       have hky : RRow w 10 exC (.slice (some ⟨g2, o2, none⟩) y.kids.length y.h.hk.c) y.kids := hgo2 ▸ hyo.kids
       have hst := sames_at HS ha hb
       obtain ⟨se, hse⟩ : ∃ se, sameE a b = se := ⟨_, rfl⟩
       have HSE := Lib.hid hse
       rw [hse] at hst
       have hlt3 : (j : Int) < y.kids.length := by omega
       clear ha hb hse HS
       have hse2 : se = true ∨ se = false := by cases se <;> simp
       rcases hse2 with rfl | rfl
       · rw [Bool.true_and] at hst
         have HT := Lib.hid hst
         clear hst
         go_upto_region 9999 with (first | ((with_reducible refine at_j 10 ?_); refine wpE_w (spVal (.bool true)) _ rfl rfl ?_ rfl rfl (⟨_, rfl⟩) ?_ ?_; (· first | rfl | go_simp); (· intro wn hx K2 hK2; (try replace E := E.ext hx); go_wp2_with fail; (first | ((with_reducible refine (IH.out a b (hao.ext E.low) (hbo.ext E.low) hsz).mono ?_)) | ((have hc := IH.out a b (hao.ext E.low) (hbo.ext E.low) hsz); (with_reducible refine hc.mono ?_); clear hc)); (try simp only [hgo, hgo2] at hK2); unfold BPost; rw [HSE.out]; rintro e wn ⟨rfl, hx⟩; go_wp2_with fail; exact good_val hx); rintro v93 rfl; (try simp only [Act.put, actL])) | ((with_reducible refine at_j 4 ?_); (with_reducible refine wpE_q ?_ ?_ ?_); rfl; rfl; intro wq hq K2 hK2; (refine wp_rec2 (RRow.ext ((RRow.ext hkx E.low)) hq) (HX.out) exC_len rfl rfl ?_ ?_ ?_); (· kernel_rfl); (· kernel_rfl); refine hK2 _ ?_; clear hK2; (try simp only [Act.put, actL])) | ((with_reducible refine at_j 9 ?_); (with_reducible refine wpE_q ?_ ?_ ?_); rfl; rfl; intro wq hq K2 hK2; (refine wp_rec2 (RRow.ext ((RRow.ext hky E.low)) hq) (HY.out) exC_len rfl rfl ?_ ?_ ?_); (· kernel_rfl); (· kernel_rfl); refine hK2 _ ?_; clear hK2; (try simp only [Act.put, actL])) | ((with_reducible refine wpE_q ?_ ?_ ?_); rfl; rfl; intro wq hq _ _; (try replace hcE := bcell (E.ext hq).low); (try replace c2 := (b2.ext hq).cf); (try replace c3 := (b3.ext hq).cf)) | ((with_reducible refine at_nil 0 ?_); refine wpE_nil (fun wn hx hΦ hfp hdis => ?_); (try replace E := E.ext hx); (try replace b2 := b2.ext hx); (try replace b3 := b3.ext hx); (try replace hcE := bcell E.low); (try replace c2 := b2.cf); (try replace c3 := b3.cf); clear hΦ hfp hdis; refine hK _ _ ?_; clear hK) | ((with_reducible refine at_reg 11 ?_); (refine wp_region_x (id := 11) (spOf [(10, spVal (.bool true))]) [0, 1, 2, 3, 4, 5, 6, 7, 8, 9, 10, 11] [] [] mixed ?_ ?_); (· decide +kernel); intro K ws hx hK; (try replace E := E.ext hx); (try replace b2 := b2.ext hx); (try replace b3 := b3.ext hx); (try replace hcE := bcell E.low); (try replace c2 := b2.cf); (try replace c3 := b3.cf); dsimp only [pickE, pickL, List.getElem?_cons_succ, List.getElem?_cons_zero] at hK ⊢) | (with_reducible refine wpTxt_nil ?_))
         (try simp only [← hgo])
         (try simp only [← hgo2])
         clear hgo hgo2
         go_roundw
         case rel => exact ⟨j + 1, by go_num, by omega, HT, E, b2, b3⟩
         case measure => simp [intOf]; omega
       · rw [Bool.false_and] at hst
         have HT := Lib.hid hst
         clear hst
         go_upto_region 9999 with (first | ((with_reducible refine at_j 10 ?_); refine wpE_w (spVal (.bool false)) _ rfl rfl ?_ rfl rfl (⟨_, rfl⟩) ?_ ?_; (· first | rfl | go_simp); (· intro wn hx K2 hK2; (try replace E := E.ext hx); go_wp2_with fail; (first | ((with_reducible refine (IH.out a b (hao.ext E.low) (hbo.ext E.low) hsz).mono ?_)) | ((have hc := IH.out a b (hao.ext E.low) (hbo.ext E.low) hsz); (with_reducible refine hc.mono ?_); clear hc)); (try simp only [hgo, hgo2] at hK2); unfold BPost; rw [HSE.out]; rintro e wn ⟨rfl, hx⟩; go_wp2_with fail; exact good_val hx); rintro v93 rfl; (try simp only [Act.put, actL])) | ((with_reducible refine at_j 4 ?_); (with_reducible refine wpE_q ?_ ?_ ?_); rfl; rfl; intro wq hq K2 hK2; (refine wp_rec2 (RRow.ext ((RRow.ext hkx E.low)) hq) (HX.out) exC_len rfl rfl ?_ ?_ ?_); (· kernel_rfl); (· kernel_rfl); refine hK2 _ ?_; clear hK2; (try simp only [Act.put, actL])) | ((with_reducible refine at_j 9 ?_); (with_reducible refine wpE_q ?_ ?_ ?_); rfl; rfl; intro wq hq K2 hK2; (refine wp_rec2 (RRow.ext ((RRow.ext hky E.low)) hq) (HY.out) exC_len rfl rfl ?_ ?_ ?_); (· kernel_rfl); (· kernel_rfl); refine hK2 _ ?_; clear hK2; (try simp only [Act.put, actL])) | ((with_reducible refine wpE_q ?_ ?_ ?_); rfl; rfl; intro wq hq _ _; (try replace hcE := bcell (E.ext hq).low); (try replace c2 := (b2.ext hq).cf); (try replace c3 := (b3.ext hq).cf)) | ((with_reducible refine at_nil 0 ?_); refine wpE_nil (fun wn hx hΦ hfp hdis => ?_); (try replace E := E.ext hx); (try replace b2 := b2.ext hx); (try replace b3 := b3.ext hx); (try replace hcE := bcell E.low); (try replace c2 := b2.cf); (try replace c3 := b3.cf); clear hΦ hfp hdis; refine hK _ _ ?_; clear hK) | ((with_reducible refine at_reg 11 ?_); (refine wp_region_x (id := 11) (spOf [(10, spVal (.bool false))]) [0, 1, 2, 3, 4, 5, 6, 7, 8, 9, 10, 11] [] [] mixed ?_ ?_); (· decide +kernel); intro K ws hx hK; (try replace E := E.ext hx); (try replace b2 := b2.ext hx); (try replace b3 := b3.ext hx); (try replace hcE := bcell E.low); (try replace c2 := b2.cf); (try replace c3 := b3.cf); dsimp only [pickE, pickL, List.getElem?_cons_succ, List.getElem?_cons_zero] at hK ⊢) | (with_reducible refine wpTxt_nil ?_))
         go_ret
         exact ⟨by rw [← HT.out]; rfl, E.low⟩
     · have hz2 : true = R := by
         have := HS.out
         rw [List.drop_of_length_le (by omega), sames] at this
         exact this
       have HZ := Lib.hid hz2
       clear hz2
       go_upto_region 9999 with (first | fail)
       go_ret
       exact ⟨by rw [← HZ.out]; rfl, E.low⟩
theorem qsame_any : ∀ N : Nat, q6SameOk N
 | 0 => fun _ _ _ _ _ hz => absurd hz (Nat.not_lt_zero _)
 | N + 1 => q6Same_step (Lib.hid (qsame_any N))
open Go.RowKit Tk

theorem Blk.two {w : World} {g : Nat} {t : TypeId} {a b : Value} (h : Blk w g t #[a, b]) :
    w.cell? ⟨g, 0, none⟩ = some a ∧ w.cell? ⟨g, 1, none⟩ = some b ∧ w.frozen? ⟨g, 0, none⟩ = false ∧ w.frozen? ⟨g, 1, none⟩ = false :=
 ⟨h.cell 0, h.cell 1, h.free 0, h.free 1⟩

end Go.Proofs.Ytbobbbhgdfapjaa
