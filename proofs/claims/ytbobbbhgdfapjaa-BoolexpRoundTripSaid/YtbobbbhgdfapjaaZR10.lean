/- H7, Hi, Hj, T2 -/
import Derived.Test.YtbobbbhgdfapjaaZR1
import Derived.Test.YtbobbbhgdfapjaaZR2
import Derived.Test.YtbobbbhgdfapjaaZR3
import Derived.Test.YtbobbbhgdfapjaaZR4
import Derived.Test.YtbobbbhgdfapjaaZR9
import Derived.Test.YtbobbbhgdfapjaaZR5
set_option linter.unusedSimpArgs false
set_option linter.unusedVariables false
namespace Go.Proofs.Ytbobbbhgdfapjaa
set_option maxHeartbeats 8000000
set_option maxRecDepth 100000
open Go.RowKit Tk
def headSame (x y : Ex) : Bool := decide (x.h.op = y.h.op ∧ x.h.a = y.h.a ∧ x.h.rel = y.h.rel ∧ x.h.b = y.h.b ∧ x.h.s0 = y.h.s0 ∧ x.h.s1 = y.h.s1 ∧ x.h.s2 = y.h.s2 ∧ x.h.s3 = y.h.s3) && decide (x.h.names = y.h.names) && decide (x.kids.length = y.kids.length)
mutual
def sameE : Ex → Ex → Bool
 | .mk h k, y => headSame (.mk h k) y && sames k y.kids
def sames : List Ex → List Ex → Bool
 | [], _ => true
 | _ :: _, [] => true
 | e :: l, y :: r => sameE e y && sames l r
end
theorem sameE_eq (x y : Ex) : sameE x y = (headSame x y && sames x.kids y.kids) := by cases x; rw [sameE]; rfl
theorem sames_at {l r : List Ex} {j : Nat} {e y : Ex} {R : Bool} (h : Hid (sames (l.drop j) (r.drop j) = R)) (he : l[j]? = some e) (hy : r[j]? = some y) : (sameE e y && sames (l.drop (j + 1)) (r.drop (j + 1))) = R := by
 have := h.out
 rw [drop_at he, drop_at hy, sames] at this
 exact this
@[reducible] def b6SameOk (N : Nat) : Prop := ∀ (x y : Ex) {w : World}, x.ok w → y.ok w → x.sz < N → Calls Try.prog 17 #[.agg (exC x).toArray, .agg (exC y).toArray] w (BPost (sameE x y) w)
theorem b6Same_step {N : Nat} (IH : Hid (b6SameOk N)) : b6SameOk (N + 1) := by
 intro x y w hxo hyo hz
 rw [Ex.sz_kids] at hz
 have n2 := (RRow.lens hxo.kids).2
 have n3 := (RRow.lens hyo.kids).2
 have n4 := (Reads.lens hxo.names).2
 have n5 := (Reads.lens hyo.names).2
 obtain ⟨R, hR⟩ : ∃ R, sameE x y = R := ⟨_, rfl⟩
 rw [hR]
 rw [sameE_eq] at hR
 have HR := Lib.hid hR
 clear hR
 go_enter Try.func17, Try.ntmps17
 have E := Only.refl [] w
 by_cases cop : x.h.op = y.h.op
 rotate_left
 · have hF : R = false := by rw [← HR.out]; simp [headSame, cop]
   obtain ⟨dop, eop⟩ := kd_f cop
   have HF := Lib.hid hF
   have Cop := Lib.hid cop
   clear hF cop
   go_upto_region 9999 with (first | ((first | ((first | ((with_reducible refine at_dst 2 ?_); go_simp; (generalize hXn : Array.size (World.heap _) = X2); refine new_block hXn ?_; intro wn bb hx; have b2 := Loc.new bb E hXn) | ((with_reducible refine at_dst 3 ?_); go_simp; (generalize hXn : Array.size (World.heap _) = X3); refine new_block hXn ?_; intro wn bb hx; have b3 := Loc.new bb E hXn)); (try have ⟨nn, nm⟩ := b2.ne hXn); have zz := Nat.le_trans E.size (Nat.le_of_eq hXn); clear bb hXn)); (try replace E := E.ext hx); (try replace b2 := b2.ext hx); (try replace hcE := bcell E.low); (try replace c2 := b2.cf); (try replace c3 := b3.cf)))
   all_goals
    go_ret
    exact ⟨by rw [HF.out]; rfl, E.low⟩
 obtain ⟨dop, eop⟩ := kd_t cop
 have Cop := Lib.hid cop
 clear cop
 by_cases ca : x.h.a = y.h.a
 rotate_left
 · have hF : R = false := by rw [← HR.out]; simp [headSame, ca]
   obtain ⟨da, ea⟩ := kd_f ca
   have HF := Lib.hid hF
   have Ca := Lib.hid ca
   clear hF ca
   go_upto_region 9999 with (first | ((first | ((first | ((with_reducible refine at_dst 2 ?_); go_simp; (generalize hXn : Array.size (World.heap _) = X2); refine new_block hXn ?_; intro wn bb hx; have b2 := Loc.new bb E hXn) | ((with_reducible refine at_dst 3 ?_); go_simp; (generalize hXn : Array.size (World.heap _) = X3); refine new_block hXn ?_; intro wn bb hx; have b3 := Loc.new bb E hXn)); (try have ⟨nn, nm⟩ := b2.ne hXn); have zz := Nat.le_trans E.size (Nat.le_of_eq hXn); clear bb hXn)); (try replace E := E.ext hx); (try replace b2 := b2.ext hx); (try replace hcE := bcell E.low); (try replace c2 := b2.cf); (try replace c3 := b3.cf)))
   all_goals
    go_ret
    exact ⟨by rw [HF.out]; rfl, E.low⟩
 obtain ⟨da, ea⟩ := kd_t ca
 have Ca := Lib.hid ca
 clear ca
 by_cases cr : x.h.rel = y.h.rel
 rotate_left
 · have hF : R = false := by rw [← HR.out]; simp [headSame, cr]
   obtain ⟨dr, er⟩ := kd_f cr
   have HF := Lib.hid hF
   have Cr := Lib.hid cr
   clear hF cr
   go_upto_region 9999 with (first | ((first | ((first | ((with_reducible refine at_dst 2 ?_); go_simp; (generalize hXn : Array.size (World.heap _) = X2); refine new_block hXn ?_; intro wn bb hx; have b2 := Loc.new bb E hXn) | ((with_reducible refine at_dst 3 ?_); go_simp; (generalize hXn : Array.size (World.heap _) = X3); refine new_block hXn ?_; intro wn bb hx; have b3 := Loc.new bb E hXn)); (try have ⟨nn, nm⟩ := b2.ne hXn); have zz := Nat.le_trans E.size (Nat.le_of_eq hXn); clear bb hXn)); (try replace E := E.ext hx); (try replace b2 := b2.ext hx); (try replace hcE := bcell E.low); (try replace c2 := b2.cf); (try replace c3 := b3.cf)))
   all_goals
    go_ret
    exact ⟨by rw [HF.out]; rfl, E.low⟩
 obtain ⟨dr, er⟩ := kd_t cr
 have Cr := Lib.hid cr
 clear cr
 by_cases cb : x.h.b = y.h.b
 rotate_left
 · have hF : R = false := by rw [← HR.out]; simp [headSame, cb]
   obtain ⟨db, eb⟩ := kd_f cb
   have HF := Lib.hid hF
   have Cb := Lib.hid cb
   clear hF cb
   go_upto_region 9999 with (first | ((first | ((first | ((with_reducible refine at_dst 2 ?_); go_simp; (generalize hXn : Array.size (World.heap _) = X2); refine new_block hXn ?_; intro wn bb hx; have b2 := Loc.new bb E hXn) | ((with_reducible refine at_dst 3 ?_); go_simp; (generalize hXn : Array.size (World.heap _) = X3); refine new_block hXn ?_; intro wn bb hx; have b3 := Loc.new bb E hXn)); (try have ⟨nn, nm⟩ := b2.ne hXn); have zz := Nat.le_trans E.size (Nat.le_of_eq hXn); clear bb hXn)); (try replace E := E.ext hx); (try replace b2 := b2.ext hx); (try replace hcE := bcell E.low); (try replace c2 := b2.cf); (try replace c3 := b3.cf)))
   all_goals
    go_ret
    exact ⟨by rw [HF.out]; rfl, E.low⟩
 obtain ⟨db, eb⟩ := kd_t cb
 have Cb := Lib.hid cb
 clear cb
 by_cases cs0 : x.h.s0 = y.h.s0
 rotate_left
 · have hF : R = false := by rw [← HR.out]; simp [headSame, cs0]
   obtain ⟨ds0, es0⟩ := kd_f cs0
   have HF := Lib.hid hF
   have Cs0 := Lib.hid cs0
   clear hF cs0
   go_upto_region 9999 with (first | ((first | ((first | ((with_reducible refine at_dst 2 ?_); go_simp; (generalize hXn : Array.size (World.heap _) = X2); refine new_block hXn ?_; intro wn bb hx; have b2 := Loc.new bb E hXn) | ((with_reducible refine at_dst 3 ?_); go_simp; (generalize hXn : Array.size (World.heap _) = X3); refine new_block hXn ?_; intro wn bb hx; have b3 := Loc.new bb E hXn)); (try have ⟨nn, nm⟩ := b2.ne hXn); have zz := Nat.le_trans E.size (Nat.le_of_eq hXn); clear bb hXn)); (try replace E := E.ext hx); (try replace b2 := b2.ext hx); (try replace hcE := bcell E.low); (try replace c2 := b2.cf); (try replace c3 := b3.cf)))
   all_goals
    go_ret
    exact ⟨by rw [HF.out]; rfl, E.low⟩
 obtain ⟨ds0, es0⟩ := kd_t cs0
 have Cs0 := Lib.hid cs0
 clear cs0
 by_cases cs1 : x.h.s1 = y.h.s1
 rotate_left
 · have hF : R = false := by rw [← HR.out]; simp [headSame, cs1]
   obtain ⟨ds1, es1⟩ := kd_f cs1
   have HF := Lib.hid hF
   have Cs1 := Lib.hid cs1
   clear hF cs1
   go_upto_region 9999 with (first | ((first | ((first | ((with_reducible refine at_dst 2 ?_); go_simp; (generalize hXn : Array.size (World.heap _) = X2); refine new_block hXn ?_; intro wn bb hx; have b2 := Loc.new bb E hXn) | ((with_reducible refine at_dst 3 ?_); go_simp; (generalize hXn : Array.size (World.heap _) = X3); refine new_block hXn ?_; intro wn bb hx; have b3 := Loc.new bb E hXn)); (try have ⟨nn, nm⟩ := b2.ne hXn); have zz := Nat.le_trans E.size (Nat.le_of_eq hXn); clear bb hXn)); (try replace E := E.ext hx); (try replace b2 := b2.ext hx); (try replace hcE := bcell E.low); (try replace c2 := b2.cf); (try replace c3 := b3.cf)))
   all_goals
    go_ret
    exact ⟨by rw [HF.out]; rfl, E.low⟩
 obtain ⟨ds1, es1⟩ := kd_t cs1
 have Cs1 := Lib.hid cs1
 clear cs1
 by_cases cs2 : x.h.s2 = y.h.s2
 rotate_left
 · have hF : R = false := by rw [← HR.out]; simp [headSame, cs2]
   obtain ⟨ds2, es2⟩ := kd_f cs2
   have HF := Lib.hid hF
   have Cs2 := Lib.hid cs2
   clear hF cs2
   go_upto_region 9999 with (first | ((first | ((first | ((with_reducible refine at_dst 2 ?_); go_simp; (generalize hXn : Array.size (World.heap _) = X2); refine new_block hXn ?_; intro wn bb hx; have b2 := Loc.new bb E hXn) | ((with_reducible refine at_dst 3 ?_); go_simp; (generalize hXn : Array.size (World.heap _) = X3); refine new_block hXn ?_; intro wn bb hx; have b3 := Loc.new bb E hXn)); (try have ⟨nn, nm⟩ := b2.ne hXn); have zz := Nat.le_trans E.size (Nat.le_of_eq hXn); clear bb hXn)); (try replace E := E.ext hx); (try replace b2 := b2.ext hx); (try replace hcE := bcell E.low); (try replace c2 := b2.cf); (try replace c3 := b3.cf)))
   all_goals
    go_ret
    exact ⟨by rw [HF.out]; rfl, E.low⟩
 obtain ⟨ds2, es2⟩ := kd_t cs2
 have Cs2 := Lib.hid cs2
 clear cs2
 by_cases cs3 : x.h.s3 = y.h.s3
 rotate_left
 · have hF : R = false := by rw [← HR.out]; simp [headSame, cs3]
   obtain ⟨ds3, es3⟩ := kd_f cs3
   have HF := Lib.hid hF
   have Cs3 := Lib.hid cs3
   clear hF cs3
   go_upto_region 9999 with (first | ((first | ((first | ((with_reducible refine at_dst 2 ?_); go_simp; (generalize hXn : Array.size (World.heap _) = X2); refine new_block hXn ?_; intro wn bb hx; have b2 := Loc.new bb E hXn) | ((with_reducible refine at_dst 3 ?_); go_simp; (generalize hXn : Array.size (World.heap _) = X3); refine new_block hXn ?_; intro wn bb hx; have b3 := Loc.new bb E hXn)); (try have ⟨nn, nm⟩ := b2.ne hXn); have zz := Nat.le_trans E.size (Nat.le_of_eq hXn); clear bb hXn)); (try replace E := E.ext hx); (try replace b2 := b2.ext hx); (try replace hcE := bcell E.low); (try replace c2 := b2.cf); (try replace c3 := b3.cf)))
   all_goals
    go_ret
    exact ⟨by rw [HF.out]; rfl, E.low⟩
 obtain ⟨ds3, es3⟩ := kd_t cs3
 have Cs3 := Lib.hid cs3
 clear cs3
 obtain ⟨ne, hne⟩ : ∃ ne, decide (x.h.names = y.h.names) = ne := ⟨_, rfl⟩
 have HNE := Lib.hid hne
 rcases (show ne = false ∨ ne = true by cases ne <;> simp) with rfl | rfl
 · have hF : R = false := by
     have := of_decide_eq_false hne
     rw [← HR.out]; simp [headSame, this]
   have HF := Lib.hid hF
   clear hF hne
   go_upto_region 9999 with (first | ((first | ((first | ((with_reducible refine at_dst 2 ?_); go_simp; (generalize hXn : Array.size (World.heap _) = X2); refine new_block hXn ?_; intro wn bb hx; have b2 := Loc.new bb E hXn) | ((with_reducible refine at_dst 3 ?_); go_simp; (generalize hXn : Array.size (World.heap _) = X3); refine new_block hXn ?_; intro wn bb hx; have b3 := Loc.new bb E hXn)); (try have ⟨nn, nm⟩ := b2.ne hXn); have zz := Nat.le_trans E.size (Nat.le_of_eq hXn); clear bb hXn)); (try replace E := E.ext hx); (try replace b2 := b2.ext hx); (try replace hcE := bcell E.low); (try replace c2 := b2.cf); (try replace c3 := b3.cf)) | (go_at_call 34; (have hc := equalS_any (Reads.ext hxo.names E.low) (Reads.ext hyo.names E.low)); ((with_reducible refine hc.mono ?_)); clear hc; unfold BPost; rw [HNE.out]; rintro e wn ⟨rfl, hx⟩; (try replace E := E.ext hx); (try replace b2 := b2.ext hx); (try replace b3 := b3.ext hx); (try replace hcE := bcell E.low); (try replace c2 := b2.cf); (try replace c3 := b3.cf)))
   all_goals
    go_ret
    exact ⟨by rw [HF.out]; rfl, E.low⟩
 have hnn := of_decide_eq_true hne
 clear hne
 have HNN := Lib.hid hnn
 clear hnn
 by_cases hkl : x.kids.length = y.kids.length
 rotate_left
 · have hF : R = false := by rw [← HR.out]; simp [headSame, hkl]
   obtain ⟨dk, ek⟩ := kd_f (show ¬ (x.kids.length : Int) = (y.kids.length : Int) by omega)
   have HF := Lib.hid hF
   have HKL := Lib.hid hkl
   clear hF hkl
   go_upto_region 9999 with (first | ((first | ((first | ((with_reducible refine at_dst 2 ?_); go_simp; (generalize hXn : Array.size (World.heap _) = X2); refine new_block hXn ?_; intro wn bb hx; have b2 := Loc.new bb E hXn) | ((with_reducible refine at_dst 3 ?_); go_simp; (generalize hXn : Array.size (World.heap _) = X3); refine new_block hXn ?_; intro wn bb hx; have b3 := Loc.new bb E hXn)); (try have ⟨nn, nm⟩ := b2.ne hXn); have zz := Nat.le_trans E.size (Nat.le_of_eq hXn); clear bb hXn)); (try replace E := E.ext hx); (try replace b2 := b2.ext hx); (try replace hcE := bcell E.low); (try replace c2 := b2.cf); (try replace c3 := b3.cf)) | (go_at_call 34; (have hc := equalS_any (Reads.ext hxo.names E.low) (Reads.ext hyo.names E.low)); ((with_reducible refine hc.mono ?_)); clear hc; unfold BPost; rw [HNE.out]; rintro e wn ⟨rfl, hx⟩; (try replace E := E.ext hx); (try replace b2 := b2.ext hx); (try replace b3 := b3.ext hx); (try replace hcE := bcell E.low); (try replace c2 := b2.cf); (try replace c3 := b3.cf)))
   all_goals
    go_ret
    exact ⟨by rw [HF.out]; rfl, E.low⟩
 obtain ⟨dk, ek⟩ := kd_t (show (x.kids.length : Int) = (y.kids.length : Int) by omega)
 have hH : headSame x y = true := by unfold headSame; simp [Cop.out, Ca.out, Cr.out, Cb.out, Cs0.out, Cs1.out, Cs2.out, Cs3.out, HNN.out, hkl]
 have hS : sames (x.kids.drop 0) (y.kids.drop 0) = R := by rw [List.drop_zero, List.drop_zero, ← HR.out, hH, Bool.true_and]
 have HS := Lib.hid hS
 have HKL := Lib.hid hkl
 clear hH hS hkl
 go_upto_region 4 with (first | ((first | ((first | ((with_reducible refine at_dst 2 ?_); go_simp; (generalize hXn : Array.size (World.heap _) = X2); refine new_block hXn ?_; intro wn bb hx; have b2 := Loc.new bb E hXn) | ((with_reducible refine at_dst 3 ?_); go_simp; (generalize hXn : Array.size (World.heap _) = X3); refine new_block hXn ?_; intro wn bb hx; have b3 := Loc.new bb E hXn)); (try have ⟨nn, nm⟩ := b2.ne hXn); have zz := Nat.le_trans E.size (Nat.le_of_eq hXn); clear bb hXn)); (try replace E := E.ext hx); (try replace b2 := b2.ext hx); (try replace hcE := bcell E.low); (try replace c2 := b2.cf); (try replace c3 := b3.cf)) | (go_at_call 34; (have hc := equalS_any (Reads.ext hxo.names E.low) (Reads.ext hyo.names E.low)); ((with_reducible refine hc.mono ?_)); clear hc; unfold BPost; rw [HNE.out]; rintro e wn ⟨rfl, hx⟩; (try replace E := E.ext hx); (try replace b2 := b2.ext hx); (try replace b3 := b3.ext hx); (try replace hcE := bcell E.low); (try replace c2 := b2.cf); (try replace c3 := b3.cf)))
 go_loopw [59] (fun i wr => ∃ j : Nat, i = .int .i64 j ∧ j ≤ x.kids.length ∧ Hid (sames (x.kids.drop j) (y.kids.drop j) = R) ∧ Only [] w wr ∧ Loc [] w wr X2 28 (exC x).toArray ∧ Loc [] w wr X3 28 (exC y).toArray) (fun i _ => x.kids.length - (intOf i).toNat)
 case atStart => exact ⟨0, rfl, Nat.zero_le _, HS, E, b2, b3⟩
 case round =>
  clear E b2 c2 b3 c3 HS
  (try clear hcE)
  obtain ⟨j, rfl, hj, HS, E, b2, b3⟩ := hrel
  have c2 := b2.cf
  have c3 := b3.cf
  have hcE := bcell E.low
  by_cases hlt : j < x.kids.length
  · have hlt2 : j < y.kids.length := HKL.out ▸ hlt
    obtain ⟨a, ha⟩ := at_some hlt
    obtain ⟨b, hb⟩ := at_some hlt2
    have hao := hxo.subs.mem (List.mem_of_getElem? ha)
    have hbo := hyo.subs.mem (List.mem_of_getElem? hb)
    have hsz : a.sz < N := by have := Ex.sz_at ha; omega
    have HX := Lib.hid ha
    have HY := Lib.hid hb
    obtain ⟨g, o, hgo, hg, -⟩ := RRow.cells hxo.kids hlt
    have hkx : RRow w 10 exC (.slice (some ⟨g, o, none⟩) x.kids.length x.h.hk.c) x.kids := hgo ▸ hxo.kids
    obtain ⟨g2, o2, hgo2, hg2, -⟩ := RRow.cells hyo.kids hlt2
    have hky : RRow w 10 exC (.slice (some ⟨g2, o2, none⟩) y.kids.length y.h.hk.c) y.kids := hgo2 ▸ hyo.kids
    have hst := sames_at HS ha hb
    obtain ⟨se, hse⟩ : ∃ se, sameE a b = se := ⟨_, rfl⟩
    have HSE := Lib.hid hse
    rw [hse] at hst
    have hlt3 : (j : Int) < y.kids.length := by omega
    clear ha hb hse HS
    have hse2 : se = true ∨ se = false := by cases se <;> simp
    rcases hse2 with rfl | rfl
    · rw [Bool.true_and] at hst
      have HT := Lib.hid hst
      clear hst
      go_upto_region 9999 with (first | ((with_reducible refine at_j 10 ?_); refine wpE_w (spVal (.bool true)) _ rfl rfl ?_ rfl rfl (⟨_, rfl⟩) ?_ ?_; (· first | rfl | go_simp); (· intro wn hx K2 hK2; (try replace E := E.ext hx); go_wp2_with fail; (first | ((with_reducible refine (IH.out a b (hao.ext E.low) (hbo.ext E.low) hsz).mono ?_)) | ((have hc := IH.out a b (hao.ext E.low) (hbo.ext E.low) hsz); (with_reducible refine hc.mono ?_); clear hc)); (try simp only [hgo, hgo2] at hK2); unfold BPost; rw [HSE.out]; rintro e wn ⟨rfl, hx⟩; go_wp2_with fail; exact good_val hx); rintro v72 rfl; (try simp only [Act.put, actL])) | ((with_reducible refine at_j 4 ?_); (with_reducible refine wpE_q ?_ ?_ ?_); rfl; rfl; intro wq hq K2 hK2; (refine wp_rec2 (RRow.ext ((RRow.ext hkx E.low)) hq) (HX.out) exC_len rfl rfl ?_ ?_ ?_); (· kernel_rfl); (· kernel_rfl); refine hK2 _ ?_; clear hK2; (try simp only [Act.put, actL])) | ((with_reducible refine at_j 9 ?_); (with_reducible refine wpE_q ?_ ?_ ?_); rfl; rfl; intro wq hq K2 hK2; (refine wp_rec2 (RRow.ext ((RRow.ext hky E.low)) hq) (HY.out) exC_len rfl rfl ?_ ?_ ?_); (· kernel_rfl); (· kernel_rfl); refine hK2 _ ?_; clear hK2; (try simp only [Act.put, actL])) | ((with_reducible refine at_reg 6 ?_); (refine wp_region_x (id := 6) (spOf [(10, spVal (.bool true))]) [0, 1, 2, 3, 4, 5, 6, 7, 8, 9, 10, 11] [] [] mixed ?_ ?_); (· decide +kernel); intro K ws hx hK; (try replace E := E.ext hx); (try replace b2 := b2.ext hx); (try replace b3 := b3.ext hx); (try replace hcE := bcell E.low); (try replace c2 := b2.cf); (try replace c3 := b3.cf); dsimp only [pickE, pickL, List.getElem?_cons_succ, List.getElem?_cons_zero] at hK ⊢) | ((with_reducible refine wpE_q ?_ ?_ ?_); rfl; rfl; intro wq hq _ _; (try replace hcE := bcell (E.ext hq).low); (try replace c2 := (b2.ext hq).cf); (try replace c3 := (b3.ext hq).cf)) | ((with_reducible refine at_nil 0 ?_); refine wpE_nil (fun wn hx hΦ hfp hdis => ?_); (try replace E := E.ext hx); (try replace b2 := b2.ext hx); (try replace b3 := b3.ext hx); (try replace hcE := bcell E.low); (try replace c2 := b2.cf); (try replace c3 := b3.cf); clear hΦ hfp hdis; refine hK _ _ ?_; clear hK) | (with_reducible refine wpTxt_nil ?_))
      (try simp only [← hgo])
      (try simp only [← hgo2])
      clear hgo hgo2
      go_roundw
      case rel => exact ⟨j + 1, by go_num, by omega, HT, E, b2, b3⟩
      case measure => simp [intOf]; omega
    · rw [Bool.false_and] at hst
      have HT := Lib.hid hst
      clear hst
      go_upto_region 9999 with (first | ((with_reducible refine at_j 10 ?_); refine wpE_w (spVal (.bool false)) _ rfl rfl ?_ rfl rfl (⟨_, rfl⟩) ?_ ?_; (· first | rfl | go_simp); (· intro wn hx K2 hK2; (try replace E := E.ext hx); go_wp2_with fail; (first | ((with_reducible refine (IH.out a b (hao.ext E.low) (hbo.ext E.low) hsz).mono ?_)) | ((have hc := IH.out a b (hao.ext E.low) (hbo.ext E.low) hsz); (with_reducible refine hc.mono ?_); clear hc)); (try simp only [hgo, hgo2] at hK2); unfold BPost; rw [HSE.out]; rintro e wn ⟨rfl, hx⟩; go_wp2_with fail; exact good_val hx); rintro v72 rfl; (try simp only [Act.put, actL])) | ((with_reducible refine at_j 4 ?_); (with_reducible refine wpE_q ?_ ?_ ?_); rfl; rfl; intro wq hq K2 hK2; (refine wp_rec2 (RRow.ext ((RRow.ext hkx E.low)) hq) (HX.out) exC_len rfl rfl ?_ ?_ ?_); (· kernel_rfl); (· kernel_rfl); refine hK2 _ ?_; clear hK2; (try simp only [Act.put, actL])) | ((with_reducible refine at_j 9 ?_); (with_reducible refine wpE_q ?_ ?_ ?_); rfl; rfl; intro wq hq K2 hK2; (refine wp_rec2 (RRow.ext ((RRow.ext hky E.low)) hq) (HY.out) exC_len rfl rfl ?_ ?_ ?_); (· kernel_rfl); (· kernel_rfl); refine hK2 _ ?_; clear hK2; (try simp only [Act.put, actL])) | ((with_reducible refine at_reg 6 ?_); (refine wp_region_x (id := 6) (spOf [(10, spVal (.bool false))]) [0, 1, 2, 3, 4, 5, 6, 7, 8, 9, 10, 11] [] [] mixed ?_ ?_); (· decide +kernel); intro K ws hx hK; (try replace E := E.ext hx); (try replace b2 := b2.ext hx); (try replace b3 := b3.ext hx); (try replace hcE := bcell E.low); (try replace c2 := b2.cf); (try replace c3 := b3.cf); dsimp only [pickE, pickL, List.getElem?_cons_succ, List.getElem?_cons_zero] at hK ⊢) | ((with_reducible refine wpE_q ?_ ?_ ?_); rfl; rfl; intro wq hq _ _; (try replace hcE := bcell (E.ext hq).low); (try replace c2 := (b2.ext hq).cf); (try replace c3 := (b3.ext hq).cf)) | ((with_reducible refine at_nil 0 ?_); refine wpE_nil (fun wn hx hΦ hfp hdis => ?_); (try replace E := E.ext hx); (try replace b2 := b2.ext hx); (try replace b3 := b3.ext hx); (try replace hcE := bcell E.low); (try replace c2 := b2.cf); (try replace c3 := b3.cf); clear hΦ hfp hdis; refine hK _ _ ?_; clear hK) | (with_reducible refine wpTxt_nil ?_))
      go_ret
      exact ⟨by rw [← HT.out]; rfl, E.low⟩
  · have hz2 : true = R := by
      have := HS.out
      rw [List.drop_of_length_le (by omega), sames] at this
      exact this
    have HZ := Lib.hid hz2
    clear hz2
    go_upto_region 9999 with (first | fail)
    go_ret
    exact ⟨by rw [← HZ.out]; rfl, E.low⟩
theorem bsame_any : ∀ N : Nat, b6SameOk N
 | 0 => fun _ _ _ _ _ hz => absurd hz (Nat.not_lt_zero _)
 | N + 1 => b6Same_step (Lib.hid (bsame_any N))
open Go.RowKit Tk
def zH : ExH := ⟨0, 0, 0, 0, ⟨none, 0⟩, [], 0, 0, 0, 0, ⟨none, 0⟩⟩
def nameX (X : Nat) (s : ByteArray) : Ex := .mk { zH with op := 1, hn := ⟨some ⟨X, 0, none⟩, 1⟩, names := [s] } []
def nodeX (op : Int) (a : Option Addr) (c : Nat) (kids : List Ex) : Ex := .mk { zH with op := op, hk := ⟨a, c⟩ } kids
theorem nodeX_ok {w : World} {op : Int} {a : Option Addr} {c : Nat} {kids : List Ex} (h : RRow w 10 exC (.slice a kids.length c) kids) (hs : Ex.oks w kids) : (nodeX op a c kids).ok w := by
 unfold nodeX Ex.ok
 exact ⟨Reads.nil0 w, h, hs⟩
theorem lnode_any (op : Int) (a : Option Addr) (c : Nat) (kids : List Ex) (w : World) : Calls Try.prog 11 #[.int .i64 op, .slice a kids.length c] w (fun e w' => e = .returned (.agg (exC (nodeX op a c kids)).toArray) ∧ Ext w w') := by
 go_enter Try.func11, Try.ntmps11
 have E := Only.refl [] w
 go_upto_region 9999 with (first | ((first | ((with_reducible refine at_store 4 ?_); have bo := b4; refine wp_put bo rfl rfl ?_ ?_ ?_ ?_; (· kernel_rfl); (· first | rfl | kernel_rfl); (· first | decide | exact Nat.le_refl _ | simp [Act.eval, Value.cells] | (simp [Act.eval, Act.put, Value.cells]; done)); intro wn bn hb; dsimp only [Act.put]; simp only [putA, Act.eval, Value.cells, Nat.reduceAdd, putL, exC_size] at bn; have E2 := E.put bo hb; clear E bo; have E := E2; clear E2; clear b4; have b4 := bn; clear bn hb) | ((with_reducible refine at_dst 4 ?_); go_simp; (generalize hXn : Array.size (World.heap _) = X4); refine new_block hXn ?_; intro wn bb hx; have b4 := Loc.new bb E hXn; have zz := Nat.le_trans E.size (Nat.le_of_eq hXn); clear bb hXn)); (try replace E := E.ext hx); (try replace hcE := bcell E.low); (try replace c4 := b4.cf)))
 refine bodyPost_ret (v := .agg (exC (nodeX op a c kids)).toArray) (by simp [results, Try.f11, go_sem, c4]; rfl) rfl ⟨rfl, E.low⟩
theorem lname_any (s : ByteArray) (w : World) : Calls Try.prog 10 #[.string s] w (fun e w' => ∃ X, e = .returned (.agg (exC (nameX X s)).toArray) ∧ (nameX X s).ok w' ∧ Ext w w') := by
 go_enter Try.func10, Try.ntmps10
 have E := Only.refl [] w
 go_upto_region 9999 with (first | ((first | ((with_reducible refine at_dst 4 ?_); go_simp; (generalize hX4 : Array.size (World.heap _) = X4); refine new_block hX4 ?_; intro wn bb hx; (try have ⟨n2_4, n4_2⟩ := b2.ne hX4); (try have z4 := Nat.le_trans E.size (Nat.le_of_eq hX4)); have b4 := bb; have g4 := Loc.new bb E hX4; clear bb hX4) | ((with_reducible refine at_store 2 ?_); have bo := b2; refine wp_put bo rfl rfl ?_ ?_ ?_ ?_; (· kernel_rfl); (· first | rfl | kernel_rfl); (· first | decide | exact Nat.le_refl _ | simp [Act.eval, Value.cells] | (simp [Act.eval, Act.put, Value.cells]; done)); intro wn bn hb; dsimp only [Act.put]; simp only [putA, Act.eval, Value.cells, Nat.reduceAdd, putL, exC_size] at bn; have E2 := E.put bo hb; (first | (replace g4 := g4.but hb (g4.blk.ne_ bo.blk (of_decide_eq_true rfl))) | (replace g4 := g4.but0 hb (by assumption)) | skip); clear E bo; have E := E2; clear E2; clear b2; have b2 := bn; clear bn hb) | ((with_reducible refine at_dst 2 ?_); go_simp; (generalize hXn : Array.size (World.heap _) = X2); refine new_block hXn ?_; intro wn bb hx; have b2 := Loc.new bb E hXn; have zz := Nat.le_trans E.size (Nat.le_of_eq hXn); clear bb hXn)); (try replace E := E.ext hx); (try replace b2 := b2.ext hx); (try replace hcE := bcell E.low); (try replace c2 := b2.cf)))
 refine bodyPost_ret (v := .agg (exC (nameX X4 s)).toArray) (by simp [results, Try.f10, go_sem, c2]; rfl) rfl ⟨X4, rfl, ?_, E.low⟩
 unfold nameX Ex.ok
 exact ⟨RRow.blk (xs := [s]) strC_l g4.blk rfl (show 1 ≤ maxLen by decide), RRow.nil _ _ _, by unfold Ex.oks; trivial⟩
open Go.RowKit Tk
mutual
def levE : Ex → Nat
 | .mk _ k => levs k 0 + 1
def levs : List Ex → Nat → Nat
 | [], n => n
 | e :: r, n => levs r (max n (levE e))
end
theorem levE_eq (x : Ex) : levE x = levs x.kids 0 + 1 := by cases x; rw [levE]; rfl
mutual
theorem levE_sz : ∀ x : Ex, levE x ≤ x.sz
 | .mk h k => by
   rw [levE, Ex.sz]
   have := levs_sz k 0
   omega
theorem levs_sz : ∀ (k : List Ex) (n : Nat), levs k n ≤ max n (Ex.szs k)
 | [], n => by rw [levs, Ex.szs]; omega
 | e :: r, n => by
   rw [levs, Ex.szs]
   have h1 := levE_sz e
   have h2 := levs_sz r (max n (levE e))
   omega
end
theorem levs_at {l : List Ex} {j : Nat} {y : Ex} {n R : Nat} (h : Hid (levs (l.drop j) n = R)) (hy : l[j]? = some y) : levs (l.drop (j + 1)) (max n (levE y)) = R := by
 have := h.out
 rw [drop_at hy, levs] at this
 exact this
theorem max_int (a b : Nat) : max (a : Int) (b : Int) = ((max a b : Nat) : Int) := by omega
@[reducible] def LevOk (N : Nat) : Prop := ∀ (x : Ex) {w : World}, x.ok w → x.sz ≤ 1000000000000 → x.sz < N → Calls Try.prog 43 #[.agg (exC x).toArray] w (IPost (levE x : Nat) w)
theorem levels_step {N : Nat} (IH : Hid (LevOk N)) : LevOk (N + 1) := by
 intro x w hxo hz0 hz
 rw [Ex.sz_kids] at hz hz0
 have n2 := (RRow.lens hxo.kids).2
 obtain ⟨V, hV⟩ : ∃ V, levs x.kids 0 = V := ⟨_, rfl⟩
 have hVb : V ≤ 1000000000000 := by rw [← hV]; have := levs_sz x.kids 0; omega
 rw [levE_eq, hV]
 have HV := Lib.hid hV
 clear hV
 go_enter Try.func43, Try.ntmps43
 have E := Only.refl [] w
 go_upto_region 3 with (first | ((with_reducible refine at_dst 1 ?_); go_simp; (generalize hX1 : Array.size (World.heap _) = X1); refine new_block hX1 ?_; intro wn bb hx; (try have z1 := Nat.le_trans E.size (Nat.le_of_eq hX1)); have b1 := Loc.new bb E hX1; clear bb hX1; (try replace E := E.ext hx); (try replace hcE := bcell E.low); (try replace c1 := b1.cf)))
 go_loopw [3, 9] (fun v i wr => ∃ (j n : Nat), i = .int .i64 j ∧ j ≤ x.kids.length ∧ v = .int .i64 n ∧ Hid (levs (x.kids.drop j) n = V) ∧ n ≤ 1000000000000 ∧ Only [] w wr ∧ Loc [] w wr X1 28 (exC x).toArray) (fun _ i _ => x.kids.length - (intOf i).toNat)
 case atStart => exact ⟨0, 0, rfl, Nat.zero_le _, rfl, HV, Nat.zero_le _, E, b1⟩
 case round =>
  clear E b1 c1 HV
  (try clear hcE)
  obtain ⟨j, n, rfl, hj, rfl, HS, hn, E, b1⟩ := hrel
  have c1 := b1.cf
  have hcE := bcell E.low
  by_cases hlt : j < x.kids.length
  · obtain ⟨y, hy⟩ := at_some hlt
    have hyo := hxo.subs.mem (List.mem_of_getElem? hy)
    have hsy := Ex.sz_at hy
    have hsz : y.sz < N := by omega
    have hyz : y.sz ≤ 1000000000000 := by omega
    obtain ⟨m, hm⟩ : ∃ m, levE y = m := ⟨_, rfl⟩
    have hmb : m ≤ 1000000000000 := by rw [← hm]; have := levE_sz y; omega
    have hst := levs_at HS hy
    rw [hm] at hst
    have HL := Lib.hid hm
    have HT := Lib.hid hst
    have HY := Lib.hid hy
    have hmx := max_int n m
    have HMX := Lib.hid hmx
    obtain ⟨g, o, hgo, hg, -⟩ := RRow.cells hxo.kids hlt
    have hkc : RRow w 10 exC (.slice (some ⟨g, o, none⟩) x.kids.length x.h.hk.c) x.kids := hgo ▸ hxo.kids
    clear hy hm hst HS hmx
    rcases Nat.lt_or_ge n m with hnm | hnm
    all_goals
     have hni := Int.ofNat_le.2 hnm
     skip
    all_goals
     go_upto_region 9999 with (first | ((first | ((with_reducible refine at_dst 15 ?_); go_simp; (have hc := IH.out y (hyo.ext E.low) hyz hsz); (first | with_reducible refine hc.mono ?_ | refine hc.mono ?_); clear hc; unfold IPost; rw [HL.out]; rintro e wn ⟨rfl, hx⟩) | ((with_reducible refine at_store 5 ?_); have bo := b5; refine wp_put bo rfl rfl ?_ ?_ ?_ ?_; (· kernel_rfl); (· first | rfl | kernel_rfl); (· first | decide | exact Nat.le_refl _ | simp [Act.eval, Value.cells] | (simp [Act.eval, Act.put, Value.cells]; done)); intro wn bn hb; dsimp only [Act.put]; simp only [putA, Act.eval, Value.cells, Nat.reduceAdd, putL, exC_size] at bn; have E2 := E.put bo hb; (try replace b1 := b1.but hb (by assumption)); clear E bo; have E := E2; clear E2; clear b5; have b5 := bn; clear bn hb) | ((with_reducible refine at_dst 5 ?_); go_simp; (generalize hXn : Array.size (World.heap _) = X5); refine new_block hXn ?_; intro wn bb hx; have b5 := Loc.new bb E hXn; (try have ⟨nn, nm⟩ := b1.ne hXn); have zz := Nat.le_trans E.size (Nat.le_of_eq hXn); clear bb hXn)); (try replace E := E.ext hx); (try replace b1 := b1.ext hx); (try replace b5 := b5.ext hx); (try replace hcE := bcell E.low); (try replace c1 := b1.cf); (try replace c5 := b5.cf)) | ((with_reducible refine at_dst 12 ?_); (refine wp_rec2 ((RRow.ext hkc E.low)) (HY.out) exC_len rfl rfl ?_ ?_ ?_); (· kernel_rfl); (· kernel_rfl)) | ((with_reducible refine at_dst 14 ?_); (refine wp_all b5.blk rfl rfl ?_ ?_ ?_); (· kernel_rfl); (· kernel_rfl)))
     all_goals
      (try simp only [← hgo])
      clear hgo
      go_roundw
      case rel => first | exact ⟨j + 1, m, by go_num, by omega, rfl, Lib.hid (by have := HT.out; rwa [Nat.max_eq_right (by omega)] at this), hmb, E, b1⟩ | exact ⟨j + 1, n, by go_num, by omega, rfl, Lib.hid (by have := HT.out; rwa [Nat.max_eq_left (by omega)] at this), hn, E, b1⟩
      case measure => simp [intOf]; omega
  · have hz2 : n = V := by
      have := HS.out
      rw [List.drop_of_length_le (by omega), levs] at this
      exact this
    subst hz2
    go_upto_region 9999 with (first | fail)
    go_ret
    exact ⟨by first | rfl | simp, E.low⟩
theorem levels_any : ∀ N : Nat, LevOk N
 | 0 => fun _ _ _ _ hz => absurd hz (Nat.not_lt_zero _)
 | N + 1 => levels_step (Lib.hid (levels_any N))
open Go.RowKit Tk
theorem printable_any (c : Int) (w : World) : Calls Try.prog 85 #[.int .i32 c] w fun e w' => e = .returned (.bool (prtB c)) ∧ w = w' := by
 go_enter Try.func85, Try.ntmps85
 go_wp2
 all_goals (go_ret; exact ⟨ret_bool (by rw [Bool.eq_iff_iff]; simp [prtB]; omega), rfl⟩)
end Go.Proofs.Ytbobbbhgdfapjaa
