/- K4, K5 -/
import Derived.Test.YtbobbbhgdfapjaaGreatZB1
import Derived.Test.YtbobbbhgdfapjaaGreatZB2
import Derived.Test.YtbobbbhgdfapjaaGreatZB3
import Derived.Test.YtbobbbhgdfapjaaGreatZB4
import Derived.Test.YtbobbbhgdfapjaaGreatZBnkt1
import Derived.Test.YtbobbbhgdfapjaaGreatZB5
import Derived.Test.YtbobbbhgdfapjaaGreatZBcsv1
import Derived.Test.YtbobbbhgdfapjaaGreatZB6
import Derived.Test.YtbobbbhgdfapjaaGreatZB7
import Derived.Test.YtbobbbhgdfapjaaGreatZB8
import Derived.Test.YtbobbbhgdfapjaaGreatZB9
import Derived.Test.YtbobbbhgdfapjaaGreatZB10
import Derived.Test.YtbobbbhgdfapjaaGreatZB11
import Derived.Test.YtbobbbhgdfapjaaGreatZB12
import Derived.Test.YtbobbbhgdfapjaaGreatZB13
import Derived.Test.YtbobbbhgdfapjaaGreatZB14
import Derived.Test.YtbobbbhgdfapjaaGreatZB15
import Derived.Test.YtbobbbhgdfapjaaGreatZB16
import Derived.Test.YtbobbbhgdfapjaaGreatZB17
import Derived.Test.YtbobbbhgdfapjaaGreatZB18
import Derived.Test.YtbobbbhgdfapjaaGreatZB19
import Derived.Test.YtbobbbhgdfapjaaGreatZB20
import Derived.Test.YtbobbbhgdfapjaaGreatZB21
import Derived.Test.YtbobbbhgdfapjaaGreatZBcis1
import Derived.Test.YtbobbbhgdfapjaaGreatZBnk1
import Derived.Test.YtbobbbhgdfapjaaGreatZB22
import Derived.Test.YtbobbbhgdfapjaaGreatZB23
import Derived.Test.YtbobbbhgdfapjaaGreatZB24
import Derived.Test.YtbobbbhgdfapjaaGreatZB25
set_option linter.unusedSimpArgs false
set_option linter.unusedVariables false
namespace Go.Proofs.YtbobbbhgdfapjaaGreat
set_option maxHeartbeats 8000000
set_option maxRecDepth 100000
open Go.RowKit Tk
/-- the rows from j on are equal -/
def eqJ (F G : Nat → Bool) (n j : Nat) : Bool := (List.range (2 ^ n)).all fun r => decide (r < j) || F r == G r
theorem eqJ_zero (F G : Nat → Bool) (n : Nat) : eqJ F G n 0 = eqRows F G n := by unfold eqJ eqRows; simp
theorem eqJ_end (F G : Nat → Bool) (n : Nat) {j : Nat} (h : 2 ^ n ≤ j) : eqJ F G n j = true := by
 unfold eqJ
 rw [List.all_eq_true]
 intro r hr
 rw [decide_eq_true (Nat.lt_of_lt_of_le (List.mem_range.1 hr) h), Bool.true_or]
theorem eqJ_hit {F G : Nat → Bool} {n j : Nat} (hj : j < 2 ^ n) (h : ¬ F j = G j) : eqJ F G n j = false := by
 cases hq : eqJ F G n j with
 | false => rfl
 | true =>
   unfold eqJ at hq
   have := List.all_eq_true.1 hq j (List.mem_range.2 hj)
   simp at this
   exact absurd this h
theorem eqJ_miss {F G : Nat → Bool} {n j : Nat} (h : F j = G j) : eqJ F G n j = eqJ F G n (j + 1) := by
 unfold eqJ
 rw [Bool.eq_iff_iff, List.all_eq_true, List.all_eq_true]
 refine ⟨fun hh r hr => ?_, fun hh r hr => ?_⟩
 · have := hh r hr
   simp only [Bool.or_eq_true, decide_eq_true_eq] at this ⊢
   rcases this with h1 | h1
   · exact .inl (by omega)
   · exact .inr h1
 · have := hh r hr
   simp only [Bool.or_eq_true, decide_eq_true_eq] at this ⊢
   rcases this with h1 | h1
   · by_cases hrj : r = j
     · subst hrj; exact .inr (by rw [h]; simp)
     · exact .inl (by omega)
   · exact .inr h1
theorem pow_le16 {n : Nat} (h : n ≤ 16) : 2 ^ n ≤ 65536 := Nat.pow_le_pow_right (by decide) h
theorem shl_one : ∀ n : Fin 17, IntKind.i64.wrap (2 ^ n.val) = ((2 ^ n.val : Nat) : Int) := by decide +kernel
/-- whether two conditions with few names are equal -/
def eqQ (a b : Ex) : Bool := eqRows (rowV (names2 a b) a) (rowV (names2 a b) b) (names2 a b).length
theorem gath_two (a b : Ex) : gathN (namesS a) (namesE b) = names2 a b := by unfold names2 namesS; rw [gath_app]
theorem qequalq_any {a b : Ex} {w : World} (ha : a.ok w) (hb : b.ok w) (hwa : a.wf) (hwb : b.wf) (hza : a.sz ≤ 100000000000) (hzb : b.sz ≤ 100000000000) (hn : (names2 a b).length ≤ 16) :
    Calls Tryz.prog 64 #[.agg (exC a).toArray, .agg (exC b).toArray] w (BPost (eqQ a b) w) := by
 have hla : (namesE a).length ≤ 1000000000000 := by have := names_sz a hwa; omega
 obtain ⟨NA, hNA⟩ : ∃ l, namesS a = l := ⟨_, rfl⟩
 have HNA := Lib.hid hNA
 have hlab : NA.length + (namesE b).length ≤ 1000000000000 := by
  have h1 := names_sz a hwa
  have h2 := names_sz b hwb
  have h3 := gath_len (namesE a) []
  rw [← hNA]; unfold namesS; simp at h3; omega
 unfold eqQ
 have HALA : Hid (∀ n ∈ namesE a, n ∈ names2 a b) := Lib.hid names2_l
 have HALB : Hid (∀ n ∈ namesE b, n ∈ names2 a b) := Lib.hid names2_r
 have hg2 := gath_two a b
 rw [hNA] at hg2
 obtain ⟨M, hM⟩ : ∃ M, names2 a b = M := ⟨_, rfl⟩
 rw [hM] at HALA HALB hg2 hn ⊢
 have HM : Hid (gathN NA (namesE b) = M) := Lib.hid hg2
 have hn16 := hn
 have hp := pow_le16 hn
 obtain ⟨R, hR⟩ : ∃ R, eqRows (rowV M a) (rowV M b) M.length = R := ⟨_, rfl⟩
 rw [hR]
 have HR : Hid (eqJ (rowV M a) (rowV M b) M.length 0 = R) := Lib.hid (by rw [eqJ_zero]; exact hR)
 have hsh := shl_one ⟨M.length, by omega⟩
 simp only at hsh
 obtain ⟨P, hP⟩ : ∃ P, 2 ^ M.length = P := ⟨_, rfl⟩
 have HP := Lib.hid hP
 rw [hP] at hp hsh
 clear hM hNA hR hg2 hP
 go_enter Tryz.func64, Tryz.ntmps64
 have E := Only.refl [] w
 go_upto_region 3 with (first | ((first | ((with_reducible refine at_dst 10 ?_); go_simp; (have hc := gather_nil (ha.ext E.low) hwa hla); (first | with_reducible refine hc.mono ?_ | refine hc.mono ?_); clear hc; unfold RPost; rw [HNA.out]; rintro e wn ⟨a10, c10, rfl, r9, hx⟩) | ((with_reducible refine at_dst 11 ?_); go_simp; (have hc := gather_any (b.sz + 1) b (hb.ext E.low) hwb (Nat.lt_succ_self _) r9 hlab); (first | with_reducible refine hc.mono ?_ | refine hc.mono ?_); clear hc; unfold RPost; rw [HM.out]; rintro e wn ⟨a5, c5, rfl, r5, hx⟩) | ((with_reducible refine at_reg 1 ?_); (refine wp_region_s (id := 1) [2, 2, 3, 3, 0] [0, 1, 2, 3, 4] mixed ?_ ?_); (· decide +kernel); intro K hK wn hx; dsimp only [pickL, List.getElem?_cons_succ, List.getElem?_cons_zero]) | ((first | ((with_reducible refine at_dst 2 ?_); go_simp; (generalize hXn : Array.size (World.heap _) = X2); refine new_block hXn ?_; intro wn bb hx; have b2 := Loc.new bb E hXn) | ((with_reducible refine at_dst 3 ?_); go_simp; (generalize hXn : Array.size (World.heap _) = X3); refine new_block hXn ?_; intro wn bb hx; have b3 := Loc.new bb E hXn)); (try have ⟨nn, nm⟩ := b2.ne hXn); have zz := Nat.le_trans E.size (Nat.le_of_eq hXn); clear bb hXn)); (try replace E := E.ext hx); (try replace b2 := b2.ext hx); (try replace b3 := b3.ext hx); (try replace r9 := r9.ext hx); (try replace hcE := bcell E.low); (try replace c2 := b2.cf); (try replace c3 := b3.cf)) | ((with_reducible refine at_tag 0 ?_); (first | ((with_reducible refine wpTag_q ?_ ?_ ?_); rfl; rfl; intro _ _) | ((with_reducible refine wpTag_w ?_ ?_ ?_); rfl; rfl; intro _ _) | ((with_reducible refine wpTag_no ?_ ?_); (· first | rfl | (go_simp; done))) | ((with_reducible refine wpTag_s ?_ ?_); rfl; intro _ _; go_simp))) | ((with_reducible refine at_tag 2 ?_); (first | ((with_reducible refine wpTag_no ?_ ?_); (· first | rfl | (go_simp; done))) | (apply wpTag_2; (· rfl); (· first | rfl | go_simp); (· intro wq hq; (try replace hcE := bcell (E.ext hq).low); (try replace c2 := (b2.ext hq).cf); (try replace c3 := (b3.ext hq).cf); go_simp <;> rfl); (try simp only [Act.put, actL])))) | ((with_reducible refine at_tag 3 ?_); (first | ((with_reducible refine wpTag_no ?_ ?_); (· first | rfl | (go_simp; done))) | ((refine wpTag_3 ?_ ?_ (fun K2 hK2 => ?_)); (· rfl); (· first | rfl | go_simp)))) | ((with_reducible refine at_and ?_ ?_); (· first | exact hx | exact Ext.refl _)) | ((with_reducible refine at_tagn ?_); (with_reducible refine wpTag_nil ?_)))
 go_loopw [6] (fun v wr => ∃ j : Nat, v = .int .i64 j ∧ j ≤ P ∧ Hid (eqJ (rowV M a) (rowV M b) M.length j = R) ∧ Only [] w wr ∧ Reads wr (.slice a5 M.length c5) M ∧ Loc [] w wr X2 28 (exC a).toArray ∧ Loc [] w wr X3 28 (exC b).toArray) (fun v _ => P - (intOf v).toNat)
 case atStart => exact ⟨0, rfl, Nat.zero_le _, HR, E, r5, b2, b3⟩
 case round =>
  clear E r5 r9 HR b2 b3 c2 c3
  (try clear hcE)
  obtain ⟨j, rfl, hj, HS, E, r5, b2, b3⟩ := hrel
  have c2 := b2.cf
  have c3 := b3.cf
  have hcE := bcell E.low
  have hj20 : j < 2 ^ 20 := by omega
  by_cases hlt : j < P
  · have HKA : Hid (∀ n ∈ namesE a, (findB n (numb M j)).isSome = true) := Lib.hid fun n hn => numb_known (HALA.out n hn)
    have HKB : Hid (∀ n ∈ namesE b, (findB n (numb M j)).isSome = true) := Lib.hid fun n hn => numb_known (HALB.out n hn)
    obtain ⟨va, hva⟩ : ∃ v, rowV M a j = v := ⟨_, rfl⟩
    obtain ⟨vb, hvb⟩ : ∃ v, rowV M b j = v := ⟨_, rfl⟩
    have HVA : Hid (valE (numb M j) a = va) := Lib.hid hva
    have HVB : Hid (valE (numb M j) b = vb) := Lib.hid hvb
    have hlt2 : j < 2 ^ M.length := by rw [HP.out]; exact hlt
    cases va <;> cases vb
    all_goals
     first
      | (have HT : Hid (eqJ (rowV M a) (rowV M b) M.length (j + 1) = R) := Lib.hid (by rw [← eqJ_miss (hva.trans hvb.symm)]; exact HS.out)
         clear hva hvb HS hlt2
         go_upto_region 9999 with (first | ((first | ((with_reducible refine at_dst 22 ?_); go_simp; (have hc := qnumbered_any r5 hn16 hj20); (first | with_reducible refine hc.mono ?_ | refine hc.mono ?_); clear hc; unfold NumPost; rintro e wn ⟨a7, c7, rfl, r7, hx⟩) | ((with_reducible refine at_dst 25 ?_); go_simp; (have hc := qvalue_any (a.sz + 1) a r7 (ha.ext E.low) hwa (Nat.lt_succ_self _) HKA.out); (first | with_reducible refine hc.mono ?_ | refine hc.mono ?_); clear hc; unfold BPost; rw [HVA.out]; rintro e wn ⟨rfl, hx⟩) | ((with_reducible refine at_dst 28 ?_); go_simp; (have hc := qvalue_any (b.sz + 1) b r7 (hb.ext E.low) hwb (Nat.lt_succ_self _) HKB.out); (first | with_reducible refine hc.mono ?_ | refine hc.mono ?_); clear hc; unfold BPost; rw [HVB.out]; rintro e wn ⟨rfl, hx⟩) | ((with_reducible refine at_reg 6 ?_); (refine wp_region_s (id := 6) [2, 0, 2, 0, 3, 3, 2] [0, 1, 3, 4, 2, 5, 6] mixed ?_ ?_); (· decide +kernel); intro K hK wn hx; dsimp only [pickL, List.getElem?_cons_succ, List.getElem?_cons_zero])); (try replace E := E.ext hx); (try replace b2 := b2.ext hx); (try replace b3 := b3.ext hx); (try replace r5 := r5.ext hx); (try replace r7 := r7.ext hx); (try replace hcE := bcell E.low); (try replace c2 := b2.cf); (try replace c3 := b3.cf)) | ((with_reducible refine at_tag 0 ?_); (first | ((with_reducible refine wpTag_q ?_ ?_ ?_); rfl; rfl; intro _ _) | ((with_reducible refine wpTag_w ?_ ?_ ?_); rfl; rfl; intro _ _) | ((with_reducible refine wpTag_no ?_ ?_); (· first | rfl | (go_simp; done))) | ((with_reducible refine wpTag_s ?_ ?_); rfl; intro _ _; go_simp))) | ((with_reducible refine at_tag 2 ?_); (first | ((with_reducible refine wpTag_no ?_ ?_); (· first | rfl | (go_simp; done))) | (apply wpTag_2; (· rfl); (· first | rfl | go_simp); (· intro wq hq; (try replace hcE := bcell (E.ext hq).low); (try replace c2 := (b2.ext hq).cf); (try replace c3 := (b3.ext hq).cf); go_simp <;> rfl); (try simp only [Act.put, actL])))) | ((with_reducible refine at_tag 3 ?_); (first | ((with_reducible refine wpTag_no ?_ ?_); (· first | rfl | (go_simp; done))) | ((refine wpTag_3 ?_ ?_ (fun K2 hK2 => ?_)); (· rfl); (· first | rfl | go_simp)))) | ((with_reducible refine at_and ?_ ?_); (· first | exact hx | exact Ext.refl _)) | ((with_reducible refine at_tagn ?_); (with_reducible refine wpTag_nil ?_)))
         go_roundw
         case rel => exact ⟨j + 1, by go_num, by omega, HT, E, r5, b2, b3⟩
         case measure => simp [intOf]; omega)
      | (have hRf : R = false := by rw [← HS.out]; exact eqJ_hit hlt2 (by rw [hva, hvb]; decide)
         subst hRf
         clear hva hvb HS hlt2
         go_upto_region 9999 with (first | ((first | ((with_reducible refine at_dst 22 ?_); go_simp; (have hc := qnumbered_any r5 hn16 hj20); (first | with_reducible refine hc.mono ?_ | refine hc.mono ?_); clear hc; unfold NumPost; rintro e wn ⟨a7, c7, rfl, r7, hx⟩) | ((with_reducible refine at_dst 25 ?_); go_simp; (have hc := qvalue_any (a.sz + 1) a r7 (ha.ext E.low) hwa (Nat.lt_succ_self _) HKA.out); (first | with_reducible refine hc.mono ?_ | refine hc.mono ?_); clear hc; unfold BPost; rw [HVA.out]; rintro e wn ⟨rfl, hx⟩) | ((with_reducible refine at_dst 28 ?_); go_simp; (have hc := qvalue_any (b.sz + 1) b r7 (hb.ext E.low) hwb (Nat.lt_succ_self _) HKB.out); (first | with_reducible refine hc.mono ?_ | refine hc.mono ?_); clear hc; unfold BPost; rw [HVB.out]; rintro e wn ⟨rfl, hx⟩) | ((with_reducible refine at_reg 6 ?_); (refine wp_region_s (id := 6) [2, 0, 2, 0, 3, 3, 2] [0, 1, 3, 4, 2, 5, 6] mixed ?_ ?_); (· decide +kernel); intro K hK wn hx; dsimp only [pickL, List.getElem?_cons_succ, List.getElem?_cons_zero])); (try replace E := E.ext hx); (try replace b2 := b2.ext hx); (try replace b3 := b3.ext hx); (try replace r5 := r5.ext hx); (try replace r7 := r7.ext hx); (try replace hcE := bcell E.low); (try replace c2 := b2.cf); (try replace c3 := b3.cf)) | ((with_reducible refine at_tag 0 ?_); (first | ((with_reducible refine wpTag_q ?_ ?_ ?_); rfl; rfl; intro _ _) | ((with_reducible refine wpTag_w ?_ ?_ ?_); rfl; rfl; intro _ _) | ((with_reducible refine wpTag_no ?_ ?_); (· first | rfl | (go_simp; done))) | ((with_reducible refine wpTag_s ?_ ?_); rfl; intro _ _; go_simp))) | ((with_reducible refine at_tag 2 ?_); (first | ((with_reducible refine wpTag_no ?_ ?_); (· first | rfl | (go_simp; done))) | (apply wpTag_2; (· rfl); (· first | rfl | go_simp); (· intro wq hq; (try replace hcE := bcell (E.ext hq).low); (try replace c2 := (b2.ext hq).cf); (try replace c3 := (b3.ext hq).cf); go_simp <;> rfl); (try simp only [Act.put, actL])))) | ((with_reducible refine at_tag 3 ?_); (first | ((with_reducible refine wpTag_no ?_ ?_); (· first | rfl | (go_simp; done))) | ((refine wpTag_3 ?_ ?_ (fun K2 hK2 => ?_)); (· rfl); (· first | rfl | go_simp)))) | ((with_reducible refine at_and ?_ ?_); (· first | exact hx | exact Ext.refl _)) | ((with_reducible refine at_tagn ?_); (with_reducible refine wpTag_nil ?_)))
         go_ret
         exact ⟨rfl, E.low⟩)
  · have hRt : R = true := by rw [← HS.out]; exact eqJ_end _ _ _ (by rw [HP.out]; omega)
    subst hRt
    go_upto_region 9999 with (first | fail)
    go_ret
    exact ⟨rfl, E.low⟩
open Go.RowKit Tk
theorem namesS_some {x : Ex} (hg : x.good) : ¬ (namesS x).length = 0 := fun h => by
 have h2 := List.eq_nil_of_length_eq_zero h
 match hq : namesE x, good_names hg with
 | n :: r, _ =>
   have : n ∈ namesS x := namesS_mem.2 (by rw [hq]; simp)
   rw [h2] at this; cases this
/-- what Constant returns, by the first row -/
theorem conV_first (F : Nat → Bool) (n : Nat) : conV F n = (if eqRows F (fun _ => F 0) n = true then (F 0, true) else (false, false)) := by
 have h0 : 0 < 2 ^ n := Nat.pow_pos (by decide)
 have hb : ∀ v : Bool, eqRows F (fun _ => v) n = true → F 0 = v := fun v h => by
  unfold eqRows at h
  have := List.all_eq_true.1 h 0 (List.mem_range.2 h0)
  simpa using this
 unfold conV
 cases ht : eqRows F (fun _ => true) n with
 | true =>
   have h1 := hb true ht
   rw [h1, ht]; rfl
 | false =>
   cases hf : eqRows F (fun _ => false) n with
   | true =>
     have h1 := hb false hf
     rw [h1, hf]; rfl
   | false =>
     have : eqRows F (fun _ => F 0) n = false := by cases hq : F 0 <;> assumption
     rw [this]; rfl
def conO (f r : Bool) : Bool × Bool := if r = true then (f, true) else (false, false)
theorem constR_few {x : Ex} (h0 : ¬ (namesR x).length = 0) (h16 : ¬ 16 < (namesR x).length) : constR x = conO (rowV (namesR x) x 0) (eqRows (rowV (namesR x) x) (fun _ => rowV (namesR x) x 0) (namesR x).length) := by
 unfold constR
 rw [if_neg (by omega), conV_first]; rfl
theorem qconstant_any {x : Ex} {w : World} (hok : x.ok w) (hs : x.small) (hz : x.sz ≤ 1000000000000) : Calls Tryz.prog 33 #[.agg (exC x).toArray] w (BBPost (constR x) w) := by
 obtain ⟨v, hv⟩ : ∃ v, chk x 1 = v := ⟨_, rfl⟩
 have HC := Lib.hid hv
 by_cases h0 : v = 0
 · have hg := good_chk x 1 (hv.trans h0)
   have hwf := wf_good x hg
   have hNR : namesR x = namesS x := by unfold namesR; rw [if_neg (by rw [hv, h0]; decide)]
   have hne := namesS_some hg
   rw [← hNR] at hne
   have hfew := @constR_few x hne
   have HALL : Hid (∀ n ∈ namesE x, n ∈ namesR x) := Lib.hid fun n hn => by rw [hNR]; exact namesS_mem.2 hn
   have hbig : 16 < (namesR x).length → constR x = (false, false) := fun h => by unfold constR; rw [if_pos (.inr h)]
   obtain ⟨M, hM⟩ : ∃ M, namesR x = M := ⟨_, rfl⟩
   have HM := Lib.hid hM
   rw [hM] at hne hfew HALL hbig
   subst h0
   clear hM hNR hv hg
   by_cases h16 : 16 < M.length
   · rw [hbig h16]
     have HNE := Lib.hid hne
     clear hbig hfew hne
     go_enter Tryz.func33, Tryz.ntmps33
     have E := Only.refl [] w
     go_upto_region 9999 with (first | ((first | ((with_reducible refine at_dst 8 ?_); go_simp; (have hc := qnames_any (hok.ext E.low) hs hz); (first | with_reducible refine hc.mono ?_ | refine hc.mono ?_); clear hc; unfold RPost; rw [HM.out]; rintro e wn ⟨a4, c4, rfl, r4, hx⟩; have n4 := r4.lens.2) | ((with_reducible refine at_dst 10 ?_); go_simp; (have hc := qCheck_any (hok.ext E.low) hs hz); (first | with_reducible refine hc.mono ?_ | refine hc.mono ?_); clear hc; unfold IPost; rw [HC.out]; rintro e wn ⟨rfl, hx⟩) | ((with_reducible refine at_dst 1 ?_); go_simp; (generalize hXn : Array.size (World.heap _) = X1); refine new_block hXn ?_; intro wn bb hx; have b1 := Loc.new bb E hXn; have zz := Nat.le_trans E.size (Nat.le_of_eq hXn); clear bb hXn)); (try replace E := E.ext hx); (try replace b1 := b1.ext hx); (try replace r4 := r4.ext hx); (try replace hcE := bcell E.low); (try replace c1 := b1.cf)) | ((with_reducible refine at_dsts [7, 9] ?_ ?_); (· rfl); (refine wp_all (Loc.blk (by assumption)) rfl rfl ?_ ?_ ?_); (· kernel_rfl); (· kernel_rfl)))
     refine bodyPost_ret (v := .tuple #[.bool false, .bool false]) (by simp [results, Tryz.f33, go_sem]) rfl ⟨rfl, E.low⟩
   · rw [hfew h16]
     have hn16 : M.length ≤ 16 := by omega
     have hp := pow_le16 hn16
     obtain ⟨F, hF⟩ : ∃ F, rowV M x 0 = F := ⟨_, rfl⟩
     have HF : Hid (valE (numb M 0) x = F) := Lib.hid hF
     rw [hF]
     have HK0 : Hid (∀ n ∈ namesE x, (findB n (numb M 0)).isSome = true) := Lib.hid fun n hn => numb_known (HALL.out n hn)
     obtain ⟨R, hR⟩ : ∃ R, eqRows (rowV M x) (fun _ => F) M.length = R := ⟨_, rfl⟩
     rw [hR]
     have HR : Hid (eqJ (rowV M x) (fun _ => F) M.length 1 = R) := Lib.hid (by rw [← eqJ_miss (j := 0) hF, eqJ_zero]; exact hR)
     have hsh := shl_one ⟨M.length, by omega⟩
     simp only at hsh
     obtain ⟨P, hP⟩ : ∃ P, 2 ^ M.length = P := ⟨_, rfl⟩
     have HP := Lib.hid hP
     have hP0 : 1 ≤ P := by rw [← hP]; exact Nat.pow_pos (by decide)
     rw [hP] at hp hsh
     have HNE := Lib.hid hne
     clear hR hF hP hbig hfew hne
     go_enter Tryz.func33, Tryz.ntmps33
     have E := Only.refl [] w
     go_upto_region 6 with (first | ((first | ((with_reducible refine at_dst 8 ?_); go_simp; (have hc := qnames_any (hok.ext E.low) hs hz); (first | with_reducible refine hc.mono ?_ | refine hc.mono ?_); clear hc; unfold RPost; rw [HM.out]; rintro e wn ⟨a4, c4, rfl, r4, hx⟩; have n4 := r4.lens.2) | ((with_reducible refine at_dst 10 ?_); go_simp; (have hc := qCheck_any (hok.ext E.low) hs hz); (first | with_reducible refine hc.mono ?_ | refine hc.mono ?_); clear hc; unfold IPost; rw [HC.out]; rintro e wn ⟨rfl, hx⟩) | ((with_reducible refine at_dst 19 ?_); go_simp; (have hc := qnumbered_any (r := 0) r4 hn16 (by decide)); (first | with_reducible refine hc.mono ?_ | refine hc.mono ?_); clear hc; unfold NumPost; rintro e wn ⟨a7, c7, rfl, r7, hx⟩) | ((with_reducible refine at_dst 20 ?_); go_simp; (have hc := qvalue_any (x.sz + 1) x r7 (hok.ext E.low) hwf (Nat.lt_succ_self _) HK0.out); (first | with_reducible refine hc.mono ?_ | refine hc.mono ?_); clear hc; unfold BPost; rw [HF.out]; rintro e wn ⟨rfl, hx⟩) | ((with_reducible refine at_reg 4 ?_); (refine wp_region_s (id := 4) [2, 0, 3, 3, 0] [0, 1, 2, 3, 4] mixed ?_ ?_); (· decide +kernel); intro K hK wn hx; dsimp only [pickL, List.getElem?_cons_succ, List.getElem?_cons_zero]) | ((with_reducible refine at_dst 1 ?_); go_simp; (generalize hXn : Array.size (World.heap _) = X1); refine new_block hXn ?_; intro wn bb hx; have b1 := Loc.new bb E hXn; have zz := Nat.le_trans E.size (Nat.le_of_eq hXn); clear bb hXn)); (try replace E := E.ext hx); (try replace b1 := b1.ext hx); (try replace r4 := r4.ext hx); (try replace r7 := r7.ext hx); (try replace hcE := bcell E.low); (try replace c1 := b1.cf)) | ((with_reducible refine at_dsts [7, 9] ?_ ?_); (· rfl); (refine wp_all (Loc.blk (by assumption)) rfl rfl ?_ ?_ ?_); (· kernel_rfl); (· kernel_rfl)) | ((with_reducible refine at_tag 0 ?_); (first | ((with_reducible refine wpTag_q ?_ ?_ ?_); rfl; rfl; intro _ _) | ((with_reducible refine wpTag_w ?_ ?_ ?_); rfl; rfl; intro _ _) | ((with_reducible refine wpTag_no ?_ ?_); (· first | rfl | (go_simp; done))) | ((with_reducible refine wpTag_s ?_ ?_); rfl; intro _ _; go_simp))) | ((with_reducible refine at_tag 2 ?_); (first | ((with_reducible refine wpTag_no ?_ ?_); (· first | rfl | (go_simp; done))) | (apply wpTag_2; (· rfl); (· first | rfl | go_simp); (· intro wq hq; (try replace hcE := bcell (E.ext hq).low); (try replace c1 := (b1.ext hq).cf); go_simp <;> rfl); (try simp only [Act.put, actL])))) | ((with_reducible refine at_tag 3 ?_); (first | ((with_reducible refine wpTag_no ?_ ?_); (· first | rfl | (go_simp; done))) | ((refine wpTag_3 ?_ ?_ (fun K2 hK2 => ?_)); (· rfl); (· first | rfl | go_simp)))) | ((with_reducible refine at_and ?_ ?_); (· first | exact hx | exact Ext.refl _)) | ((with_reducible refine at_tagn ?_); (with_reducible refine wpTag_nil ?_)))
     go_loopw [6] (fun v wr => ∃ j : Nat, v = .int .i64 j ∧ 1 ≤ j ∧ j ≤ P ∧ Hid (eqJ (rowV M x) (fun _ => F) M.length j = R) ∧ Only [] w wr ∧ Reads wr (.slice a4 M.length c4) M ∧ Loc [] w wr X1 28 (exC x).toArray) (fun v _ => P - (intOf v).toNat)
     case atStart => exact ⟨1, rfl, Nat.le_refl _, hP0, HR, E, r4, b1⟩
     case round =>
      clear E r4 HR b1 c1
      (try clear r7)
      (try clear hcE)
      obtain ⟨j, rfl, hj1, hj, HS, E, r4, b1⟩ := hrel
      have c1 := b1.cf
      have hcE := bcell E.low
      have hj20 : j < 2 ^ 20 := by omega
      by_cases hlt : j < P
      · have HKJ : Hid (∀ n ∈ namesE x, (findB n (numb M j)).isSome = true) := Lib.hid fun n hn => numb_known (HALL.out n hn)
        obtain ⟨vj, hvj⟩ : ∃ v, rowV M x j = v := ⟨_, rfl⟩
        have HV : Hid (valE (numb M j) x = vj) := Lib.hid hvj
        have hlt2 : j < 2 ^ M.length := by rw [HP.out]; exact hlt
        cases F <;> cases vj
        all_goals
         first
          | (have HT := Lib.hid ((eqJ_miss hvj).symm.trans HS.out)
             clear hvj HS hlt2
             go_upto_region 9999 with (first | ((first | ((with_reducible refine at_dst 32 ?_); go_simp; (have hc := qnumbered_any r4 hn16 hj20); (first | with_reducible refine hc.mono ?_ | refine hc.mono ?_); clear hc; unfold NumPost; rintro e wn ⟨a7, c7, rfl, r7, hx⟩) | ((with_reducible refine at_dst 33 ?_); go_simp; (have hc := qvalue_any (x.sz + 1) x r7 (hok.ext E.low) hwf (Nat.lt_succ_self _) HKJ.out); (first | with_reducible refine hc.mono ?_ | refine hc.mono ?_); clear hc; unfold BPost; rw [HV.out]; rintro e wn ⟨rfl, hx⟩) | ((with_reducible refine at_reg 8 ?_); (refine wp_region_s (id := 8) [2, 0, 0, 0, 3, 3, 2] [0, 1, 2, 5, 3, 4, 6] mixed ?_ ?_); (· decide +kernel); intro K hK wn hx; dsimp only [pickL, List.getElem?_cons_succ, List.getElem?_cons_zero])); (try replace E := E.ext hx); (try replace b1 := b1.ext hx); (try replace r4 := r4.ext hx); (try replace r7 := r7.ext hx); (try replace hcE := bcell E.low); (try replace c1 := b1.cf)) | ((with_reducible refine at_tag 0 ?_); (first | ((with_reducible refine wpTag_q ?_ ?_ ?_); rfl; rfl; intro _ _) | ((with_reducible refine wpTag_w ?_ ?_ ?_); rfl; rfl; intro _ _) | ((with_reducible refine wpTag_no ?_ ?_); (· first | rfl | (go_simp; done))) | ((with_reducible refine wpTag_s ?_ ?_); rfl; intro _ _; go_simp))) | ((with_reducible refine at_tag 2 ?_); (first | ((with_reducible refine wpTag_no ?_ ?_); (· first | rfl | (go_simp; done))) | (apply wpTag_2; (· rfl); (· first | rfl | go_simp); (· intro wq hq; (try replace hcE := bcell (E.ext hq).low); (try replace c1 := (b1.ext hq).cf); go_simp <;> rfl); (try simp only [Act.put, actL])))) | ((with_reducible refine at_tag 3 ?_); (first | ((with_reducible refine wpTag_no ?_ ?_); (· first | rfl | (go_simp; done))) | ((refine wpTag_3 ?_ ?_ (fun K2 hK2 => ?_)); (· rfl); (· first | rfl | go_simp)))) | ((with_reducible refine at_and ?_ ?_); (· first | exact hx | exact Ext.refl _)) | ((with_reducible refine at_tagn ?_); (with_reducible refine wpTag_nil ?_)))
             go_roundw
             case rel => exact ⟨j + 1, by go_num, by omega, by omega, HT, E, r4, b1⟩
             case measure => simp [intOf]; omega)
          | (have hRf : R = false := by rw [← HS.out]; exact eqJ_hit hlt2 (by rw [hvj]; decide)
             subst hRf
             clear hvj HS hlt2
             go_upto_region 9999 with (first | ((first | ((with_reducible refine at_dst 32 ?_); go_simp; (have hc := qnumbered_any r4 hn16 hj20); (first | with_reducible refine hc.mono ?_ | refine hc.mono ?_); clear hc; unfold NumPost; rintro e wn ⟨a7, c7, rfl, r7, hx⟩) | ((with_reducible refine at_dst 33 ?_); go_simp; (have hc := qvalue_any (x.sz + 1) x r7 (hok.ext E.low) hwf (Nat.lt_succ_self _) HKJ.out); (first | with_reducible refine hc.mono ?_ | refine hc.mono ?_); clear hc; unfold BPost; rw [HV.out]; rintro e wn ⟨rfl, hx⟩) | ((with_reducible refine at_reg 8 ?_); (refine wp_region_s (id := 8) [2, 0, 0, 0, 3, 3, 2] [0, 1, 2, 5, 3, 4, 6] mixed ?_ ?_); (· decide +kernel); intro K hK wn hx; dsimp only [pickL, List.getElem?_cons_succ, List.getElem?_cons_zero])); (try replace E := E.ext hx); (try replace b1 := b1.ext hx); (try replace r4 := r4.ext hx); (try replace r7 := r7.ext hx); (try replace hcE := bcell E.low); (try replace c1 := b1.cf)) | ((with_reducible refine at_tag 0 ?_); (first | ((with_reducible refine wpTag_q ?_ ?_ ?_); rfl; rfl; intro _ _) | ((with_reducible refine wpTag_w ?_ ?_ ?_); rfl; rfl; intro _ _) | ((with_reducible refine wpTag_no ?_ ?_); (· first | rfl | (go_simp; done))) | ((with_reducible refine wpTag_s ?_ ?_); rfl; intro _ _; go_simp))) | ((with_reducible refine at_tag 2 ?_); (first | ((with_reducible refine wpTag_no ?_ ?_); (· first | rfl | (go_simp; done))) | (apply wpTag_2; (· rfl); (· first | rfl | go_simp); (· intro wq hq; (try replace hcE := bcell (E.ext hq).low); (try replace c1 := (b1.ext hq).cf); go_simp <;> rfl); (try simp only [Act.put, actL])))) | ((with_reducible refine at_tag 3 ?_); (first | ((with_reducible refine wpTag_no ?_ ?_); (· first | rfl | (go_simp; done))) | ((refine wpTag_3 ?_ ?_ (fun K2 hK2 => ?_)); (· rfl); (· first | rfl | go_simp)))) | ((with_reducible refine at_and ?_ ?_); (· first | exact hx | exact Ext.refl _)) | ((with_reducible refine at_tagn ?_); (with_reducible refine wpTag_nil ?_)))
             refine bodyPost_ret (v := .tuple #[.bool false, .bool false]) (by simp [results, Tryz.f33, go_sem]) rfl ⟨rfl, E.low⟩)
      · have hRt : R = true := by rw [← HS.out]; exact eqJ_end _ _ _ (by rw [HP.out]; omega)
        subst hRt
        go_upto_region 9999 with (first | fail)
        refine bodyPost_ret (v := .tuple #[.bool F, .bool true]) (by simp [results, Tryz.f33, go_sem]) rfl ⟨rfl, E.low⟩
 · have hM : namesR x = [] := by unfold namesR; rw [if_pos (by rw [hv]; exact h0)]
   have hcr : constR x = (false, false) := by unfold constR; rw [if_pos (.inl (by rw [hM]; rfl))]
   have HM := Lib.hid hM
   rw [hcr]
   obtain ⟨s1, s2⟩ := kd_f h0
   clear h0 hv hM hcr
   go_enter Tryz.func33, Tryz.ntmps33
   have E := Only.refl [] w
   go_upto_region 9999 with (first | ((first | ((with_reducible refine at_dst 8 ?_); go_simp; (have hc := qnames_any (hok.ext E.low) hs hz); (first | with_reducible refine hc.mono ?_ | refine hc.mono ?_); clear hc; unfold RPost; rw [HM.out]; rintro e wn ⟨a4, c4, rfl, r4, hx⟩; have n4 := r4.lens.2) | ((with_reducible refine at_dst 10 ?_); go_simp; (have hc := qCheck_any (hok.ext E.low) hs hz); (first | with_reducible refine hc.mono ?_ | refine hc.mono ?_); clear hc; unfold IPost; rw [HC.out]; rintro e wn ⟨rfl, hx⟩) | ((with_reducible refine at_dst 1 ?_); go_simp; (generalize hXn : Array.size (World.heap _) = X1); refine new_block hXn ?_; intro wn bb hx; have b1 := Loc.new bb E hXn; have zz := Nat.le_trans E.size (Nat.le_of_eq hXn); clear bb hXn)); (try replace E := E.ext hx); (try replace b1 := b1.ext hx); (try replace r4 := r4.ext hx); (try replace hcE := bcell E.low); (try replace c1 := b1.cf)) | ((with_reducible refine at_dsts [7, 9] ?_ ?_); (· rfl); (refine wp_all (Loc.blk (by assumption)) rfl rfl ?_ ?_ ?_); (· kernel_rfl); (· kernel_rfl)))
   refine bodyPost_ret (v := .tuple #[.bool false, .bool false]) (by simp [results, Tryz.f33, go_sem]) rfl ⟨rfl, E.low⟩
/-! ### always -/
end Go.Proofs.YtbobbbhgdfapjaaGreat
