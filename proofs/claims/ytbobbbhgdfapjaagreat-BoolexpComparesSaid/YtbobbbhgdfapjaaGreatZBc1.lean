/- K4, M4 -/
import Derived.Test.YtbobbbhgdfapjaaGreatZB1
import Derived.Test.YtbobbbhgdfapjaaGreatZB2
import Derived.Test.YtbobbbhgdfapjaaGreatZB3
import Derived.Test.YtbobbbhgdfapjaaGreatZB4
import Derived.Test.YtbobbbhgdfapjaaGreatZBnkt1
import Derived.Test.YtbobbbhgdfapjaaGreatZB5
import Derived.Test.YtbobbbhgdfapjaaGreatZBcsv1
import Derived.Test.YtbobbbhgdfapjaaGreatZB6
import Derived.Test.YtbobbbhgdfapjaaGreatZB7
import Derived.Test.YtbobbbhgdfapjaaGreatZB8
import Derived.Test.YtbobbbhgdfapjaaGreatZB9
import Derived.Test.YtbobbbhgdfapjaaGreatZB10
import Derived.Test.YtbobbbhgdfapjaaGreatZB11
import Derived.Test.YtbobbbhgdfapjaaGreatZB12
import Derived.Test.YtbobbbhgdfapjaaGreatZB13
import Derived.Test.YtbobbbhgdfapjaaGreatZB14
import Derived.Test.YtbobbbhgdfapjaaGreatZB15
import Derived.Test.YtbobbbhgdfapjaaGreatZB16
import Derived.Test.YtbobbbhgdfapjaaGreatZB17
import Derived.Test.YtbobbbhgdfapjaaGreatZB18
import Derived.Test.YtbobbbhgdfapjaaGreatZB19
import Derived.Test.YtbobbbhgdfapjaaGreatZB20
import Derived.Test.YtbobbbhgdfapjaaGreatZB21
import Derived.Test.YtbobbbhgdfapjaaGreatZBcis1
import Derived.Test.YtbobbbhgdfapjaaGreatZBnk1
import Derived.Test.YtbobbbhgdfapjaaGreatZB22
import Derived.Test.YtbobbbhgdfapjaaGreatZB23
import Derived.Test.YtbobbbhgdfapjaaGreatZBcs1
import Derived.Test.YtbobbbhgdfapjaaGreatZB24
import Derived.Test.YtbobbbhgdfapjaaGreatZB25
import Derived.Test.YtbobbbhgdfapjaaGreatZB26
import Derived.Test.YtbobbbhgdfapjaaGreatZB27
import Derived.Test.YtbobbbhgdfapjaaGreatZB28
import Derived.Test.YtbobbbhgdfapjaaGreatZB29
import Derived.Test.YtbobbbhgdfapjaaGreatZB30
import Derived.Test.YtbobbbhgdfapjaaGreatZB31
import Derived.Test.YtbobbbhgdfapjaaGreatZB32
import Derived.Test.YtbobbbhgdfapjaaGreatZB33
import Derived.Test.YtbobbbhgdfapjaaGreatZB34
import Derived.Test.YtbobbbhgdfapjaaGreatZB35
import Derived.Test.YtbobbbhgdfapjaaGreatZBcis2
set_option linter.unusedSimpArgs false
set_option linter.unusedVariables false
namespace Go.Proofs.YtbobbbhgdfapjaaGreat
set_option maxHeartbeats 8000000
set_option maxRecDepth 100000
open Go.RowKit Tk
theorem qequal_any {a b : Ex} {w : World} (ha : a.ok w) (hb : b.ok w) (hsa : a.small) (hsb : b.small) (hza : a.sz ≤ 100000000000) (hzb : b.sz ≤ 100000000000) :
    Calls Tryz.prog 31 #[.agg (exC a).toArray, .agg (exC b).toArray] w (BIPost (equalR a b) w) := by
 unfold equalR
 obtain ⟨va, hva⟩ : ∃ v, chk a 1 = v := ⟨_, rfl⟩
 have HCA := Lib.hid hva
 rw [hva]
 have hza0 := hza
 have hzb0 := hzb
 replace hza : a.sz ≤ 1000000000000 := by omega
 replace hzb : b.sz ≤ 1000000000000 := by omega
 by_cases h0 : va = 0
 · have hwa := chk_wf a 1 (hva.trans h0)
   subst h0
   clear hva
   rw [if_neg (by decide)]
   obtain ⟨vb, hvb⟩ : ∃ v, chk b 1 = v := ⟨_, rfl⟩
   have HCB := Lib.hid hvb
   rw [hvb]
   by_cases h1 : vb = 0
   · have hwb := chk_wf b 1 (hvb.trans h1)
     subst h1
     clear hvb
     rw [if_neg (by decide)]
     unfold eqV
     have hla : (namesE a).length ≤ 1000000000000 := Nat.le_trans (names_sz a hwa) hza
     obtain ⟨NA, hNA⟩ : ∃ l, namesS a = l := ⟨_, rfl⟩
     have HNA := Lib.hid hNA
     have hlab : NA.length + (namesE b).length ≤ 1000000000000 := by
      have h1 := names_sz a hwa
      have h2 := names_sz b hwb
      have h3 := gath_len (namesE a) []
      rw [← hNA]; unfold namesS; simp at h3; omega
     have hg2 := gath_two a b
     rw [hNA] at hg2
     obtain ⟨R, hR⟩ : ∃ R, eqRows (rowV (names2 a b) a) (rowV (names2 a b) b) (names2 a b).length = R := ⟨_, rfl⟩
     rw [hR]
     have HR : Hid (eqQ a b = R) := Lib.hid hR
     obtain ⟨M, hM⟩ : ∃ M, names2 a b = M := ⟨_, rfl⟩
     have HM2 := Lib.hid hM
     rw [hM] at hg2 ⊢
     have HM : Hid (gathN NA (namesE b) = M) := Lib.hid hg2
     clear hM hNA hg2 hR
     by_cases h16 : 16 < M.length
     · rw [if_pos h16]
       go_enter Tryz.func31, Tryz.ntmps31
       have E := Only.refl [] w
       go_upto_region 9999 with (first | ((first | ((with_reducible refine at_dst 9 ?_); go_simp; (have hc := qCheck_any (ha.ext E.low) hsa hza); (first | with_reducible refine hc.mono ?_ | refine hc.mono ?_); clear hc; unfold IPost; rw [HCA.out]; rintro e wn ⟨rfl, hx⟩) | ((with_reducible refine at_dst 14 ?_); go_simp; (have hc := qCheck_any (hb.ext E.low) hsb hzb); (first | with_reducible refine hc.mono ?_ | refine hc.mono ?_); clear hc; unfold IPost; rw [HCB.out]; rintro e wn ⟨rfl, hx⟩) | ((with_reducible refine at_dst 20 ?_); go_simp; (have hc := gather_nil (ha.ext E.low) hwa hla); (first | with_reducible refine hc.mono ?_ | refine hc.mono ?_); clear hc; unfold RPost; rw [HNA.out]; rintro e wn ⟨a10, c10, rfl, r9, hx⟩) | ((with_reducible refine at_dst 21 ?_); go_simp; (have hc := gather_any (b.sz + 1) b (hb.ext E.low) hwb (Nat.lt_succ_self _) r9 hlab); (first | with_reducible refine hc.mono ?_ | refine hc.mono ?_); clear hc; unfold RPost; rw [HM.out]; rintro e wn ⟨a5, c5, rfl, r5, hx⟩; have n5 := r5.lens.2) | ((with_reducible refine at_reg 7 ?_); (refine wp_region_s (id := 7) [2, 2, 3, 3, 2, 2] [0, 1, 2, 3, 4, 5] mixed ?_ ?_); (· decide +kernel); intro K hK wn hx; dsimp only [pickL, List.getElem?_cons_succ, List.getElem?_cons_zero]) | ((first | ((with_reducible refine at_dst 2 ?_); go_simp; (generalize hXn : Array.size (World.heap _) = X2); refine new_block hXn ?_; intro wn bb hx; have b2 := Loc.new bb E hXn) | ((with_reducible refine at_dst 3 ?_); go_simp; (generalize hXn : Array.size (World.heap _) = X3); refine new_block hXn ?_; intro wn bb hx; have b3 := Loc.new bb E hXn)); (try have ⟨nn, nm⟩ := b2.ne hXn); have zz := Nat.le_trans E.size (Nat.le_of_eq hXn); clear bb hXn)); (try replace E := E.ext hx); (try replace b2 := b2.ext hx); (try replace b3 := b3.ext hx); (try replace r9 := r9.ext hx); (try replace hcE := bcell E.low); (try replace c2 := b2.cf); (try replace c3 := b3.cf)) | ((with_reducible refine at_dsts [8, 13] ?_ ?_); (· rfl); (refine wp_all (Loc.blk (by assumption)) rfl rfl ?_ ?_ ?_); (· kernel_rfl); (· kernel_rfl)) | ((with_reducible refine at_tag 2 ?_); (first | ((with_reducible refine wpTag_no ?_ ?_); (· first | rfl | (go_simp; done))) | (apply wpTag_2; (· rfl); (· first | rfl | go_simp); (· intro wq hq; (try replace hcE := bcell (E.ext hq).low); (try replace c2 := (b2.ext hq).cf); (try replace c3 := (b3.ext hq).cf); go_simp <;> rfl); (try simp only [Act.put, actL])))) | ((with_reducible refine at_tag 3 ?_); (first | ((with_reducible refine wpTag_no ?_ ?_); (· first | rfl | (go_simp; done))) | ((refine wpTag_3 ?_ ?_ (fun K2 hK2 => ?_)); (· rfl); (· first | rfl | go_simp)))) | ((with_reducible refine at_and ?_ ?_); (· first | exact hx | exact Ext.refl _)) | ((with_reducible refine at_tagn ?_); (with_reducible refine wpTag_nil ?_)))
       refine bodyPost_ret (v := .tuple #[.bool false, .int .i64 4]) (by simp [results, Tryz.f31, go_sem]) rfl ⟨rfl, E.low⟩
     · rw [if_neg h16]
       have hn16 : Hid ((names2 a b).length ≤ 16) := Lib.hid (by rw [HM2.out]; omega)
       go_enter Tryz.func31, Tryz.ntmps31
       have E := Only.refl [] w
       go_upto_region 9999 with (first | ((first | ((with_reducible refine at_dst 9 ?_); go_simp; (have hc := qCheck_any (ha.ext E.low) hsa hza); (first | with_reducible refine hc.mono ?_ | refine hc.mono ?_); clear hc; unfold IPost; rw [HCA.out]; rintro e wn ⟨rfl, hx⟩) | ((with_reducible refine at_dst 14 ?_); go_simp; (have hc := qCheck_any (hb.ext E.low) hsb hzb); (first | with_reducible refine hc.mono ?_ | refine hc.mono ?_); clear hc; unfold IPost; rw [HCB.out]; rintro e wn ⟨rfl, hx⟩) | ((with_reducible refine at_dst 20 ?_); go_simp; (have hc := gather_nil (ha.ext E.low) hwa hla); (first | with_reducible refine hc.mono ?_ | refine hc.mono ?_); clear hc; unfold RPost; rw [HNA.out]; rintro e wn ⟨a10, c10, rfl, r9, hx⟩) | ((with_reducible refine at_dst 21 ?_); go_simp; (have hc := gather_any (b.sz + 1) b (hb.ext E.low) hwb (Nat.lt_succ_self _) r9 hlab); (first | with_reducible refine hc.mono ?_ | refine hc.mono ?_); clear hc; unfold RPost; rw [HM.out]; rintro e wn ⟨a5, c5, rfl, r5, hx⟩; have n5 := r5.lens.2) | ((with_reducible refine at_dst 26 ?_); go_simp; (have hc := qequalq_any (ha.ext E.low) (hb.ext E.low) hwa hwb hza0 hzb0 hn16.out); (first | with_reducible refine hc.mono ?_ | refine hc.mono ?_); clear hc; unfold BPost; rw [HR.out]; rintro e wn ⟨rfl, hx⟩) | ((with_reducible refine at_reg 7 ?_); (refine wp_region_s (id := 7) [2, 2, 3, 3, 2, 2] [0, 1, 2, 3, 4, 5] mixed ?_ ?_); (· decide +kernel); intro K hK wn hx; dsimp only [pickL, List.getElem?_cons_succ, List.getElem?_cons_zero]) | ((first | ((with_reducible refine at_dst 2 ?_); go_simp; (generalize hXn : Array.size (World.heap _) = X2); refine new_block hXn ?_; intro wn bb hx; have b2 := Loc.new bb E hXn) | ((with_reducible refine at_dst 3 ?_); go_simp; (generalize hXn : Array.size (World.heap _) = X3); refine new_block hXn ?_; intro wn bb hx; have b3 := Loc.new bb E hXn)); (try have ⟨nn, nm⟩ := b2.ne hXn); have zz := Nat.le_trans E.size (Nat.le_of_eq hXn); clear bb hXn)); (try replace E := E.ext hx); (try replace b2 := b2.ext hx); (try replace b3 := b3.ext hx); (try replace r9 := r9.ext hx); (try replace r5 := r5.ext hx); (try replace hcE := bcell E.low); (try replace c2 := b2.cf); (try replace c3 := b3.cf)) | ((with_reducible refine at_dsts [8, 13, 24, 25] ?_ ?_); (· rfl); (refine wp_all (Loc.blk (by assumption)) rfl rfl ?_ ?_ ?_); (· kernel_rfl); (· kernel_rfl)) | ((with_reducible refine at_tag 2 ?_); (first | ((with_reducible refine wpTag_no ?_ ?_); (· first | rfl | (go_simp; done))) | (apply wpTag_2; (· rfl); (· first | rfl | go_simp); (· intro wq hq; (try replace hcE := bcell (E.ext hq).low); (try replace c2 := (b2.ext hq).cf); (try replace c3 := (b3.ext hq).cf); go_simp <;> rfl); (try simp only [Act.put, actL])))) | ((with_reducible refine at_tag 3 ?_); (first | ((with_reducible refine wpTag_no ?_ ?_); (· first | rfl | (go_simp; done))) | ((refine wpTag_3 ?_ ?_ (fun K2 hK2 => ?_)); (· rfl); (· first | rfl | go_simp)))) | ((with_reducible refine at_and ?_ ?_); (· first | exact hx | exact Ext.refl _)) | ((with_reducible refine at_tagn ?_); (with_reducible refine wpTag_nil ?_)))
       refine bodyPost_ret (v := .tuple #[.bool R, .int .i64 0]) (by simp [results, Tryz.f31, go_sem]) rfl ⟨rfl, E.low⟩
   · obtain ⟨s1, s2⟩ := kd_f h1
     rw [if_pos h1]
     clear h1 hvb
     go_enter Tryz.func31, Tryz.ntmps31
     have E := Only.refl [] w
     go_upto_region 9999 with (first | ((first | ((with_reducible refine at_dst 9 ?_); go_simp; (have hc := qCheck_any (ha.ext E.low) hsa hza); (first | with_reducible refine hc.mono ?_ | refine hc.mono ?_); clear hc; unfold IPost; rw [HCA.out]; rintro e wn ⟨rfl, hx⟩) | ((with_reducible refine at_dst 14 ?_); go_simp; (have hc := qCheck_any (hb.ext E.low) hsb hzb); (first | with_reducible refine hc.mono ?_ | refine hc.mono ?_); clear hc; unfold IPost; rw [HCB.out]; rintro e wn ⟨rfl, hx⟩) | ((first | ((with_reducible refine at_dst 2 ?_); go_simp; (generalize hXn : Array.size (World.heap _) = X2); refine new_block hXn ?_; intro wn bb hx; have b2 := Loc.new bb E hXn) | ((with_reducible refine at_dst 3 ?_); go_simp; (generalize hXn : Array.size (World.heap _) = X3); refine new_block hXn ?_; intro wn bb hx; have b3 := Loc.new bb E hXn)); (try have ⟨nn, nm⟩ := b2.ne hXn); have zz := Nat.le_trans E.size (Nat.le_of_eq hXn); clear bb hXn)); (try replace E := E.ext hx); (try replace b2 := b2.ext hx); (try replace b3 := b3.ext hx); (try replace hcE := bcell E.low); (try replace c2 := b2.cf); (try replace c3 := b3.cf)) | ((with_reducible refine at_dsts [8, 13] ?_ ?_); (· rfl); (refine wp_all (Loc.blk (by assumption)) rfl rfl ?_ ?_ ?_); (· kernel_rfl); (· kernel_rfl)))
     refine bodyPost_ret (v := .tuple #[.bool false, .int .i64 vb]) (by simp [results, Tryz.f31, go_sem]) rfl ⟨rfl, E.low⟩
 · obtain ⟨s1, s2⟩ := kd_f h0
   rw [if_pos h0]
   clear h0 hva
   go_enter Tryz.func31, Tryz.ntmps31
   have E := Only.refl [] w
   go_upto_region 9999 with (first | ((first | ((with_reducible refine at_dst 9 ?_); go_simp; (have hc := qCheck_any (ha.ext E.low) hsa hza); (first | with_reducible refine hc.mono ?_ | refine hc.mono ?_); clear hc; unfold IPost; rw [HCA.out]; rintro e wn ⟨rfl, hx⟩) | ((first | ((with_reducible refine at_dst 2 ?_); go_simp; (generalize hXn : Array.size (World.heap _) = X2); refine new_block hXn ?_; intro wn bb hx; have b2 := Loc.new bb E hXn) | ((with_reducible refine at_dst 3 ?_); go_simp; (generalize hXn : Array.size (World.heap _) = X3); refine new_block hXn ?_; intro wn bb hx; have b3 := Loc.new bb E hXn)); (try have ⟨nn, nm⟩ := b2.ne hXn); have zz := Nat.le_trans E.size (Nat.le_of_eq hXn); clear bb hXn)); (try replace E := E.ext hx); (try replace b2 := b2.ext hx); (try replace b3 := b3.ext hx); (try replace hcE := bcell E.low); (try replace c2 := b2.cf); (try replace c3 := b3.cf)) | ((with_reducible refine at_dst 8 ?_); (refine wp_all b2.blk rfl rfl ?_ ?_ ?_); (· kernel_rfl); (· kernel_rfl)))
   refine bodyPost_ret (v := .tuple #[.bool false, .int .i64 va]) (by simp [results, Tryz.f31, go_sem]) rfl ⟨rfl, E.low⟩
open Go.RowKit Tk
theorem lawCompares {x y : Ex} {w : World} (hxo : x.ok w) (hyo : y.ok w) (hsmx : x.small) (hsmy : y.small) : Calls Tryz.prog 7 #[.agg (exC x).toArray, .agg (exC y).toArray] w (BPost true w) := by
 have hi : -9000000000000000000 ≤ (60 : Int) ∧ (60 : Int) ≤ 9000000000000000000 := by omega
 obtain ⟨bx, hbx⟩ : ∃ b, decide (0 ≤ cntE x 60) = b := ⟨_, rfl⟩
 have HFX := Lib.hid hbx
 obtain ⟨bY, hby⟩ : ∃ b, decide (0 ≤ cntE y 60) = b := ⟨_, rfl⟩
 have HFY := Lib.hid hby
 cases bx with
 | false =>
   clear hbx hby
   go_enter Tryz.func7, Tryz.ntmps7
   have E := Only.refl [] w
   go_upto_region 9999 with (first | ((first | ((with_reducible refine at_dst 14 ?_); go_simp; (have hc := few_any (hxo.ext E.low) 60 hi); (first | with_reducible refine hc.mono ?_ | refine hc.mono ?_); clear hc; unfold BPost; rw [HFX.out]; rintro e wn ⟨rfl, hx⟩) | ((with_reducible refine at_dst 26 ?_); go_simp; ((with_reducible refine (awake_any _).mono ?_)); unfold BPost; rintro e wn ⟨rfl, hx⟩) | ((first | ((with_reducible refine at_dst 2 ?_); go_simp; (generalize hXn : Array.size (World.heap _) = X2); refine new_block hXn ?_; intro wn bb hx; have b2 := Loc.new bb E hXn) | ((with_reducible refine at_dst 3 ?_); go_simp; (generalize hXn : Array.size (World.heap _) = X3); refine new_block hXn ?_; intro wn bb hx; have b3 := Loc.new bb E hXn)); (try have ⟨nn, nm⟩ := b2.ne hXn); have zz := Nat.le_trans E.size (Nat.le_of_eq hXn); clear bb hXn)); (try replace E := E.ext hx); (try replace b2 := b2.ext hx); (try replace b3 := b3.ext hx); (try replace hcE := bcell E.low); (try replace c2 := b2.cf); (try replace c3 := b3.cf)) | ((with_reducible refine at_dst 13 ?_); (refine wp_all b2.blk rfl rfl ?_ ?_ ?_); (· kernel_rfl); (· kernel_rfl)))
   go_ret
   exact ⟨rfl, E.low⟩
 | true =>
   cases bY with
   | false =>
     clear hbx hby
     go_enter Tryz.func7, Tryz.ntmps7
     have E := Only.refl [] w
     go_upto_region 9999 with (first | ((first | ((with_reducible refine at_dst 14 ?_); go_simp; (have hc := few_any (hxo.ext E.low) 60 hi); (first | with_reducible refine hc.mono ?_ | refine hc.mono ?_); clear hc; unfold BPost; rw [HFX.out]; rintro e wn ⟨rfl, hx⟩) | ((with_reducible refine at_dst 26 ?_); go_simp; ((with_reducible refine (awake_any _).mono ?_)); unfold BPost; rintro e wn ⟨rfl, hx⟩) | ((first | ((with_reducible refine at_dst 2 ?_); go_simp; (generalize hXn : Array.size (World.heap _) = X2); refine new_block hXn ?_; intro wn bb hx; have b2 := Loc.new bb E hXn) | ((with_reducible refine at_dst 3 ?_); go_simp; (generalize hXn : Array.size (World.heap _) = X3); refine new_block hXn ?_; intro wn bb hx; have b3 := Loc.new bb E hXn)); (try have ⟨nn, nm⟩ := b2.ne hXn); have zz := Nat.le_trans E.size (Nat.le_of_eq hXn); clear bb hXn)); (try replace E := E.ext hx); (try replace b2 := b2.ext hx); (try replace b3 := b3.ext hx); (try replace hcE := bcell E.low); (try replace c2 := b2.cf); (try replace c3 := b3.cf)) | ((with_reducible refine at_dsts [13, 17] ?_ ?_); (· rfl); (refine wp_all (Loc.blk (by assumption)) rfl rfl ?_ ?_ ?_); (· kernel_rfl); (· kernel_rfl)) | (go_at_call 10; ((have hc := few_any (hyo.ext E.low) 60 hi); (first | with_reducible refine hc.mono ?_ | refine hc.mono ?_); clear hc; unfold BPost; rw [HFY.out]); rintro e9 wn ⟨rfl, hx⟩; (try replace E := E.ext hx); (try replace b2 := b2.ext hx); (try replace b3 := b3.ext hx); (try replace hcE := bcell E.low); (try replace c2 := b2.cf); (try replace c3 := b3.cf)))
     go_ret
     exact ⟨rfl, E.low⟩
   | true =>
     have hsx : x.sz ≤ 60 := by have h0 := of_decide_eq_true hbx; have := (cntE_le x 60).2 h0; omega
     have h4x : x.four := cntE_four x 60 (of_decide_eq_true hbx)
     have hsy : y.sz ≤ 60 := by have h0 := of_decide_eq_true hby; have := (cntE_le y 60).2 h0; omega
     have h4y : y.four := cntE_four y 60 (of_decide_eq_true hby)
     have hzx : x.sz ≤ 1000000000 := by omega
     have hzy : y.sz ≤ 1000000000 := by omega
     have hzx2 : x.sz ≤ 100000000000 := by omega
     have hzy2 : y.sz ≤ 100000000000 := by omega
     have hzx3 : x.sz ≤ 1000000000000 := by omega
     clear hbx hby
     obtain ⟨m, hm⟩ : ∃ m, manyB x y = m := ⟨_, rfl⟩
     have HM := Lib.hid hm
     clear hm
     obtain ⟨r, hr⟩ : ∃ r, equalR x y = r := ⟨_, rfl⟩
     obtain ⟨v, k⟩ := r
     have HE := Lib.hid hr
     obtain ⟨c, hc⟩ : ∃ r, constR x = r := ⟨_, rfl⟩
     obtain ⟨p, q⟩ := c
     have HC := Lib.hid hc
     clear hr hc
     cases m
     all_goals
      go_enter Tryz.func7, Tryz.ntmps7
      have E := Only.refl [] w
      go_upto_region 9999 with (first | ((first | ((with_reducible refine at_dst 14 ?_); go_simp; (have hc := few_any (hxo.ext E.low) 60 hi); (first | with_reducible refine hc.mono ?_ | refine hc.mono ?_); clear hc; unfold BPost; rw [HFX.out]; rintro e wn ⟨rfl, hx⟩) | ((with_reducible refine at_dst 26 ?_); go_simp; ((with_reducible refine (awake_any _).mono ?_)); unfold BPost; rintro e wn ⟨rfl, hx⟩) | ((with_reducible refine at_dst 30 ?_); go_simp; (have hc := bequal_any (hxo.ext E.low) (hyo.ext E.low) hsmx hsmy hzx2 hzy2); (first | with_reducible refine hc.mono ?_ | refine hc.mono ?_); clear hc; unfold BIPost; rw [HE.out]; dsimp only; rintro e wn ⟨rfl, hx⟩) | ((with_reducible refine at_dst 36 ?_); go_simp; (have hc := qequal_any (hxo.ext E.low) (hyo.ext E.low) hsmx hsmy hzx2 hzy2); (first | with_reducible refine hc.mono ?_ | refine hc.mono ?_); clear hc; unfold BIPost; rw [HE.out]; dsimp only; rintro e wn ⟨rfl, hx⟩) | ((with_reducible refine at_dst 41 ?_); go_simp; (have hc := bconstant_any (hxo.ext E.low) hsmx hzx3); (first | with_reducible refine hc.mono ?_ | refine hc.mono ?_); clear hc; unfold BBPost; rw [HC.out]; dsimp only; rintro e wn ⟨rfl, hx⟩) | ((with_reducible refine at_dst 46 ?_); go_simp; (have hc := qconstant_any (hxo.ext E.low) hsmx hzx3); (first | with_reducible refine hc.mono ?_ | refine hc.mono ?_); clear hc; unfold BBPost; rw [HC.out]; dsimp only; rintro e wn ⟨rfl, hx⟩) | ((with_reducible refine at_dst 68 ?_); go_simp; ((with_reducible refine (awake_any _).mono ?_)); unfold BPost; rintro e wn ⟨rfl, hx⟩) | ((first | ((with_reducible refine at_dst 2 ?_); go_simp; (generalize hXn : Array.size (World.heap _) = X2); refine new_block hXn ?_; intro wn bb hx; have b2 := Loc.new bb E hXn) | ((with_reducible refine at_dst 3 ?_); go_simp; (generalize hXn : Array.size (World.heap _) = X3); refine new_block hXn ?_; intro wn bb hx; have b3 := Loc.new bb E hXn)); (try have ⟨nn, nm⟩ := b2.ne hXn); have zz := Nat.le_trans E.size (Nat.le_of_eq hXn); clear bb hXn)); (try replace E := E.ext hx); (try replace b2 := b2.ext hx); (try replace b3 := b3.ext hx); (try replace hcE := bcell E.low); (try replace c2 := b2.cf); (try replace c3 := b3.cf)) | ((with_reducible refine at_dsts [13, 17, 22, 28, 29, 34, 35, 40, 45] ?_ ?_); (· rfl); (refine wp_all (Loc.blk (by assumption)) rfl rfl ?_ ?_ ?_); (· kernel_rfl); (· kernel_rfl)) | (go_at_call 10; ((have hc := few_any (hyo.ext E.low) 60 hi); (first | with_reducible refine hc.mono ?_ | refine hc.mono ?_); clear hc; unfold BPost; rw [HFY.out]); rintro e9 wn ⟨rfl, hx⟩; (try replace E := E.ext hx); (try replace b2 := b2.ext hx); (try replace b3 := b3.ext hx); (try replace hcE := bcell E.low); (try replace c2 := b2.cf); (try replace c3 := b3.cf)) | (go_at_call 29; ((have hc := many_any (hxo.ext E.low) (hyo.ext E.low) hsmx hsmy hzx hzy); (first | with_reducible refine hc.mono ?_ | refine hc.mono ?_); clear hc; unfold BPost; rw [HM.out]); rintro e9 wn ⟨rfl, hx⟩; (try replace E := E.ext hx); (try replace b2 := b2.ext hx); (try replace b3 := b3.ext hx); (try replace hcE := bcell E.low); (try replace c2 := b2.cf); (try replace c3 := b3.cf)))
      go_ret
      exact ⟨rfl, E.low⟩
end Go.Proofs.YtbobbbhgdfapjaaGreat
