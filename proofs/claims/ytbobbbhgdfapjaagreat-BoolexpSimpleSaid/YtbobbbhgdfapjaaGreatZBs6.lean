/- Ke, M5 -/
import Derived.Test.YtbobbbhgdfapjaaGreatZB1
import Derived.Test.YtbobbbhgdfapjaaGreatZB2
import Derived.Test.YtbobbbhgdfapjaaGreatZB3
import Derived.Test.YtbobbbhgdfapjaaGreatZB4
import Derived.Test.YtbobbbhgdfapjaaGreatZBnkt1
import Derived.Test.YtbobbbhgdfapjaaGreatZB5
import Derived.Test.YtbobbbhgdfapjaaGreatZBcsv1
import Derived.Test.YtbobbbhgdfapjaaGreatZB6
import Derived.Test.YtbobbbhgdfapjaaGreatZB7
import Derived.Test.YtbobbbhgdfapjaaGreatZB8
import Derived.Test.YtbobbbhgdfapjaaGreatZB9
import Derived.Test.YtbobbbhgdfapjaaGreatZBis1
import Derived.Test.YtbobbbhgdfapjaaGreatZB10
import Derived.Test.YtbobbbhgdfapjaaGreatZB11
import Derived.Test.YtbobbbhgdfapjaaGreatZB12
import Derived.Test.YtbobbbhgdfapjaaGreatZB13
import Derived.Test.YtbobbbhgdfapjaaGreatZB14
import Derived.Test.YtbobbbhgdfapjaaGreatZB15
import Derived.Test.YtbobbbhgdfapjaaGreatZB16
import Derived.Test.YtbobbbhgdfapjaaGreatZB17
import Derived.Test.YtbobbbhgdfapjaaGreatZB18
import Derived.Test.YtbobbbhgdfapjaaGreatZB19
import Derived.Test.YtbobbbhgdfapjaaGreatZB20
import Derived.Test.YtbobbbhgdfapjaaGreatZBikst1
import Derived.Test.YtbobbbhgdfapjaaGreatZB21
import Derived.Test.YtbobbbhgdfapjaaGreatZBcis1
import Derived.Test.YtbobbbhgdfapjaaGreatZBnk1
import Derived.Test.YtbobbbhgdfapjaaGreatZB22
import Derived.Test.YtbobbbhgdfapjaaGreatZB23
import Derived.Test.YtbobbbhgdfapjaaGreatZBcs1
import Derived.Test.YtbobbbhgdfapjaaGreatZB24
import Derived.Test.YtbobbbhgdfapjaaGreatZB25
import Derived.Test.YtbobbbhgdfapjaaGreatZBncv1
import Derived.Test.YtbobbbhgdfapjaaGreatZBs1
import Derived.Test.YtbobbbhgdfapjaaGreatZBhs1
import Derived.Test.YtbobbbhgdfapjaaGreatZBs2
import Derived.Test.YtbobbbhgdfapjaaGreatZBs3
import Derived.Test.YtbobbbhgdfapjaaGreatZBs4
import Derived.Test.YtbobbbhgdfapjaaGreatZBs5
import Derived.Test.YtbobbbhgdfapjaaGreatZB26
import Derived.Test.YtbobbbhgdfapjaaGreatZB27
import Derived.Test.YtbobbbhgdfapjaaGreatZB28
import Derived.Test.YtbobbbhgdfapjaaGreatZB29
import Derived.Test.YtbobbbhgdfapjaaGreatZB30
import Derived.Test.YtbobbbhgdfapjaaGreatZB31
import Derived.Test.YtbobbbhgdfapjaaGreatZB32
import Derived.Test.YtbobbbhgdfapjaaGreatZB33
import Derived.Test.YtbobbbhgdfapjaaGreatZB34
import Derived.Test.YtbobbbhgdfapjaaGreatZB35
import Derived.Test.YtbobbbhgdfapjaaGreatZBcis2
set_option linter.unusedSimpArgs false
set_option linter.unusedVariables false
namespace Go.Proofs.YtbobbbhgdfapjaaGreat
set_option maxHeartbeats 8000000
set_option maxRecDepth 100000
open Go.RowKit Tk
theorem names2_few {x a b : Ex} (hk : x.kids = [a, b]) (hga : a.good) (hgb : b.good) (hn : (namesS x).length ≤ 16) : (names2 (simE a) (simE b)).length ≤ 16 := by
 refine Nat.le_trans (sub_len (m := namesS x) (show (names2 (simE a) (simE b)).Nodup from (gath_asc List.Pairwise.nil).nodup) fun n hm => ?_) hn
 unfold names2 at hm
 rw [gath_mem] at hm
 rw [namesS_mem]
 rcases hm with h | h
 · cases h
 · rw [List.mem_append] at h
   rcases h with h | h
   · exact names_mem (by rw [hk]; simp) (simE_names hga h)
   · exact names_mem (by rw [hk]; simp) (simE_names hgb h)
theorem qsmp_any : ∀ N : Nat, SmpOk N
 | 0 => fun _ _ _ _ _ _ hz _ => absurd hz (Nat.not_lt_zero _)
 | N + 1 => fun x w hxo hg hl hn hz hz0 => by
   have IH := Lib.hid (qsmp_any N)
   by_cases h1 : x.h.op = 1
   · exact qsmp_name x hxo hg h1
   by_cases h2 : x.h.op = 2
   · exact qsmp_not IH x hxo hg hl hn hz hz0 h2
   · obtain ⟨ho, a, b, hka, hga, hgb⟩ := kids2 hg h1 h2
     rw [simE_two hka]
     have hab : levE a ≤ 11 ∧ levE b ≤ 11 := by rw [lev_eq, hka, levs, levs, levs] at hl; omega
     have hna : (namesS a).length ≤ 16 := Nat.le_trans (names_fewer fun n hn => names_mem (by rw [hka]; simp) hn) hn
     have hnb : (namesS b).length ≤ 16 := Nat.le_trans (names_fewer fun n hn => names_mem (by rw [hka]; simp) hn) hn
     have hnab := names2_few hka hga hgb hn
     have hgA := good_simE hga
     have hgB := good_simE hgb
     have hlA := simE_lev hga
     have hlB := simE_lev hgb
     have hzz := hz0
     rw [Ex.sz_kids, hka, Ex.szs, Ex.szs, Ex.szs] at hzz
     have hzA : (simE a).sz ≤ 100000000000 := by omega
     have hzB : (simE b).sz ≤ 100000000000 := by omega
     have hE := equalB_few ((chk_iff _).2 ⟨hgA, by omega⟩) ((chk_iff _).2 ⟨hgB, by omega⟩) hnab
     have hla : levE a ≤ 12 := by omega
     have hlb : levE b ≤ 12 := by omega
     by_cases o3 : x.h.op = 3
     · exact qsma_any IH x a b _ _ hxo o3 hka hga hgb hla hlb hna hnb hnab (Lib.hid rfl) (Lib.hid rfl) hgA hgB hzA hzB hz hz0 hE
     by_cases o4 : x.h.op = 4
     · exact qsmb_any IH x a b _ _ hxo o4 hka hga hgb hla hlb hna hnb hnab (Lib.hid rfl) (Lib.hid rfl) hgA hgB hzA hzB hz hz0 hE
     by_cases o6 : x.h.op = 6
     · exact qsmc_any IH x a b _ _ hxo o6 hka hga hgb hla hlb hna hnb hnab (Lib.hid rfl) (Lib.hid rfl) hgA hgB hzA hzB hz hz0 hE
     · exact qsmd_any IH x a b _ _ hxo (by omega) hka hga hgb hla hlb hna hnb hnab (Lib.hid rfl) (Lib.hid rfl) hgA hgB hzA hzB hz hz0 hE
theorem qSimplify_any {x : Ex} {w : World} (hxo : x.ok w) (hs : x.small) (hz0 : x.sz ≤ 100000000000) : Calls Tryz.prog 35 #[.agg (exC x).toArray] w (SRPost (simR x) w) := by
 have hz : x.sz ≤ 1000000000000 := by omega
 unfold simR
 obtain ⟨v, hv⟩ : ∃ v, chk x 1 = v := ⟨_, rfl⟩
 have HC := Lib.hid hv
 rw [hv]
 by_cases h0 : v = 0
 · have hci := (chk_iff x).1 (hv.trans h0)
   have HG : Hid x.good := Lib.hid hci.1
   have HL : Hid (levE x ≤ 12) := Lib.hid hci.2
   have hNR : namesR x = namesS x := by unfold namesR; rw [if_neg (by rw [hv, h0]; decide)]
   subst h0
   clear hv
   rw [if_neg (by decide)]
   obtain ⟨M, hM⟩ : ∃ M, namesR x = M := ⟨_, rfl⟩
   have HM := Lib.hid hM
   rw [hM] at hNR ⊢
   by_cases h16 : 16 < M.length
   · rw [if_pos h16]
     clear hM hNR hci
     go_enter Tryz.func35, Tryz.ntmps35
     have E := Only.refl [] w
     go_upto_region 9999 with (first | ((first | ((with_reducible refine at_dst 6 ?_); go_simp; (have hc := qCheck_any (hxo.ext E.low) hs hz); (first | with_reducible refine hc.mono ?_ | refine hc.mono ?_); clear hc; unfold IPost; rw [HC.out]; rintro e wn ⟨rfl, hx⟩) | ((with_reducible refine at_dst 12 ?_); go_simp; (have hc := qnames_any (hxo.ext E.low) hs hz); (first | with_reducible refine hc.mono ?_ | refine hc.mono ?_); clear hc; unfold RPost; rw [HM.out]; rintro e wn ⟨a9, c9, rfl, r9, hx⟩; have n9 := r9.lens.2) | ((with_reducible refine at_store 2 ?_); have bo := b2; refine wp_put bo rfl rfl ?_ ?_ ?_ ?_; (· kernel_rfl); (· first | rfl | kernel_rfl); (· first | decide | exact Nat.le_refl _ | simp [Act.eval, Value.cells] | (simp [Act.eval, Act.put, Value.cells]; done)); intro wn bn hb; dsimp only [Act.put]; simp only [putA, Act.eval, Value.cells, Nat.reduceAdd, putL, exC_size] at bn; have E2 := E.put bo hb; (try replace b1 := b1.but hb (by assumption)); (first | (replace hu := hu.but hb bo.blk (of_decide_eq_true rfl)) | (replace hu := hu.but0 hb (by assumption)) | skip); clear E bo; have E := E2; clear E2; clear b2; have b2 := bn; clear bn hb) | ((first | ((with_reducible refine at_dst 1 ?_); go_simp; (generalize hXn : Array.size (World.heap _) = X1); refine new_block hXn ?_; intro wn bb hx; have b1 := Loc.new bb E hXn) | ((with_reducible refine at_dst 2 ?_); go_simp; (generalize hXn : Array.size (World.heap _) = X2); refine new_block hXn ?_; intro wn bb hx; have b2 := Loc.new bb E hXn)); (try have ⟨nn, nm⟩ := b1.ne hXn); have zz := Nat.le_trans E.size (Nat.le_of_eq hXn); clear bb hXn)); (try replace E := E.ext hx); (try replace b1 := b1.ext hx); (try replace b2 := b2.ext hx); (try replace hcE := bcell E.low); (try replace c1 := b1.cf); (try replace c2 := b2.cf)) | ((with_reducible refine at_dsts [5, 11] ?_ ?_); (· rfl); (refine wp_all (Loc.blk (by assumption)) rfl rfl ?_ ?_ ?_); (· kernel_rfl); (· kernel_rfl)))
     refine bodyPost_ret (v := .tuple #[.agg exZ, .int .i64 4]) (by simp [results, Tryz.f35, go_sem, c2]; try rfl) rfl ⟨zX, rfl, zX_ok _, rfl, E.low⟩
   · rw [if_neg h16]
     have HNS : Hid ((namesS x).length ≤ 16) := Lib.hid (by rw [← hNR]; omega)
     clear hM hNR hci
     go_enter Tryz.func35, Tryz.ntmps35
     have E := Only.refl [] w
     go_upto_region 9999 with (first | ((first | ((with_reducible refine at_dst 6 ?_); go_simp; (have hc := qCheck_any (hxo.ext E.low) hs hz); (first | with_reducible refine hc.mono ?_ | refine hc.mono ?_); clear hc; unfold IPost; rw [HC.out]; rintro e wn ⟨rfl, hx⟩) | ((with_reducible refine at_dst 12 ?_); go_simp; (have hc := qnames_any (hxo.ext E.low) hs hz); (first | with_reducible refine hc.mono ?_ | refine hc.mono ?_); clear hc; unfold RPost; rw [HM.out]; rintro e wn ⟨a9, c9, rfl, r9, hx⟩; have n9 := r9.lens.2) | ((with_reducible refine at_dst 17 ?_); go_simp; (have hc := qsmp_any (x.sz + 1) x (hxo.ext E.low) HG.out HL.out HNS.out (Nat.lt_succ_self _) hz0); (first | with_reducible refine hc.mono ?_ | refine hc.mono ?_); clear hc; unfold UPost; rintro e wn ⟨u, rfl, hu, hub, hua, hx⟩; have mhu_2 := hua X2 b2.lt (hxo.notin (b2.may.resolve_left List.not_mem_nil))) | ((with_reducible refine at_store 2 ?_); have bo := b2; refine wp_put bo rfl rfl ?_ ?_ ?_ ?_; (· kernel_rfl); (· first | rfl | kernel_rfl); (· first | decide | exact Nat.le_refl _ | simp [Act.eval, Value.cells] | (simp [Act.eval, Act.put, Value.cells]; done)); intro wn bn hb; dsimp only [Act.put]; simp only [putA, Act.eval, Value.cells, Nat.reduceAdd, putL, exC_size] at bn; have E2 := E.put bo hb; (try replace b1 := b1.but hb (by assumption)); (first | (replace hu := hu.but hb bo.blk (of_decide_eq_true rfl)) | (replace hu := hu.but0 hb (by assumption)) | skip); clear E bo; have E := E2; clear E2; clear b2; have b2 := bn; clear bn hb) | ((first | ((with_reducible refine at_dst 1 ?_); go_simp; (generalize hXn : Array.size (World.heap _) = X1); refine new_block hXn ?_; intro wn bb hx; have b1 := Loc.new bb E hXn) | ((with_reducible refine at_dst 2 ?_); go_simp; (generalize hXn : Array.size (World.heap _) = X2); refine new_block hXn ?_; intro wn bb hx; have b2 := Loc.new bb E hXn)); (try have ⟨nn, nm⟩ := b1.ne hXn); have zz := Nat.le_trans E.size (Nat.le_of_eq hXn); clear bb hXn)); (try replace E := E.ext hx); (try replace b1 := b1.ext hx); (try replace b2 := b2.ext hx); (try replace hcE := bcell E.low); (try replace c1 := b1.cf); (try replace c2 := b2.cf)) | ((with_reducible refine at_dsts [5, 11, 16] ?_ ?_); (· rfl); (refine wp_all (Loc.blk (by assumption)) rfl rfl ?_ ?_ ?_); (· kernel_rfl); (· kernel_rfl)))
     refine bodyPost_ret (v := .tuple #[.agg (exC u).toArray, .int .i64 0]) (by simp [results, Tryz.f35, go_sem, c2]; try rfl) rfl ⟨u, rfl, hu, hub, E.low⟩
 · obtain ⟨s1, s2⟩ := kd_f h0
   rw [if_pos h0]
   clear h0 hv
   go_enter Tryz.func35, Tryz.ntmps35
   have E := Only.refl [] w
   go_upto_region 9999 with (first | ((first | ((with_reducible refine at_dst 6 ?_); go_simp; (have hc := qCheck_any (hxo.ext E.low) hs hz); (first | with_reducible refine hc.mono ?_ | refine hc.mono ?_); clear hc; unfold IPost; rw [HC.out]; rintro e wn ⟨rfl, hx⟩) | ((with_reducible refine at_store 2 ?_); have bo := b2; refine wp_put bo rfl rfl ?_ ?_ ?_ ?_; (· kernel_rfl); (· first | rfl | kernel_rfl); (· first | decide | exact Nat.le_refl _ | simp [Act.eval, Value.cells] | (simp [Act.eval, Act.put, Value.cells]; done)); intro wn bn hb; dsimp only [Act.put]; simp only [putA, Act.eval, Value.cells, Nat.reduceAdd, putL, exC_size] at bn; have E2 := E.put bo hb; (try replace b1 := b1.but hb (by assumption)); (first | (replace hu := hu.but hb bo.blk (of_decide_eq_true rfl)) | (replace hu := hu.but0 hb (by assumption)) | skip); clear E bo; have E := E2; clear E2; clear b2; have b2 := bn; clear bn hb) | ((first | ((with_reducible refine at_dst 1 ?_); go_simp; (generalize hXn : Array.size (World.heap _) = X1); refine new_block hXn ?_; intro wn bb hx; have b1 := Loc.new bb E hXn) | ((with_reducible refine at_dst 2 ?_); go_simp; (generalize hXn : Array.size (World.heap _) = X2); refine new_block hXn ?_; intro wn bb hx; have b2 := Loc.new bb E hXn)); (try have ⟨nn, nm⟩ := b1.ne hXn); have zz := Nat.le_trans E.size (Nat.le_of_eq hXn); clear bb hXn)); (try replace E := E.ext hx); (try replace b1 := b1.ext hx); (try replace b2 := b2.ext hx); (try replace hcE := bcell E.low); (try replace c1 := b1.cf); (try replace c2 := b2.cf)) | ((with_reducible refine at_dst 5 ?_); (refine wp_all b1.blk rfl rfl ?_ ?_ ?_); (· kernel_rfl); (· kernel_rfl)))
   refine bodyPost_ret (v := .tuple #[.agg exZ, .int .i64 v]) (by simp [results, Tryz.f35, go_sem, c2]; try rfl) rfl ⟨zX, rfl, zX_ok _, rfl, E.low⟩
open Go.RowKit Tk
theorem lawSimple {x : Ex} {w : World} (hxo : x.ok w) (hsmx : x.small) : Calls Tryz.prog 8 #[.agg (exC x).toArray] w (BPost true w) := by
 have hi : -9000000000000000000 ≤ (60 : Int) ∧ (60 : Int) ≤ 9000000000000000000 := by omega
 obtain ⟨bx, hbx⟩ : ∃ b, decide (0 ≤ cntE x 60) = b := ⟨_, rfl⟩
 have HFX := Lib.hid hbx
 cases bx with
 | false =>
   clear hbx
   go_enter Tryz.func8, Tryz.ntmps8
   have E := Only.refl [] w
   go_upto_region 9999 with (first | ((first | ((with_reducible refine at_dst 8 ?_); go_simp; (have hc := few_any (hxo.ext E.low) 60 hi); (first | with_reducible refine hc.mono ?_ | refine hc.mono ?_); clear hc; unfold BPost; rw [HFX.out]; rintro e wn ⟨rfl, hx⟩) | ((with_reducible refine at_dst 15 ?_); go_simp; ((with_reducible refine (awake_any _).mono ?_)); unfold BPost; rintro e wn ⟨rfl, hx⟩) | ((with_reducible refine at_dst 1 ?_); go_simp; (generalize hXn : Array.size (World.heap _) = X1); refine new_block hXn ?_; intro wn bb hx; have b1 := Loc.new bb E hXn; have zz := Nat.le_trans E.size (Nat.le_of_eq hXn); clear bb hXn)); (try replace E := E.ext hx); (try replace b1 := b1.ext hx); (try replace hcE := bcell E.low); (try replace c1 := b1.cf)) | ((with_reducible refine at_dst 7 ?_); (refine wp_all b1.blk rfl rfl ?_ ?_ ?_); (· kernel_rfl); (· kernel_rfl)))
   go_ret
   exact ⟨rfl, E.low⟩
 | true =>
   have hsx : x.sz ≤ 60 := by have h0 := of_decide_eq_true hbx; have := (cntE_le x 60).2 h0; omega
   have h4x : x.four := cntE_four x 60 (of_decide_eq_true hbx)
   have hzx : x.sz ≤ 1000000000 := by omega
   have hzx2 : x.sz ≤ 100000000000 := by omega
   clear hbx
   obtain ⟨m, hm⟩ : ∃ m, manyB x x = m := ⟨_, rfl⟩
   have HM := Lib.hid hm
   clear hm
   obtain ⟨r, hr⟩ : ∃ r, simR x = r := ⟨_, rfl⟩
   obtain ⟨z, k⟩ := r
   have HS := Lib.hid hr
   clear hr
   cases m
   all_goals
    go_enter Tryz.func8, Tryz.ntmps8
    have E := Only.refl [] w
    go_upto_region 9999 with (first | ((first | ((with_reducible refine at_dst 8 ?_); go_simp; (have hc := few_any (hxo.ext E.low) 60 hi); (first | with_reducible refine hc.mono ?_ | refine hc.mono ?_); clear hc; unfold BPost; rw [HFX.out]; rintro e wn ⟨rfl, hx⟩) | ((with_reducible refine at_dst 15 ?_); go_simp; ((with_reducible refine (awake_any _).mono ?_)); unfold BPost; rintro e wn ⟨rfl, hx⟩) | ((with_reducible refine at_dst 18 ?_); go_simp; (have hc := bSimplify_any (hxo.ext E.low) hsmx h4x hzx2); (first | with_reducible refine hc.mono ?_ | refine hc.mono ?_); clear hc; unfold SRPost; rw [HS.out]; dsimp only; rintro e wn ⟨u, rfl, hu, hub, hx⟩) | ((with_reducible refine at_dst 23 ?_); go_simp; (have hc := qSimplify_any (hxo.ext E.low) hsmx hzx2); (first | with_reducible refine hc.mono ?_ | refine hc.mono ?_); clear hc; unfold SRPost; rw [HS.out]; dsimp only; rintro e wn ⟨v, rfl, hv, hvb, hx⟩) | ((with_reducible refine at_dst 28 ?_); go_simp; (have hc := qsame_true hu hv (hub.trans hvb.symm)); (first | with_reducible refine hc.mono ?_ | refine hc.mono ?_); clear hc; unfold BPost; rintro e wn ⟨rfl, hx⟩) | ((with_reducible refine at_dst 35 ?_); go_simp; ((with_reducible refine (awake_any _).mono ?_)); unfold BPost; rintro e wn ⟨rfl, hx⟩) | ((first | ((with_reducible refine at_store 3 ?_); have bo := b3; refine wp_put bo rfl rfl ?_ ?_ ?_ ?_) | ((with_reducible refine at_store 5 ?_); have bo := b5; refine wp_put bo rfl rfl ?_ ?_ ?_ ?_)); (· kernel_rfl); (· first | rfl | kernel_rfl); (· first | decide | exact Nat.le_refl _ | simp [Act.eval, Value.cells] | (simp [Act.eval, Act.put, Value.cells]; done)); intro wn bn hb; dsimp only [Act.put]; simp only [putA, Act.eval, Value.cells, Nat.reduceAdd, putL, exC_size] at bn; have E2 := E.put bo hb; (try replace b1 := b1.but hb (by assumption)); (try replace b3 := b3.but hb (by assumption)); (first | (replace hu := hu.but hb bo.blk (of_decide_eq_true rfl)) | (replace hu := hu.but0 hb (by assumption)) | skip); (first | (replace hv := hv.but hb bo.blk (of_decide_eq_true rfl)) | (replace hv := hv.but0 hb (by assumption)) | skip); clear E bo; have E := E2; clear E2; (try replace b3 := b3.re bn); (try replace b5 := b5.re bn); clear bn hb) | ((first | ((with_reducible refine at_dst 1 ?_); go_simp; (generalize hXn : Array.size (World.heap _) = X1); refine new_block hXn ?_; intro wn bb hx; have b1 := Loc.new bb E hXn) | ((with_reducible refine at_dst 3 ?_); go_simp; (generalize hXn : Array.size (World.heap _) = X3); refine new_block hXn ?_; intro wn bb hx; have b3 := Loc.new bb E hXn) | ((with_reducible refine at_dst 5 ?_); go_simp; (generalize hXn : Array.size (World.heap _) = X5); refine new_block hXn ?_; intro wn bb hx; have b5 := Loc.new bb E hXn)); (try have ⟨nn, nm⟩ := b1.ne hXn); (try have ⟨nn, nm⟩ := b3.ne hXn); have zz := Nat.le_trans E.size (Nat.le_of_eq hXn); (try have mm := hu.notin (Nat.le_of_eq hXn)); (try have mm := hv.notin (Nat.le_of_eq hXn)); clear bb hXn)); (try replace E := E.ext hx); (try replace b1 := b1.ext hx); (try replace b3 := b3.ext hx); (try replace b5 := b5.ext hx); (try replace hu := hu.ext hx); (try replace hv := hv.ext hx); (try replace hcE := bcell E.low); (try replace c1 := b1.cf); (try replace c3 := b3.cf); (try replace c5 := b5.cf)) | ((with_reducible refine at_dsts [7, 11, 17, 22, 26, 27] ?_ ?_); (· rfl); (refine wp_all (Loc.blk (by assumption)) rfl rfl ?_ ?_ ?_); (· kernel_rfl); (· kernel_rfl)) | (go_at_call 29; ((have hc := many_any (hxo.ext E.low) (hxo.ext E.low) hsmx hsmx hzx hzx); (first | with_reducible refine hc.mono ?_ | refine hc.mono ?_); clear hc; unfold BPost; rw [HM.out]); rintro e9 wn ⟨rfl, hx⟩; (try replace E := E.ext hx); (try replace b1 := b1.ext hx); (try replace hcE := bcell E.low); (try replace c1 := b1.cf)))
    go_ret
    exact ⟨rfl, E.low⟩
end Go.Proofs.YtbobbbhgdfapjaaGreat
