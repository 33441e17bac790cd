/- Kb -/
import Derived.Test.YtbobbbhgdfapjaaGreatZB1
import Derived.Test.YtbobbbhgdfapjaaGreatZB2
import Derived.Test.YtbobbbhgdfapjaaGreatZB3
import Derived.Test.YtbobbbhgdfapjaaGreatZB4
import Derived.Test.YtbobbbhgdfapjaaGreatZBnkt1
import Derived.Test.YtbobbbhgdfapjaaGreatZB5
import Derived.Test.YtbobbbhgdfapjaaGreatZBcsv1
import Derived.Test.YtbobbbhgdfapjaaGreatZB6
import Derived.Test.YtbobbbhgdfapjaaGreatZB7
import Derived.Test.YtbobbbhgdfapjaaGreatZB8
import Derived.Test.YtbobbbhgdfapjaaGreatZB9
import Derived.Test.YtbobbbhgdfapjaaGreatZBis1
import Derived.Test.YtbobbbhgdfapjaaGreatZB10
import Derived.Test.YtbobbbhgdfapjaaGreatZB11
import Derived.Test.YtbobbbhgdfapjaaGreatZB12
import Derived.Test.YtbobbbhgdfapjaaGreatZB13
import Derived.Test.YtbobbbhgdfapjaaGreatZB14
import Derived.Test.YtbobbbhgdfapjaaGreatZB15
import Derived.Test.YtbobbbhgdfapjaaGreatZB16
import Derived.Test.YtbobbbhgdfapjaaGreatZB17
import Derived.Test.YtbobbbhgdfapjaaGreatZB18
import Derived.Test.YtbobbbhgdfapjaaGreatZB19
import Derived.Test.YtbobbbhgdfapjaaGreatZB20
import Derived.Test.YtbobbbhgdfapjaaGreatZBikst1
import Derived.Test.YtbobbbhgdfapjaaGreatZB21
import Derived.Test.YtbobbbhgdfapjaaGreatZBcis1
import Derived.Test.YtbobbbhgdfapjaaGreatZBnk1
import Derived.Test.YtbobbbhgdfapjaaGreatZB22
import Derived.Test.YtbobbbhgdfapjaaGreatZB23
import Derived.Test.YtbobbbhgdfapjaaGreatZBcs1
import Derived.Test.YtbobbbhgdfapjaaGreatZB24
import Derived.Test.YtbobbbhgdfapjaaGreatZB25
import Derived.Test.YtbobbbhgdfapjaaGreatZBncv1
import Derived.Test.YtbobbbhgdfapjaaGreatZBs1
import Derived.Test.YtbobbbhgdfapjaaGreatZBhs1
set_option linter.unusedSimpArgs false
set_option linter.unusedVariables false
namespace Go.Proofs.YtbobbbhgdfapjaaGreat
set_option maxHeartbeats 8000000
set_option maxRecDepth 100000
open Go.RowKit Tk
theorem qsmb_any {N : Nat} (IH : Hid (SmpOk N)) (x a b A B : Ex) {w : World} (hxo : x.ok w) (ho : x.h.op = 4) (hka : x.kids = [a, b]) (hga : a.good) (hgb : b.good) (hla : levE a ≤ 12) (hlb : levE b ≤ 12) (hna : (namesS a).length ≤ 16) (hnb : (namesS b).length ≤ 16) (hnab : (names2 A B).length ≤ 16)
    (HA : Hid (simE a = A)) (HB : Hid (simE b = B)) (hgA : A.good) (hgB : B.good) (hzA : A.sz ≤ 100000000000) (hzB : B.sz ≤ 100000000000) (hz : x.sz < N + 1) (hz0 : x.sz ≤ 100000000000) (hE : equalB A B = eqQ A B) :
    Calls Tryz.prog 66 #[.agg (exC x).toArray] w (UPost x ((simS x.h.op A B).getD (opX x.h.op [A, B])) w) := by
 have hy : yesB x.h.op = false := by unfold yesB; rw [ho]; rfl
 have hd : domB x.h.op = true := by unfold domB; rw [ho]; rfl
 obtain ⟨z, hz, hp⟩ : ∃ z, (simS x.h.op A B).getD (opX x.h.op [A, B]) = z ∧ ((alw A false = true ∧ z = B) ∨ (alw A false = false ∧ alw B false = true ∧ z = A) ∨ (alw A false = false ∧ alw B false = false ∧ alw A true = true ∧ z = A) ∨ (alw A false = false ∧ alw B false = false ∧ alw A true = false ∧ alw B true = true ∧ z = B) ∨ (alw A false = false ∧ alw B false = false ∧ alw A true = false ∧ alw B true = false ∧ eqQ A B = true ∧ z = A) ∨ (alw A false = false ∧ alw B false = false ∧ alw A true = false ∧ alw B true = false ∧ eqQ A B = false ∧ z = (opX x.h.op [A, B]))) := by
  rw [simS_q, hy, hd]
  unfold simQ
  rw [hE]
  cases p1 : alw A false with
  | true =>
    simp only [Bool.not_true, Bool.not_false, p1, if_true, if_false, reduceCtorEq, Bool.false_eq_true, Option.getD_some, Option.getD_none]
    exact ⟨_, rfl, by simp [p1]⟩
  | false =>
    simp only [Bool.not_true, Bool.not_false, p1, if_true, if_false, reduceCtorEq, Bool.false_eq_true, Option.getD_some, Option.getD_none]
    cases p2 : alw B false with
    | true =>
      simp only [Bool.not_true, Bool.not_false, p2, if_true, if_false, reduceCtorEq, Bool.false_eq_true, Option.getD_some, Option.getD_none]
      exact ⟨_, rfl, by simp [p1, p2]⟩
    | false =>
      simp only [Bool.not_true, Bool.not_false, p2, if_true, if_false, reduceCtorEq, Bool.false_eq_true, Option.getD_some, Option.getD_none]
      cases p3 : alw A true with
      | true =>
        simp only [Bool.not_true, Bool.not_false, p3, if_true, if_false, reduceCtorEq, Bool.false_eq_true, Option.getD_some, Option.getD_none]
        exact ⟨_, rfl, by simp [p1, p2, p3]⟩
      | false =>
        simp only [Bool.not_true, Bool.not_false, p3, if_true, if_false, reduceCtorEq, Bool.false_eq_true, Option.getD_some, Option.getD_none]
        cases p4 : alw B true with
        | true =>
          simp only [Bool.not_true, Bool.not_false, p4, if_true, if_false, reduceCtorEq, Bool.false_eq_true, Option.getD_some, Option.getD_none]
          exact ⟨_, rfl, by simp [p1, p2, p3, p4]⟩
        | false =>
          simp only [Bool.not_true, Bool.not_false, p4, if_true, if_false, reduceCtorEq, Bool.false_eq_true, Option.getD_some, Option.getD_none]
          cases p5 : eqQ A B with
          | true =>
            simp only [Bool.not_true, Bool.not_false, p5, if_true, if_false, reduceCtorEq, Bool.false_eq_true, Option.getD_some, Option.getD_none]
            exact ⟨_, rfl, by simp [p1, p2, p3, p4, p5]⟩
          | false =>
            simp only [Bool.not_true, Bool.not_false, p5, if_true, if_false, reduceCtorEq, Bool.false_eq_true, Option.getD_some, Option.getD_none]
            exact ⟨_, rfl, by simp [p1, p2, p3, p4, p5]⟩
 rw [hz]
 clear hz hy hd hE
 rw [Ex.sz_kids, hka, Ex.szs, Ex.szs, Ex.szs] at hz hz0
 have n2 := (RRow.lens hxo.kids).2
 have ham : a ∈ x.kids := by rw [hka]; simp
 have hbm : b ∈ x.kids := by rw [hka]; simp
 have hao := hxo.subs.mem ham
 have hbo := hxo.subs.mem hbm
 have has : a.sz < N := by omega
 have haz : a.sz ≤ 100000000000 := by omega
 have hbs : b.sz < N := by omega
 have hbz : b.sz ≤ 100000000000 := by omega
 have hlt : 0 < x.kids.length := by rw [hka]; exact Nat.zero_lt_succ _
 have hlt1 : 1 < x.kids.length := by rw [hka]; exact Nat.one_lt_succ_succ _
 obtain ⟨g, o, hgo, hgs, -⟩ := RRow.cells hxo.kids hlt
 have hkc : RRow w 10 exC (.slice (some ⟨g, o, none⟩) x.kids.length x.h.hk.c) x.kids := hgo ▸ hxo.kids
 have H0 : Hid (x.kids[0]? = some a) := Lib.hid (by rw [hka]; rfl)
 have H1 : Hid (x.kids[1]? = some b) := Lib.hid (by rw [hka]; rfl)
 have hkm : Hid (a ∈ x.kids ∧ b ∈ x.kids) := Lib.hid ⟨ham, hbm⟩
 have HKA := Lib.hid hka
 have HO := Lib.hid ho
 obtain ⟨s1, s2⟩ := kd_f (show ¬ x.h.op = 1 by omega)
 obtain ⟨s3, s4⟩ := kd_f (show ¬ x.h.op = 2 by omega)
 obtain ⟨t1, t2⟩ := kd_t ho
 obtain ⟨t3, t4⟩ := kd_f (show ¬ x.h.op = 3 by omega)
 obtain ⟨t5, t6⟩ := kd_f (show ¬ x.h.op = 6 by omega)
 clear hka ham hbm ho
 rcases hp with ⟨h1, rfl⟩ | ⟨h1, h2, rfl⟩ | ⟨h1, h2, h3, rfl⟩ | ⟨h1, h2, h3, h4, rfl⟩ | ⟨h1, h2, h3, h4, h5, rfl⟩ | ⟨h1, h2, h3, h4, h5, rfl⟩
 all_goals
  (try have HP1 := Lib.hid h1)
  (try have HP2 := Lib.hid h2)
  (try have HP3 := Lib.hid h3)
  (try have HP4 := Lib.hid h4)
  (try have HP5 := Lib.hid h5)
  (try clear h1)
  (try clear h2)
  (try clear h3)
  (try clear h4)
  (try clear h5)
  go_enter Tryz.func66, Tryz.ntmps66
  have E := Only.refl [] w
  go_upto_region 9999 with (first | ((first | ((with_reducible refine at_dst 14 ?_); go_simp; (have hc := IH.out a (hao.ext E.low) hga hla hna has haz); (first | with_reducible refine hc.mono ?_ | refine hc.mono ?_); clear hc; unfold UPost; rw [HA.out]; rintro e wn ⟨u, rfl, hu, hub, hua, hx⟩; have mhu_2 := hua X2 b2.lt (hao.notin (b2.may.resolve_left List.not_mem_nil)); replace hua := (fun X (hX : X < w.heap.size) ha => hua X (lt_ge hX E.size) ha)) | ((with_reducible refine at_dst 34 ?_); go_simp; (have hc := IH.out b (hbo.ext E.low) hgb hlb hnb hbs hbz); (first | with_reducible refine hc.mono ?_ | refine hc.mono ?_); clear hc; unfold UPost; rw [HB.out]; rintro e wn ⟨v, rfl, hv, hvb, hva, hx⟩; have mhv_2 := hva X2 b2.lt (hbo.notin (b2.may.resolve_left List.not_mem_nil)); have mhv_3 := hva X3 b3.lt (hbo.notin (b3.may.resolve_left List.not_mem_nil)); replace hva := (fun X (hX : X < w.heap.size) ha => hva X (lt_ge hX E.size) ha)) | ((with_reducible refine at_dst 45 ?_); go_simp; (have hc := qalways_of hu hub hgA hzA false); (first | with_reducible refine hc.mono ?_ | refine hc.mono ?_); clear hc; unfold BPost; rw [HP1.out]; rintro e wn ⟨rfl, hx⟩) | ((with_reducible refine at_dst 49 ?_); go_simp; (have hc := qalways_of hv hvb hgB hzB false); (first | with_reducible refine hc.mono ?_ | refine hc.mono ?_); clear hc; unfold BPost; rw [HP2.out]; rintro e wn ⟨rfl, hx⟩) | ((with_reducible refine at_dst 62 ?_); go_simp; (have hc := qalways_of hu hub hgA hzA true); (first | with_reducible refine hc.mono ?_ | refine hc.mono ?_); clear hc; unfold BPost; rw [HP3.out]; rintro e wn ⟨rfl, hx⟩) | ((with_reducible refine at_dst 67 ?_); go_simp; (have hc := qalways_of hv hvb hgB hzB true); (first | with_reducible refine hc.mono ?_ | refine hc.mono ?_); clear hc; unfold BPost; rw [HP4.out]; rintro e wn ⟨rfl, hx⟩) | ((with_reducible refine at_dst 71 ?_); go_simp; (have hc := qequal_of hu hv hub hvb hgA hgB hzA hzB hnab); (first | with_reducible refine hc.mono ?_ | refine hc.mono ?_); clear hc; unfold BPost; rw [HP5.out]; rintro e wn ⟨rfl, hx⟩) | ((with_reducible refine at_dst 89 ?_); (refine wp_rows2 2 ([u, v].flatMap exC).toArray 28 ?_ ?_); (· kernel_rfl); intro X89 wn hX89 bb hx; (try have ⟨n1_89, n89_1⟩ := b1.ne hX89); (try have ⟨n2_89, n89_2⟩ := b2.ne hX89); (try have ⟨n3_89, n89_3⟩ := b3.ne hX89); (try have ⟨n4_89, n89_4⟩ := b4.ne hX89); (try have z89 := Nat.le_trans E.size (Nat.le_of_eq hX89)); (try have mhu_89 := hu.notin (Nat.le_of_eq hX89)); (try have mhv_89 := hv.notin (Nat.le_of_eq hX89)); have b89 := Loc.new bb E hX89; clear bb hX89) | ((first | ((with_reducible refine at_store 2 ?_); have bo := b2; refine wp_put bo rfl rfl ?_ ?_ ?_ ?_) | ((with_reducible refine at_store 3 ?_); have bo := b3; refine wp_put bo rfl rfl ?_ ?_ ?_ ?_) | ((with_reducible refine at_store 4 ?_); have bo := b4; refine wp_put bo rfl rfl ?_ ?_ ?_ ?_)); (· kernel_rfl); (· first | rfl | kernel_rfl); (· first | decide | exact Nat.le_refl _ | simp [Act.eval, Value.cells] | (simp [Act.eval, Act.put, Value.cells]; done)); intro wn bn hb; dsimp only [Act.put]; simp only [putA, Act.eval, Value.cells, Nat.reduceAdd, putL, exC_size] at bn; have E2 := E.put bo hb; (try replace b1 := b1.but hb (by assumption)); (try replace b2 := b2.but hb (by assumption)); (try replace b3 := b3.but hb (by assumption)); (try replace b4 := b4.but hb (by assumption)); (try replace b89 := b89.but hb (by assumption)); (first | (replace hu := hu.but hb bo.blk (of_decide_eq_true rfl)) | (replace hu := hu.but0 hb (by assumption)) | skip); (first | (replace hv := hv.but hb bo.blk (of_decide_eq_true rfl)) | (replace hv := hv.but0 hb (by assumption)) | skip); (first | (replace ht := ht.but hb bo.blk (of_decide_eq_true rfl)) | (replace ht := ht.but0 hb (by assumption)) | skip); clear E bo; have E := E2; clear E2; (try replace b2 := b2.re bn); (try replace b3 := b3.re bn); (try replace b4 := b4.re bn); clear bn hb) | ((first | ((with_reducible refine at_dst 1 ?_); go_simp; (generalize hXn : Array.size (World.heap _) = X1); refine new_block hXn ?_; intro wn bb hx; have b1 := Loc.new bb E hXn) | ((with_reducible refine at_dst 2 ?_); go_simp; (generalize hXn : Array.size (World.heap _) = X2); refine new_block hXn ?_; intro wn bb hx; have b2 := Loc.new bb E hXn) | ((with_reducible refine at_dst 3 ?_); go_simp; (generalize hXn : Array.size (World.heap _) = X3); refine new_block hXn ?_; intro wn bb hx; have b3 := Loc.new bb E hXn) | ((with_reducible refine at_dst 4 ?_); go_simp; (generalize hXn : Array.size (World.heap _) = X4); refine new_block hXn ?_; intro wn bb hx; have b4 := Loc.new bb E hXn)); (try have ⟨nn, nm⟩ := b1.ne hXn); (try have ⟨nn, nm⟩ := b2.ne hXn); (try have ⟨nn, nm⟩ := b3.ne hXn); have zz := Nat.le_trans E.size (Nat.le_of_eq hXn); (try have mm := hu.notin (Nat.le_of_eq hXn)); (try have mm := hv.notin (Nat.le_of_eq hXn)); clear bb hXn)); (try replace E := E.ext hx); (try replace b1 := b1.ext hx); (try replace b2 := b2.ext hx); (try replace b3 := b3.ext hx); (try replace b4 := b4.ext hx); (try replace hu := hu.ext hx); (try replace hv := hv.ext hx); (try replace hcE := bcell E.low); (try replace c1 := b1.cf); (try replace c2 := b2.cf); (try replace c3 := b3.cf); (try replace c4 := b4.cf); (try replace c89 := b89.cf)) | ((with_reducible refine at_dst 13 ?_); (refine wp_rec2 ((RRow.ext hkc E.low)) (H0.out) exC_len rfl rfl ?_ ?_ ?_); (· kernel_rfl); (· kernel_rfl)) | ((with_reducible refine at_dst 33 ?_); (refine wp_rec2 ((RRow.ext hkc E.low)) (H1.out) exC_len rfl rfl ?_ ?_ ?_); (· kernel_rfl); (· kernel_rfl)) | ((with_reducible refine at_dsts [43, 46, 47, 50, 59, 63, 64, 68, 69, 70, 72, 87, 88] ?_ ?_); (· rfl); (refine wp_all (Loc.blk (by assumption)) rfl rfl ?_ ?_ ?_); (· kernel_rfl); (· kernel_rfl)))
  first
   | (refine bodyPost_ret (v := .agg (exC v).toArray) (by simp [results, Tryz.f66, go_sem, c2]; rfl) rfl ⟨v, rfl, hv, hvb, fun X hX h => hva X hX (h.kid hkm.out.2), E.low⟩)
   | (refine bodyPost_ret (v := .agg (exC u).toArray) (by simp [results, Tryz.f66, go_sem, c2]; rfl) rfl ⟨u, rfl, hu, hub, fun X hX h => hua X hX (h.kid hkm.out.1), E.low⟩)
   | (refine bodyPost_ret (v := .agg (exC (nodeX x.h.op (some ⟨X89, 0, none⟩) 2 [u, v])).toArray) (by simp [results, Tryz.f66, go_sem, c2]; rfl) rfl ⟨_, rfl, nodeX_ok (RRow.blk (xs := [u, v]) exC_len b89.blk (by simp) (show 2 ≤ maxLen by decide)) (oks2 hu hv), ?_, fun X hX h => nodeX_away (op := 0) ?_ (aways2 (hua X hX (h.kid hkm.out.1)) (hva X hX (h.kid hkm.out.2))), E.low⟩
      · rw [nodeX_bare, List.map_cons, List.map_cons, List.map_nil, hub, hvb, opX_bare, Ex.bares, Ex.bares, Ex.bares]
      · have := b89.may.resolve_left List.not_mem_nil; omega)
end Go.Proofs.YtbobbbhgdfapjaaGreat
