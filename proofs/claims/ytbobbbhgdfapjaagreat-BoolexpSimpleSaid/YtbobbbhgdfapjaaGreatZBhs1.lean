/- K6 -/
import Derived.Test.YtbobbbhgdfapjaaGreatZB1
import Derived.Test.YtbobbbhgdfapjaaGreatZB2
import Derived.Test.YtbobbbhgdfapjaaGreatZB3
import Derived.Test.YtbobbbhgdfapjaaGreatZB4
import Derived.Test.YtbobbbhgdfapjaaGreatZBnkt1
import Derived.Test.YtbobbbhgdfapjaaGreatZB5
import Derived.Test.YtbobbbhgdfapjaaGreatZB6
import Derived.Test.YtbobbbhgdfapjaaGreatZB7
import Derived.Test.YtbobbbhgdfapjaaGreatZB8
import Derived.Test.YtbobbbhgdfapjaaGreatZB9
import Derived.Test.YtbobbbhgdfapjaaGreatZB10
import Derived.Test.YtbobbbhgdfapjaaGreatZB11
import Derived.Test.YtbobbbhgdfapjaaGreatZB12
import Derived.Test.YtbobbbhgdfapjaaGreatZB13
import Derived.Test.YtbobbbhgdfapjaaGreatZB14
import Derived.Test.YtbobbbhgdfapjaaGreatZB15
import Derived.Test.YtbobbbhgdfapjaaGreatZB16
import Derived.Test.YtbobbbhgdfapjaaGreatZB17
import Derived.Test.YtbobbbhgdfapjaaGreatZB18
import Derived.Test.YtbobbbhgdfapjaaGreatZB19
import Derived.Test.YtbobbbhgdfapjaaGreatZB20
import Derived.Test.YtbobbbhgdfapjaaGreatZB21
import Derived.Test.YtbobbbhgdfapjaaGreatZBnk1
import Derived.Test.YtbobbbhgdfapjaaGreatZB22
import Derived.Test.YtbobbbhgdfapjaaGreatZB23
import Derived.Test.YtbobbbhgdfapjaaGreatZB24
import Derived.Test.YtbobbbhgdfapjaaGreatZB25
import Derived.Test.YtbobbbhgdfapjaaGreatZBncv1
set_option linter.unusedSimpArgs false
set_option linter.unusedVariables false
namespace Go.Proofs.YtbobbbhgdfapjaaGreat
set_option maxHeartbeats 8000000
set_option maxRecDepth 100000
open Go.RowKit Tk
theorem qnegate_any {x : Ex} {w : World} (hok : x.ok w) : Calls Tryz.prog 20 #[.agg (exC x).toArray] w (UPost x (negX x) w) := by
 have n2 := (RRow.lens hok.kids).2
 unfold UPost negX
 by_cases hop : x.h.op = 2
 · obtain ⟨s1, s2⟩ := kd_t hop
   by_cases hk : x.kids.length = 1
   · obtain ⟨a, hka⟩ : ∃ a, x.kids = [a] := by
       match hq : x.kids, hk with
       | [a], _ => exact ⟨a, rfl⟩
     rw [if_pos ⟨hop, hk⟩]
     have hV : x.kids.headD zX = a := by rw [hka]; rfl
     rw [hV]
     have ham : a ∈ x.kids := by rw [hka]; simp
     have hao := hok.subs.mem ham
     have H0 : Hid (x.kids[0]? = some a) := Lib.hid (by rw [hka]; rfl)
     have hlt : 0 < x.kids.length := by omega
     obtain ⟨g, o, hgo, hg, -⟩ := RRow.cells hok.kids hlt
     have hkc : RRow w 10 exC (.slice (some ⟨g, o, none⟩) x.kids.length x.h.hk.c) x.kids := hgo ▸ hok.kids
     have HKA := Lib.hid hka
     have HAM := Lib.hid ham
     have HOP := Lib.hid hop
     have hk' : ((x.kids.length : Int) == 1) = true := by simp [hk]
     have HK := Lib.hid hk
     clear hop hka hV ham hk
     go_enter Tryz.func20, Tryz.ntmps20
     have E := Only.refl [] w
     go_upto_region 9999 with (first | ((first | ((with_reducible refine at_store 2 ?_); have bo := b2; refine wp_put bo rfl rfl ?_ ?_ ?_ ?_; (· kernel_rfl); (· first | rfl | kernel_rfl); (· first | decide | exact Nat.le_refl _ | simp [Act.eval, Value.cells] | (simp [Act.eval, Act.put, Value.cells]; done)); intro wn bn hb; dsimp only [Act.put]; simp only [putA, Act.eval, Value.cells, Nat.reduceAdd, putL, exC_size] at bn; have E2 := E.put bo hb; (try replace b1 := b1.but hb (by assumption)); clear E bo; have E := E2; clear E2; clear b2; have b2 := bn; clear bn hb) | ((first | ((with_reducible refine at_dst 1 ?_); go_simp; (generalize hXn : Array.size (World.heap _) = X1); refine new_block hXn ?_; intro wn bb hx; have b1 := Loc.new bb E hXn) | ((with_reducible refine at_dst 2 ?_); go_simp; (generalize hXn : Array.size (World.heap _) = X2); refine new_block hXn ?_; intro wn bb hx; have b2 := Loc.new bb E hXn)); (try have ⟨nn, nm⟩ := b1.ne hXn); have zz := Nat.le_trans E.size (Nat.le_of_eq hXn); clear bb hXn)); (try replace E := E.ext hx); (try replace b1 := b1.ext hx); (try replace hcE := bcell E.low); (try replace c1 := b1.cf); (try replace c2 := b2.cf)) | ((with_reducible refine at_dst 15 ?_); (refine wp_rec2 ((RRow.ext hkc E.low)) (H0.out) exC_len rfl rfl ?_ ?_ ?_); (· kernel_rfl); (· kernel_rfl)))
     refine bodyPost_ret (v := .agg (exC a).toArray) (by simp [results, Tryz.f20, go_sem, c2]; rfl) rfl ⟨a, rfl, hao.ext E.low, rfl, fun X _ h => h.kid HAM.out, E.low⟩
   · rw [if_neg (fun h => hk h.2)]
     have hk' : ((x.kids.length : Int) == 1) = false := by simp; omega
     have HOP := Lib.hid hop
     have HK := Lib.hid hk
     clear hop hk
     go_enter Tryz.func20, Tryz.ntmps20
     have E := Only.refl [] w
     go_upto_region 9999 with (first | ((first | ((with_reducible refine at_dst 17 ?_); (refine wp_rows2 1 (exC x).toArray 28 ?_ ?_); (· kernel_rfl); intro X17 wn hX17 bb hx; (try have ⟨n1_17, n17_1⟩ := b1.ne hX17); (try have ⟨n2_17, n17_2⟩ := b2.ne hX17); (try have z17 := Nat.le_trans E.size (Nat.le_of_eq hX17)); have b17 := Loc.new bb E hX17; clear bb hX17) | ((with_reducible refine at_store 2 ?_); have bo := b2; refine wp_put bo rfl rfl ?_ ?_ ?_ ?_; (· kernel_rfl); (· first | rfl | kernel_rfl); (· first | decide | exact Nat.le_refl _ | simp [Act.eval, Value.cells] | (simp [Act.eval, Act.put, Value.cells]; done)); intro wn bn hb; dsimp only [Act.put]; simp only [putA, Act.eval, Value.cells, Nat.reduceAdd, putL, exC_size] at bn; have E2 := E.put bo hb; (try replace b1 := b1.but hb (by assumption)); (try replace b17 := b17.but hb (by assumption)); clear E bo; have E := E2; clear E2; clear b2; have b2 := bn; clear bn hb) | ((first | ((with_reducible refine at_dst 1 ?_); go_simp; (generalize hXn : Array.size (World.heap _) = X1); refine new_block hXn ?_; intro wn bb hx; have b1 := Loc.new bb E hXn) | ((with_reducible refine at_dst 2 ?_); go_simp; (generalize hXn : Array.size (World.heap _) = X2); refine new_block hXn ?_; intro wn bb hx; have b2 := Loc.new bb E hXn)); (try have ⟨nn, nm⟩ := b1.ne hXn); have zz := Nat.le_trans E.size (Nat.le_of_eq hXn); clear bb hXn)); (try replace E := E.ext hx); (try replace b1 := b1.ext hx); (try replace b2 := b2.ext hx); (try replace hcE := bcell E.low); (try replace c1 := b1.cf); (try replace c2 := b2.cf); (try replace c17 := b17.cf)) | ((with_reducible refine at_dst 16 ?_); (refine wp_all b1.blk rfl rfl ?_ ?_ ?_); (· kernel_rfl); (· kernel_rfl)))
     refine bodyPost_ret (v := .agg (exC (nodeX 2 (some ⟨X17, 0, none⟩) 1 [x])).toArray) (by simp [results, Tryz.f20, go_sem, c2]; rfl) rfl ⟨_, rfl, nodeX_ok (RRow.blk (xs := [x]) exC_len b17.blk (by simp) (show 1 ≤ maxLen by decide)) (oks1 (hok.ext E.low)), ?_, fun X hX h => nodeX_away (op := 0) ?_ (aways1 h), E.low⟩
     · rw [nodeX_bare, opX_bare, Ex.bares_map]
     · have := b17.may.resolve_left List.not_mem_nil; omega
 · obtain ⟨s1, s2⟩ := kd_f hop
   rw [if_neg (fun h => hop h.1)]
   have HOP := Lib.hid hop
   clear hop
   go_enter Tryz.func20, Tryz.ntmps20
   have E := Only.refl [] w
   go_upto_region 9999 with (first | ((first | ((with_reducible refine at_dst 17 ?_); (refine wp_rows2 1 (exC x).toArray 28 ?_ ?_); (· kernel_rfl); intro X17 wn hX17 bb hx; (try have ⟨n1_17, n17_1⟩ := b1.ne hX17); (try have ⟨n2_17, n17_2⟩ := b2.ne hX17); (try have z17 := Nat.le_trans E.size (Nat.le_of_eq hX17)); have b17 := Loc.new bb E hX17; clear bb hX17) | ((with_reducible refine at_store 2 ?_); have bo := b2; refine wp_put bo rfl rfl ?_ ?_ ?_ ?_; (· kernel_rfl); (· first | rfl | kernel_rfl); (· first | decide | exact Nat.le_refl _ | simp [Act.eval, Value.cells] | (simp [Act.eval, Act.put, Value.cells]; done)); intro wn bn hb; dsimp only [Act.put]; simp only [putA, Act.eval, Value.cells, Nat.reduceAdd, putL, exC_size] at bn; have E2 := E.put bo hb; (try replace b1 := b1.but hb (by assumption)); (try replace b17 := b17.but hb (by assumption)); clear E bo; have E := E2; clear E2; clear b2; have b2 := bn; clear bn hb) | ((first | ((with_reducible refine at_dst 1 ?_); go_simp; (generalize hXn : Array.size (World.heap _) = X1); refine new_block hXn ?_; intro wn bb hx; have b1 := Loc.new bb E hXn) | ((with_reducible refine at_dst 2 ?_); go_simp; (generalize hXn : Array.size (World.heap _) = X2); refine new_block hXn ?_; intro wn bb hx; have b2 := Loc.new bb E hXn)); (try have ⟨nn, nm⟩ := b1.ne hXn); have zz := Nat.le_trans E.size (Nat.le_of_eq hXn); clear bb hXn)); (try replace E := E.ext hx); (try replace b1 := b1.ext hx); (try replace b2 := b2.ext hx); (try replace hcE := bcell E.low); (try replace c1 := b1.cf); (try replace c2 := b2.cf); (try replace c17 := b17.cf)) | ((with_reducible refine at_dst 16 ?_); (refine wp_all b1.blk rfl rfl ?_ ?_ ?_); (· kernel_rfl); (· kernel_rfl)))
   refine bodyPost_ret (v := .agg (exC (nodeX 2 (some ⟨X17, 0, none⟩) 1 [x])).toArray) (by simp [results, Tryz.f20, go_sem, c2]; rfl) rfl ⟨_, rfl, nodeX_ok (RRow.blk (xs := [x]) exC_len b17.blk (by simp) (show 1 ≤ maxLen by decide)) (oks1 (hok.ext E.low)), ?_, fun X hX h => nodeX_away (op := 0) ?_ (aways1 h), E.low⟩
   · rw [nodeX_bare, opX_bare, Ex.bares_map]
   · have := b17.may.resolve_left List.not_mem_nil; omega
end Go.Proofs.YtbobbbhgdfapjaaGreat
