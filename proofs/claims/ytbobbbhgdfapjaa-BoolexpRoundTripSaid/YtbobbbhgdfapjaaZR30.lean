/- J7 -/
import Derived.Test.YtbobbbhgdfapjaaZR1
import Derived.Test.YtbobbbhgdfapjaaZR2
import Derived.Test.YtbobbbhgdfapjaaZR3
import Derived.Test.YtbobbbhgdfapjaaZR4
import Derived.Test.YtbobbbhgdfapjaaZR5
import Derived.Test.YtbobbbhgdfapjaaZR6
import Derived.Test.YtbobbbhgdfapjaaZR7
import Derived.Test.YtbobbbhgdfapjaaZR8
import Derived.Test.YtbobbbhgdfapjaaZR9
import Derived.Test.YtbobbbhgdfapjaaZR10
import Derived.Test.YtbobbbhgdfapjaaZR11
import Derived.Test.YtbobbbhgdfapjaaZR12
import Derived.Test.YtbobbbhgdfapjaaZR13
import Derived.Test.YtbobbbhgdfapjaaZR14
import Derived.Test.YtbobbbhgdfapjaaZR15
import Derived.Test.YtbobbbhgdfapjaaZR16
import Derived.Test.YtbobbbhgdfapjaaZR17
import Derived.Test.YtbobbbhgdfapjaaZR18
import Derived.Test.YtbobbbhgdfapjaaZR19
import Derived.Test.YtbobbbhgdfapjaaZR20
import Derived.Test.YtbobbbhgdfapjaaZR21
import Derived.Test.YtbobbbhgdfapjaaZR22
import Derived.Test.YtbobbbhgdfapjaaZR23
import Derived.Test.YtbobbbhgdfapjaaZR24
import Derived.Test.YtbobbbhgdfapjaaZR25
set_option linter.unusedSimpArgs false
set_option linter.unusedVariables false
namespace Go.Proofs.Ytbobbbhgdfapjaa
set_option maxHeartbeats 8000000
set_option maxRecDepth 100000
open Go.RowKit Tk
theorem bsimpler_4 {x y : Ex} {w : World} (hx1 : x.ok w) (hy : y.ok w) (hsx : x.small) (hsy : y.small) (h4x : x.four) (h4y : y.four) (hzx : x.sz ≤ 100000000000) (hzy : y.sz ≤ 100000000000) :
    Calls Try.prog 46 #[.int .i64 4, .agg (exC x).toArray, .agg (exC y).toArray] w (SimP x y (simS 4 x y) w) := by
 have hzx2 : x.sz ≤ 1000000000000 := by omega
 have hzy2 : y.sz ≤ 1000000000000 := by omega
 unfold simS
 obtain ⟨cx, hcx⟩ : ∃ c, constR x = c := ⟨_, rfl⟩
 obtain ⟨cy, hcy⟩ : ∃ c, constR y = c := ⟨_, rfl⟩
 rw [hcx, hcy]
 obtain ⟨a, fixed⟩ := cx
 obtain ⟨b, firm⟩ := cy
 have HCX := Lib.hid hcx
 have HCY := Lib.hid hcy
 clear hcx hcy
 obtain ⟨r, hr⟩ : ∃ r, domS x y fixed firm = r := ⟨_, rfl⟩
 have HD := Lib.hid hr
 cases fixed <;> cases a <;> cases firm <;> cases b
 all_goals
  first | (have hq : Hid (constR x = (false, true)) := HCX; clear hq; show Calls Try.prog 46 _ _ (SimP x y (some y) w); clear hr) | (have hq : Hid (constR y = (false, true)) := HCY; clear hq; show Calls Try.prog 46 _ _ (SimP x y (some x) w); clear hr) | (show Calls Try.prog 46 _ _ (SimP x y (domS x y true true) w); rw [hr]; clear hr; cases r) | (show Calls Try.prog 46 _ _ (SimP x y (domS x y true false) w); rw [hr]; clear hr; cases r) | (show Calls Try.prog 46 _ _ (SimP x y (domS x y false true) w); rw [hr]; clear hr; cases r) | (show Calls Try.prog 46 _ _ (SimP x y (domS x y false false) w); rw [hr]; clear hr; cases r)
 all_goals
  go_enter Try.func46, Try.ntmps46
  have E := Only.refl [] w
  go_upto_region 9999 with (first | ((first | ((with_reducible refine at_dst 15 ?_); go_simp; (have hc := bconstant_any (hx1.ext E.low) hsx hzx2); (first | with_reducible refine hc.mono ?_ | refine hc.mono ?_); clear hc; unfold BBPost; rw [HCX.out]; rintro e wn ⟨rfl, hx⟩) | ((with_reducible refine at_dst 20 ?_); go_simp; (have hc := bconstant_any (hy.ext E.low) hsy hzy2); (first | with_reducible refine hc.mono ?_ | refine hc.mono ?_); clear hc; unfold BBPost; rw [HCY.out]; rintro e wn ⟨rfl, hx⟩) | ((with_reducible refine at_dst 56 ?_); go_simp; (first | (with_reducible refine (bdominated_any (hx1.ext E.low) (hy.ext E.low) hsx hsy hzx hzy _ _).mono ?_) | (refine (bdominated_any (hx1.ext E.low) (hy.ext E.low) hsx hsy hzx hzy _ _).mono ?_)); unfold SimP; rw [HD.out]; (first | (rintro e wn ⟨rfl, hx⟩) | (rintro e wn ⟨u, rfl, hu, hub, hua, hx⟩; have mhu_6 := hua X6 b6.lt (Ex.ok.notin z6 hx1) (Ex.ok.notin z6 hy); replace hua : ∀ X, X < w.heap.size → x.away X → y.away X → u.away X := (fun X hX h1 h2 => hua X (Nat.lt_of_lt_of_le hX E.size) h1 h2)))) | ((with_reducible refine at_store 6 ?_); have bo := b6; refine wp_put bo rfl rfl ?_ ?_ ?_ ?_; (· kernel_rfl); (· first | rfl | kernel_rfl); (· first | decide | exact Nat.le_refl _ | simp [Act.eval, Value.cells] | (simp [Act.eval, Act.put, Value.cells]; done)); intro wn bn hb; dsimp only [Act.put]; simp only [putA, Act.eval, Value.cells, Nat.reduceAdd, putL, exC_size] at bn; have E2 := E.put bo hb; (try replace b4 := b4.but hb (by assumption)); (try replace b5 := b5.but hb (by assumption)); (first | (replace hu := hu.but hb bo.blk (of_decide_eq_true rfl)) | (replace hu := hu.but0 hb (by assumption)) | skip); clear E bo; have E := E2; clear E2; clear b6; have b6 := bn; clear bn hb) | ((first | ((with_reducible refine at_dst 4 ?_); go_simp; (generalize hXn : Array.size (World.heap _) = X4); refine new_block hXn ?_; intro wn bb hx; have b4 := Loc.new bb E hXn) | ((with_reducible refine at_dst 5 ?_); go_simp; (generalize hXn : Array.size (World.heap _) = X5); refine new_block hXn ?_; intro wn bb hx; have b5 := Loc.new bb E hXn) | ((with_reducible refine at_dst 6 ?_); go_simp; (generalize hXn : Array.size (World.heap _) = X6); refine new_block hXn ?_; intro wn bb hx; (try have z6 := Nat.le_trans E.size (Nat.le_of_eq hXn)); have b6 := Loc.new bb E hXn)); (try have ⟨nn, nm⟩ := b5.ne hXn); (try have ⟨nn, nm⟩ := b4.ne hXn); have zz := Nat.le_trans E.size (Nat.le_of_eq hXn); clear bb hXn)); (try replace E := E.ext hx); (try replace b4 := b4.ext hx); (try replace b5 := b5.ext hx); (try replace b6 := b6.ext hx); (try replace hcE := bcell E.low); (try replace c4 := b4.cf); (try replace c5 := b5.cf); (try replace c6 := b6.cf)) | ((with_reducible refine at_dsts [14, 19, 36, 44, 52, 53, 61, 65] ?_ ?_); (· rfl); (refine wp_all (Loc.blk (by assumption)) rfl rfl ?_ ?_ ?_); (· kernel_rfl); (· kernel_rfl)))
  first | (refine bodyPost_ret (v := .tuple #[.agg (exC y).toArray, .bool true]) (by simp [results, Try.f46, go_sem, c6]; try rfl) rfl ⟨y, rfl, hy.ext E.low, rfl, fun _ _ _ h => h, E.low⟩) | (refine bodyPost_ret (v := .tuple #[.agg (exC x).toArray, .bool true]) (by simp [results, Try.f46, go_sem, c6]; try rfl) rfl ⟨x, rfl, hx1.ext E.low, rfl, fun _ _ h _ => h, E.low⟩) | (refine bodyPost_ret (v := .tuple #[.agg (exC u).toArray, .bool true]) (by simp [results, Try.f46, go_sem, c6]; try rfl) rfl ⟨u, rfl, hu, hub, hua, E.low⟩) | (refine bodyPost_ret (v := .tuple #[.agg (exC u).toArray, .bool true]) (by simp [results, Try.f46, go_sem, c6]; try rfl) rfl ⟨u, rfl, hu, hub, fun X hX _ _ => hf.away hX, E.low⟩) | (refine bodyPost_ret (v := .tuple #[.agg exZ, .bool false]) (by simp [results, Try.f46, go_sem, c6]; try rfl) rfl ⟨rfl, E.low⟩)
end Go.Proofs.Ytbobbbhgdfapjaa
