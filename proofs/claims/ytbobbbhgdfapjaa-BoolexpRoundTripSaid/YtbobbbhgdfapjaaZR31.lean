/- K1, K2, Hd, He -/
import Derived.Test.YtbobbbhgdfapjaaZR1
import Derived.Test.YtbobbbhgdfapjaaZR2
import Derived.Test.YtbobbbhgdfapjaaZR3
import Derived.Test.YtbobbbhgdfapjaaZR4
import Derived.Test.YtbobbbhgdfapjaaZR5
import Derived.Test.YtbobbbhgdfapjaaZR6
import Derived.Test.YtbobbbhgdfapjaaZR7
import Derived.Test.YtbobbbhgdfapjaaZR8
import Derived.Test.YtbobbbhgdfapjaaZR9
import Derived.Test.YtbobbbhgdfapjaaZR10
import Derived.Test.YtbobbbhgdfapjaaZR11
import Derived.Test.YtbobbbhgdfapjaaZR12
import Derived.Test.YtbobbbhgdfapjaaZR13
import Derived.Test.YtbobbbhgdfapjaaZR14
import Derived.Test.YtbobbbhgdfapjaaZR15
import Derived.Test.YtbobbbhgdfapjaaZR16
import Derived.Test.YtbobbbhgdfapjaaZR17
import Derived.Test.YtbobbbhgdfapjaaZR18
import Derived.Test.YtbobbbhgdfapjaaZR19
import Derived.Test.YtbobbbhgdfapjaaZR20
import Derived.Test.YtbobbbhgdfapjaaZR21
import Derived.Test.YtbobbbhgdfapjaaZR22
import Derived.Test.YtbobbbhgdfapjaaZR23
import Derived.Test.YtbobbbhgdfapjaaZR24
import Derived.Test.YtbobbbhgdfapjaaZR25
import Derived.Test.YtbobbbhgdfapjaaZR26
import Derived.Test.YtbobbbhgdfapjaaZR27
import Derived.Test.YtbobbbhgdfapjaaZR28
import Derived.Test.YtbobbbhgdfapjaaZR29
import Derived.Test.YtbobbbhgdfapjaaZR30
set_option linter.unusedSimpArgs false
set_option linter.unusedVariables false
namespace Go.Proofs.Ytbobbbhgdfapjaa
set_option maxHeartbeats 8000000
set_option maxRecDepth 100000
open Go.RowKit Tk
theorem bsimpler_any {op : Int} (ho : op = 3 ∨ op = 4 ∨ op = 5 ∨ op = 6 ∨ op = 7) {x y : Ex} {w : World} (hx1 : x.ok w) (hy : y.ok w) (hsx : x.small) (hsy : y.small) (h4x : x.four) (h4y : y.four) (hzx : x.sz ≤ 100000000000) (hzy : y.sz ≤ 100000000000) :
    Calls Try.prog 46 #[.int .i64 op, .agg (exC x).toArray, .agg (exC y).toArray] w (SimP x y (simS op x y) w) := by
 rcases ho with rfl | rfl | rfl | rfl | rfl
 · exact bsimpler_3 hx1 hy hsx hsy h4x h4y hzx hzy
 · exact bsimpler_4 hx1 hy hsx hsy h4x h4y hzx hzy
 · exact bsimpler_5 hx1 hy hsx hsy h4x h4y hzx hzy
 · exact bsimpler_6 hx1 hy hsx hsy h4x h4y hzx hzy
 · exact bsimpler_7 hx1 hy hsx hsy h4x h4y hzx hzy
/-- at what became of conditions -/
theorem bsimpler_none {op : Int} (ho : op = 3 ∨ op = 4 ∨ op = 5 ∨ op = 6 ∨ op = 7) {u v x y : Ex} {w : World} (hu : u.ok w) (hv : v.ok w) (hub : u.bare = x.bare) (hvb : v.bare = y.bare) (hgx : x.good) (hgy : y.good) (hzx : x.sz ≤ 100000000000) (hzy : y.sz ≤ 100000000000)
    (HS : Hid (simS op x y = none)) :
    Calls Try.prog 46 #[.int .i64 op, .agg (exC u).toArray, .agg (exC v).toArray] w (fun e w' => e = .returned (.tuple #[.agg exZ, .bool false]) ∧ Ext w w') := by
 have hgu := good_of_bare hub hgx
 have hgv := good_of_bare hvb hgy
 have hc := bsimpler_any ho hu hv (small_good u hgu) (small_good v hgv) (good_four hgu) (good_four hgv) (by rw [sz_of_bare hub]; exact hzx) (by rw [sz_of_bare hvb]; exact hzy)
 have hs := simS_of_bare (o := op) hub hvb
 rw [HS.out] at hs
 have hn : simS op u v = none := by
  cases hq : simS op u v with
  | none => rfl
  | some z => rw [hq] at hs; cases hs
 rw [hn] at hc
 exact hc
theorem bsimpler_some {op : Int} (ho : op = 3 ∨ op = 4 ∨ op = 5 ∨ op = 6 ∨ op = 7) {u v x y z : Ex} {w : World} (hu : u.ok w) (hv : v.ok w) (hub : u.bare = x.bare) (hvb : v.bare = y.bare) (hgx : x.good) (hgy : y.good) (hzx : x.sz ≤ 100000000000) (hzy : y.sz ≤ 100000000000)
    (HS : Hid (simS op x y = some z)) :
    Calls Try.prog 46 #[.int .i64 op, .agg (exC u).toArray, .agg (exC v).toArray] w (fun e w' => ∃ t, e = .returned (.tuple #[.agg (exC t).toArray, .bool true]) ∧ t.ok w' ∧ t.bare = z.bare ∧ (∀ X, X < w.heap.size → u.away X → v.away X → t.away X) ∧ Ext w w') := by
 have hgu := good_of_bare hub hgx
 have hgv := good_of_bare hvb hgy
 have hc := bsimpler_any ho hu hv (small_good u hgu) (small_good v hgv) (good_four hgu) (good_four hgv) (by rw [sz_of_bare hub]; exact hzx) (by rw [sz_of_bare hvb]; exact hzy)
 have hs := simS_of_bare (o := op) hub hvb
 rw [HS.out] at hs
 obtain ⟨z', hz', hzb⟩ : ∃ z', simS op u v = some z' ∧ z'.bare = z.bare := by
  cases hq : simS op u v with
  | none => rw [hq] at hs; cases hs
  | some z' =>
    rw [hq] at hs
    injection hs with hs
    exact ⟨z', rfl, hs⟩
 rw [hz'] at hc
 refine hc.mono fun e w' he => ?_
 obtain ⟨t, h1, h2, h3, h4, h5⟩ := he
 exact ⟨t, h1, h2, h3.trans hzb, h4, h5⟩
@[reducible] def SfyOk (N : Nat) : Prop := ∀ (x : Ex) {w : World}, x.ok w → x.good → x.sz < N → x.sz ≤ 100000000000 → Calls Try.prog 27 #[.agg (exC x).toArray] w (UPost x (simE x) w)
theorem bsfy_name (x : Ex) {w : World} (hxo : x.ok w) (hg : x.good) (h1 : x.h.op = 1) : Calls Try.prog 27 #[.agg (exC x).toArray] w (UPost x (simE x) w) := by
 rw [simE_name hg h1]
 obtain ⟨s1, s2⟩ := kd_t h1
 have HOP := Lib.hid h1
 clear h1
 go_enter Try.func27, Try.ntmps27
 have E := Only.refl [] w
 go_upto_region 9999 with (first | ((first | ((with_reducible refine at_store 2 ?_); have bo := b2; refine wp_put bo rfl rfl ?_ ?_ ?_ ?_; (· kernel_rfl); (· first | rfl | kernel_rfl); (· first | decide | exact Nat.le_refl _ | simp [Act.eval, Value.cells] | (simp [Act.eval, Act.put, Value.cells]; done)); intro wn bn hb; dsimp only [Act.put]; simp only [putA, Act.eval, Value.cells, Nat.reduceAdd, putL, exC_size] at bn; have E2 := E.put bo hb; (try replace b1 := b1.but hb (by assumption)); (first | (replace hu := hu.but hb bo.blk (of_decide_eq_true rfl)) | (replace hu := hu.but0 hb (by assumption)) | skip); (first | (replace hv := hv.but hb bo.blk (of_decide_eq_true rfl)) | (replace hv := hv.but0 hb (by assumption)) | skip); (first | (replace ht := ht.but hb bo.blk (of_decide_eq_true rfl)) | (replace ht := ht.but0 hb (by assumption)) | skip); clear E bo; have E := E2; clear E2; clear b2; have b2 := bn; clear bn hb) | ((first | ((with_reducible refine at_dst 1 ?_); go_simp; (generalize hXn : Array.size (World.heap _) = X1); refine new_block hXn ?_; intro wn bb hx; have b1 := Loc.new bb E hXn) | ((with_reducible refine at_dst 2 ?_); go_simp; (generalize hXn : Array.size (World.heap _) = X2); refine new_block hXn ?_; intro wn bb hx; have b2 := Loc.new bb E hXn)); (try have ⟨nn, nm⟩ := b1.ne hXn); have zz := Nat.le_trans E.size (Nat.le_of_eq hXn); clear bb hXn)); (try replace E := E.ext hx); (try replace b1 := b1.ext hx); (try replace hcE := bcell E.low); (try replace c1 := b1.cf); (try replace c2 := b2.cf)) | ((with_reducible refine at_dst 10 ?_); (refine wp_all b1.blk rfl rfl ?_ ?_ ?_); (· kernel_rfl); (· kernel_rfl)))
 refine bodyPost_ret (v := .agg (exC x).toArray) (by simp [results, Try.f27, go_sem, c2]; rfl) rfl ⟨x, rfl, hxo.ext E.low, rfl, fun _ _ h => h, E.low⟩
theorem bsfy_not {N : Nat} (IH : Hid (SfyOk N)) (x : Ex) {w : World} (hxo : x.ok w) (hg : x.good) (hz : x.sz < N + 1) (hz0 : x.sz ≤ 100000000000) (h2 : x.h.op = 2) : Calls Try.prog 27 #[.agg (exC x).toArray] w (UPost x (simE x) w) := by
 obtain ⟨a, hka, hga⟩ := kids1 hg h2
 rw [simE_not hka]
 rw [Ex.sz_kids, hka, Ex.szs, Ex.szs] at hz hz0
 have n2 := (RRow.lens hxo.kids).2
 have ham : a ∈ x.kids := by rw [hka]; simp
 have hao := hxo.subs.mem ham
 have has : a.sz < N := by omega
 have haz : a.sz ≤ 100000000000 := by omega
 have hsg := good_simE hga
 have hsz2 : (simE a).sz ≤ 1000000000000 := by have := (simE_lev hga).2; omega
 have hlt : 0 < x.kids.length := by rw [hka]; exact Nat.one_pos
 obtain ⟨g, o, hgo, hgs, -⟩ := RRow.cells hxo.kids hlt
 have hkc : RRow w 10 exC (.slice (some ⟨g, o, none⟩) x.kids.length x.h.hk.c) x.kids := hgo ▸ hxo.kids
 have H0 : Hid (x.kids[0]? = some a) := Lib.hid (by rw [hka]; rfl)
 have HKA := Lib.hid hka
 have HOP := Lib.hid h2
 obtain ⟨s1, s2⟩ := kd_f (show ¬ x.h.op = 1 by omega)
 obtain ⟨s3, s4⟩ := kd_t h2
 clear hka ham hg h2
 go_enter Try.func27, Try.ntmps27
 have E := Only.refl [] w
 go_upto_region 9999 with (first | ((first | ((with_reducible refine at_dst 15 ?_); go_simp; (have hc := IH.out a (hao.ext E.low) hga has haz); (first | with_reducible refine hc.mono ?_ | refine hc.mono ?_); clear hc; unfold UPost; rintro e wn ⟨u, rfl, hu, hub, hua, hx⟩; have mhu_2 := hua X2 b2.lt (hao.notin (b2.may.resolve_left List.not_mem_nil)); replace hua := (fun X (hX : X < w.heap.size) ha => hua X (lt_ge hX E.size) ha)) | ((with_reducible refine at_dst 20 ?_); go_simp; (have hc := bnegate_any hu (good_four (good_of_bare hub hsg)) (by rw [sz_of_bare hub]; exact hsz2)); (first | with_reducible refine hc.mono ?_ | refine hc.mono ?_); clear hc; unfold NegPost; rw [negX_of_bare hub]; rintro e wn ⟨t, rfl, ht, hf, htb, hx⟩; (try have mht_1 := hf.away b1.lt); (try have mht_2 := hf.away b2.lt); (try have mht_3 := hf.away b3.lt); (try replace hf := hf.mono E.size)) | ((first | ((with_reducible refine at_store 2 ?_); have bo := b2; refine wp_put bo rfl rfl ?_ ?_ ?_ ?_) | ((with_reducible refine at_store 3 ?_); have bo := b3; refine wp_put bo rfl rfl ?_ ?_ ?_ ?_)); (· kernel_rfl); (· first | rfl | kernel_rfl); (· first | decide | exact Nat.le_refl _ | simp [Act.eval, Value.cells] | (simp [Act.eval, Act.put, Value.cells]; done)); intro wn bn hb; dsimp only [Act.put]; simp only [putA, Act.eval, Value.cells, Nat.reduceAdd, putL, exC_size] at bn; have E2 := E.put bo hb; (try replace b1 := b1.but hb (by assumption)); (try replace b3 := b3.but hb (by assumption)); (try replace b2 := b2.but hb (by assumption)); (first | (replace hu := hu.but hb bo.blk (of_decide_eq_true rfl)) | (replace hu := hu.but0 hb (by assumption)) | skip); (first | (replace hv := hv.but hb bo.blk (of_decide_eq_true rfl)) | (replace hv := hv.but0 hb (by assumption)) | skip); (first | (replace ht := ht.but hb bo.blk (of_decide_eq_true rfl)) | (replace ht := ht.but0 hb (by assumption)) | skip); clear E bo; have E := E2; clear E2; (try replace b2 := b2.re bn); (try replace b3 := b3.re bn); clear bn hb) | ((first | ((with_reducible refine at_dst 1 ?_); go_simp; (generalize hXn : Array.size (World.heap _) = X1); refine new_block hXn ?_; intro wn bb hx; have b1 := Loc.new bb E hXn) | ((with_reducible refine at_dst 2 ?_); go_simp; (generalize hXn : Array.size (World.heap _) = X2); refine new_block hXn ?_; intro wn bb hx; have b2 := Loc.new bb E hXn) | ((with_reducible refine at_dst 3 ?_); go_simp; (generalize hXn : Array.size (World.heap _) = X3); refine new_block hXn ?_; intro wn bb hx; have b3 := Loc.new bb E hXn)); (try have ⟨nn, nm⟩ := b1.ne hXn); (try have ⟨nn, nm⟩ := b2.ne hXn); have zz := Nat.le_trans E.size (Nat.le_of_eq hXn); (try have mm := hu.notin (Nat.le_of_eq hXn)); clear bb hXn)); (try replace E := E.ext hx); (try replace b1 := b1.ext hx); (try replace b2 := b2.ext hx); (try replace b3 := b3.ext hx); (try replace hu := hu.ext hx); (try replace hcE := bcell E.low); (try replace c1 := b1.cf); (try replace c2 := b2.cf); (try replace c3 := b3.cf)) | ((with_reducible refine at_dst 14 ?_); (refine wp_rec2 ((RRow.ext hkc E.low)) (H0.out) exC_len rfl rfl ?_ ?_ ?_); (· kernel_rfl); (· kernel_rfl)) | ((with_reducible refine at_dst 19 ?_); (refine wp_all b3.blk rfl rfl ?_ ?_ ?_); (· kernel_rfl); (· kernel_rfl)))
 refine bodyPost_ret (v := .agg (exC t).toArray) (by simp [results, Try.f27, go_sem, c2]; rfl) rfl ⟨t, rfl, ht, htb, fun X hX _ => hf.away hX, E.low⟩
theorem bsfy_some {N : Nat} (IH : Hid (SfyOk N)) (x a b z : Ex) {w : World} (hxo : x.ok w) (ho : x.h.op = 3 ∨ x.h.op = 4 ∨ x.h.op = 5 ∨ x.h.op = 6 ∨ x.h.op = 7) (hka : x.kids = [a, b]) (hga : a.good) (hgb : b.good) (hz : x.sz < N + 1) (hz0 : x.sz ≤ 100000000000) (hs : simS x.h.op (simE a) (simE b) = some z) :
    Calls Try.prog 27 #[.agg (exC x).toArray] w (UPost x z w) := by
 rw [Ex.sz_kids, hka, Ex.szs, Ex.szs, Ex.szs] at hz hz0
 have n2 := (RRow.lens hxo.kids).2
 have ham : a ∈ x.kids := by rw [hka]; simp
 have hbm : b ∈ x.kids := by rw [hka]; simp
 have hao := hxo.subs.mem ham
 have hbo := hxo.subs.mem hbm
 have has : a.sz < N := by omega
 have haz : a.sz ≤ 100000000000 := by omega
 have hbs : b.sz < N := by omega
 have hbz : b.sz ≤ 100000000000 := by omega
 have hsg := good_simE hga
 have hsgb := good_simE hgb
 have hsz : (simE a).sz ≤ 100000000000 := by have := (simE_lev hga).2; omega
 have hszb : (simE b).sz ≤ 100000000000 := by have := (simE_lev hgb).2; omega
 have hlt : 0 < x.kids.length := by rw [hka]; exact Nat.zero_lt_succ _
 have hlt1 : 1 < x.kids.length := by rw [hka]; exact Nat.one_lt_succ_succ _
 obtain ⟨g, o, hgo, hgs, -⟩ := RRow.cells hxo.kids hlt
 have hkc : RRow w 10 exC (.slice (some ⟨g, o, none⟩) x.kids.length x.h.hk.c) x.kids := hgo ▸ hxo.kids
 have H0 : Hid (x.kids[0]? = some a) := Lib.hid (by rw [hka]; rfl)
 have H1 : Hid (x.kids[1]? = some b) := Lib.hid (by rw [hka]; rfl)
 have hkm : Hid (a ∈ x.kids ∧ b ∈ x.kids) := Lib.hid ⟨ham, hbm⟩
 have HKA := Lib.hid hka
 have HO := Lib.hid ho
 have HS := Lib.hid hs
 obtain ⟨s1, s2⟩ := kd_f (show ¬ x.h.op = 1 by omega)
 obtain ⟨s3, s4⟩ := kd_f (show ¬ x.h.op = 2 by omega)
 clear hka ham hbm ho hs
 go_enter Try.func27, Try.ntmps27
 have E := Only.refl [] w
 go_upto_region 9999 with (first | ((first | ((with_reducible refine at_dst 15 ?_); go_simp; (have hc := IH.out a (hao.ext E.low) hga has haz); (first | with_reducible refine hc.mono ?_ | refine hc.mono ?_); clear hc; unfold UPost; rintro e wn ⟨u, rfl, hu, hub, hua, hx⟩; have mhu_2 := hua X2 b2.lt (hao.notin (b2.may.resolve_left List.not_mem_nil)); replace hua := (fun X (hX : X < w.heap.size) ha => hua X (lt_ge hX E.size) ha)) | ((with_reducible refine at_dst 25 ?_); go_simp; (have hc := IH.out b (hbo.ext E.low) hgb hbs hbz); (first | with_reducible refine hc.mono ?_ | refine hc.mono ?_); clear hc; unfold UPost; rintro e wn ⟨v, rfl, hv, hvb, hva, hx⟩; have mhv_2 := hva X2 b2.lt (hbo.notin (b2.may.resolve_left List.not_mem_nil)); have mhv_3 := hva X3 b3.lt (hbo.notin (b3.may.resolve_left List.not_mem_nil)); replace hva := (fun X (hX : X < w.heap.size) ha => hva X (lt_ge hX E.size) ha)) | ((with_reducible refine at_dst 31 ?_); go_simp; (have hc := bsimpler_some HO.out hu hv hub hvb hsg hsgb hsz hszb HS); (first | with_reducible refine hc.mono ?_ | refine hc.mono ?_); clear hc; rintro e wn ⟨t, rfl, ht, htb, hta, hx⟩; have mht_2 := hta X2 b2.lt mhu_2 mhv_2; replace hta := (fun X (hX : X < w.heap.size) h1 h2 => hta X (lt_ge hX E.size) h1 h2)) | ((first | ((with_reducible refine at_store 2 ?_); have bo := b2; refine wp_put bo rfl rfl ?_ ?_ ?_ ?_) | ((with_reducible refine at_store 3 ?_); have bo := b3; refine wp_put bo rfl rfl ?_ ?_ ?_ ?_) | ((with_reducible refine at_store 4 ?_); have bo := b4; refine wp_put bo rfl rfl ?_ ?_ ?_ ?_) | ((with_reducible refine at_store 5 ?_); have bo := b5; refine wp_put bo rfl rfl ?_ ?_ ?_ ?_)); (· kernel_rfl); (· first | rfl | kernel_rfl); (· first | decide | exact Nat.le_refl _ | simp [Act.eval, Value.cells] | (simp [Act.eval, Act.put, Value.cells]; done)); intro wn bn hb; dsimp only [Act.put]; simp only [putA, Act.eval, Value.cells, Nat.reduceAdd, putL, exC_size] at bn; have E2 := E.put bo hb; (try replace b1 := b1.but hb (by assumption)); (try replace b2 := b2.but hb (by assumption)); (try replace b3 := b3.but hb (by assumption)); (try replace b4 := b4.but hb (by assumption)); (try replace b5 := b5.but hb (by assumption)); (first | (replace hu := hu.but hb bo.blk (of_decide_eq_true rfl)) | (replace hu := hu.but0 hb (by assumption)) | skip); (first | (replace hv := hv.but hb bo.blk (of_decide_eq_true rfl)) | (replace hv := hv.but0 hb (by assumption)) | skip); (first | (replace ht := ht.but hb bo.blk (of_decide_eq_true rfl)) | (replace ht := ht.but0 hb (by assumption)) | skip); clear E bo; have E := E2; clear E2; (try replace b2 := b2.re bn); (try replace b3 := b3.re bn); (try replace b4 := b4.re bn); (try replace b5 := b5.re bn); clear bn hb) | ((first | ((with_reducible refine at_dst 1 ?_); go_simp; (generalize hXn : Array.size (World.heap _) = X1); refine new_block hXn ?_; intro wn bb hx; have b1 := Loc.new bb E hXn) | ((with_reducible refine at_dst 2 ?_); go_simp; (generalize hXn : Array.size (World.heap _) = X2); refine new_block hXn ?_; intro wn bb hx; have b2 := Loc.new bb E hXn) | ((with_reducible refine at_dst 3 ?_); go_simp; (generalize hXn : Array.size (World.heap _) = X3); refine new_block hXn ?_; intro wn bb hx; have b3 := Loc.new bb E hXn) | ((with_reducible refine at_dst 4 ?_); go_simp; (generalize hXn : Array.size (World.heap _) = X4); refine new_block hXn ?_; intro wn bb hx; have b4 := Loc.new bb E hXn) | ((with_reducible refine at_dst 5 ?_); go_simp; (generalize hXn : Array.size (World.heap _) = X5); refine new_block hXn ?_; intro wn bb hx; have b5 := Loc.new bb E hXn)); (try have ⟨nn, nm⟩ := b1.ne hXn); (try have ⟨nn, nm⟩ := b2.ne hXn); (try have ⟨nn, nm⟩ := b3.ne hXn); (try have ⟨nn, nm⟩ := b4.ne hXn); have zz := Nat.le_trans E.size (Nat.le_of_eq hXn); (try have mm := hu.notin (Nat.le_of_eq hXn)); (try have mm := hv.notin (Nat.le_of_eq hXn)); (try have mm := ht.notin (Nat.le_of_eq hXn)); clear bb hXn)); (try replace E := E.ext hx); (try replace b1 := b1.ext hx); (try replace b2 := b2.ext hx); (try replace b3 := b3.ext hx); (try replace b4 := b4.ext hx); (try replace hu := hu.ext hx); (try replace hv := hv.ext hx); (try replace ht := ht.ext hx); (try replace hcE := bcell E.low); (try replace c1 := b1.cf); (try replace c2 := b2.cf); (try replace c3 := b3.cf); (try replace c4 := b4.cf); (try replace c5 := b5.cf)) | ((with_reducible refine at_dst 14 ?_); (refine wp_rec2 ((RRow.ext hkc E.low)) (H0.out) exC_len rfl rfl ?_ ?_ ?_); (· kernel_rfl); (· kernel_rfl)) | ((with_reducible refine at_dst 24 ?_); (refine wp_rec2 ((RRow.ext hkc E.low)) (H1.out) exC_len rfl rfl ?_ ?_ ?_); (· kernel_rfl); (· kernel_rfl)) | ((with_reducible refine at_dsts [29, 30, 35] ?_ ?_); (· rfl); (refine wp_all (Loc.blk (by assumption)) rfl rfl ?_ ?_ ?_); (· kernel_rfl); (· kernel_rfl)))
 refine bodyPost_ret (v := .agg (exC t).toArray) (by simp [results, Try.f27, go_sem, c2]; rfl) rfl ⟨t, rfl, ht, htb, fun X hX h => hta X hX (hua X hX (h.kid hkm.out.1)) (hva X hX (h.kid hkm.out.2)), E.low⟩
theorem bsfy_none {N : Nat} (IH : Hid (SfyOk N)) (x a b : Ex) {w : World} (hxo : x.ok w) (ho : x.h.op = 3 ∨ x.h.op = 4 ∨ x.h.op = 5 ∨ x.h.op = 6 ∨ x.h.op = 7) (hka : x.kids = [a, b]) (hga : a.good) (hgb : b.good) (hz : x.sz < N + 1) (hz0 : x.sz ≤ 100000000000) (hs : simS x.h.op (simE a) (simE b) = none) :
    Calls Try.prog 27 #[.agg (exC x).toArray] w (UPost x (opX x.h.op [simE a, simE b]) w) := by
 rw [Ex.sz_kids, hka, Ex.szs, Ex.szs, Ex.szs] at hz hz0
 have n2 := (RRow.lens hxo.kids).2
 have ham : a ∈ x.kids := by rw [hka]; simp
 have hbm : b ∈ x.kids := by rw [hka]; simp
 have hao := hxo.subs.mem ham
 have hbo := hxo.subs.mem hbm
 have has : a.sz < N := by omega
 have haz : a.sz ≤ 100000000000 := by omega
 have hbs : b.sz < N := by omega
 have hbz : b.sz ≤ 100000000000 := by omega
 have hsg := good_simE hga
 have hsgb := good_simE hgb
 have hsz : (simE a).sz ≤ 100000000000 := by have := (simE_lev hga).2; omega
 have hszb : (simE b).sz ≤ 100000000000 := by have := (simE_lev hgb).2; omega
 have hlt : 0 < x.kids.length := by rw [hka]; exact Nat.zero_lt_succ _
 have hlt1 : 1 < x.kids.length := by rw [hka]; exact Nat.one_lt_succ_succ _
 obtain ⟨g, o, hgo, hgs, -⟩ := RRow.cells hxo.kids hlt
 have hkc : RRow w 10 exC (.slice (some ⟨g, o, none⟩) x.kids.length x.h.hk.c) x.kids := hgo ▸ hxo.kids
 have H0 : Hid (x.kids[0]? = some a) := Lib.hid (by rw [hka]; rfl)
 have H1 : Hid (x.kids[1]? = some b) := Lib.hid (by rw [hka]; rfl)
 have hkm : Hid (a ∈ x.kids ∧ b ∈ x.kids) := Lib.hid ⟨ham, hbm⟩
 have HKA := Lib.hid hka
 have HO := Lib.hid ho
 have HS := Lib.hid hs
 obtain ⟨s1, s2⟩ := kd_f (show ¬ x.h.op = 1 by omega)
 obtain ⟨s3, s4⟩ := kd_f (show ¬ x.h.op = 2 by omega)
 clear hka ham hbm ho hs
 go_enter Try.func27, Try.ntmps27
 have E := Only.refl [] w
 go_upto_region 9999 with (first | ((first | ((with_reducible refine at_dst 15 ?_); go_simp; (have hc := IH.out a (hao.ext E.low) hga has haz); (first | with_reducible refine hc.mono ?_ | refine hc.mono ?_); clear hc; unfold UPost; rintro e wn ⟨u, rfl, hu, hub, hua, hx⟩; have mhu_2 := hua X2 b2.lt (hao.notin (b2.may.resolve_left List.not_mem_nil)); replace hua := (fun X (hX : X < w.heap.size) ha => hua X (lt_ge hX E.size) ha)) | ((with_reducible refine at_dst 25 ?_); go_simp; (have hc := IH.out b (hbo.ext E.low) hgb hbs hbz); (first | with_reducible refine hc.mono ?_ | refine hc.mono ?_); clear hc; unfold UPost; rintro e wn ⟨v, rfl, hv, hvb, hva, hx⟩; have mhv_2 := hva X2 b2.lt (hbo.notin (b2.may.resolve_left List.not_mem_nil)); have mhv_3 := hva X3 b3.lt (hbo.notin (b3.may.resolve_left List.not_mem_nil)); replace hva := (fun X (hX : X < w.heap.size) ha => hva X (lt_ge hX E.size) ha)) | ((with_reducible refine at_dst 31 ?_); go_simp; (have hc := bsimpler_none HO.out hu hv hub hvb hsg hsgb hsz hszb HS); (first | with_reducible refine hc.mono ?_ | refine hc.mono ?_); clear hc; rintro e wn ⟨rfl, hx⟩) | ((with_reducible refine at_dst 40 ?_); (refine wp_rows2 2 ([u, v].flatMap exC).toArray 28 ?_ ?_); (· kernel_rfl); intro X40 wn hX40 bb hx; (try have ⟨n1_40, n40_1⟩ := b1.ne hX40); (try have ⟨n2_40, n40_2⟩ := b2.ne hX40); (try have ⟨n3_40, n40_3⟩ := b3.ne hX40); (try have ⟨n4_40, n40_4⟩ := b4.ne hX40); (try have ⟨n5_40, n40_5⟩ := b5.ne hX40); (try have z40 := Nat.le_trans E.size (Nat.le_of_eq hX40)); (try have mhu_40 := hu.notin (Nat.le_of_eq hX40)); (try have mhv_40 := hv.notin (Nat.le_of_eq hX40)); have b40 := Loc.new bb E hX40; clear bb hX40) | ((first | ((with_reducible refine at_store 2 ?_); have bo := b2; refine wp_put bo rfl rfl ?_ ?_ ?_ ?_) | ((with_reducible refine at_store 3 ?_); have bo := b3; refine wp_put bo rfl rfl ?_ ?_ ?_ ?_) | ((with_reducible refine at_store 4 ?_); have bo := b4; refine wp_put bo rfl rfl ?_ ?_ ?_ ?_) | ((with_reducible refine at_store 5 ?_); have bo := b5; refine wp_put bo rfl rfl ?_ ?_ ?_ ?_)); (· kernel_rfl); (· first | rfl | kernel_rfl); (· first | decide | exact Nat.le_refl _ | simp [Act.eval, Value.cells] | (simp [Act.eval, Act.put, Value.cells]; done)); intro wn bn hb; dsimp only [Act.put]; simp only [putA, Act.eval, Value.cells, Nat.reduceAdd, putL, exC_size] at bn; have E2 := E.put bo hb; (try replace b1 := b1.but hb (by assumption)); (try replace b2 := b2.but hb (by assumption)); (try replace b3 := b3.but hb (by assumption)); (try replace b4 := b4.but hb (by assumption)); (try replace b5 := b5.but hb (by assumption)); (try replace b40 := b40.but hb (by assumption)); (first | (replace hu := hu.but hb bo.blk (of_decide_eq_true rfl)) | (replace hu := hu.but0 hb (by assumption)) | skip); (first | (replace hv := hv.but hb bo.blk (of_decide_eq_true rfl)) | (replace hv := hv.but0 hb (by assumption)) | skip); (first | (replace ht := ht.but hb bo.blk (of_decide_eq_true rfl)) | (replace ht := ht.but0 hb (by assumption)) | skip); clear E bo; have E := E2; clear E2; (try replace b2 := b2.re bn); (try replace b3 := b3.re bn); (try replace b4 := b4.re bn); (try replace b5 := b5.re bn); clear bn hb) | ((first | ((with_reducible refine at_dst 1 ?_); go_simp; (generalize hXn : Array.size (World.heap _) = X1); refine new_block hXn ?_; intro wn bb hx; have b1 := Loc.new bb E hXn) | ((with_reducible refine at_dst 2 ?_); go_simp; (generalize hXn : Array.size (World.heap _) = X2); refine new_block hXn ?_; intro wn bb hx; have b2 := Loc.new bb E hXn) | ((with_reducible refine at_dst 3 ?_); go_simp; (generalize hXn : Array.size (World.heap _) = X3); refine new_block hXn ?_; intro wn bb hx; have b3 := Loc.new bb E hXn) | ((with_reducible refine at_dst 4 ?_); go_simp; (generalize hXn : Array.size (World.heap _) = X4); refine new_block hXn ?_; intro wn bb hx; have b4 := Loc.new bb E hXn) | ((with_reducible refine at_dst 5 ?_); go_simp; (generalize hXn : Array.size (World.heap _) = X5); refine new_block hXn ?_; intro wn bb hx; have b5 := Loc.new bb E hXn)); (try have ⟨nn, nm⟩ := b1.ne hXn); (try have ⟨nn, nm⟩ := b2.ne hXn); (try have ⟨nn, nm⟩ := b3.ne hXn); (try have ⟨nn, nm⟩ := b4.ne hXn); have zz := Nat.le_trans E.size (Nat.le_of_eq hXn); (try have mm := hu.notin (Nat.le_of_eq hXn)); (try have mm := hv.notin (Nat.le_of_eq hXn)); clear bb hXn)); (try replace E := E.ext hx); (try replace b1 := b1.ext hx); (try replace b2 := b2.ext hx); (try replace b3 := b3.ext hx); (try replace b4 := b4.ext hx); (try replace b5 := b5.ext hx); (try replace hu := hu.ext hx); (try replace hv := hv.ext hx); (try replace hcE := bcell E.low); (try replace c1 := b1.cf); (try replace c2 := b2.cf); (try replace c3 := b3.cf); (try replace c4 := b4.cf); (try replace c5 := b5.cf); (try replace c40 := b40.cf)) | ((with_reducible refine at_dst 14 ?_); (refine wp_rec2 ((RRow.ext hkc E.low)) (H0.out) exC_len rfl rfl ?_ ?_ ?_); (· kernel_rfl); (· kernel_rfl)) | ((with_reducible refine at_dst 24 ?_); (refine wp_rec2 ((RRow.ext hkc E.low)) (H1.out) exC_len rfl rfl ?_ ?_ ?_); (· kernel_rfl); (· kernel_rfl)) | ((with_reducible refine at_dsts [29, 30, 38, 39] ?_ ?_); (· rfl); (refine wp_all (Loc.blk (by assumption)) rfl rfl ?_ ?_ ?_); (· kernel_rfl); (· kernel_rfl)))
 refine bodyPost_ret (v := .agg (exC (nodeX x.h.op (some ⟨X40, 0, none⟩) 2 [u, v])).toArray) (by simp [results, Try.f27, go_sem, c2]; rfl) rfl ⟨_, rfl, nodeX_ok (RRow.blk (xs := [u, v]) exC_len b40.blk (by simp) (show 2 ≤ maxLen by decide)) (oks2 hu hv), ?_, fun X hX h => nodeX_away (op := 0) ?_ (aways2 (hua X hX (h.kid hkm.out.1)) (hva X hX (h.kid hkm.out.2))), E.low⟩
 · rw [nodeX_bare, List.map_cons, List.map_cons, List.map_nil, hub, hvb, opX_bare, Ex.bares, Ex.bares, Ex.bares]
 · have := b40.may.resolve_left List.not_mem_nil; omega
theorem bsfy_any : ∀ N : Nat, SfyOk N
 | 0 => fun _ _ _ _ hz _ => absurd hz (Nat.not_lt_zero _)
 | N + 1 => fun x w hxo hg hz hz0 => by
   have IH := Lib.hid (bsfy_any N)
   by_cases h1 : x.h.op = 1
   · exact bsfy_name x hxo hg h1
   by_cases h2 : x.h.op = 2
   · exact bsfy_not IH x hxo hg hz hz0 h2
   · obtain ⟨ho, a, b, hka, hga, hgb⟩ := kids2 hg h1 h2
     rw [simE_two hka]
     cases hs : simS x.h.op (simE a) (simE b) with
     | none => exact bsfy_none IH x a b hxo ho hka hga hgb hz hz0 hs
     | some z => exact bsfy_some IH x a b z hxo ho hka hga hgb hz hz0 hs
open Go.RowKit Tk
theorem zX_ok (w : World) : zX.ok w := by
 unfold zX Ex.ok
 exact ⟨Reads.nil0 w, RRow.nil _ _ _, by unfold Ex.oks; trivial⟩
def SRPost (r : Ex × Int) (w : World) (e : Ending) (w' : World) : Prop := ∃ u, e = .returned (.tuple #[.agg (exC u).toArray, .int .i64 r.2]) ∧ u.ok w' ∧ u.bare = r.1.bare ∧ Ext w w'
theorem bSimplify_any {x : Ex} {w : World} (hxo : x.ok w) (hs : x.small) (h4 : x.four) (hz0 : x.sz ≤ 100000000000) : Calls Try.prog 13 #[.agg (exC x).toArray] w (SRPost (simR x) w) := by
 have hz : x.sz ≤ 1000000000000 := by omega
 unfold simR
 obtain ⟨v, hv⟩ : ∃ v, chk x 1 = v := ⟨_, rfl⟩
 have HC := Lib.hid hv
 rw [hv]
 by_cases h0 : v = 0
 · have HG : Hid x.good := Lib.hid (good_chk x 1 (hv.trans h0))
   subst h0
   clear hv
   rw [if_neg (by decide)]
   obtain ⟨M, hM⟩ : ∃ M, namesR x = M := ⟨_, rfl⟩
   have HM := Lib.hid hM
   rw [hM]
   clear hM
   by_cases h16 : 16 < M.length
   · rw [if_pos h16]
     go_enter Try.func13, Try.ntmps13
     have E := Only.refl [] w
     go_upto_region 9999 with (first | ((first | ((with_reducible refine at_dst 6 ?_); go_simp; (have hc := bCheck_any (hxo.ext E.low) hs hz); (first | with_reducible refine hc.mono ?_ | refine hc.mono ?_); clear hc; unfold IPost; rw [HC.out]; rintro e wn ⟨rfl, hx⟩) | ((with_reducible refine at_dst 12 ?_); go_simp; (have hc := bnames_any (hxo.ext E.low) hs hz); (first | with_reducible refine hc.mono ?_ | refine hc.mono ?_); clear hc; unfold RPost; rw [HM.out]; rintro e wn ⟨a9, c9, rfl, r9, hx⟩; have n9 := r9.lens.2) | ((with_reducible refine at_store 2 ?_); have bo := b2; refine wp_put bo rfl rfl ?_ ?_ ?_ ?_; (· kernel_rfl); (· first | rfl | kernel_rfl); (· first | decide | exact Nat.le_refl _ | simp [Act.eval, Value.cells] | (simp [Act.eval, Act.put, Value.cells]; done)); intro wn bn hb; dsimp only [Act.put]; simp only [putA, Act.eval, Value.cells, Nat.reduceAdd, putL, exC_size] at bn; have E2 := E.put bo hb; (try replace b1 := b1.but hb (by assumption)); (first | (replace hu := hu.but hb bo.blk (of_decide_eq_true rfl)) | (replace hu := hu.but0 hb (by assumption)) | skip); (first | (replace hy := hy.but hb bo.blk (of_decide_eq_true rfl)) | (replace hy := hy.but0 hb (by assumption)) | skip); clear E bo; have E := E2; clear E2; clear b2; have b2 := bn; clear bn hb) | ((first | ((with_reducible refine at_dst 1 ?_); go_simp; (generalize hXn : Array.size (World.heap _) = X1); refine new_block hXn ?_; intro wn bb hx; have b1 := Loc.new bb E hXn) | ((with_reducible refine at_dst 2 ?_); go_simp; (generalize hXn : Array.size (World.heap _) = X2); refine new_block hXn ?_; intro wn bb hx; have b2 := Loc.new bb E hXn)); (try have ⟨nn, nm⟩ := b1.ne hXn); have zz := Nat.le_trans E.size (Nat.le_of_eq hXn); clear bb hXn)); (try replace E := E.ext hx); (try replace b1 := b1.ext hx); (try replace b2 := b2.ext hx); (try replace hcE := bcell E.low); (try replace c1 := b1.cf); (try replace c2 := b2.cf)) | ((with_reducible refine at_dsts [5, 11] ?_ ?_); (· rfl); (refine wp_all (Loc.blk (by assumption)) rfl rfl ?_ ?_ ?_); (· kernel_rfl); (· kernel_rfl)))
     refine bodyPost_ret (v := .tuple #[.agg exZ, .int .i64 4]) (by simp [results, Try.f13, go_sem, c2]; try rfl) rfl ⟨zX, rfl, zX_ok _, rfl, E.low⟩
   · rw [if_neg h16]
     go_enter Try.func13, Try.ntmps13
     have E := Only.refl [] w
     go_upto_region 9999 with (first | ((first | ((with_reducible refine at_dst 6 ?_); go_simp; (have hc := bCheck_any (hxo.ext E.low) hs hz); (first | with_reducible refine hc.mono ?_ | refine hc.mono ?_); clear hc; unfold IPost; rw [HC.out]; rintro e wn ⟨rfl, hx⟩) | ((with_reducible refine at_dst 12 ?_); go_simp; (have hc := bnames_any (hxo.ext E.low) hs hz); (first | with_reducible refine hc.mono ?_ | refine hc.mono ?_); clear hc; unfold RPost; rw [HM.out]; rintro e wn ⟨a9, c9, rfl, r9, hx⟩; have n9 := r9.lens.2) | ((with_reducible refine at_dst 17 ?_); go_simp; (have hc := copied_any (x.sz + 1) x (hxo.ext E.low) h4 (Nat.lt_succ_self _) hz); (first | with_reducible refine hc.mono ?_ | refine hc.mono ?_); clear hc; unfold CopPost; rintro e wn ⟨y, rfl, hy, hf, hyb, hx⟩; (try have mhy_1 := hf.away b1.lt); (try have mhy_2 := hf.away b2.lt); (try replace hf := hf.mono E.size)) | ((with_reducible refine at_dst 18 ?_); go_simp; (have hc := bsfy_any (y.sz + 1) y hy (good_of_bare hyb HG.out) (Nat.lt_succ_self _) (by rw [sz_of_bare hyb]; exact hz0)); (first | with_reducible refine hc.mono ?_ | refine hc.mono ?_); clear hc; unfold UPost; rintro e wn ⟨u, rfl, hu, hub, hua, hx⟩; have mhu_2 := hua X2 b2.lt mhy_2) | ((with_reducible refine at_store 2 ?_); have bo := b2; refine wp_put bo rfl rfl ?_ ?_ ?_ ?_; (· kernel_rfl); (· first | rfl | kernel_rfl); (· first | decide | exact Nat.le_refl _ | simp [Act.eval, Value.cells] | (simp [Act.eval, Act.put, Value.cells]; done)); intro wn bn hb; dsimp only [Act.put]; simp only [putA, Act.eval, Value.cells, Nat.reduceAdd, putL, exC_size] at bn; have E2 := E.put bo hb; (try replace b1 := b1.but hb (by assumption)); (first | (replace hu := hu.but hb bo.blk (of_decide_eq_true rfl)) | (replace hu := hu.but0 hb (by assumption)) | skip); (first | (replace hy := hy.but hb bo.blk (of_decide_eq_true rfl)) | (replace hy := hy.but0 hb (by assumption)) | skip); clear E bo; have E := E2; clear E2; clear b2; have b2 := bn; clear bn hb) | ((first | ((with_reducible refine at_dst 1 ?_); go_simp; (generalize hXn : Array.size (World.heap _) = X1); refine new_block hXn ?_; intro wn bb hx; have b1 := Loc.new bb E hXn) | ((with_reducible refine at_dst 2 ?_); go_simp; (generalize hXn : Array.size (World.heap _) = X2); refine new_block hXn ?_; intro wn bb hx; have b2 := Loc.new bb E hXn)); (try have ⟨nn, nm⟩ := b1.ne hXn); have zz := Nat.le_trans E.size (Nat.le_of_eq hXn); clear bb hXn)); (try replace E := E.ext hx); (try replace b1 := b1.ext hx); (try replace b2 := b2.ext hx); (try replace hy := hy.ext hx); (try replace hcE := bcell E.low); (try replace c1 := b1.cf); (try replace c2 := b2.cf)) | ((with_reducible refine at_dsts [5, 11, 16] ?_ ?_); (· rfl); (refine wp_all (Loc.blk (by assumption)) rfl rfl ?_ ?_ ?_); (· kernel_rfl); (· kernel_rfl)))
     refine bodyPost_ret (v := .tuple #[.agg (exC u).toArray, .int .i64 0]) (by simp [results, Try.f13, go_sem, c2]; try rfl) rfl ⟨u, rfl, hu, hub.trans (simE_of_bare hyb), E.low⟩
 · obtain ⟨s1, s2⟩ := kd_f h0
   rw [if_pos h0]
   clear h0 hv
   go_enter Try.func13, Try.ntmps13
   have E := Only.refl [] w
   go_upto_region 9999 with (first | ((first | ((with_reducible refine at_dst 6 ?_); go_simp; (have hc := bCheck_any (hxo.ext E.low) hs hz); (first | with_reducible refine hc.mono ?_ | refine hc.mono ?_); clear hc; unfold IPost; rw [HC.out]; rintro e wn ⟨rfl, hx⟩) | ((with_reducible refine at_store 2 ?_); have bo := b2; refine wp_put bo rfl rfl ?_ ?_ ?_ ?_; (· kernel_rfl); (· first | rfl | kernel_rfl); (· first | decide | exact Nat.le_refl _ | simp [Act.eval, Value.cells] | (simp [Act.eval, Act.put, Value.cells]; done)); intro wn bn hb; dsimp only [Act.put]; simp only [putA, Act.eval, Value.cells, Nat.reduceAdd, putL, exC_size] at bn; have E2 := E.put bo hb; (try replace b1 := b1.but hb (by assumption)); (first | (replace hu := hu.but hb bo.blk (of_decide_eq_true rfl)) | (replace hu := hu.but0 hb (by assumption)) | skip); (first | (replace hy := hy.but hb bo.blk (of_decide_eq_true rfl)) | (replace hy := hy.but0 hb (by assumption)) | skip); clear E bo; have E := E2; clear E2; clear b2; have b2 := bn; clear bn hb) | ((first | ((with_reducible refine at_dst 1 ?_); go_simp; (generalize hXn : Array.size (World.heap _) = X1); refine new_block hXn ?_; intro wn bb hx; have b1 := Loc.new bb E hXn) | ((with_reducible refine at_dst 2 ?_); go_simp; (generalize hXn : Array.size (World.heap _) = X2); refine new_block hXn ?_; intro wn bb hx; have b2 := Loc.new bb E hXn)); (try have ⟨nn, nm⟩ := b1.ne hXn); have zz := Nat.le_trans E.size (Nat.le_of_eq hXn); clear bb hXn)); (try replace E := E.ext hx); (try replace b1 := b1.ext hx); (try replace b2 := b2.ext hx); (try replace hcE := bcell E.low); (try replace c1 := b1.cf); (try replace c2 := b2.cf)) | ((with_reducible refine at_dst 5 ?_); (refine wp_all b1.blk rfl rfl ?_ ?_ ?_); (· kernel_rfl); (· kernel_rfl)))
   refine bodyPost_ret (v := .tuple #[.agg exZ, .int .i64 v]) (by simp [results, Try.f13, go_sem, c2]; try rfl) rfl ⟨zX, rfl, zX_ok _, rfl, E.low⟩
open Go.RowKit Tk
mutual
def Ex.wz : Ex → Nat
 | .mk h k => 8 + (h.names.map ByteArray.size).sum + Ex.wzs k
def Ex.wzs : List Ex → Nat
 | [] => 0
 | e :: l => e.wz + Ex.wzs l
end
theorem Ex.wz_eq (x : Ex) : x.wz = 8 + (x.h.names.map ByteArray.size).sum + Ex.wzs x.kids := by cases x; rw [Ex.wz]; rfl
theorem textB_eq (x : Ex) (l : Int) : textB x l = paren (decide (strB x.h.op < l)) (bodyT x.h x.kids.length (textBs x.kids (if x.kids.length = 1 then 5 else signN x.h.op))) := by cases x; rw [textB]; rfl
theorem paren_size (b : Bool) (s : ByteArray) : (paren b s).size ≤ s.size + 2 := by
 unfold paren
 split
 · simp only [ByteArray.size_append]; show 1 + s.size + 1 ≤ _; omega
 · omega
theorem signM_size (k : Int) : (signM k).size ≤ 2 := by
 unfold signM
 by_cases h6 : k = 6
 · rw [if_pos h6]; decide
 rw [if_neg h6]
 by_cases h7 : k = 7
 · rw [if_pos h7]; decide
 rw [if_neg h7]
 by_cases h3 : k = 3
 · rw [if_pos h3]; decide
 rw [if_neg h3]
 by_cases h5 : k = 5
 · rw [if_pos h5]; decide
 rw [if_neg h5]; decide
theorem firstN_size (l : List ByteArray) : (firstN l).size ≤ (l.map ByteArray.size).sum := by
 cases l with
 | nil => exact Nat.le_refl _
 | cons x l => simp only [firstN, List.headD_cons, List.map_cons, List.sum_cons]; omega
theorem body_size (h : ExH) (n : Nat) (ts : List ByteArray) : (bodyT h n ts).size ≤ 4 + (h.names.map ByteArray.size).sum + (ts.map ByteArray.size).sum := by
 have hs := signM_size h.op
 have hf := firstN_size h.names
 have h0 : (ts.headD ⟨#[]⟩).size + (ts.getD 1 ⟨#[]⟩).size ≤ (ts.map ByteArray.size).sum := by
  match ts with
  | [] => exact Nat.le_refl _
  | [a] => simp only [List.headD_cons, List.map_cons, List.map_nil, List.sum_cons, List.sum_nil]; exact Nat.le_refl _
  | a :: b :: r => simp only [List.headD_cons, List.map_cons, List.sum_cons]; show a.size + b.size ≤ _; omega
 unfold bodyT
 split
 · omega
 · split
   · simp only [ByteArray.size_append]; show 1 + _ ≤ _; omega
   · simp only [ByteArray.size_append]
     have : (⟨#[32]⟩ : ByteArray).size = 1 := rfl
     omega
mutual
theorem textB_size : ∀ (x : Ex) (l : Int), (textB x l).size ≤ x.wz
 | .mk h k, l => by
   rw [textB, Ex.wz]
   have h1 := paren_size (decide (strB h.op < l)) (bodyT h k.length (textBs k (if k.length = 1 then 5 else signN h.op)))
   have h2 := body_size h k.length (textBs k (if k.length = 1 then 5 else signN h.op))
   have h3 := textBs_size k (if k.length = 1 then 5 else signN h.op)
   omega
theorem textBs_size : ∀ (k : List Ex) (n : Int), ((textBs k n).map ByteArray.size).sum ≤ Ex.wzs k
 | [], _ => by rw [textBs, Ex.wzs]; exact Nat.le_refl _
 | e :: r, n => by
   rw [textBs, Ex.wzs, List.map_cons, List.sum_cons]
   have h1 := textB_size e n
   have h2 := textBs_size r (n + 1)
   omega
end
@[reducible] def TextOk (N : Nat) : Prop := ∀ (x : Ex) (l : Int) {w : World}, x.ok w → x.wf → x.wz ≤ 1000000000000 → x.sz < N → Calls Try.prog 21 #[.agg (exC x).toArray, .int .i64 l] w (TPost (textB x l) w)
theorem btext_step {N : Nat} (IH : Hid (TextOk N)) : TextOk (N + 1) := by
 intro x l w hxo hwf hwz hz
 rw [Ex.sz_kids] at hz
 rw [Ex.wz_eq] at hwz
 have n2 := (RRow.lens hxo.kids).2
 have n3 := (Reads.lens hxo.names).2
 obtain ⟨n, hn⟩ : ∃ n, opn x.h.op = n := ⟨_, rfl⟩
 obtain ⟨st, hst⟩ : ∃ st, strB x.h.op = st := ⟨_, rfl⟩
 have hk := hwf.kids
 have hnm := hwf.names
 unfold namedE at hnm
 rw [hn] at hk hnm
 have hv := opn_vals x.h.op
 rw [hn] at hv
 obtain ⟨V, hV⟩ : ∃ V, textB x l = V := ⟨_, rfl⟩
 rw [hV]
 rw [textB_eq, hst] at hV
 have HN := Lib.hid hn
 have HST := Lib.hid hst
 have hwf2 := Lib.hid hwf
 clear hn hst
 rcases (show n = 0 ∨ n = 1 ∨ n = 2 by omega) with rfl | rfl | rfl
 · have hk0 : x.kids.length = 0 := by omega
   rw [if_pos rfl] at hnm
   have hlt : 0 < x.h.names.length := by omega
   obtain ⟨nm, hnm2⟩ : ∃ nm, x.h.names = [nm] := by
    have h8 : x.h.names.length = 1 := by omega
    match hq : x.h.names, h8 with
    | [nm], _ => exact ⟨nm, rfl⟩
   obtain ⟨gg, oo, hgo, hg, k0⟩ := hxo.names.cells hlt
   have hn0 : x.h.names[0] = nm := by simp [hnm2]
   rw [hn0, Nat.add_zero] at k0
   rw [hk0, bodyT, if_pos rfl, hnm2, show firstN [nm] = nm from rfl] at hV
   have hsz : nm.size ≤ 1000000000000 := by rw [hnm2] at hwz; simp only [List.map_cons, List.map_nil, List.sum_cons, List.sum_nil] at hwz; omega
   have HNM := Lib.hid hnm2
   clear hnm2 hn0 hk hk0 hnm
   by_cases hp : st < l
   · rw [decide_eq_true hp] at hV
     have HV := Lib.hid hV
     clear hV
     go_enter Try.func21, Try.ntmps21
     have E := Only.refl [] w
     go_upto_region 9999 with (first | ((first | ((with_reducible refine at_dst 10 ?_); go_simp; ((with_reducible refine (boperands_any _ _).mono ?_)); unfold IPost; rw [HN.out]; rintro e wn ⟨rfl, hx⟩) | ((with_reducible refine at_dst 50 ?_); go_simp; (have hc := bstrength_any x wn); (first | with_reducible refine hc.mono ?_ | refine hc.mono ?_); clear hc; unfold IPost; rw [HST.out]; rintro e wn ⟨rfl, hx⟩) | ((with_reducible refine at_dst 2 ?_); go_simp; (generalize hXn : Array.size (World.heap _) = X2); refine new_block hXn ?_; intro wn bb hx; have b2 := Loc.new bb E hXn; have zz := Nat.le_trans E.size (Nat.le_of_eq hXn); clear bb hXn)); (try replace E := E.ext hx); (try replace b2 := b2.ext hx); (try replace hcE := bcell E.low); (try replace c2 := b2.cf)) | ((with_reducible refine at_dst 49 ?_); (refine wp_all b2.blk rfl rfl ?_ ?_ ?_); (· kernel_rfl); (· kernel_rfl)))
     all_goals
      go_ret
      exact ⟨by rw [← HV.out]; rfl, E.low⟩
   · rw [decide_eq_false hp] at hV
     have HV := Lib.hid hV
     clear hV
     go_enter Try.func21, Try.ntmps21
     have E := Only.refl [] w
     go_upto_region 9999 with (first | ((first | ((with_reducible refine at_dst 10 ?_); go_simp; ((with_reducible refine (boperands_any _ _).mono ?_)); unfold IPost; rw [HN.out]; rintro e wn ⟨rfl, hx⟩) | ((with_reducible refine at_dst 50 ?_); go_simp; (have hc := bstrength_any x wn); (first | with_reducible refine hc.mono ?_ | refine hc.mono ?_); clear hc; unfold IPost; rw [HST.out]; rintro e wn ⟨rfl, hx⟩) | ((with_reducible refine at_dst 2 ?_); go_simp; (generalize hXn : Array.size (World.heap _) = X2); refine new_block hXn ?_; intro wn bb hx; have b2 := Loc.new bb E hXn; have zz := Nat.le_trans E.size (Nat.le_of_eq hXn); clear bb hXn)); (try replace E := E.ext hx); (try replace b2 := b2.ext hx); (try replace hcE := bcell E.low); (try replace c2 := b2.cf)) | ((with_reducible refine at_dst 49 ?_); (refine wp_all b2.blk rfl rfl ?_ ?_ ?_); (· kernel_rfl); (· kernel_rfl)))
     all_goals
      go_ret
      exact ⟨by rw [← HV.out]; rfl, E.low⟩
 · obtain ⟨a, hka⟩ : ∃ a, x.kids = [a] := by
     have h8 : x.kids.length = 1 := by omega
     match hq : x.kids, h8 with
     | [a], _ => exact ⟨a, rfl⟩
   have ham : a ∈ x.kids := by rw [hka]; simp
   have hao := hxo.subs.mem ham
   have haw := hwf2.out.subs.mem ham
   have hw1 : Ex.wzs x.kids = a.wz := by rw [hka, Ex.wzs, Ex.wzs]; rfl
   have hs1 : Ex.szs x.kids = a.sz := by rw [hka, Ex.szs, Ex.szs]; rfl
   have haz : a.wz ≤ 1000000000000 := by omega
   have has : a.sz < N := by omega
   obtain ⟨ta, hta⟩ : ∃ ta, textB a 5 = ta := ⟨_, rfl⟩
   have hsz : ta.size ≤ 1000000000000 := by rw [← hta]; exact Nat.le_trans (textB_size a 5) haz
   have hlt : 0 < x.kids.length := by omega
   obtain ⟨g, o, hgo, hg, -⟩ := RRow.cells hxo.kids hlt
   have hkc : RRow w 10 exC (.slice (some ⟨g, o, none⟩) x.kids.length x.h.hk.c) x.kids := hgo ▸ hxo.kids
   have H0 : Hid (x.kids[0]? = some a) := Lib.hid (by rw [hka]; rfl)
   rw [hka] at hV
   rw [show bodyT x.h [a].length (textBs [a] (if [a].length = 1 then 5 else signN x.h.op)) = ⟨#[33]⟩ ++ ta by rw [← hta]; rfl] at hV
   have HA := Lib.hid hta
   have HKA := Lib.hid hka
   clear hta hka hk hnm hw1 hs1 hwf ham
   by_cases hp : st < l
   · rw [decide_eq_true hp] at hV
     have HV := Lib.hid hV
     clear hV
     go_enter Try.func21, Try.ntmps21
     have E := Only.refl [] w
     go_upto_region 9999 with (first | ((first | ((with_reducible refine at_dst 10 ?_); go_simp; ((with_reducible refine (boperands_any _ _).mono ?_)); unfold IPost; rw [HN.out]; rintro e wn ⟨rfl, hx⟩) | ((with_reducible refine at_dst 47 ?_); go_simp; (have hc := IH.out a 5 (hao.ext E.low) haw haz has); (first | with_reducible refine hc.mono ?_ | refine hc.mono ?_); clear hc; unfold TPost; rw [HA.out]; rintro e wn ⟨rfl, hx⟩) | ((with_reducible refine at_dst 50 ?_); go_simp; (have hc := bstrength_any x wn); (first | with_reducible refine hc.mono ?_ | refine hc.mono ?_); clear hc; unfold IPost; rw [HST.out]; rintro e wn ⟨rfl, hx⟩) | ((with_reducible refine at_dst 2 ?_); go_simp; (generalize hXn : Array.size (World.heap _) = X2); refine new_block hXn ?_; intro wn bb hx; have b2 := Loc.new bb E hXn; have zz := Nat.le_trans E.size (Nat.le_of_eq hXn); clear bb hXn)); (try replace E := E.ext hx); (try replace b2 := b2.ext hx); (try replace hcE := bcell E.low); (try replace c2 := b2.cf)) | ((with_reducible refine at_dst 46 ?_); (refine wp_rec2 ((RRow.ext hkc E.low)) (H0.out) exC_len rfl rfl ?_ ?_ ?_); (· kernel_rfl); (· kernel_rfl)) | ((with_reducible refine at_dst 49 ?_); (refine wp_all b2.blk rfl rfl ?_ ?_ ?_); (· kernel_rfl); (· kernel_rfl)))
     all_goals
      go_ret
      exact ⟨by rw [← HV.out]; rfl, E.low⟩
   · rw [decide_eq_false hp] at hV
     have HV := Lib.hid hV
     clear hV
     go_enter Try.func21, Try.ntmps21
     have E := Only.refl [] w
     go_upto_region 9999 with (first | ((first | ((with_reducible refine at_dst 10 ?_); go_simp; ((with_reducible refine (boperands_any _ _).mono ?_)); unfold IPost; rw [HN.out]; rintro e wn ⟨rfl, hx⟩) | ((with_reducible refine at_dst 47 ?_); go_simp; (have hc := IH.out a 5 (hao.ext E.low) haw haz has); (first | with_reducible refine hc.mono ?_ | refine hc.mono ?_); clear hc; unfold TPost; rw [HA.out]; rintro e wn ⟨rfl, hx⟩) | ((with_reducible refine at_dst 50 ?_); go_simp; (have hc := bstrength_any x wn); (first | with_reducible refine hc.mono ?_ | refine hc.mono ?_); clear hc; unfold IPost; rw [HST.out]; rintro e wn ⟨rfl, hx⟩) | ((with_reducible refine at_dst 2 ?_); go_simp; (generalize hXn : Array.size (World.heap _) = X2); refine new_block hXn ?_; intro wn bb hx; have b2 := Loc.new bb E hXn; have zz := Nat.le_trans E.size (Nat.le_of_eq hXn); clear bb hXn)); (try replace E := E.ext hx); (try replace b2 := b2.ext hx); (try replace hcE := bcell E.low); (try replace c2 := b2.cf)) | ((with_reducible refine at_dst 46 ?_); (refine wp_rec2 ((RRow.ext hkc E.low)) (H0.out) exC_len rfl rfl ?_ ?_ ?_); (· kernel_rfl); (· kernel_rfl)) | ((with_reducible refine at_dst 49 ?_); (refine wp_all b2.blk rfl rfl ?_ ?_ ?_); (· kernel_rfl); (· kernel_rfl)))
     all_goals
      go_ret
      exact ⟨by rw [← HV.out]; rfl, E.low⟩
 · obtain ⟨a, b, hka⟩ : ∃ a b, x.kids = [a, b] := by
     have h8 : x.kids.length = 2 := by omega
     match hq : x.kids, h8 with
     | [a, b], _ => exact ⟨a, b, rfl⟩
   have ham : a ∈ x.kids := by rw [hka]; simp
   have hbm : b ∈ x.kids := by rw [hka]; simp
   have hao := hxo.subs.mem ham
   have haw := hwf2.out.subs.mem ham
   have hbo := hxo.subs.mem hbm
   have hbw := hwf2.out.subs.mem hbm
   have hw1 : Ex.wzs x.kids = a.wz + b.wz := by rw [hka, Ex.wzs, Ex.wzs, Ex.wzs]; rfl
   have hs1 : Ex.szs x.kids = a.sz + b.sz := by rw [hka, Ex.szs, Ex.szs, Ex.szs]; rfl
   have haz : a.wz ≤ 1000000000000 := by omega
   have has : a.sz < N := by omega
   have hbz : b.wz ≤ 1000000000000 := by omega
   have hbs : b.sz < N := by omega
   obtain ⟨ta, hta⟩ : ∃ ta, textB a (signN x.h.op) = ta := ⟨_, rfl⟩
   obtain ⟨tb, htb⟩ : ∃ tb, textB b (signN x.h.op + 1) = tb := ⟨_, rfl⟩
   have hsz : ta.size ≤ 1000000000000 := by rw [← hta]; exact Nat.le_trans (textB_size a _) haz
   have hsz2 : tb.size ≤ 1000000000000 := by rw [← htb]; exact Nat.le_trans (textB_size b _) hbz
   have hsz3 := signM_size x.h.op
   have hsn : 1 ≤ signN x.h.op ∧ signN x.h.op ≤ 4 := by unfold signN; repeat' split; all_goals omega
   obtain ⟨hsn1, hsn2⟩ := hsn
   have hlt : 0 < x.kids.length := by omega
   have hlt1 : 1 < x.kids.length := by omega
   obtain ⟨g, o, hgo, hg, -⟩ := RRow.cells hxo.kids hlt
   have hkc : RRow w 10 exC (.slice (some ⟨g, o, none⟩) x.kids.length x.h.hk.c) x.kids := hgo ▸ hxo.kids
   have H0 : Hid (x.kids[0]? = some a) := Lib.hid (by rw [hka]; rfl)
   have H1 : Hid (x.kids[1]? = some b) := Lib.hid (by rw [hka]; rfl)
   rw [hka] at hV
   rw [show bodyT x.h [a, b].length (textBs [a, b] (if [a, b].length = 1 then 5 else signN x.h.op)) = ta ++ ⟨#[32]⟩ ++ signM x.h.op ++ ⟨#[32]⟩ ++ tb by rw [← hta, ← htb]; rfl] at hV
   have HA := Lib.hid hta
   have HB := Lib.hid htb
   have HKA := Lib.hid hka
   clear hta htb hka hk hnm hw1 hs1 hwf ham hbm
   by_cases hp : st < l
   · rw [decide_eq_true hp] at hV
     have HV := Lib.hid hV
     clear hV
     go_enter Try.func21, Try.ntmps21
     have E := Only.refl [] w
     go_upto_region 9999 with (first | ((first | ((with_reducible refine at_dst 10 ?_); go_simp; ((with_reducible refine (boperands_any _ _).mono ?_)); unfold IPost; rw [HN.out]; rintro e wn ⟨rfl, hx⟩) | ((with_reducible refine at_dst 14 ?_); go_simp; ((with_reducible refine (bsign_any _ _).mono ?_)); unfold TIPost; rintro e wn ⟨rfl, hx⟩) | ((with_reducible refine at_dst 50 ?_); go_simp; (have hc := bstrength_any x wn); (first | with_reducible refine hc.mono ?_ | refine hc.mono ?_); clear hc; unfold IPost; rw [HST.out]; rintro e wn ⟨rfl, hx⟩) | ((with_reducible refine at_reg 4 ?_); (refine wp_region_x (id := 4) (spOf [(5, spVal (.string ta)), (16, spVal (.string tb))]) [0, 1, 2, 3, 4, 7, 10, 11, 12, 13, 14, 15, 5, 6, 8, 9, 16, 17, 18] [] [] mixed ?_ ?_); (· decide +kernel); intro K ws hx hK; dsimp only [pickE, pickL, List.getElem?_cons_succ, List.getElem?_cons_zero] at hK ⊢) | ((with_reducible refine at_dst 2 ?_); go_simp; (generalize hXn : Array.size (World.heap _) = X2); refine new_block hXn ?_; intro wn bb hx; have b2 := Loc.new bb E hXn; have zz := Nat.le_trans E.size (Nat.le_of_eq hXn); clear bb hXn)); (try replace E := E.ext hx); (try replace b2 := b2.ext hx); (try replace hcE := bcell E.low); (try replace c2 := b2.cf)) | ((with_reducible refine at_dst 49 ?_); (refine wp_all b2.blk rfl rfl ?_ ?_ ?_); (· kernel_rfl); (· kernel_rfl)) | ((with_reducible refine at_j 5 ?_); refine wpE_w (spVal (.string ta)) _ rfl rfl ?_ rfl rfl (⟨_, rfl⟩) ?_ ?_; (· first | rfl | go_simp); (· intro wn hx K2 hK2; (try replace E := E.ext hx); go_wp2_with fail; (first | ((with_reducible refine (IH.out a (signN x.h.op) (hao.ext E.low) haw haz has).mono ?_)) | ((have hc := IH.out a (signN x.h.op) (hao.ext E.low) haw haz has); (with_reducible refine hc.mono ?_); clear hc)); unfold TPost; rw [HA.out]; rintro e wn ⟨rfl, hx⟩; go_wp2_with fail; exact good_val hx); rintro v22 rfl; (try simp only [Act.put, actL])) | ((with_reducible refine at_j 16 ?_); refine wpE_w (spVal (.string tb)) _ rfl rfl ?_ rfl rfl (⟨_, rfl⟩) ?_ ?_; (· first | rfl | go_simp); (· intro wn hx K2 hK2; (try replace E := E.ext hx); go_wp2_with fail; (first | ((with_reducible refine (IH.out b (signN x.h.op + 1) (hbo.ext E.low) hbw hbz hbs).mono ?_)) | ((have hc := IH.out b (signN x.h.op + 1) (hbo.ext E.low) hbw hbz hbs); (with_reducible refine hc.mono ?_); clear hc)); unfold TPost; rw [HB.out]; rintro e wn ⟨rfl, hx⟩; go_wp2_with fail; exact good_val hx); rintro v33 rfl; (try simp only [Act.put, actL])) | ((with_reducible refine at_j 3 ?_); (with_reducible refine wpE_q ?_ ?_ ?_); rfl; rfl; intro wq hq K2 hK2; (refine wp_rec2 (RRow.ext ((RRow.ext hkc E.low)) hq) (H0.out) exC_len rfl rfl ?_ ?_ ?_); (· kernel_rfl); (· kernel_rfl); refine hK2 _ ?_; clear hK2; (try simp only [Act.put, actL])) | ((with_reducible refine at_j 13 ?_); (with_reducible refine wpE_q ?_ ?_ ?_); rfl; rfl; intro wq hq K2 hK2; (refine wp_rec2 (RRow.ext ((RRow.ext hkc E.low)) hq) (H1.out) exC_len rfl rfl ?_ ?_ ?_); (· kernel_rfl); (· kernel_rfl); refine hK2 _ ?_; clear hK2; (try simp only [Act.put, actL])) | ((with_reducible refine wpE_q ?_ ?_ ?_); rfl; rfl; intro wq hq _ _; (try replace hcE := bcell (E.ext hq).low); (try replace c2 := (b2.ext hq).cf)) | ((with_reducible refine at_nil 0 ?_); refine wpE_nil (fun wn hx hΦ hfp hdis => ?_); (try replace E := E.ext hx); (try replace b2 := b2.ext hx); (try replace hcE := bcell E.low); (try replace c2 := b2.cf); clear hΦ hfp hdis; refine hK _ _ ?_; clear hK) | (with_reducible refine wpTxt_nil ?_))
     all_goals
      go_ret
      exact ⟨by rw [← HV.out]; rfl, E.low⟩
   · rw [decide_eq_false hp] at hV
     have HV := Lib.hid hV
     clear hV
     go_enter Try.func21, Try.ntmps21
     have E := Only.refl [] w
     go_upto_region 9999 with (first | ((first | ((with_reducible refine at_dst 10 ?_); go_simp; ((with_reducible refine (boperands_any _ _).mono ?_)); unfold IPost; rw [HN.out]; rintro e wn ⟨rfl, hx⟩) | ((with_reducible refine at_dst 14 ?_); go_simp; ((with_reducible refine (bsign_any _ _).mono ?_)); unfold TIPost; rintro e wn ⟨rfl, hx⟩) | ((with_reducible refine at_dst 50 ?_); go_simp; (have hc := bstrength_any x wn); (first | with_reducible refine hc.mono ?_ | refine hc.mono ?_); clear hc; unfold IPost; rw [HST.out]; rintro e wn ⟨rfl, hx⟩) | ((with_reducible refine at_reg 4 ?_); (refine wp_region_x (id := 4) (spOf [(5, spVal (.string ta)), (16, spVal (.string tb))]) [0, 1, 2, 3, 4, 7, 10, 11, 12, 13, 14, 15, 5, 6, 8, 9, 16, 17, 18] [] [] mixed ?_ ?_); (· decide +kernel); intro K ws hx hK; dsimp only [pickE, pickL, List.getElem?_cons_succ, List.getElem?_cons_zero] at hK ⊢) | ((with_reducible refine at_dst 2 ?_); go_simp; (generalize hXn : Array.size (World.heap _) = X2); refine new_block hXn ?_; intro wn bb hx; have b2 := Loc.new bb E hXn; have zz := Nat.le_trans E.size (Nat.le_of_eq hXn); clear bb hXn)); (try replace E := E.ext hx); (try replace b2 := b2.ext hx); (try replace hcE := bcell E.low); (try replace c2 := b2.cf)) | ((with_reducible refine at_dst 49 ?_); (refine wp_all b2.blk rfl rfl ?_ ?_ ?_); (· kernel_rfl); (· kernel_rfl)) | ((with_reducible refine at_j 5 ?_); refine wpE_w (spVal (.string ta)) _ rfl rfl ?_ rfl rfl (⟨_, rfl⟩) ?_ ?_; (· first | rfl | go_simp); (· intro wn hx K2 hK2; (try replace E := E.ext hx); go_wp2_with fail; (first | ((with_reducible refine (IH.out a (signN x.h.op) (hao.ext E.low) haw haz has).mono ?_)) | ((have hc := IH.out a (signN x.h.op) (hao.ext E.low) haw haz has); (with_reducible refine hc.mono ?_); clear hc)); unfold TPost; rw [HA.out]; rintro e wn ⟨rfl, hx⟩; go_wp2_with fail; exact good_val hx); rintro v22 rfl; (try simp only [Act.put, actL])) | ((with_reducible refine at_j 16 ?_); refine wpE_w (spVal (.string tb)) _ rfl rfl ?_ rfl rfl (⟨_, rfl⟩) ?_ ?_; (· first | rfl | go_simp); (· intro wn hx K2 hK2; (try replace E := E.ext hx); go_wp2_with fail; (first | ((with_reducible refine (IH.out b (signN x.h.op + 1) (hbo.ext E.low) hbw hbz hbs).mono ?_)) | ((have hc := IH.out b (signN x.h.op + 1) (hbo.ext E.low) hbw hbz hbs); (with_reducible refine hc.mono ?_); clear hc)); unfold TPost; rw [HB.out]; rintro e wn ⟨rfl, hx⟩; go_wp2_with fail; exact good_val hx); rintro v33 rfl; (try simp only [Act.put, actL])) | ((with_reducible refine at_j 3 ?_); (with_reducible refine wpE_q ?_ ?_ ?_); rfl; rfl; intro wq hq K2 hK2; (refine wp_rec2 (RRow.ext ((RRow.ext hkc E.low)) hq) (H0.out) exC_len rfl rfl ?_ ?_ ?_); (· kernel_rfl); (· kernel_rfl); refine hK2 _ ?_; clear hK2; (try simp only [Act.put, actL])) | ((with_reducible refine at_j 13 ?_); (with_reducible refine wpE_q ?_ ?_ ?_); rfl; rfl; intro wq hq K2 hK2; (refine wp_rec2 (RRow.ext ((RRow.ext hkc E.low)) hq) (H1.out) exC_len rfl rfl ?_ ?_ ?_); (· kernel_rfl); (· kernel_rfl); refine hK2 _ ?_; clear hK2; (try simp only [Act.put, actL])) | ((with_reducible refine wpE_q ?_ ?_ ?_); rfl; rfl; intro wq hq _ _; (try replace hcE := bcell (E.ext hq).low); (try replace c2 := (b2.ext hq).cf)) | ((with_reducible refine at_nil 0 ?_); refine wpE_nil (fun wn hx hΦ hfp hdis => ?_); (try replace E := E.ext hx); (try replace b2 := b2.ext hx); (try replace hcE := bcell E.low); (try replace c2 := b2.cf); clear hΦ hfp hdis; refine hK _ _ ?_; clear hK) | (with_reducible refine wpTxt_nil ?_))
     all_goals
      go_ret
      exact ⟨by rw [← HV.out]; rfl, E.low⟩
theorem btext_any : ∀ N : Nat, TextOk N
 | 0 => fun _ _ _ _ _ _ hz => absurd hz (Nat.not_lt_zero _)
 | N + 1 => btext_step (Lib.hid (btext_any N))
open Go.RowKit Tk
/-! ### Text -/
def textR (x : Ex) : ByteArray × Int := if chk x 1 ≠ 0 then (⟨#[]⟩, chk x 1) else (textB x 0, 0)
theorem bText_any {w : World} {x : Ex} (hxo : x.ok w) (hs : x.small) (hsz : x.sz ≤ 1000000000000) (hwz : x.wz ≤ 1000000000000) : Calls Try.prog 6 #[.agg (exC x).toArray] w (TIPost (textR x).1 (textR x).2 w) := by
 obtain ⟨R, hR⟩ : ∃ R, textR x = R := ⟨_, rfl⟩
 rw [hR]
 unfold textR at hR
 obtain ⟨c, hc⟩ : ∃ c, chk x 1 = c := ⟨_, rfl⟩
 rw [hc] at hR
 have hwf := Lib.hid (show c = 0 → x.wf from fun h => chk_wf x 1 (hc.trans h))
 have HC := Lib.hid hc
 obtain ⟨t, ht⟩ : ∃ t, textB x 0 = t := ⟨_, rfl⟩
 rw [ht] at hR
 have HT := Lib.hid ht
 clear hc ht
 by_cases h0 : c = 0
 · rw [if_neg (by simpa using h0)] at hR
   replace hwf := Lib.hid (hwf.out h0)
   obtain ⟨g1, g2⟩ := kd_t h0
   have HR := Lib.hid hR
   clear hR h0
   go_enter Try.func6, Try.ntmps6
   have E := Only.refl [] w
   go_upto_region 9999 with (first | ((first | ((with_reducible refine at_dst 6 ?_); go_simp; (have hc := bCheck_any (hxo.ext E.low) hs hsz); (first | with_reducible refine hc.mono ?_ | refine hc.mono ?_); clear hc; unfold IPost; rw [HC.out]; rintro e wn ⟨rfl, hx⟩) | ((with_reducible refine at_dst 11 ?_); go_simp; (have hc := btext_any (x.sz + 1) x 0 (hxo.ext E.low) hwf.out hwz (Nat.lt_succ_self _)); (first | with_reducible refine hc.mono ?_ | refine hc.mono ?_); clear hc; unfold TPost; rw [HT.out]; rintro e wn ⟨rfl, hx⟩) | ((with_reducible refine at_dst 1 ?_); go_simp; (generalize hXn : Array.size (World.heap _) = X1); refine new_block hXn ?_; intro wn bb hx; have b1 := Loc.new bb E hXn; have zz := Nat.le_trans E.size (Nat.le_of_eq hXn); clear bb hXn)); (try replace E := E.ext hx); (try replace b1 := b1.ext hx); (try replace hcE := bcell E.low); (try replace c1 := b1.cf)) | ((with_reducible refine at_dsts [5, 10] ?_ ?_); (· rfl); (refine wp_all (Loc.blk (by assumption)) rfl rfl ?_ ?_ ?_); (· kernel_rfl); (· kernel_rfl)))
   refine bodyPost_ret (v := .tuple #[.string t, .int .i64 0]) (by simp [results, Try.f6, go_sem]) rfl ⟨by rw [← HR.out], E.low⟩
 · rw [if_pos h0] at hR
   obtain ⟨g1, g2⟩ := kd_f h0
   have HR := Lib.hid hR
   clear hR h0 hwf
   go_enter Try.func6, Try.ntmps6
   have E := Only.refl [] w
   go_upto_region 9999 with (first | ((first | ((with_reducible refine at_dst 6 ?_); go_simp; (have hc := bCheck_any (hxo.ext E.low) hs hsz); (first | with_reducible refine hc.mono ?_ | refine hc.mono ?_); clear hc; unfold IPost; rw [HC.out]; rintro e wn ⟨rfl, hx⟩) | ((with_reducible refine at_dst 1 ?_); go_simp; (generalize hXn : Array.size (World.heap _) = X1); refine new_block hXn ?_; intro wn bb hx; have b1 := Loc.new bb E hXn; have zz := Nat.le_trans E.size (Nat.le_of_eq hXn); clear bb hXn)); (try replace E := E.ext hx); (try replace b1 := b1.ext hx); (try replace hcE := bcell E.low); (try replace c1 := b1.cf)) | ((with_reducible refine at_dst 5 ?_); (refine wp_all b1.blk rfl rfl ?_ ?_ ?_); (· kernel_rfl); (· kernel_rfl)))
   refine bodyPost_ret (v := .tuple #[.string ⟨#[]⟩, .int .i64 c]) (by simp [results, Try.f6, go_sem]) rfl ⟨by rw [← HR.out], E.low⟩
end Go.Proofs.Ytbobbbhgdfapjaa
