/- K5, K7 -/
import Derived.Test.YtbobbbhgdfapjaaGreatZB1
import Derived.Test.YtbobbbhgdfapjaaGreatZB2
import Derived.Test.YtbobbbhgdfapjaaGreatZB3
import Derived.Test.YtbobbbhgdfapjaaGreatZB4
import Derived.Test.YtbobbbhgdfapjaaGreatZBnkt1
import Derived.Test.YtbobbbhgdfapjaaGreatZB5
import Derived.Test.YtbobbbhgdfapjaaGreatZBcsv1
import Derived.Test.YtbobbbhgdfapjaaGreatZB6
import Derived.Test.YtbobbbhgdfapjaaGreatZB7
import Derived.Test.YtbobbbhgdfapjaaGreatZB8
import Derived.Test.YtbobbbhgdfapjaaGreatZB9
import Derived.Test.YtbobbbhgdfapjaaGreatZBis1
import Derived.Test.YtbobbbhgdfapjaaGreatZB10
import Derived.Test.YtbobbbhgdfapjaaGreatZB11
import Derived.Test.YtbobbbhgdfapjaaGreatZB12
import Derived.Test.YtbobbbhgdfapjaaGreatZB13
import Derived.Test.YtbobbbhgdfapjaaGreatZB14
import Derived.Test.YtbobbbhgdfapjaaGreatZB15
import Derived.Test.YtbobbbhgdfapjaaGreatZB16
import Derived.Test.YtbobbbhgdfapjaaGreatZB17
import Derived.Test.YtbobbbhgdfapjaaGreatZB18
import Derived.Test.YtbobbbhgdfapjaaGreatZB19
import Derived.Test.YtbobbbhgdfapjaaGreatZB20
import Derived.Test.YtbobbbhgdfapjaaGreatZBikst1
import Derived.Test.YtbobbbhgdfapjaaGreatZB21
import Derived.Test.YtbobbbhgdfapjaaGreatZBcis1
import Derived.Test.YtbobbbhgdfapjaaGreatZBnk1
import Derived.Test.YtbobbbhgdfapjaaGreatZB22
import Derived.Test.YtbobbbhgdfapjaaGreatZB23
import Derived.Test.YtbobbbhgdfapjaaGreatZBcs1
import Derived.Test.YtbobbbhgdfapjaaGreatZB24
import Derived.Test.YtbobbbhgdfapjaaGreatZB25
import Derived.Test.YtbobbbhgdfapjaaGreatZBncv1
import Derived.Test.YtbobbbhgdfapjaaGreatZBhs1
set_option linter.unusedSimpArgs false
set_option linter.unusedVariables false
namespace Go.Proofs.YtbobbbhgdfapjaaGreat
set_option maxHeartbeats 8000000
set_option maxRecDepth 100000
open Go.RowKit Tk
/-! ### always -/
def alw (x : Ex) (v : Bool) : Bool := (constR x).2 && ((constR x).1 == v)
theorem alw_of_bare {u x : Ex} (h : u.bare = x.bare) (v : Bool) : alw u v = alw x v := by unfold alw; rw [← constR_bare u, h, constR_bare]
theorem qalways_any {x : Ex} {w : World} (hok : x.ok w) (hs : x.small) (hz : x.sz ≤ 1000000000000) (v : Bool) : Calls Tryz.prog 94 #[.agg (exC x).toArray, .bool v] w (BPost (alw x v) w) := by
 unfold alw
 obtain ⟨c, hc⟩ : ∃ c, constR x = c := ⟨_, rfl⟩
 have HC := Lib.hid hc
 rw [hc]
 clear hc
 obtain ⟨a, ok⟩ := c
 cases ok <;> cases a <;> cases v
 all_goals
  go_enter Tryz.func94, Tryz.ntmps94
  have E := Only.refl [] w
  go_upto_region 9999 with (first | ((first | ((with_reducible refine at_dst 9 ?_); go_simp; (have hc := qconstant_any (hok.ext E.low) hs hz); (first | with_reducible refine hc.mono ?_ | refine hc.mono ?_); clear hc; unfold BBPost; rw [HC.out]; rintro e wn ⟨rfl, hx⟩) | ((with_reducible refine at_dst 2 ?_); go_simp; (generalize hXn : Array.size (World.heap _) = X2); refine new_block hXn ?_; intro wn bb hx; have b2 := Loc.new bb E hXn; have zz := Nat.le_trans E.size (Nat.le_of_eq hXn); clear bb hXn)); (try replace E := E.ext hx); (try replace b2 := b2.ext hx); (try replace hcE := bcell E.low); (try replace c2 := b2.cf)) | ((with_reducible refine at_dst 8 ?_); (refine wp_all b2.blk rfl rfl ?_ ?_ ?_); (· kernel_rfl); (· kernel_rfl)))
  go_ret
  exact ⟨rfl, E.low⟩
open Go.RowKit Tk
/-- the rules, as the reference asks for them -/
def simQ (x y : Ex) (yes dom : Bool) : Option Ex :=
 if alw x yes = true then some y
 else if alw y yes = true then some x
 else if dom = true then (if alw x (!yes) = true then some x else if alw y (!yes) = true then some y else if equalB x y = true then some x else none)
 else (if alw x (!yes) = true then some (negX y) else if alw y (!yes) = true then some (negX x) else none)
theorem simS_q (op : Int) (x y : Ex) : simS op x y = simQ x y (yesB op) (domB op) := by
 unfold simS simQ alw simT domS
 obtain ⟨a, fixed⟩ := constR x
 obtain ⟨b, firm⟩ := constR y
 cases fixed <;> cases a <;> cases firm <;> cases b <;> cases yesB op <;> cases domB op <;> rfl
theorem equalB_few {x y : Ex} (hx : chk x 1 = 0) (hy : chk y 1 = 0) (hn : (names2 x y).length ≤ 16) : equalB x y = eqQ x y := by
 unfold equalB equalR eqV eqQ
 rw [if_neg (by simpa using hx), if_neg (by simpa using hy), if_neg (by omega)]
 simp
theorem eqQ_of_bare {u v x y : Ex} (h : u.bare = x.bare) (k : v.bare = y.bare) : eqQ u v = eqQ x y := by
 unfold eqQ
 rw [← names2_bare u v, ← names2_bare x y, ← rowV_bare _ u, ← rowV_bare _ v, ← rowV_bare _ x, ← rowV_bare _ y, h, k]
theorem names2_of_bare {u v x y : Ex} (h : u.bare = x.bare) (k : v.bare = y.bare) : names2 u v = names2 x y := by rw [← names2_bare u v, h, k, names2_bare]
theorem qalways_of {u x : Ex} {w : World} (hu : u.ok w) (hub : u.bare = x.bare) (hg : x.good) (hz : x.sz ≤ 100000000000) (v : Bool) : Calls Tryz.prog 94 #[.agg (exC u).toArray, .bool v] w (BPost (alw x v) w) := by
 have hgu := good_of_bare hub hg
 have := qalways_any hu (small_good u hgu) (by rw [sz_of_bare hub]; omega) v
 rwa [alw_of_bare hub] at this
theorem qequal_of {u v x y : Ex} {w : World} (hu : u.ok w) (hv : v.ok w) (hub : u.bare = x.bare) (hvb : v.bare = y.bare) (hg : x.good) (hgy : y.good) (hz : x.sz ≤ 100000000000) (hzy : y.sz ≤ 100000000000) (hn : (names2 x y).length ≤ 16) :
    Calls Tryz.prog 64 #[.agg (exC u).toArray, .agg (exC v).toArray] w (BPost (eqQ x y) w) := by
 have hgu := good_of_bare hub hg
 have hgv := good_of_bare hvb hgy
 have := qequalq_any hu hv (wf_good u hgu) (wf_good v hgv) (by rw [sz_of_bare hub]; exact hz) (by rw [sz_of_bare hvb]; exact hzy) (by rw [names2_of_bare hub hvb]; exact hn)
 rwa [eqQ_of_bare hub hvb] at this
@[reducible] def SmpOk (N : Nat) : Prop := ∀ (x : Ex) {w : World}, x.ok w → x.good → levE x ≤ 12 → (namesS x).length ≤ 16 → x.sz < N → x.sz ≤ 100000000000 → Calls Tryz.prog 66 #[.agg (exC x).toArray] w (UPost x (simE x) w)
theorem kids_at {u : Ex} {w : World} {g : Addr} (h : u.ok w) (hg : u.h.hk.a = some g) : RRow w 10 exC (.slice (some g) u.kids.length u.h.hk.c) u.kids := hg ▸ h.kids
theorem op_of_bare {u x : Ex} (h : u.bare = x.bare) : u.h.op = x.h.op := by
 rw [Ex.bare_eq, Ex.bare_eq] at h
 injection h with h1 h2
 have e := congrArg ExH.op h1
 exact e
theorem kid_of_bare {u x d : Ex} (h : u.bare = x.bare) (hk : x.kids = [d]) : ∃ c, u.kids = [c] ∧ c.bare = d.bare := by
 rw [Ex.bare_eq, Ex.bare_eq, hk] at h
 injection h with h1 h2
 have hl : u.kids.length = 1 := by have := congrArg List.length h2; simpa using this
 match hq : u.kids, hl with
 | [c], _ =>
   rw [hq, List.map_cons, List.map_cons] at h2
   injection h2 with h3 h4
   exact ⟨c, rfl, h3⟩
theorem qsmp_name (x : Ex) {w : World} (hxo : x.ok w) (hg : x.good) (h1 : x.h.op = 1) : Calls Tryz.prog 66 #[.agg (exC x).toArray] w (UPost x (simE x) w) := by
 rw [simE_name hg h1]
 obtain ⟨s1, s2⟩ := kd_t h1
 have HOP := Lib.hid h1
 clear h1
 go_enter Tryz.func66, Tryz.ntmps66
 have E := Only.refl [] w
 go_upto_region 9999 with (first | ((first | ((with_reducible refine at_store 2 ?_); have bo := b2; refine wp_put bo rfl rfl ?_ ?_ ?_ ?_; (· kernel_rfl); (· first | rfl | kernel_rfl); (· first | decide | exact Nat.le_refl _ | simp [Act.eval, Value.cells] | (simp [Act.eval, Act.put, Value.cells]; done)); intro wn bn hb; dsimp only [Act.put]; simp only [putA, Act.eval, Value.cells, Nat.reduceAdd, putL, exC_size] at bn; have E2 := E.put bo hb; (try replace b1 := b1.but hb (by assumption)); (first | (replace hu := hu.but hb bo.blk (of_decide_eq_true rfl)) | (replace hu := hu.but0 hb (by assumption)) | skip); clear E bo; have E := E2; clear E2; clear b2; have b2 := bn; clear bn hb) | ((first | ((with_reducible refine at_dst 1 ?_); go_simp; (generalize hXn : Array.size (World.heap _) = X1); refine new_block hXn ?_; intro wn bb hx; have b1 := Loc.new bb E hXn) | ((with_reducible refine at_dst 2 ?_); go_simp; (generalize hXn : Array.size (World.heap _) = X2); refine new_block hXn ?_; intro wn bb hx; have b2 := Loc.new bb E hXn)); (try have ⟨nn, nm⟩ := b1.ne hXn); have zz := Nat.le_trans E.size (Nat.le_of_eq hXn); clear bb hXn)); (try replace E := E.ext hx); (try replace b1 := b1.ext hx); (try replace hcE := bcell E.low); (try replace c1 := b1.cf); (try replace c2 := b2.cf)) | ((with_reducible refine at_dst 9 ?_); (refine wp_all b1.blk rfl rfl ?_ ?_ ?_); (· kernel_rfl); (· kernel_rfl)))
 refine bodyPost_ret (v := .agg (exC x).toArray) (by simp [results, Tryz.f66, go_sem, c2]; rfl) rfl ⟨x, rfl, hxo.ext E.low, rfl, fun _ _ h => h, E.low⟩
theorem qsmp_not1 {N : Nat} (IH : Hid (SmpOk N)) (x a A d : Ex) {w : World} (hxo : x.ok w) (h2 : x.h.op = 2) (hka : x.kids = [a]) (hga : a.good) (hla : levE a ≤ 12) (hna : (namesS a).length ≤ 16) (hz : x.sz < N + 1) (hz0 : x.sz ≤ 100000000000)
    (HA : Hid (simE a = A)) (HQ : Hid (A.h.op = 2)) (HD : Hid (A.kids = [d])) :
    Calls Tryz.prog 66 #[.agg (exC x).toArray] w (UPost x d w) := by
 rw [Ex.sz_kids, hka, Ex.szs, Ex.szs] at hz hz0
 have n2 := (RRow.lens hxo.kids).2
 have ham : a ∈ x.kids := by rw [hka]; simp
 have hao := hxo.subs.mem ham
 have has : a.sz < N := by omega
 have haz : a.sz ≤ 100000000000 := by omega
 have hlt : 0 < x.kids.length := by rw [hka]; exact Nat.one_pos
 obtain ⟨g, o, hgo, hgs, -⟩ := RRow.cells hxo.kids hlt
 have hkc : RRow w 10 exC (.slice (some ⟨g, o, none⟩) x.kids.length x.h.hk.c) x.kids := hgo ▸ hxo.kids
 have H0 : Hid (x.kids[0]? = some a) := Lib.hid (by rw [hka]; rfl)
 have HKA := Lib.hid hka
 have HAM := Lib.hid ham
 have HOP := Lib.hid h2
 obtain ⟨s1, s2⟩ := kd_f (show ¬ x.h.op = 1 by omega)
 obtain ⟨s3, s4⟩ := kd_t h2
 clear hka ham h2
 go_enter Tryz.func66, Tryz.ntmps66
 have E := Only.refl [] w
 go_upto_region 9999 with (first | ((first | ((with_reducible refine at_dst 14 ?_); go_simp; (have hc := IH.out a (hao.ext E.low) hga hla hna has haz); (first | with_reducible refine hc.mono ?_ | refine hc.mono ?_); clear hc; unfold UPost; rw [HA.out]; rintro e wn ⟨u, rfl, hu, hub, hua, hx⟩; have mhu_2 := hua X2 b2.lt (hao.notin (b2.may.resolve_left List.not_mem_nil)); replace hua := (fun X (hX : X < w.heap.size) ha => hua X (lt_ge hX E.size) ha); obtain ⟨q1, q2⟩ := kd_t ((op_of_bare hub).trans HQ.out); obtain ⟨c, hkc2, hcb⟩ := kid_of_bare hub HD.out; have HKC := Lib.hid hkc2; have hlu : 0 < u.kids.length := (by rw [hkc2]; exact Nat.one_pos); have HCM : Hid (c ∈ u.kids) := Lib.hid (by rw [hkc2]; exact .head _); have HU0 : Hid (u.kids[0]? = some c) := Lib.hid (by rw [hkc2]; rfl); have nu := (RRow.lens hu.kids).2; obtain ⟨gu, ou, hgu, -, -⟩ := RRow.cells hu.kids hlu; clear hkc2) | ((first | ((with_reducible refine at_store 2 ?_); have bo := b2; refine wp_put bo rfl rfl ?_ ?_ ?_ ?_) | ((with_reducible refine at_store 3 ?_); have bo := b3; refine wp_put bo rfl rfl ?_ ?_ ?_ ?_)); (· kernel_rfl); (· first | rfl | kernel_rfl); (· first | decide | exact Nat.le_refl _ | simp [Act.eval, Value.cells] | (simp [Act.eval, Act.put, Value.cells]; done)); intro wn bn hb; dsimp only [Act.put]; simp only [putA, Act.eval, Value.cells, Nat.reduceAdd, putL, exC_size] at bn; have E2 := E.put bo hb; (try replace b1 := b1.but hb (by assumption)); (try replace b3 := b3.but hb (by assumption)); (try replace b2 := b2.but hb (by assumption)); (first | (replace hu := hu.but hb bo.blk (of_decide_eq_true rfl)) | (replace hu := hu.but0 hb (by assumption)) | skip); clear E bo; have E := E2; clear E2; (try replace b2 := b2.re bn); (try replace b3 := b3.re bn); clear bn hb) | ((first | ((with_reducible refine at_dst 1 ?_); go_simp; (generalize hXn : Array.size (World.heap _) = X1); refine new_block hXn ?_; intro wn bb hx; have b1 := Loc.new bb E hXn) | ((with_reducible refine at_dst 2 ?_); go_simp; (generalize hXn : Array.size (World.heap _) = X2); refine new_block hXn ?_; intro wn bb hx; have b2 := Loc.new bb E hXn) | ((with_reducible refine at_dst 3 ?_); go_simp; (generalize hXn : Array.size (World.heap _) = X3); refine new_block hXn ?_; intro wn bb hx; have b3 := Loc.new bb E hXn)); (try have ⟨nn, nm⟩ := b1.ne hXn); (try have ⟨nn, nm⟩ := b2.ne hXn); have zz := Nat.le_trans E.size (Nat.le_of_eq hXn); (try have mm := hu.notin (Nat.le_of_eq hXn)); clear bb hXn)); (try replace E := E.ext hx); (try replace b1 := b1.ext hx); (try replace b2 := b2.ext hx); (try replace hu := hu.ext hx); (try replace hcE := bcell E.low); (try replace c1 := b1.cf); (try replace c2 := b2.cf); (try replace c3 := b3.cf)) | ((with_reducible refine at_dst 13 ?_); (refine wp_rec2 ((RRow.ext hkc E.low)) (H0.out) exC_len rfl rfl ?_ ?_ ?_); (· kernel_rfl); (· kernel_rfl)) | ((with_reducible refine at_dst 24 ?_); (refine wp_rec2 ((kids_at hu hgu)) (HU0.out) exC_len rfl rfl ?_ ?_ ?_); (· kernel_rfl); (· kernel_rfl)))
 refine bodyPost_ret (v := .agg (exC c).toArray) (by simp [results, Tryz.f66, go_sem, c2]; rfl) rfl ⟨c, rfl, hu.subs.mem HCM.out, hcb, fun X hX h => (hua X hX (h.kid HAM.out)).kid HCM.out, E.low⟩
theorem qsmp_not2 {N : Nat} (IH : Hid (SmpOk N)) (x a A : Ex) {w : World} (hxo : x.ok w) (h2 : x.h.op = 2) (hka : x.kids = [a]) (hga : a.good) (hla : levE a ≤ 12) (hna : (namesS a).length ≤ 16) (hz : x.sz < N + 1) (hz0 : x.sz ≤ 100000000000)
    (HA : Hid (simE a = A)) (HQ : Hid (¬ A.h.op = 2)) :
    Calls Tryz.prog 66 #[.agg (exC x).toArray] w (UPost x (opX 2 [A]) w) := by
 rw [Ex.sz_kids, hka, Ex.szs, Ex.szs] at hz hz0
 have n2 := (RRow.lens hxo.kids).2
 have ham : a ∈ x.kids := by rw [hka]; simp
 have hao := hxo.subs.mem ham
 have has : a.sz < N := by omega
 have haz : a.sz ≤ 100000000000 := by omega
 have hlt : 0 < x.kids.length := by rw [hka]; exact Nat.one_pos
 obtain ⟨g, o, hgo, hgs, -⟩ := RRow.cells hxo.kids hlt
 have hkc : RRow w 10 exC (.slice (some ⟨g, o, none⟩) x.kids.length x.h.hk.c) x.kids := hgo ▸ hxo.kids
 have H0 : Hid (x.kids[0]? = some a) := Lib.hid (by rw [hka]; rfl)
 have HKA := Lib.hid hka
 have HAM := Lib.hid ham
 have HOP := Lib.hid h2
 obtain ⟨s1, s2⟩ := kd_f (show ¬ x.h.op = 1 by omega)
 obtain ⟨s3, s4⟩ := kd_t h2
 have hop2 : x.h.op = 2 := h2
 clear hka ham h2
 go_enter Tryz.func66, Tryz.ntmps66
 have E := Only.refl [] w
 go_upto_region 9999 with (first | ((first | ((with_reducible refine at_dst 14 ?_); go_simp; (have hc := IH.out a (hao.ext E.low) hga hla hna has haz); (first | with_reducible refine hc.mono ?_ | refine hc.mono ?_); clear hc; unfold UPost; rw [HA.out]; rintro e wn ⟨u, rfl, hu, hub, hua, hx⟩; have mhu_2 := hua X2 b2.lt (hao.notin (b2.may.resolve_left List.not_mem_nil)); replace hua := (fun X (hX : X < w.heap.size) ha => hua X (lt_ge hX E.size) ha); obtain ⟨q1, q2⟩ := kd_f (fun h => HQ.out ((op_of_bare hub).symm.trans h))) | ((with_reducible refine at_dst 28 ?_); (refine wp_rows2 1 (exC u).toArray 28 ?_ ?_); (· kernel_rfl); intro X28 wn hX28 bb hx; (try have ⟨n1_28, n28_1⟩ := b1.ne hX28); (try have ⟨n2_28, n28_2⟩ := b2.ne hX28); (try have ⟨n3_28, n28_3⟩ := b3.ne hX28); (try have z28 := Nat.le_trans E.size (Nat.le_of_eq hX28)); (try have mhu_28 := hu.notin (Nat.le_of_eq hX28)); have b28 := Loc.new bb E hX28; clear bb hX28) | ((first | ((with_reducible refine at_store 2 ?_); have bo := b2; refine wp_put bo rfl rfl ?_ ?_ ?_ ?_) | ((with_reducible refine at_store 3 ?_); have bo := b3; refine wp_put bo rfl rfl ?_ ?_ ?_ ?_)); (· kernel_rfl); (· first | rfl | kernel_rfl); (· first | decide | exact Nat.le_refl _ | simp [Act.eval, Value.cells] | (simp [Act.eval, Act.put, Value.cells]; done)); intro wn bn hb; dsimp only [Act.put]; simp only [putA, Act.eval, Value.cells, Nat.reduceAdd, putL, exC_size] at bn; have E2 := E.put bo hb; (try replace b1 := b1.but hb (by assumption)); (try replace b3 := b3.but hb (by assumption)); (try replace b28 := b28.but hb (by assumption)); (try replace b2 := b2.but hb (by assumption)); (first | (replace hu := hu.but hb bo.blk (of_decide_eq_true rfl)) | (replace hu := hu.but0 hb (by assumption)) | skip); clear E bo; have E := E2; clear E2; (try replace b2 := b2.re bn); (try replace b3 := b3.re bn); clear bn hb) | ((first | ((with_reducible refine at_dst 1 ?_); go_simp; (generalize hXn : Array.size (World.heap _) = X1); refine new_block hXn ?_; intro wn bb hx; have b1 := Loc.new bb E hXn) | ((with_reducible refine at_dst 2 ?_); go_simp; (generalize hXn : Array.size (World.heap _) = X2); refine new_block hXn ?_; intro wn bb hx; have b2 := Loc.new bb E hXn) | ((with_reducible refine at_dst 3 ?_); go_simp; (generalize hXn : Array.size (World.heap _) = X3); refine new_block hXn ?_; intro wn bb hx; have b3 := Loc.new bb E hXn)); (try have ⟨nn, nm⟩ := b1.ne hXn); (try have ⟨nn, nm⟩ := b2.ne hXn); have zz := Nat.le_trans E.size (Nat.le_of_eq hXn); (try have mm := hu.notin (Nat.le_of_eq hXn)); clear bb hXn)); (try replace E := E.ext hx); (try replace b1 := b1.ext hx); (try replace b2 := b2.ext hx); (try replace b3 := b3.ext hx); (try replace hu := hu.ext hx); (try replace hcE := bcell E.low); (try replace c1 := b1.cf); (try replace c2 := b2.cf); (try replace c3 := b3.cf); (try replace c28 := b28.cf)) | ((with_reducible refine at_dst 13 ?_); (refine wp_rec2 ((RRow.ext hkc E.low)) (H0.out) exC_len rfl rfl ?_ ?_ ?_); (· kernel_rfl); (· kernel_rfl)) | ((with_reducible refine at_dst 27 ?_); (refine wp_all b3.blk rfl rfl ?_ ?_ ?_); (· kernel_rfl); (· kernel_rfl)))
 refine bodyPost_ret (v := .agg (exC (nodeX 2 (some ⟨X28, 0, none⟩) 1 [u])).toArray) (by simp [results, Tryz.f66, go_sem, c2]; first | rfl | (rw [HOP.out]; rfl)) rfl ⟨_, rfl, nodeX_ok (RRow.blk (xs := [u]) exC_len b28.blk (by simp) (show 1 ≤ maxLen by decide)) (oks1 hu), ?_, fun X hX h => nodeX_away (op := 0) ?_ (aways1 (hua X hX (h.kid HAM.out))), E.low⟩
 · rw [nodeX_bare, List.map_cons, List.map_nil, hub, opX_bare, Ex.bares, Ex.bares]
 · have := b28.may.resolve_left List.not_mem_nil; omega
theorem qsmp_not {N : Nat} (IH : Hid (SmpOk N)) (x : Ex) {w : World} (hxo : x.ok w) (hg : x.good) (hl : levE x ≤ 12) (hn : (namesS x).length ≤ 16) (hz : x.sz < N + 1) (hz0 : x.sz ≤ 100000000000) (h2 : x.h.op = 2) : Calls Tryz.prog 66 #[.agg (exC x).toArray] w (UPost x (simE x) w) := by
 obtain ⟨a, hka, hga⟩ := kids1 hg h2
 rw [simE_not hka]
 have hla : levE a ≤ 12 := by rw [lev_eq, hka, levs, levs] at hl; omega
 have hna : (namesS a).length ≤ 16 := Nat.le_trans (names_fewer fun n hn => names_mem (by rw [hka]; simp) hn) hn
 have hsg := good_simE hga
 unfold negX
 by_cases hq : (simE a).h.op = 2
 · obtain ⟨d, hd, -⟩ := kids1 hsg hq
   rw [if_pos ⟨hq, by rw [hd]; rfl⟩, hd]
   exact qsmp_not1 IH x a (simE a) d hxo h2 hka hga hla hna hz hz0 (Lib.hid rfl) (Lib.hid hq) (Lib.hid hd)
 · rw [if_neg (fun h => hq h.1)]
   exact qsmp_not2 IH x a (simE a) hxo h2 hka hga hla hna hz hz0 (Lib.hid rfl) (Lib.hid hq)
end Go.Proofs.YtbobbbhgdfapjaaGreat
