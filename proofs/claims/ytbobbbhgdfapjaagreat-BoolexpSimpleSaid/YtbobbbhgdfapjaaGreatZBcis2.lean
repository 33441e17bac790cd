/- M1 -/
import Derived.Test.YtbobbbhgdfapjaaGreatZB1
import Derived.Test.YtbobbbhgdfapjaaGreatZB2
import Derived.Test.YtbobbbhgdfapjaaGreatZB3
import Derived.Test.YtbobbbhgdfapjaaGreatZB4
import Derived.Test.YtbobbbhgdfapjaaGreatZBnkt1
import Derived.Test.YtbobbbhgdfapjaaGreatZB5
import Derived.Test.YtbobbbhgdfapjaaGreatZB6
import Derived.Test.YtbobbbhgdfapjaaGreatZB7
import Derived.Test.YtbobbbhgdfapjaaGreatZB8
import Derived.Test.YtbobbbhgdfapjaaGreatZB9
import Derived.Test.YtbobbbhgdfapjaaGreatZB10
import Derived.Test.YtbobbbhgdfapjaaGreatZB11
import Derived.Test.YtbobbbhgdfapjaaGreatZB12
import Derived.Test.YtbobbbhgdfapjaaGreatZB13
import Derived.Test.YtbobbbhgdfapjaaGreatZB14
import Derived.Test.YtbobbbhgdfapjaaGreatZB15
import Derived.Test.YtbobbbhgdfapjaaGreatZB16
import Derived.Test.YtbobbbhgdfapjaaGreatZB17
import Derived.Test.YtbobbbhgdfapjaaGreatZB18
import Derived.Test.YtbobbbhgdfapjaaGreatZB19
import Derived.Test.YtbobbbhgdfapjaaGreatZB20
import Derived.Test.YtbobbbhgdfapjaaGreatZB21
import Derived.Test.YtbobbbhgdfapjaaGreatZBcis1
import Derived.Test.YtbobbbhgdfapjaaGreatZBnk1
import Derived.Test.YtbobbbhgdfapjaaGreatZB22
import Derived.Test.YtbobbbhgdfapjaaGreatZB23
import Derived.Test.YtbobbbhgdfapjaaGreatZB24
import Derived.Test.YtbobbbhgdfapjaaGreatZB25
import Derived.Test.YtbobbbhgdfapjaaGreatZB26
import Derived.Test.YtbobbbhgdfapjaaGreatZB27
import Derived.Test.YtbobbbhgdfapjaaGreatZB28
import Derived.Test.YtbobbbhgdfapjaaGreatZB29
import Derived.Test.YtbobbbhgdfapjaaGreatZB30
import Derived.Test.YtbobbbhgdfapjaaGreatZB31
import Derived.Test.YtbobbbhgdfapjaaGreatZB32
set_option linter.unusedSimpArgs false
set_option linter.unusedVariables false
namespace Go.Proofs.YtbobbbhgdfapjaaGreat
set_option maxHeartbeats 8000000
set_option maxRecDepth 100000
open Go.RowKit Tk
def midB (n : Nat) : Bool := decide (8 < n) && decide (n ≤ 16)
def manyB (a b : Ex) : Bool := midB (namesR (opX 3 [a, b])).length || (midB (namesR a).length || midB (namesR b).length)
theorem smallK {a b : Ex} (ha : a.small) (hb : b.small) : (opX 3 [a, b]).small := by
 unfold opX Ex.small
 refine ⟨fun n hn => (by cases hn), ?_⟩
 unfold Ex.smalls
 exact ⟨ha, by unfold Ex.smalls; exact ⟨hb, by unfold Ex.smalls; trivial⟩⟩
mutual
theorem small_bare : ∀ x : Ex, x.bare.small ↔ x.small
 | .mk h k => by
   rw [Ex.bare]
   unfold Ex.small
   rw [smalls_bare k]
theorem smalls_bare : ∀ k : List Ex, Ex.smalls (Ex.bares k) ↔ Ex.smalls k
 | [] => by rw [Ex.bares]
 | e :: r => by
   rw [Ex.bares]
   unfold Ex.smalls
   rw [small_bare e, smalls_bare r]
end
theorem lnode22 {X : Nat} {a b : Ex} {w : World} (hb : Blk w X 28 ([a, b].flatMap exC).toArray) (ha : a.ok w) (hbo : b.ok w) : Calls Tryz.prog 39 #[.int .i64 3, .slice (some ⟨X, 0, none⟩) 2 2] w (fun e w' => ∃ t, e = .returned (.agg (exC t).toArray) ∧ t.ok w' ∧ t.bare = (opX 3 [a, b]).bare ∧ Ext w w') := by
 refine (lnode2 3 rfl hb ha hbo).mono fun e w' he => ?_
 obtain ⟨t, h1, h2, h3, h4⟩ := he
 exact ⟨t, h1, h2, by rw [h3, opX_bare, Ex.bares, Ex.bares, Ex.bares], h4⟩
theorem qnames_at {u x : Ex} {w : World} (hu : u.ok w) (hub : u.bare = x.bare) (hs : x.small) (hz : x.sz ≤ 1000000000000) : Calls Tryz.prog 16 #[.agg (exC u).toArray] w (RPost w (namesR x)) := by
 have h := qnames_any hu ((small_bare u).1 (hub ▸ (small_bare x).2 hs)) (by rw [sz_of_bare hub]; exact hz)
 rwa [namesR_of_bare hub] at h
theorem many_any {a b : Ex} {w : World} (ha : a.ok w) (hbo : b.ok w) (hsa : a.small) (hsb : b.small) (hza : a.sz ≤ 1000000000) (hzb : b.sz ≤ 1000000000) : Calls Tryz.prog 29 #[.agg (exC a).toArray, .agg (exC b).toArray] w (BPost (manyB a b) w) := by
 have hsk := smallK hsa hsb
 have hzk : (opX 3 [a, b]).sz ≤ 1000000000000 := by rw [sz_op2]; omega
 replace hza : a.sz ≤ 1000000000000 := by omega
 replace hzb : b.sz ≤ 1000000000000 := by omega
 unfold manyB
 obtain ⟨N, hN⟩ : ∃ l, namesR (opX 3 [a, b]) = l := ⟨_, rfl⟩
 obtain ⟨A, hA⟩ : ∃ l, namesR a = l := ⟨_, rfl⟩
 obtain ⟨B, hB⟩ : ∃ l, namesR b = l := ⟨_, rfl⟩
 have HN := Lib.hid hN
 have HA := Lib.hid hA
 have HB := Lib.hid hB
 rw [hN, hA, hB]
 clear hN hA hB
 have mid : ∀ n : Nat, (decide ((8 : Int) < (n : Int)) = false ∧ midB n = false) ∨ (decide ((8 : Int) < (n : Int)) = true ∧ decide ((n : Int) ≤ 16) = true ∧ midB n = true) ∨ ((decide ((8 : Int) < (n : Int)) = true ∧ decide ((n : Int) ≤ 16) = false) ∧ midB n = false) := fun n => by
  unfold midB
  rcases (show n ≤ 8 ∨ (8 < n ∧ n ≤ 16) ∨ 16 < n by omega) with h | h | h
  · exact .inl ⟨decide_eq_false (by omega), by simp; omega⟩
  · exact .inr (.inl ⟨decide_eq_true (by omega), decide_eq_true (by omega), by simp; omega⟩)
  · exact .inr (.inr ⟨⟨decide_eq_true (by omega), decide_eq_false (by omega)⟩, by simp; omega⟩)
 rcases mid N.length with ⟨h1, e1⟩ | ⟨h1, h2, e1⟩ | ⟨⟨h1, h2⟩, e1⟩
 rotate_left
 · rw [e1, Bool.true_or]
   clear e1 mid
   go_enter Tryz.func29, Tryz.ntmps29
   have E := Only.refl [] w
   go_upto_region 9999 with (first | ((first | ((with_reducible refine at_dst 8 ?_); (refine wp_rows2 2 ([a, b].flatMap exC).toArray 28 ?_ ?_); (· kernel_rfl); intro X8 wn hX8 bb hx; (try have ⟨n2_8, n8_2⟩ := b2.ne hX8); (try have ⟨n3_8, n8_3⟩ := b3.ne hX8); (try have z8 := Nat.le_trans E.size (Nat.le_of_eq hX8)); have b8 := Loc.new bb E hX8; clear bb hX8) | ((with_reducible refine at_dst 9 ?_); go_simp; (have hc := lnode22 b8.blk (ha.ext E.low) (hbo.ext E.low)); (first | with_reducible refine hc.mono ?_ | refine hc.mono ?_); clear hc; rintro e wn ⟨u, rfl, hu, hub, hx⟩) | ((with_reducible refine at_dst 10 ?_); go_simp; (have hc := qnames_at hu hub hsk hzk); (first | with_reducible refine hc.mono ?_ | refine hc.mono ?_); clear hc; unfold RPost; rw [HN.out]; rintro e wn ⟨a9, c9, rfl, r9, hx⟩; have n9 := r9.lens.2) | ((first | ((with_reducible refine at_dst 2 ?_); go_simp; (generalize hXn : Array.size (World.heap _) = X2); refine new_block hXn ?_; intro wn bb hx; have b2 := Loc.new bb E hXn) | ((with_reducible refine at_dst 3 ?_); go_simp; (generalize hXn : Array.size (World.heap _) = X3); refine new_block hXn ?_; intro wn bb hx; have b3 := Loc.new bb E hXn)); (try have ⟨nn, nm⟩ := b2.ne hXn); have zz := Nat.le_trans E.size (Nat.le_of_eq hXn); clear bb hXn)); (try replace E := E.ext hx); (try replace b2 := b2.ext hx); (try replace b3 := b3.ext hx); (try replace b8 := b8.ext hx); (try replace hu := hu.ext hx); (try replace hcE := bcell E.low); (try replace c2 := b2.cf); (try replace c3 := b3.cf); (try replace c8 := b8.cf)) | ((with_reducible refine at_dsts [6, 7] ?_ ?_); (· rfl); (refine wp_all (Loc.blk (by assumption)) rfl rfl ?_ ?_ ?_); (· kernel_rfl); (· kernel_rfl)))
   go_ret
   exact ⟨rfl, E.low⟩
 rotate_left
 all_goals
  rw [e1, Bool.false_or]
  rcases mid A.length with ⟨g1, f1⟩ | ⟨g1, g2, f1⟩ | ⟨⟨g1, g2⟩, f1⟩
  rotate_left
  · rw [f1, Bool.true_or]
    clear e1 mid
    go_enter Tryz.func29, Tryz.ntmps29
    have E := Only.refl [] w
    go_upto_region 9999 with (first | ((first | ((with_reducible refine at_dst 8 ?_); (refine wp_rows2 2 ([a, b].flatMap exC).toArray 28 ?_ ?_); (· kernel_rfl); intro X8 wn hX8 bb hx; (try have ⟨n2_8, n8_2⟩ := b2.ne hX8); (try have ⟨n3_8, n8_3⟩ := b3.ne hX8); (try have z8 := Nat.le_trans E.size (Nat.le_of_eq hX8)); have b8 := Loc.new bb E hX8; clear bb hX8) | ((with_reducible refine at_dst 9 ?_); go_simp; (have hc := lnode22 b8.blk (ha.ext E.low) (hbo.ext E.low)); (first | with_reducible refine hc.mono ?_ | refine hc.mono ?_); clear hc; rintro e wn ⟨u, rfl, hu, hub, hx⟩) | ((with_reducible refine at_dst 10 ?_); go_simp; (have hc := qnames_at hu hub hsk hzk); (first | with_reducible refine hc.mono ?_ | refine hc.mono ?_); clear hc; unfold RPost; rw [HN.out]; rintro e wn ⟨a9, c9, rfl, r9, hx⟩; have n9 := r9.lens.2) | ((first | ((with_reducible refine at_dst 2 ?_); go_simp; (generalize hXn : Array.size (World.heap _) = X2); refine new_block hXn ?_; intro wn bb hx; have b2 := Loc.new bb E hXn) | ((with_reducible refine at_dst 3 ?_); go_simp; (generalize hXn : Array.size (World.heap _) = X3); refine new_block hXn ?_; intro wn bb hx; have b3 := Loc.new bb E hXn)); (try have ⟨nn, nm⟩ := b2.ne hXn); have zz := Nat.le_trans E.size (Nat.le_of_eq hXn); clear bb hXn)); (try replace E := E.ext hx); (try replace b2 := b2.ext hx); (try replace b3 := b3.ext hx); (try replace b8 := b8.ext hx); (try replace hu := hu.ext hx); (try replace hcE := bcell E.low); (try replace c2 := b2.cf); (try replace c3 := b3.cf); (try replace c8 := b8.cf)) | ((with_reducible refine at_dsts [6, 7, 19, 24] ?_ ?_); (· rfl); (refine wp_all (Loc.blk (by assumption)) rfl rfl ?_ ?_ ?_); (· kernel_rfl); (· kernel_rfl)) | (go_at_call 16; (first | ((have hc := qnames_any (x := a) (ha.ext E.low) hsa hza); (first | with_reducible refine hc.mono ?_ | refine hc.mono ?_); clear hc; unfold RPost; rw [HA.out]) | ((have hc := qnames_any (x := b) (hbo.ext E.low) hsb hzb); (first | with_reducible refine hc.mono ?_ | refine hc.mono ?_); clear hc; unfold RPost; rw [HB.out])); rintro e9 wn ⟨a8, c8, rfl, r8, hx⟩; have n8 := r8.lens.2; (try replace E := E.ext hx); (try replace b2 := b2.ext hx); (try replace b3 := b3.ext hx); (try replace b8 := b8.ext hx); (try replace hu := hu.ext hx); (try replace hcE := bcell E.low); (try replace c2 := b2.cf); (try replace c3 := b3.cf); (try replace c8 := b8.cf)))
    go_ret
    exact ⟨rfl, E.low⟩
  rotate_left
  all_goals
   rw [f1, Bool.false_or]
   rcases mid B.length with ⟨k1, m1⟩ | ⟨k1, k2, m1⟩ | ⟨⟨k1, k2⟩, m1⟩
   all_goals
    rw [m1]
    clear e1 m1 mid
    go_enter Tryz.func29, Tryz.ntmps29
    have E := Only.refl [] w
    go_upto_region 9999 with (first | ((first | ((with_reducible refine at_dst 8 ?_); (refine wp_rows2 2 ([a, b].flatMap exC).toArray 28 ?_ ?_); (· kernel_rfl); intro X8 wn hX8 bb hx; (try have ⟨n2_8, n8_2⟩ := b2.ne hX8); (try have ⟨n3_8, n8_3⟩ := b3.ne hX8); (try have z8 := Nat.le_trans E.size (Nat.le_of_eq hX8)); have b8 := Loc.new bb E hX8; clear bb hX8) | ((with_reducible refine at_dst 9 ?_); go_simp; (have hc := lnode22 b8.blk (ha.ext E.low) (hbo.ext E.low)); (first | with_reducible refine hc.mono ?_ | refine hc.mono ?_); clear hc; rintro e wn ⟨u, rfl, hu, hub, hx⟩) | ((with_reducible refine at_dst 10 ?_); go_simp; (have hc := qnames_at hu hub hsk hzk); (first | with_reducible refine hc.mono ?_ | refine hc.mono ?_); clear hc; unfold RPost; rw [HN.out]; rintro e wn ⟨a9, c9, rfl, r9, hx⟩; have n9 := r9.lens.2) | ((first | ((with_reducible refine at_dst 2 ?_); go_simp; (generalize hXn : Array.size (World.heap _) = X2); refine new_block hXn ?_; intro wn bb hx; have b2 := Loc.new bb E hXn) | ((with_reducible refine at_dst 3 ?_); go_simp; (generalize hXn : Array.size (World.heap _) = X3); refine new_block hXn ?_; intro wn bb hx; have b3 := Loc.new bb E hXn)); (try have ⟨nn, nm⟩ := b2.ne hXn); have zz := Nat.le_trans E.size (Nat.le_of_eq hXn); clear bb hXn)); (try replace E := E.ext hx); (try replace b2 := b2.ext hx); (try replace b3 := b3.ext hx); (try replace b8 := b8.ext hx); (try replace hu := hu.ext hx); (try replace hcE := bcell E.low); (try replace c2 := b2.cf); (try replace c3 := b3.cf); (try replace c8 := b8.cf)) | ((with_reducible refine at_dsts [6, 7, 19, 24, 31, 36] ?_ ?_); (· rfl); (refine wp_all (Loc.blk (by assumption)) rfl rfl ?_ ?_ ?_); (· kernel_rfl); (· kernel_rfl)) | (go_at_call 16; (first | ((have hc := qnames_any (x := a) (ha.ext E.low) hsa hza); (first | with_reducible refine hc.mono ?_ | refine hc.mono ?_); clear hc; unfold RPost; rw [HA.out]) | ((have hc := qnames_any (x := b) (hbo.ext E.low) hsb hzb); (first | with_reducible refine hc.mono ?_ | refine hc.mono ?_); clear hc; unfold RPost; rw [HB.out])); rintro e9 wn ⟨a8, c8, rfl, r8, hx⟩; have n8 := r8.lens.2; (try replace E := E.ext hx); (try replace b2 := b2.ext hx); (try replace b3 := b3.ext hx); (try replace b8 := b8.ext hx); (try replace hu := hu.ext hx); (try replace hcE := bcell E.low); (try replace c2 := b2.cf); (try replace c3 := b3.cf); (try replace c8 := b8.cf)))
    go_ret
    exact ⟨rfl, E.low⟩
end Go.Proofs.YtbobbbhgdfapjaaGreat
