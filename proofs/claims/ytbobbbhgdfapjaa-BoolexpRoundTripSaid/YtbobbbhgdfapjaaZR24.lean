/- I8, I9, J1, I3, J2 -/
import Derived.Test.YtbobbbhgdfapjaaZR1
import Derived.Test.YtbobbbhgdfapjaaZR2
import Derived.Test.YtbobbbhgdfapjaaZR3
import Derived.Test.YtbobbbhgdfapjaaZR4
import Derived.Test.YtbobbbhgdfapjaaZR5
import Derived.Test.YtbobbbhgdfapjaaZR6
import Derived.Test.YtbobbbhgdfapjaaZR7
import Derived.Test.YtbobbbhgdfapjaaZR8
import Derived.Test.YtbobbbhgdfapjaaZR9
import Derived.Test.YtbobbbhgdfapjaaZR10
import Derived.Test.YtbobbbhgdfapjaaZR11
import Derived.Test.YtbobbbhgdfapjaaZR12
import Derived.Test.YtbobbbhgdfapjaaZR13
import Derived.Test.YtbobbbhgdfapjaaZR14
import Derived.Test.YtbobbbhgdfapjaaZR15
import Derived.Test.YtbobbbhgdfapjaaZR16
import Derived.Test.YtbobbbhgdfapjaaZR17
import Derived.Test.YtbobbbhgdfapjaaZR18
import Derived.Test.YtbobbbhgdfapjaaZR19
import Derived.Test.YtbobbbhgdfapjaaZR20
import Derived.Test.YtbobbbhgdfapjaaZR21
import Derived.Test.YtbobbbhgdfapjaaZR22
import Derived.Test.YtbobbbhgdfapjaaZR23
set_option linter.unusedSimpArgs false
set_option linter.unusedVariables false
namespace Go.Proofs.Ytbobbbhgdfapjaa
set_option maxHeartbeats 8000000
set_option maxRecDepth 100000
open Go.RowKit Tk
def maskN (n : Nat) : Nat := wd fun k => decide (k < 2 ^ n)
theorem mask_small : ∀ n : Fin 6, (maskN n.val : Int) = IntKind.u64.wrap (IntKind.u64.wrap (2 ^ min (IntKind.u64.wrap (2 ^ n.val)).toNat 64) - 1) := by decide +kernel
theorem mask_big : ∀ n : Fin 17, 6 ≤ n.val → maskN n.val = 18446744073709551615 := by decide +kernel
theorem big_iff : ∀ n : Fin 17, decide (64 ≤ wrap64 ((2 : Int) ^ n.val)) = decide (6 ≤ n.val) := by decide +kernel
theorem bused_any {n : Nat} (hn : n ≤ 16) (w : World) : Calls Try.prog 32 #[.int .i64 n] w (U64Post (maskN n : Nat) w) := by
 have hb := big_iff ⟨n, by omega⟩
 simp only at hb
 by_cases h6 : 6 ≤ n
 · rw [decide_eq_true h6, decide_eq_true_eq] at hb
   have hm := mask_big ⟨n, by omega⟩ h6
   simp only at hm
   rw [hm]
   go_enter Try.func32, Try.ntmps32
   have E := Only.refl [] w
   go_upto_region 9999 with (first | fail)
   go_ret
   exact ⟨rfl, E.low⟩
 · rw [decide_eq_false h6, decide_eq_false_iff_not] at hb
   have hm := mask_small ⟨n, by omega⟩
   simp only at hm
   rw [hm]
   have HM := Lib.hid hm
   clear hm
   go_enter Try.func32, Try.ntmps32
   have E := Only.refl [] w
   go_upto_region 9999 with (first | fail)
   go_ret
   exact ⟨rfl, E.low⟩
/-! ### Equal, plainly -/
def dW (F G : Nat → Bool) (n w : Nat) : Nat := wd fun k => (F (64 * w + k) != G (64 * w + k)) && decide (k < 2 ^ n)
theorem diff_word (F G : Nat → Bool) (n w : Nat) : bits .and .u64 (bits .xor .u64 (tw64 F w : Nat) (tw64 G w : Nat)) (maskN n : Nat) = (dW F G n w : Nat) := by
 have h1 := wd_xor (fun k => F (64 * w + k)) (fun k => G (64 * w + k))
 unfold wXor at h1
 have h2 := wd_and (fun k => F (64 * w + k) != G (64 * w + k)) (fun k => decide (k < 2 ^ n))
 unfold wAnd at h2
 unfold tw64 maskN dW
 rw [h1, h2]
theorem wd_zero {f : Nat → Bool} : wd f = 0 ↔ ∀ k, k < 64 → f k = false := by
 constructor
 · intro h k hk
   have := wd_bit f k
   rw [h, Nat.zero_testBit, decide_eq_true hk, Bool.true_and] at this
   exact this.symm
 · intro h
   refine Nat.eq_of_testBit_eq fun k => ?_
   rw [wd_bit, Nat.zero_testBit]
   by_cases hk : k < 64
   · rw [h k hk, Bool.and_false]
   · rw [decide_eq_false hk, Bool.false_and]
/-- the words from j on have no difference -/
def eqFrom (F G : Nat → Bool) (n len j : Nat) : Bool := (List.range len).all fun w => decide (w < j) || decide (dW F G n w = 0)
theorem eqFrom_end (F G : Nat → Bool) (n len : Nat) : eqFrom F G n len len = true := by
 unfold eqFrom
 rw [List.all_eq_true]
 intro w hw
 rw [decide_eq_true (List.mem_range.1 hw), Bool.true_or]
theorem eqFrom_hit {F G : Nat → Bool} {n len j : Nat} (hj : j < len) (h : ¬ dW F G n j = 0) : eqFrom F G n len j = false := by
 cases hq : eqFrom F G n len j with
 | false => rfl
 | true =>
   unfold eqFrom at hq
   have := List.all_eq_true.1 hq j (List.mem_range.2 hj)
   simp at this
   exact absurd this h
theorem eqFrom_miss {F G : Nat → Bool} {n len j : Nat} (h : dW F G n j = 0) : eqFrom F G n len j = eqFrom F G n len (j + 1) := by
 unfold eqFrom
 rw [Bool.eq_iff_iff, List.all_eq_true, List.all_eq_true]
 refine ⟨fun hh w hw => ?_, fun hh w hw => ?_⟩
 · have := hh w hw
   simp only [Bool.or_eq_true, decide_eq_true_eq] at this ⊢
   omega
 · have := hh w hw
   simp only [Bool.or_eq_true, decide_eq_true_eq] at this ⊢
   rcases this with h1 | h1
   · by_cases hwj : w = j
     · subst hwj; exact .inr h
     · exact .inl (by omega)
   · exact .inr h1
theorem len_rows : ∀ n : Fin 17, 6 ≤ n.val → 64 * lenT n.val = 2 ^ n.val := by decide +kernel
theorem len_one : ∀ n : Fin 17, n.val < 6 → lenT n.val = 1 ∧ 2 ^ n.val ≤ 64 := by decide +kernel
/-- two conditions have the same values in all rows -/
def eqRows (F G : Nat → Bool) (n : Nat) : Bool := (List.range (2 ^ n)).all fun r => F r == G r
theorem eq_rows {F G : Nat → Bool} {n : Nat} (hn : n ≤ 16) : eqFrom F G n (lenT n) 0 = eqRows F G n := by
 unfold eqFrom eqRows
 rw [Bool.eq_iff_iff, List.all_eq_true, List.all_eq_true]
 have hb := len_rows ⟨n, by omega⟩
 have hs := len_one ⟨n, by omega⟩
 simp only at hb hs
 constructor
 · intro h r hr
   have hr' := List.mem_range.1 hr
   have hw : r / 64 < lenT n := by
    rcases Nat.lt_or_ge n 6 with h6 | h6
    · have := hs h6; omega
    · have := hb h6; omega
   have := h (r / 64) (List.mem_range.2 hw)
   simp only [Nat.not_lt_zero, decide_false, Bool.false_or, decide_eq_true_eq] at this
   have hz := wd_zero.1 this (r % 64) (Nat.mod_lt _ (by decide))
   have hk : r % 64 < 2 ^ n := Nat.lt_of_le_of_lt (Nat.mod_le _ _) hr'
   rw [decide_eq_true hk, Bool.and_true, show 64 * (r / 64) + r % 64 = r from Nat.div_add_mod r 64] at hz
   simpa using hz
 · intro h w hw
   have hw' := List.mem_range.1 hw
   simp only [Nat.not_lt_zero, decide_false, Bool.false_or, decide_eq_true_eq]
   refine wd_zero.2 fun k hk => ?_
   by_cases hk2 : k < 2 ^ n
   · have hr : 64 * w + k < 2 ^ n := by
       rcases Nat.lt_or_ge n 6 with h6 | h6
       · have := hs h6
         have : w = 0 := by omega
         subst this; omega
       · have := hb h6; omega
     have := h (64 * w + k) (List.mem_range.2 hr)
     simp only [beq_iff_eq] at this
     rw [this]; simp
   · rw [decide_eq_false hk2, Bool.and_false]
open Go.RowKit Tk
def names2 (a b : Ex) : List ByteArray := gathN [] (namesE a ++ namesE b)
def eqV (a b : Ex) : Bool × Int := if 16 < (names2 a b).length then (false, 4) else (eqRows (rowV (names2 a b) a) (rowV (names2 a b) b) (names2 a b).length, 0)
def equalR (a b : Ex) : Bool × Int := if chk a 1 ≠ 0 then (false, chk a 1) else if chk b 1 ≠ 0 then (false, chk b 1) else eqV a b
theorem names2_l {a b : Ex} : ∀ n ∈ namesE a, n ∈ names2 a b := fun n hn => by unfold names2; rw [gath_mem]; simp [hn]
theorem names2_r {a b : Ex} : ∀ n ∈ namesE b, n ∈ names2 a b := fun n hn => by unfold names2; rw [gath_mem]; simp [hn]
theorem bequal_any {a b : Ex} {w : World} (ha : a.ok w) (hb : b.ok w) (hsa : a.small) (hsb : b.small) (hza : a.sz ≤ 100000000000) (hzb : b.sz ≤ 100000000000) :
    Calls Try.prog 14 #[.agg (exC a).toArray, .agg (exC b).toArray] w (BIPost (equalR a b) w) := by
 unfold equalR
 obtain ⟨va, hva⟩ : ∃ v, chk a 1 = v := ⟨_, rfl⟩
 have HCA := Lib.hid hva
 rw [hva]
 have hza0 := hza
 have hzb0 := hzb
 replace hza : a.sz ≤ 1000000000000 := by omega
 replace hzb : b.sz ≤ 1000000000000 := by omega
 by_cases h0 : va = 0
 · have hwa := chk_wf a 1 (hva.trans h0)
   subst h0
   clear hva
   rw [if_neg (by decide)]
   obtain ⟨vb, hvb⟩ : ∃ v, chk b 1 = v := ⟨_, rfl⟩
   have HCB := Lib.hid hvb
   rw [hvb]
   by_cases h1 : vb = 0
   · have hwb := chk_wf b 1 (hvb.trans h1)
     subst h1
     clear hvb
     rw [if_neg (by decide)]
     unfold eqV
     have hla : (namesE a).length ≤ 1000000000000 := Nat.le_trans (names_sz a hwa) hza
     have hlb : (namesE b).length ≤ b.sz := names_sz b hwb
     have hla9 : (namesE a).length ≤ a.sz := names_sz a hwa
     have hlab : (namesE a).length + (namesE b).length ≤ 1000000000000 := by omega
     obtain ⟨L2, hL2⟩ : ∃ L, namesE a ++ namesE b = L := ⟨_, rfl⟩
     have HL2 := Lib.hid hL2
     have hlab2 : L2.length ≤ 1000000000000 := by rw [← hL2, List.length_append]; exact hlab
     have hlab3 : (sortS L2).length ≤ 1000000000000 := by rw [sortS_len]; exact hlab2
     have HALA : Hid (∀ n ∈ namesE a, n ∈ names2 a b) := Lib.hid names2_l
     have HALB : Hid (∀ n ∈ namesE b, n ∈ names2 a b) := Lib.hid names2_r
     obtain ⟨M, hM⟩ : ∃ M, names2 a b = M := ⟨_, rfl⟩
     have HM : Hid (gathN [] L2 = M) := Lib.hid (by rw [← hL2]; exact hM)
     rw [hM] at HALA HALB ⊢
     clear hM hL2
     by_cases h16 : 16 < M.length
     · rw [if_pos h16]
       go_enter Try.func14, Try.ntmps14
       have E := Only.refl [] w
       go_upto_region 9999 with (first | ((first | ((with_reducible refine at_dst 14 ?_); go_simp; (have hc := bCheck_any (ha.ext E.low) hsa hza); (first | with_reducible refine hc.mono ?_ | refine hc.mono ?_); clear hc; unfold IPost; rw [HCA.out]; rintro e wn ⟨rfl, hx⟩) | ((with_reducible refine at_dst 19 ?_); go_simp; (have hc := bCheck_any (hb.ext E.low) hsb hzb); (first | with_reducible refine hc.mono ?_ | refine hc.mono ?_); clear hc; unfold IPost; rw [HCB.out]; rintro e wn ⟨rfl, hx⟩) | ((with_reducible refine at_dst 24 ?_); go_simp; (have hc := collect_nil ha E hla); ((with_reducible refine hc.mono ?_)); clear hc; unfold ColPost; rintro e wn ⟨a9, c9, rfl, r9, hx, -⟩; have hxo : Only [] _ wn := hx; replace b2 := b2.only hxo (List.not_mem_nil); replace b3 := b3.only hxo (List.not_mem_nil); replace E := E.trans hxo (fun b hb => by cases hb); clear hx) | ((with_reducible refine at_dst 26 ?_); go_simp; (have hc := collect_any (b.sz + 1) b hb E r9 (Nat.lt_succ_self _) hlab); (refine hc.mono ?_); clear hc; unfold ColPost; rw [HL2.out]; rintro e wn ⟨a8, c8, rfl, r8, hx, -⟩; replace b2 := b2.apart r9 hx (of_decide_eq_true rfl); replace b3 := b3.apart r9 hx (of_decide_eq_true rfl); replace E := E.trans hx (fun b hb => .inr (r9.new b hb)); clear hx hxo) | ((with_reducible refine at_dst 30 ?_); go_simp; (have hc := bcompact_any hr hlab3); ((with_reducible refine hc.mono ?_)); clear hc; rw [comp_sort, HM.out]; rintro e wn ⟨a7, c7, rfl, hr7, hg9⟩; have hxs : Only (ownB (.slice a8 L2.length c8)) _ wn := Only.of_grown hg9 (fun b hb => mem_ownB.2 hb); have ro : OwnR w _ 9 1 strC (.slice a8 L2.length c8) _ := ⟨hr.o, r8.new⟩; replace b2 := b2.apart ro hxs (of_decide_eq_true rfl); replace b3 := b3.apart ro hxs (of_decide_eq_true rfl); replace E := E.trans hxs (fun b hb => .inr (r8.new b hb)); clear hg9 hxs r8 hr ro) | ((with_reducible refine at_reg 7 ?_); (refine Pn.wp_region_o (id := 7) [] (fun _ _ _ => False) [0, 2, 3, 0, 0] [0, 2, 1, 3, 4] mixed ?_ ?_ ?_); (· decide +kernel); (· exact fun _ _ _ h => h.elim); intro K hK wn hx; dsimp only [pickL, List.getElem?_cons_succ, List.getElem?_cons_zero]) | ((first | ((with_reducible refine at_dst 2 ?_); go_simp; (generalize hXn : Array.size (World.heap _) = X2); refine new_block hXn ?_; intro wn bb hx; have b2 := Loc.new bb E hXn) | ((with_reducible refine at_dst 3 ?_); go_simp; (generalize hXn : Array.size (World.heap _) = X3); refine new_block hXn ?_; intro wn bb hx; have b3 := Loc.new bb E hXn)); (try have ⟨nn, nm⟩ := b2.ne hXn); have zz := Nat.le_trans E.size (Nat.le_of_eq hXn); clear bb hXn)); (try replace E := E.ext hx); (try replace b2 := b2.ext hx); (try replace b3 := b3.ext hx); (try replace hcE := bcell E.low); (try replace c2 := b2.cf); (try replace c3 := b3.cf)) | ((with_reducible refine at_dsts [13, 18, 23] ?_ ?_); (· rfl); (refine wp_all (Loc.blk (by assumption)) rfl rfl ?_ ?_ ?_); (· kernel_rfl); (· kernel_rfl)) | ((with_reducible refine at_dst 28 ?_); go_simp; (have hc := bsort_any (Row.of r8.row) hlab2); ((with_reducible refine hc.mono ?_)); clear hc; rintro e wn ⟨rfl, hr, hg9⟩; have hxs : Only (ownB (.slice a8 L2.length c8)) _ wn := Only.of_grown hg9 (fun b hb => mem_ownB.2 hb); replace b2 := b2.apart r8 hxs (of_decide_eq_true rfl); replace b3 := b3.apart r8 hxs (of_decide_eq_true rfl); replace E := E.trans hxs (fun b hb => .inr (r8.new b hb)); clear hg9 hxs) | ((with_reducible refine Pn.at_tag 0 ?_); (first | ((with_reducible refine Pn.wpTag_q ?_ ?_ ?_); rfl; rfl; intro _ _) | ((with_reducible refine Pn.wpTag_w ?_ ?_ ?_); rfl; rfl; intro _ _) | ((with_reducible refine Pn.wpTag_no ?_ ?_); (· first | rfl | (go_simp; done))) | ((with_reducible refine Pn.wpTag_s ?_ ?_); rfl; intro _ _; go_simp))) | ((with_reducible refine Pn.at_tag 2 ?_); (first | ((with_reducible refine Pn.wpTag_no ?_ ?_); (· first | rfl | (go_simp; done))) | (apply Pn.wpTag_2; (· rfl); (· first | rfl | go_simp); (· intro wq hq; (try replace c2 := (b2.only hq (List.not_mem_nil)).cf); (try replace c3 := (b3.only hq (List.not_mem_nil)).cf); go_simp <;> rfl); (try simp only [Act.put, actL])))) | ((with_reducible refine Pn.at_tag 3 ?_); (first | ((with_reducible refine Pn.wpTag_no ?_ ?_); (· first | rfl | (go_simp; done))) | ((refine Pn.wpTag_3 ?_ ?_ (fun K2 hK2 => ?_)); (· rfl); (· first | rfl | go_simp)))) | ((with_reducible refine at_ando ?_ ?_); (· first | exact Only.of_but hbk (by simp) | exact hxo | exact Only.of_below hx | exact Only.refl _ _)) | ((with_reducible refine Pn.at_tagn ?_); (with_reducible refine Pn.wpTag_nil ?_)))
       refine bodyPost_ret (v := .tuple #[.bool false, .int .i64 4]) (by simp [results, Try.f14, go_sem]) rfl ⟨rfl, E.low⟩
     · rw [if_neg h16]
       have hn16 : M.length ≤ 16 := by omega
       have hl := lenT_le hn16
       obtain ⟨len, hlen⟩ : ∃ len, lenT M.length = len := ⟨_, rfl⟩
       have HLEN := Lib.hid hlen
       obtain ⟨R, hR⟩ : ∃ R, eqRows (rowV M a) (rowV M b) M.length = R := ⟨_, rfl⟩
       rw [hR]
       rw [← eq_rows hn16, hlen] at hR
       have HR := Lib.hid hR
       rw [hlen] at hl
       obtain ⟨hl1, hl2⟩ := hl
       clear hR hlen
       go_enter Try.func14, Try.ntmps14
       have E := Only.refl [] w
       go_upto_region 14 with (first | ((first | ((with_reducible refine at_dst 14 ?_); go_simp; (have hc := bCheck_any (ha.ext E.low) hsa hza); (first | with_reducible refine hc.mono ?_ | refine hc.mono ?_); clear hc; unfold IPost; rw [HCA.out]; rintro e wn ⟨rfl, hx⟩) | ((with_reducible refine at_dst 19 ?_); go_simp; (have hc := bCheck_any (hb.ext E.low) hsb hzb); (first | with_reducible refine hc.mono ?_ | refine hc.mono ?_); clear hc; unfold IPost; rw [HCB.out]; rintro e wn ⟨rfl, hx⟩) | ((with_reducible refine at_dst 24 ?_); go_simp; (have hc := collect_nil ha E hla); ((with_reducible refine hc.mono ?_)); clear hc; unfold ColPost; rintro e wn ⟨a9, c9, rfl, r9, hx, -⟩; have hxo : Only [] _ wn := hx; replace b2 := b2.only hxo (List.not_mem_nil); replace b3 := b3.only hxo (List.not_mem_nil); replace E := E.trans hxo (fun b hb => by cases hb); clear hx) | ((with_reducible refine at_dst 26 ?_); go_simp; (have hc := collect_any (b.sz + 1) b hb E r9 (Nat.lt_succ_self _) hlab); (refine hc.mono ?_); clear hc; unfold ColPost; rw [HL2.out]; rintro e wn ⟨a8, c8, rfl, r8, hx, -⟩; replace b2 := b2.apart r9 hx (of_decide_eq_true rfl); replace b3 := b3.apart r9 hx (of_decide_eq_true rfl); replace E := E.trans hx (fun b hb => .inr (r9.new b hb)); clear hx hxo) | ((with_reducible refine at_dst 30 ?_); go_simp; (have hc := bcompact_any hr hlab3); ((with_reducible refine hc.mono ?_)); clear hc; rw [comp_sort, HM.out]; rintro e wn ⟨a7, c7, rfl, hr7, hg9⟩; have hxs : Only (ownB (.slice a8 L2.length c8)) _ wn := Only.of_grown hg9 (fun b hb => mem_ownB.2 hb); have ro : OwnR w _ 9 1 strC (.slice a8 L2.length c8) _ := ⟨hr.o, r8.new⟩; replace b2 := b2.apart ro hxs (of_decide_eq_true rfl); replace b3 := b3.apart ro hxs (of_decide_eq_true rfl); replace E := E.trans hxs (fun b hb => .inr (r8.new b hb)); clear hg9 hxs r8 hr ro) | ((with_reducible refine at_dst 36 ?_); go_simp; (have hc := btable_any (a.sz + 1) a hr7 (ha.ext E.low) hwa (Nat.lt_succ_self _) hn16 HALA.out); (refine hc.mono ?_); clear hc; unfold TabPost; rw [tabN_len, HLEN.out]; rintro e wn ⟨X36, rfl, r36, hx⟩; replace r36 := r36.back E.size) | ((with_reducible refine at_dst 39 ?_); go_simp; (have hc := btable_any (b.sz + 1) b hr7 (hb.ext E.low) hwb (Nat.lt_succ_self _) hn16 HALB.out); (refine hc.mono ?_); clear hc; unfold TabPost; rw [tabN_len, HLEN.out]; rintro e wn ⟨X39, rfl, r39, hx⟩; replace r39 := r39.back E.size) | ((with_reducible refine at_dst 42 ?_); go_simp; ((with_reducible refine (bused_any hn16 _).mono ?_)); unfold U64Post; rintro e wn ⟨rfl, hx⟩) | ((with_reducible refine at_reg 7 ?_); (refine Pn.wp_region_o (id := 7) [] (fun _ _ _ => False) [0, 2, 3, 0, 0] [0, 2, 1, 3, 4] mixed ?_ ?_ ?_); (· decide +kernel); (· exact fun _ _ _ h => h.elim); intro K hK wn hx; dsimp only [pickL, List.getElem?_cons_succ, List.getElem?_cons_zero]) | ((with_reducible refine at_reg 12 ?_); (refine wp_region_s (id := 12) [2, 0, 2, 0, 0, 2, 3, 3, 3, 0, 0, 0] [0, 1, 3, 4, 6, 7, 2, 5, 8, 9, 10, 11] mixed ?_ ?_); (· decide +kernel); intro K hK wn hx; dsimp only [pickL, List.getElem?_cons_succ, List.getElem?_cons_zero]) | ((first | ((with_reducible refine at_dst 2 ?_); go_simp; (generalize hXn : Array.size (World.heap _) = X2); refine new_block hXn ?_; intro wn bb hx; have b2 := Loc.new bb E hXn) | ((with_reducible refine at_dst 3 ?_); go_simp; (generalize hXn : Array.size (World.heap _) = X3); refine new_block hXn ?_; intro wn bb hx; have b3 := Loc.new bb E hXn)); (try have ⟨nn, nm⟩ := b2.ne hXn); have zz := Nat.le_trans E.size (Nat.le_of_eq hXn); clear bb hXn)); (try replace E := E.ext hx); (try replace b2 := b2.ext hx); (try replace b3 := b3.ext hx); (try replace hr7 := hr7.ext hx); (try replace r36 := r36.ext hx); (try replace r39 := r39.ext hx); (try replace hcE := bcell E.low); (try replace c2 := b2.cf); (try replace c3 := b3.cf)) | ((with_reducible refine at_dsts [13, 18, 23] ?_ ?_); (· rfl); (refine wp_all (Loc.blk (by assumption)) rfl rfl ?_ ?_ ?_); (· kernel_rfl); (· kernel_rfl)) | ((with_reducible refine at_dst 28 ?_); go_simp; (have hc := bsort_any (Row.of r8.row) hlab2); ((with_reducible refine hc.mono ?_)); clear hc; rintro e wn ⟨rfl, hr, hg9⟩; have hxs : Only (ownB (.slice a8 L2.length c8)) _ wn := Only.of_grown hg9 (fun b hb => mem_ownB.2 hb); replace b2 := b2.apart r8 hxs (of_decide_eq_true rfl); replace b3 := b3.apart r8 hxs (of_decide_eq_true rfl); replace E := E.trans hxs (fun b hb => .inr (r8.new b hb)); clear hg9 hxs) | ((with_reducible refine Pn.at_tag 0 ?_); (first | ((with_reducible refine Pn.wpTag_q ?_ ?_ ?_); rfl; rfl; intro _ _) | ((with_reducible refine Pn.wpTag_w ?_ ?_ ?_); rfl; rfl; intro _ _) | ((with_reducible refine Pn.wpTag_no ?_ ?_); (· first | rfl | (go_simp; done))) | ((with_reducible refine Pn.wpTag_s ?_ ?_); rfl; intro _ _; go_simp))) | ((with_reducible refine Pn.at_tag 2 ?_); (first | ((with_reducible refine Pn.wpTag_no ?_ ?_); (· first | rfl | (go_simp; done))) | (apply Pn.wpTag_2; (· rfl); (· first | rfl | go_simp); (· intro wq hq; (try replace c2 := (b2.only hq (List.not_mem_nil)).cf); (try replace c3 := (b3.only hq (List.not_mem_nil)).cf); go_simp <;> rfl); (try simp only [Act.put, actL])))) | ((with_reducible refine Pn.at_tag 3 ?_); (first | ((with_reducible refine Pn.wpTag_no ?_ ?_); (· first | rfl | (go_simp; done))) | ((refine Pn.wpTag_3 ?_ ?_ (fun K2 hK2 => ?_)); (· rfl); (· first | rfl | go_simp)))) | ((with_reducible refine at_ando ?_ ?_); (· first | exact Only.of_but hbk (by simp) | exact hxo | exact Only.of_below hx | exact Only.refl _ _)) | ((with_reducible refine Pn.at_tagn ?_); (with_reducible refine Pn.wpTag_nil ?_)) | ((with_reducible refine at_tag 0 ?_); (first | ((with_reducible refine wpTag_q ?_ ?_ ?_); rfl; rfl; intro _ _) | ((with_reducible refine wpTag_w ?_ ?_ ?_); rfl; rfl; intro _ _) | ((with_reducible refine wpTag_no ?_ ?_); (· first | rfl | (go_simp; done))) | ((with_reducible refine wpTag_s ?_ ?_); rfl; intro _ _; go_simp))) | ((with_reducible refine at_tag 2 ?_); (first | ((with_reducible refine wpTag_no ?_ ?_); (· first | rfl | (go_simp; done))) | (apply wpTag_2; (· rfl); (· first | rfl | go_simp); (· intro wq hq; (try replace hcE := bcell (E.ext hq).low); (try replace c2 := (b2.ext hq).cf); (try replace c3 := (b3.ext hq).cf); go_simp <;> rfl); (try simp only [Act.put, actL])))) | ((with_reducible refine at_tag 3 ?_); (first | ((with_reducible refine wpTag_no ?_ ?_); (· first | rfl | (go_simp; done))) | ((refine wpTag_3 ?_ ?_ (fun K2 hK2 => ?_)); (· rfl); (· first | rfl | go_simp)))) | ((with_reducible refine at_and ?_ ?_); (· first | exact hx | exact Ext.refl _)) | ((with_reducible refine at_tagn ?_); (with_reducible refine wpTag_nil ?_)))
       go_loopw [45] (fun v wr => ∃ W : Nat, v = .int .i64 W ∧ W ≤ len ∧ Hid (eqFrom (rowV M a) (rowV M b) M.length len W = R) ∧ Only [] w wr ∧ OwnR w wr 23 1 u64C (.slice (some ⟨X36, 0, none⟩) len len) (tabN (rowV M a) len) ∧ OwnR w wr 23 1 u64C (.slice (some ⟨X39, 0, none⟩) len len) (tabN (rowV M b) len)) (fun v _ => len - (intOf v).toNat)
       case atStart => exact ⟨0, rfl, Nat.zero_le _, HR, E, r36, r39⟩
       case round =>
        clear E r36 r39 HR hr7 b2 b3
        (try clear c2 c3)
        obtain ⟨W, rfl, hW, HS, E, r36, r39⟩ := hrel
        by_cases hlt : W < len
        · have HK1 : Hid ((tabN (rowV M a) len)[W]? = some (tw64 (rowV M a) W)) := Lib.hid (tabN_at _ hlt)
          have HK2 : Hid ((tabN (rowV M b) len)[W]? = some (tw64 (rowV M b) W)) := Lib.hid (tabN_at _ hlt)
          have k1 := u64_at r36 HK1.out
          have k2 := u64_at r39 HK2.out
          have g2 := diff_word (rowV M a) (rowV M b) M.length W
          obtain ⟨D, hD⟩ : ∃ D, dW (rowV M a) (rowV M b) M.length W = D := ⟨_, rfl⟩
          rw [hD] at g2
          by_cases hd : D = 0
          · have HT : Hid (eqFrom (rowV M a) (rowV M b) M.length len (W + 1) = R) := Lib.hid (by rw [← eqFrom_miss (hD.trans hd)]; exact HS.out)
            subst hd
            clear hD HS
            go_upto_region 9999 with (first | ((with_reducible refine at_reg 16 ?_); (refine wp_region_x (id := 16) (spOf []) [0, 1, 2, 3, 4, 5, 6, 7, 8, 9, 10, 11] [] [] mixed ?_ ?_); (· decide +kernel); intro K ws hx hK; (try replace E := E.ext hx); (try replace r36 := r36.ext hx); (try replace r39 := r39.ext hx); (try replace hcE := bcell E.low); (try clear k1); (try have k1 := u64_at r36 HK1.out); (try clear k2); (try have k2 := u64_at r39 HK2.out); dsimp only [pickE, pickL, List.getElem?_cons_succ, List.getElem?_cons_zero] at hK ⊢) | ((with_reducible refine wpE_q ?_ ?_ ?_); rfl; rfl; intro wq hq _ _; (try replace hcE := bcell (E.ext hq).low); (try clear k1); (try have k1 := u64_at (r36.ext hq) HK1.out); (try clear k2); (try have k2 := u64_at (r39.ext hq) HK2.out)) | ((with_reducible refine at_nil 0 ?_); refine wpE_nil (fun wn hx hΦ hfp hdis => ?_); (try replace E := E.ext hx); (try replace r36 := r36.ext hx); (try replace r39 := r39.ext hx); (try replace hcE := bcell E.low); (try clear k1); (try have k1 := u64_at r36 HK1.out); (try clear k2); (try have k2 := u64_at r39 HK2.out); clear hΦ hfp hdis; refine hK _ _ ?_; clear hK) | (with_reducible refine wpTxt_nil ?_))
            go_roundw
            case rel => exact ⟨W + 1, by go_num, by omega, HT, E, r36, r39⟩
            case measure => simp [intOf]; omega
          · have hRf : R = false := by rw [← HS.out]; exact eqFrom_hit hlt (by rw [hD]; exact hd)
            subst hRf
            have hd2 : ¬ (D : Int) = 0 := by omega
            obtain ⟨s1, s2⟩ := kd_f hd2
            clear hD HS hd hd2
            go_upto_region 9999 with (first | ((with_reducible refine at_reg 16 ?_); (refine wp_region_x (id := 16) (spOf []) [0, 1, 2, 3, 4, 5, 6, 7, 8, 9, 10, 11] [] [] mixed ?_ ?_); (· decide +kernel); intro K ws hx hK; (try replace E := E.ext hx); (try replace r36 := r36.ext hx); (try replace r39 := r39.ext hx); (try replace hcE := bcell E.low); (try clear k1); (try have k1 := u64_at r36 HK1.out); (try clear k2); (try have k2 := u64_at r39 HK2.out); dsimp only [pickE, pickL, List.getElem?_cons_succ, List.getElem?_cons_zero] at hK ⊢) | ((with_reducible refine wpE_q ?_ ?_ ?_); rfl; rfl; intro wq hq _ _; (try replace hcE := bcell (E.ext hq).low); (try clear k1); (try have k1 := u64_at (r36.ext hq) HK1.out); (try clear k2); (try have k2 := u64_at (r39.ext hq) HK2.out)) | ((with_reducible refine at_nil 0 ?_); refine wpE_nil (fun wn hx hΦ hfp hdis => ?_); (try replace E := E.ext hx); (try replace r36 := r36.ext hx); (try replace r39 := r39.ext hx); (try replace hcE := bcell E.low); (try clear k1); (try have k1 := u64_at r36 HK1.out); (try clear k2); (try have k2 := u64_at r39 HK2.out); clear hΦ hfp hdis; refine hK _ _ ?_; clear hK) | (with_reducible refine wpTxt_nil ?_))
            refine bodyPost_ret (v := .tuple #[.bool false, .int .i64 0]) (by simp [results, Try.f14, go_sem]) rfl ⟨rfl, E.low⟩
        · have hWl : W = len := by omega
          subst hWl
          have hRt : R = true := by rw [← HS.out]; exact eqFrom_end _ _ _ _
          subst hRt
          go_upto_region 9999 with (first | fail)
          refine bodyPost_ret (v := .tuple #[.bool true, .int .i64 0]) (by simp [results, Try.f14, go_sem]) rfl ⟨rfl, E.low⟩
   · obtain ⟨s1, s2⟩ := kd_f h1
     rw [if_pos h1]
     clear h1 hvb
     go_enter Try.func14, Try.ntmps14
     have E := Only.refl [] w
     go_upto_region 9999 with (first | ((first | ((with_reducible refine at_dst 14 ?_); go_simp; (have hc := bCheck_any (ha.ext E.low) hsa hza); (first | with_reducible refine hc.mono ?_ | refine hc.mono ?_); clear hc; unfold IPost; rw [HCA.out]; rintro e wn ⟨rfl, hx⟩) | ((with_reducible refine at_dst 19 ?_); go_simp; (have hc := bCheck_any (hb.ext E.low) hsb hzb); (first | with_reducible refine hc.mono ?_ | refine hc.mono ?_); clear hc; unfold IPost; rw [HCB.out]; rintro e wn ⟨rfl, hx⟩) | ((first | ((with_reducible refine at_dst 2 ?_); go_simp; (generalize hXn : Array.size (World.heap _) = X2); refine new_block hXn ?_; intro wn bb hx; have b2 := Loc.new bb E hXn) | ((with_reducible refine at_dst 3 ?_); go_simp; (generalize hXn : Array.size (World.heap _) = X3); refine new_block hXn ?_; intro wn bb hx; have b3 := Loc.new bb E hXn)); (try have ⟨nn, nm⟩ := b2.ne hXn); have zz := Nat.le_trans E.size (Nat.le_of_eq hXn); clear bb hXn)); (try replace E := E.ext hx); (try replace b2 := b2.ext hx); (try replace b3 := b3.ext hx); (try replace hcE := bcell E.low); (try replace c2 := b2.cf); (try replace c3 := b3.cf)) | ((with_reducible refine at_dsts [13, 18] ?_ ?_); (· rfl); (refine wp_all (Loc.blk (by assumption)) rfl rfl ?_ ?_ ?_); (· kernel_rfl); (· kernel_rfl)))
     refine bodyPost_ret (v := .tuple #[.bool false, .int .i64 vb]) (by simp [results, Try.f14, go_sem]) rfl ⟨rfl, E.low⟩
 · obtain ⟨s1, s2⟩ := kd_f h0
   rw [if_pos h0]
   clear h0 hva
   go_enter Try.func14, Try.ntmps14
   have E := Only.refl [] w
   go_upto_region 9999 with (first | ((first | ((with_reducible refine at_dst 14 ?_); go_simp; (have hc := bCheck_any (ha.ext E.low) hsa hza); (first | with_reducible refine hc.mono ?_ | refine hc.mono ?_); clear hc; unfold IPost; rw [HCA.out]; rintro e wn ⟨rfl, hx⟩) | ((first | ((with_reducible refine at_dst 2 ?_); go_simp; (generalize hXn : Array.size (World.heap _) = X2); refine new_block hXn ?_; intro wn bb hx; have b2 := Loc.new bb E hXn) | ((with_reducible refine at_dst 3 ?_); go_simp; (generalize hXn : Array.size (World.heap _) = X3); refine new_block hXn ?_; intro wn bb hx; have b3 := Loc.new bb E hXn)); (try have ⟨nn, nm⟩ := b2.ne hXn); have zz := Nat.le_trans E.size (Nat.le_of_eq hXn); clear bb hXn)); (try replace E := E.ext hx); (try replace b2 := b2.ext hx); (try replace b3 := b3.ext hx); (try replace hcE := bcell E.low); (try replace c2 := b2.cf); (try replace c3 := b3.cf)) | ((with_reducible refine at_dst 13 ?_); (refine wp_all b2.blk rfl rfl ?_ ?_ ?_); (· kernel_rfl); (· kernel_rfl)))
   refine bodyPost_ret (v := .tuple #[.bool false, .int .i64 va]) (by simp [results, Try.f14, go_sem]) rfl ⟨rfl, E.low⟩
open Go.RowKit Tk
def cW (F : Nat → Bool) (n w : Nat) : Nat := wd fun k => F (64 * w + k) && decide (k < 2 ^ n)
theorem cut_word (F : Nat → Bool) (n w : Nat) : bits .and .u64 (tw64 F w : Nat) (maskN n : Nat) = (cW F n w : Nat) := by
 have h2 := wd_and (fun k => F (64 * w + k)) (fun k => decide (k < 2 ^ n))
 unfold wAnd at h2
 unfold tw64 maskN cW
 exact h2
theorem all_word (F : Nat → Bool) (n w : Nat) : (((cW F n w : Nat) : Int) == (maskN n : Nat)) = decide (dW F (fun _ => true) n w = 0) := by
 rw [Bool.eq_iff_iff, beq_iff_eq, decide_eq_true_eq, Int.natCast_inj]
 unfold dW
 rw [wd_zero]
 constructor
 · intro h k hk
   have := wd_inj h k hk
   cases hd : decide (k < 2 ^ n)
   · simp
   · rw [hd, Bool.and_true] at this; simp [this]
 · intro h
   refine wd_congr fun k hk => ?_
   have := h k hk
   cases hd : decide (k < 2 ^ n)
   · simp
   · rw [hd] at this; simpa using this
theorem none_word (F : Nat → Bool) (n w : Nat) : (((cW F n w : Nat) : Int) == 0) = decide (dW F (fun _ => false) n w = 0) := by
 rw [Bool.eq_iff_iff, beq_iff_eq, decide_eq_true_eq]
 have e : ((cW F n w : Nat) : Int) = 0 ↔ cW F n w = 0 := by omega
 rw [e]
 unfold dW cW
 rw [wd_zero, wd_zero]
 constructor
 · intro h k hk
   have := h k hk
   simpa using this
 · intro h k hk
   have := h k hk
   simpa using this
def allTo (F : Nat → Bool) (n : Nat) : Nat → Bool
 | 0 => true
 | W + 1 => allTo F n W && (((cW F n W : Nat) : Int) == (maskN n : Nat))
def noneTo (F : Nat → Bool) (n : Nat) : Nat → Bool
 | 0 => true
 | W + 1 => noneTo F n W && (((cW F n W : Nat) : Int) == 0)
theorem allTo_range (F : Nat → Bool) (n : Nat) : ∀ W, allTo F n W = (List.range W).all fun w => decide (dW F (fun _ => true) n w = 0)
 | 0 => rfl
 | W + 1 => by rw [allTo, allTo_range F n W, List.range_succ, List.all_append, all_word]; simp
theorem noneTo_range (F : Nat → Bool) (n : Nat) : ∀ W, noneTo F n W = (List.range W).all fun w => decide (dW F (fun _ => false) n w = 0)
 | 0 => rfl
 | W + 1 => by rw [noneTo, noneTo_range F n W, List.range_succ, List.all_append, none_word]; simp
theorem all_rows {F : Nat → Bool} {n : Nat} (hn : n ≤ 16) : allTo F n (lenT n) = eqRows F (fun _ => true) n := by
 rw [← eq_rows hn, allTo_range]; unfold eqFrom; simp
theorem none_rows {F : Nat → Bool} {n : Nat} (hn : n ≤ 16) : noneTo F n (lenT n) = eqRows F (fun _ => false) n := by
 rw [← eq_rows hn, noneTo_range]; unfold eqFrom; simp
/-- what Constant returns -/
def conV (F : Nat → Bool) (n : Nat) : Bool × Bool := (eqRows F (fun _ => true) n, eqRows F (fun _ => true) n || eqRows F (fun _ => false) n)
def constR (x : Ex) : Bool × Bool := if (namesR x).length = 0 ∨ 16 < (namesR x).length then (false, false) else conV (rowV (namesR x) x) (namesR x).length
def BBPost (r : Bool × Bool) (w : World) (e : Ending) (w' : World) : Prop := e = .returned (.tuple #[.bool r.1, .bool r.2]) ∧ Ext w w'
theorem namesR_all {x : Ex} (h : ¬ (namesR x).length = 0) : x.wf ∧ ∀ n ∈ namesE x, n ∈ namesR x := by
 unfold namesR at *
 by_cases hc : chk x 1 ≠ 0
 · rw [if_pos hc] at h; exact absurd rfl h
 · rw [if_neg hc]
   exact ⟨chk_wf x 1 (by simpa using hc), fun n hn => namesS_mem.2 hn⟩
theorem bconstant_any {x : Ex} {w : World} (hok : x.ok w) (hs : x.small) (hz : x.sz ≤ 1000000000000) : Calls Try.prog 15 #[.agg (exC x).toArray] w (BBPost (constR x) w) := by
 unfold constR
 have hna := @namesR_all x
 obtain ⟨M, hM⟩ : ∃ M, namesR x = M := ⟨_, rfl⟩
 have HM := Lib.hid hM
 rw [hM] at hna ⊢
 clear hM
 by_cases h0 : M.length = 0
 · rw [if_pos (.inl h0)]
   obtain ⟨s1, s2⟩ := kd_t (show (M.length : Int) = 0 by omega)
   have H0 := Lib.hid h0
   clear h0 hna
   go_enter Try.func15, Try.ntmps15
   have E := Only.refl [] w
   go_upto_region 9999 with (first | ((first | ((with_reducible refine at_dst 11 ?_); go_simp; (have hc := bnames_any (hok.ext E.low) hs hz); (first | with_reducible refine hc.mono ?_ | refine hc.mono ?_); clear hc; unfold RPost; rw [HM.out]; rintro e wn ⟨a9, c9, rfl, r4, hx⟩) | ((with_reducible refine at_dst 1 ?_); go_simp; (generalize hXn : Array.size (World.heap _) = X1); refine new_block hXn ?_; intro wn bb hx; have b1 := Loc.new bb E hXn; have zz := Nat.le_trans E.size (Nat.le_of_eq hXn); clear bb hXn)); (try replace E := E.ext hx); (try replace b1 := b1.ext hx); (try replace hcE := bcell E.low); (try replace c1 := b1.cf)) | ((with_reducible refine at_dst 10 ?_); (refine wp_all b1.blk rfl rfl ?_ ?_ ?_); (· kernel_rfl); (· kernel_rfl)))
   refine bodyPost_ret (v := .tuple #[.bool false, .bool false]) (by simp [results, Try.f15, go_sem]) rfl ⟨rfl, E.low⟩
 obtain ⟨s1, s2⟩ := kd_f (show ¬ (M.length : Int) = 0 by omega)
 obtain ⟨hwf, hall⟩ := hna h0
 by_cases h16 : 16 < M.length
 · rw [if_pos (.inr h16)]
   have H0 := Lib.hid h0
   clear h0 hna hall
   go_enter Try.func15, Try.ntmps15
   have E := Only.refl [] w
   go_upto_region 9999 with (first | ((first | ((with_reducible refine at_dst 11 ?_); go_simp; (have hc := bnames_any (hok.ext E.low) hs hz); (first | with_reducible refine hc.mono ?_ | refine hc.mono ?_); clear hc; unfold RPost; rw [HM.out]; rintro e wn ⟨a9, c9, rfl, r4, hx⟩) | ((with_reducible refine at_dst 1 ?_); go_simp; (generalize hXn : Array.size (World.heap _) = X1); refine new_block hXn ?_; intro wn bb hx; have b1 := Loc.new bb E hXn; have zz := Nat.le_trans E.size (Nat.le_of_eq hXn); clear bb hXn)); (try replace E := E.ext hx); (try replace b1 := b1.ext hx); (try replace hcE := bcell E.low); (try replace c1 := b1.cf)) | ((with_reducible refine at_dst 10 ?_); (refine wp_all b1.blk rfl rfl ?_ ?_ ?_); (· kernel_rfl); (· kernel_rfl)))
   refine bodyPost_ret (v := .tuple #[.bool false, .bool false]) (by simp [results, Try.f15, go_sem]) rfl ⟨rfl, E.low⟩
 · rw [if_neg (by omega)]
   have hn16 : M.length ≤ 16 := by omega
   have HALL := Lib.hid hall
   have hl := lenT_le hn16
   obtain ⟨len, hlen⟩ : ∃ len, lenT M.length = len := ⟨_, rfl⟩
   have HLEN := Lib.hid hlen
   unfold conV
   rw [← all_rows hn16, ← none_rows hn16, hlen]
   rw [hlen] at hl
   obtain ⟨hl1, hl2⟩ := hl
   have H0 := Lib.hid h0
   clear h0 hna hall hlen
   go_enter Try.func15, Try.ntmps15
   have E := Only.refl [] w
   go_upto_region 7 with (first | ((first | ((with_reducible refine at_dst 11 ?_); go_simp; (have hc := bnames_any (hok.ext E.low) hs hz); (first | with_reducible refine hc.mono ?_ | refine hc.mono ?_); clear hc; unfold RPost; rw [HM.out]; rintro e wn ⟨a9, c9, rfl, r4, hx⟩) | ((with_reducible refine at_dst 22 ?_); go_simp; ((with_reducible refine (bused_any hn16 _).mono ?_)); unfold U64Post; rintro e wn ⟨rfl, hx⟩) | ((with_reducible refine at_dst 25 ?_); go_simp; (have hc := btable_any (x.sz + 1) x r4 (hok.ext E.low) hwf (Nat.lt_succ_self _) hn16 HALL.out); (refine hc.mono ?_); clear hc; unfold TabPost; rw [tabN_len, HLEN.out]; rintro e wn ⟨X25, rfl, r25, hx⟩; replace r25 := r25.back E.size) | ((with_reducible refine at_dst 1 ?_); go_simp; (generalize hXn : Array.size (World.heap _) = X1); refine new_block hXn ?_; intro wn bb hx; have b1 := Loc.new bb E hXn; have zz := Nat.le_trans E.size (Nat.le_of_eq hXn); clear bb hXn)); (try replace E := E.ext hx); (try replace b1 := b1.ext hx); (try replace r4 := r4.ext hx); (try replace hcE := bcell E.low); (try replace c1 := b1.cf)) | ((with_reducible refine at_dsts [10, 23] ?_ ?_); (· rfl); (refine wp_all (Loc.blk (by assumption)) rfl rfl ?_ ?_ ?_); (· kernel_rfl); (· kernel_rfl)))
   go_loopw [6, 7, 27] (fun va vb v wr => ∃ (W : Nat) (A B : Bool), v = .int .i64 W ∧ W ≤ len ∧ va = .bool A ∧ vb = .bool B ∧ Hid (allTo (rowV M x) M.length W = A) ∧ Hid (noneTo (rowV M x) M.length W = B) ∧ Only [] w wr ∧ OwnR w wr 23 1 u64C (.slice (some ⟨X25, 0, none⟩) len len) (tabN (rowV M x) len)) (fun _ _ v _ => len - (intOf v).toNat)
   case atStart => exact ⟨0, true, true, rfl, Nat.zero_le _, rfl, rfl, rfl, rfl, E, r25⟩
   case round =>
    clear E r25 r4
    (try clear b1 c1)
    obtain ⟨W, A, B, rfl, hW, rfl, rfl, HA, HB, E, r25⟩ := hrel
    by_cases hlt : W < len
    · have HK1 : Hid ((tabN (rowV M x) len)[W]? = some (tw64 (rowV M x) W)) := Lib.hid (tabN_at _ hlt)
      have k1 := u64_at r25 HK1.out
      have g2 := cut_word (rowV M x) M.length W
      cases A <;> cases B
      all_goals
       go_upto_region 9999 with (first | fail)
       go_roundw
       case rel => first | exact ⟨W + 1, false, false, by go_num, by omega, rfl, rfl, Lib.hid (by rw [allTo, HA.out]; rfl), Lib.hid (by rw [noneTo, HB.out]; rfl), E, r25⟩ | exact ⟨W + 1, false, _, by go_num, by omega, rfl, rfl, Lib.hid (by rw [allTo, HA.out]; rfl), Lib.hid (by rw [noneTo, HB.out, Bool.true_and]), E, r25⟩ | exact ⟨W + 1, _, false, by go_num, by omega, rfl, rfl, Lib.hid (by rw [allTo, HA.out, Bool.true_and]), Lib.hid (by rw [noneTo, HB.out]; rfl), E, r25⟩ | exact ⟨W + 1, _, _, by go_num, by omega, rfl, rfl, Lib.hid (by rw [allTo, HA.out, Bool.true_and]), Lib.hid (by rw [noneTo, HB.out, Bool.true_and]), E, r25⟩
       case measure => simp [intOf]; omega
    · have hWl : W = len := by omega
      subst hWl
      cases A
      all_goals
       go_upto_region 9999 with (first | fail)
       refine bodyPost_ret (v := _) (by simp [results, Try.f15, go_sem]; rfl) rfl ⟨by rw [HA.out, HB.out]; rfl, E.low⟩
open Go.RowKit Tk
@[go_sem] theorem Ex.h_mk (h : ExH) (k : List Ex) : (Ex.mk h k).h = h := rfl
@[go_sem] theorem Ex.kids_mk (h : ExH) (k : List Ex) : (Ex.mk h k).kids = k := rfl
def CopPost (x : Ex) (w : World) (e : Ending) (w' : World) : Prop := ∃ y, e = .returned (.agg (exC y).toArray) ∧ y.ok w' ∧ y.fr w.heap.size ∧ y.bare = x.bare ∧ Ext w w'
@[reducible] def CopOk (N : Nat) : Prop := ∀ (x : Ex) {w : World}, x.ok w → x.four → x.sz < N → x.sz ≤ 1000000000000 → Calls Try.prog 28 #[.agg (exC x).toArray] w (CopPost x w)
theorem Ex.four.names {x : Ex} (h : x.four) : x.h.names.length ≤ 4 := by cases x; unfold Ex.four at h; exact h.1
theorem Ex.four.kids {x : Ex} (h : x.four) : Ex.fours x.kids := by cases x; unfold Ex.four at h; exact h.2
theorem Ex.fours.mem : ∀ {l : List Ex}, Ex.fours l → ∀ {x : Ex}, x ∈ l → x.four
 | y :: l, h, x, hm => by
   unfold Ex.fours at h
   rcases List.mem_cons.1 hm with rfl | hm
   · exact h.1
   · exact Ex.fours.mem h.2 hm
theorem szs_len : ∀ l : List Ex, l.length ≤ Ex.szs l
 | [] => by rw [Ex.szs]; exact Nat.le_refl _
 | e :: l => by
   have := szs_len l
   have := Ex.sz_kids e
   rw [Ex.szs, List.length_cons]; omega
theorem bare_snoc {l : List Ex} {j : Nat} {y z : Ex} {L : List Ex} (h : Hid (L.map Ex.bare = (l.take j).map Ex.bare)) (hy : l[j]? = some y) (hz : z.bare = y.bare) : (L ++ [z]).map Ex.bare = (l.take (j + 1)).map Ex.bare := by
 rw [List.map_append, h.out, take_at hy, List.map_append, List.map_cons, hz]; rfl
theorem two_of {p : Nat → Prop} {X Y : Nat} (hX : p X) (hY : p Y) : ∀ b ∈ [X, Y], p b := fun b hb => by
 rcases List.mem_cons.1 hb with rfl | hb
 · exact hX
 · rw [List.mem_singleton.1 hb]; exact hY
/-- the expression while its copy is made -/
@[reducible] def cpH (x : Ex) (a8 : Option Addr) (c8 : Nat) (so : Option Addr) (sc : Nat) (L : List Ex) : Ex := .mk { x.h with hn := ⟨a8, c8⟩, hk := ⟨so, sc⟩ } L
theorem copied_step {N : Nat} (IH : Hid (CopOk N)) : CopOk (N + 1) := by
 intro x w hok h4 hz hz0
 rw [Ex.sz_kids] at hz hz0
 have n2 := (RRow.lens hok.kids).2
 have n3 := (Reads.lens hok.names).2
 have n5 := szs_len x.kids
 have hn4 : x.h.names.length ≤ 1000000000000 := Nat.le_trans h4.names (by decide)
 go_enter Try.func28, Try.ntmps28
 have E := Only.refl [] w
 go_upto_region 5 with (first | ((first | ((with_reducible refine at_dst 8 ?_); go_simp; (have hc := bclone_any (hok.names.ext E.low) hn4); ((with_reducible refine hc.mono ?_)); clear hc; rintro e wn ⟨a8, c8, rfl, r8n, hx⟩; have r8 : OwnR w wn 9 1 strC (.slice a8 x.h.names.length c8) x.h.names := ⟨r8n.row, fun b hb => Nat.le_trans E.size (r8n.new b hb)⟩; clear r8n) | ((first | ((with_reducible refine at_store 9 ?_); have bo := b1; refine wp_put_to2 (cs' := (exC (.mk { x.h with hn := ⟨a8, c8⟩ } x.kids)).toArray) bo rfl rfl ?_ ?_ ?_ ?_ ?_) | ((with_reducible refine at_store 12 ?_); have bo := b1; refine wp_put_to2 (cs' := (exC (cpH x a8 c8 none 0 [])).toArray) bo rfl rfl ?_ ?_ ?_ ?_ ?_)); (· kernel_rfl); (· first | rfl | kernel_rfl); (· first | decide | exact Nat.le_refl _ | simp [Act.eval, Value.cells] | (simp [Act.eval, Act.put, Value.cells]; done)); (· kernel_rfl); intro wn bn hb; dsimp only [Act.put]; have hbk := hb; have E2 := E.put bo hb; (try replace b2 := b2.but hb (by assumption)); (first | (replace r8 := r8.but hb bo.blk (of_decide_eq_true rfl)) | (replace r8 := r8.but0 hb (by assumption)) | skip); (first | (replace r0 := r0.but hb bo.blk (of_decide_eq_true rfl)) | (replace r0 := r0.but0 hb (by assumption)) | skip); (first | (replace T0 := T0.but hb bo.blk (of_decide_eq_true rfl)) | (replace T0 := T0.but0 hb (by assumption)) | skip); (first | (replace hzo := hzo.but hb bo.blk (of_decide_eq_true rfl)) | (replace hzo := hzo.but0 hb (by assumption)) | skip); (first | (replace r2 := r2.but hb bo.blk (of_decide_eq_true rfl)) | (replace r2 := r2.but0 hb (by assumption)) | skip); clear E bo; have E := E2; clear E2; clear b1; have b1 := bn; clear bn hb) | ((first | ((with_reducible refine at_dst 1 ?_); go_simp; (generalize hXn : Array.size (World.heap _) = X1); refine new_block hXn ?_; intro wn bb hx; have b1 := Loc.new bb E hXn) | ((with_reducible refine at_dst 2 ?_); go_simp; (generalize hXn : Array.size (World.heap _) = X2); refine new_block hXn ?_; intro wn bb hx; (try have ⟨n1_2, n2_1⟩ := b1.ne hXn); have b2 := Loc.new bb E hXn)); (try have ⟨nn, nm⟩ := b1.ne hXn); have zz := Nat.le_trans E.size (Nat.le_of_eq hXn); clear bb hXn)); (try replace E := E.ext hx); (try replace b1 := b1.ext hx); (try replace b2 := b2.ext hx); (try replace hcE := bcell E.low); (try replace c1 := b1.cf); (try replace c2 := b2.cf)))
 go_loopw [15] (fun i wr => ∃ (j : Nat) (L : List Ex) (so : Option Addr) (sc : Nat), i = .int .i64 j ∧ j ≤ x.kids.length ∧ Hid (L.map Ex.bare = (x.kids.take j).map Ex.bare) ∧ Hid (L.length = j) ∧ OwnR w wr 28 10 exC (.slice so L.length sc) L ∧ X1 ∉ ownB (.slice so L.length sc) ∧ X2 ∉ ownB (.slice so L.length sc) ∧ Trees [X1, X2] wr L ∧ (∀ b ∈ ownB (.slice so L.length sc), Ex.aways b L) ∧ Ex.frs w.heap.size L ∧ OwnR w wr 9 1 strC (.slice a8 x.h.names.length c8) x.h.names ∧ Only [] w wr ∧ Loc [] w wr X1 28 (exC (cpH x a8 c8 so sc L)).toArray ∧ Loc [] w wr X2 28 exZ) (fun i _ => x.kids.length - (intOf i).toNat)
 case atStart => exact ⟨0, [], none, 0, rfl, Nat.zero_le _, rfl, rfl, OwnR.nil w wn _ 10 exC, nil_own _, nil_own _, Trees.nil _ _, fun b hb => by simp [ownB, Value.ownBlock] at hb, by unfold Ex.frs; trivial, r8, E, b1, b2⟩
 case round =>
  clear E b1 b2 c1 c2 r8
  (try clear hcE)
  obtain ⟨j, L, so, sc, rfl, hj, HS, hLj, r0, mr0_1, mr0_2, T0, hra, hfr, r8, E, b1, b2⟩ := hrel
  have hLn : L.length ≤ x.kids.length := by have := hLj.out; omega
  have c1 := b1.cf
  have c2 := b2.cf
  have hcE := bcell E.low
  by_cases hlt : j < x.kids.length
  · obtain ⟨y, hy⟩ := at_some hlt
    have hyo := hok.subs.mem (List.mem_of_getElem? hy)
    have hy4 := h4.kids.mem (List.mem_of_getElem? hy)
    have hys := Ex.sz_at hy
    have hsz : y.sz < N := by omega
    have hyz : y.sz ≤ 1000000000000 := by omega
    have HY := Lib.hid hy
    obtain ⟨g, o, hgo, hg, -⟩ := RRow.cells hok.kids hlt
    have hkc : RRow w 10 exC (.slice (some ⟨g, o, none⟩) x.kids.length x.h.hk.c) x.kids := hgo ▸ hok.kids
    clear hy hys
    go_upto_region 9999 with (first | ((first | ((with_reducible refine at_dst 22 ?_); go_simp; (have hc := IH.out y (hyo.ext E.low) hy4 hsz hyz); (first | with_reducible refine hc.mono ?_ | refine hc.mono ?_); clear hc; unfold CopPost; rintro e wn ⟨z, rfl, hzo, hf, hzb, hx⟩; have hza : ∀ b ∈ ownB (.slice so L.length sc), z.away b := (fun b hb => hf.away (r0.row.lt (mem_ownB.1 hb))); (try have mhzo_1 := hf.away b1.lt); (try have mhzo_2 := hf.away b2.lt); (try have mhzo_5 := hf.away b5.lt); (try replace hf := hf.mono E.size)) | ((with_reducible refine at_dst 23 ?_); (refine wp_rows2 1 (exC z).toArray 28 ?_ ?_); (· kernel_rfl); intro X23 wn hX23 bb hx; (try have ⟨n1_23, n23_1⟩ := b1.ne hX23); (try have ⟨n2_23, n23_2⟩ := b2.ne hX23); (try have ⟨n5_23, n23_5⟩ := b5.ne hX23); (try have z23 := Nat.le_trans E.size (Nat.le_of_eq hX23)); (try have mr8_23 := r8.notin (Nat.le_of_eq hX23)); (try have mr0_23 := r0.notin (Nat.le_of_eq hX23)); (try have mT0_23 := T0.notin (Nat.le_of_eq hX23)); (try have mhzo_23 := hzo.notin (Nat.le_of_eq hX23)); have b23 := Loc.new bb E hX23; clear bb hX23) | ((with_reducible refine at_dst 24 ?_); refine wp_own (.tmp 20) (.tmp 23) rfl info_ex und_kids rfl (by decide) exC_len exC_ones r0 E (RRow.blk (xs := [z]) exC_len b23.blk (by simp) (show 1 ≤ maxLen by decide)) rfl rfl ?_ ?_ ?_; (· (simp only [List.length_cons, List.length_nil]; (try unfold maxLen); omega)); (· (simp only [List.length_cons, List.length_nil]; omega)); intro L24 hL24 s24 v24 wn r2 E2 hA; replace hL24 := Lib.hid hL24; (try replace r8 := r8.grow r0 hA (of_decide_eq_true rfl)); clear E; have E := E2; clear E2; have hxo : Only (ownB (.slice so L.length sc)) _ _ := Only.of_grown hA.grown (fun b hb => mem_ownB.2 hb); have mr2_1 := AppPost.notin mr0_1 b1.lt hA; have mr2_2 := AppPost.notin mr0_2 b2.lt hA; have T3 := T0.snoc hzo (two_of mhzo_1 mhzo_2); have hT := T3.growA (fun b hb => aways_app (hra b hb) (hza b hb)) hA; rw [hL24.out] at hT; obtain ⟨T4, hra4⟩ := hT; clear T0 T3; have T0 := T4; clear T4; have mT0_1 := T0.away X1 (.head _); replace b1 := b1.growX mr0_1 hA; replace b2 := b2.growX mr0_2 hA; replace b5 := b5.growX mr0_5 hA; obtain ⟨o24, k24, rfl, l24, m24⟩ := ORow.len r2.row; (try simp only [Act.put, actL])) | ((with_reducible refine at_reg 7 ?_); (refine Pn.wp_region_o (id := 7) (ownB (.slice so L.length sc)) (fun _ _ _ => False) [2, 2, 0, 3, 3, 0, 0, 0] [0, 1, 2, 3, 4, 5, 6, 7] mixed ?_ ?_ ?_); (· decide +kernel); (· exact fun _ _ _ h => h.elim); intro K hK wn hx; dsimp only [pickL, List.getElem?_cons_succ, List.getElem?_cons_zero]) | ((first | ((with_reducible refine at_store 5 ?_); have bo := b5; refine wp_put bo rfl rfl ?_ ?_ ?_ ?_; (· kernel_rfl); (· first | rfl | kernel_rfl); (· first | decide | exact Nat.le_refl _ | simp [Act.eval, Value.cells] | (simp [Act.eval, Act.put, Value.cells]; done)); intro wn bn hb; dsimp only [Act.put]; simp only [putA, Act.eval, Value.cells, Nat.reduceAdd, putL, exC_size] at bn) | ((with_reducible refine at_store 25 ?_); have bo := b1; refine wp_put_to2 (cs' := (exC (cpH x a8 c8 o24 k24 L24)).toArray) bo rfl rfl ?_ ?_ ?_ ?_ ?_; (· kernel_rfl); (· first | rfl | kernel_rfl); (· first | decide | exact Nat.le_refl _ | simp [Act.eval, Value.cells] | (simp [Act.eval, Act.put, Value.cells]; done)); (· kernel_rfl); intro wn bn hb; dsimp only [Act.put])); have hbk := hb; have E2 := E.put bo hb; (try replace b1 := b1.but hb (by assumption)); (try replace b2 := b2.but hb (by assumption)); (try replace b5 := b5.but hb (by assumption)); (first | (replace r8 := r8.but hb bo.blk (of_decide_eq_true rfl)) | (replace r8 := r8.but0 hb (by assumption)) | skip); (first | (replace r0 := r0.but hb bo.blk (of_decide_eq_true rfl)) | (replace r0 := r0.but0 hb (by assumption)) | skip); (first | (replace T0 := T0.but hb bo.blk (of_decide_eq_true rfl)) | (replace T0 := T0.but0 hb (by assumption)) | skip); (first | (replace hzo := hzo.but hb bo.blk (of_decide_eq_true rfl)) | (replace hzo := hzo.but0 hb (by assumption)) | skip); (first | (replace r2 := r2.but hb bo.blk (of_decide_eq_true rfl)) | (replace r2 := r2.but0 hb (by assumption)) | skip); clear E bo; have E := E2; clear E2; (try replace b5 := b5.re bn); (try replace b1 := b1.re bn); clear bn hb) | ((with_reducible refine at_dst 5 ?_); go_simp; (generalize hXn : Array.size (World.heap _) = X5); refine new_block hXn ?_; intro wn bb hx; (try have mr0_5 := r0.notin (Nat.le_of_eq hXn)); have b5 := Loc.new bb E hXn; (try have ⟨nn, nm⟩ := b1.ne hXn); (try have ⟨nn, nm⟩ := b2.ne hXn); have zz := Nat.le_trans E.size (Nat.le_of_eq hXn); (try have mm := r8.notin (Nat.le_of_eq hXn)); (try have mm := r0.notin (Nat.le_of_eq hXn)); (try have mm := T0.notin (Nat.le_of_eq hXn)); clear bb hXn)); (try replace E := E.ext hx); (try replace b1 := b1.ext hx); (try replace b2 := b2.ext hx); (try replace b5 := b5.ext hx); (try replace r8 := r8.ext hx); (try replace r0 := r0.ext hx); (try replace T0 := T0.ext hx); (try replace hzo := hzo.ext hx); (try replace hcE := bcell E.low); (try replace c1 := b1.cf); (try replace c2 := b2.cf); (try replace c5 := b5.cf); (try replace c23 := b23.cf)) | ((with_reducible refine at_dst 18 ?_); (refine wp_rec2 ((RRow.ext hkc E.low)) (HY.out) exC_len rfl rfl ?_ ?_ ?_); (· kernel_rfl); (· kernel_rfl)) | ((with_reducible refine at_dst 21 ?_); (refine wp_all b5.blk rfl rfl ?_ ?_ ?_); (· kernel_rfl); (· kernel_rfl)) | ((with_reducible refine Pn.at_tag 0 ?_); (first | ((with_reducible refine Pn.wpTag_q ?_ ?_ ?_); rfl; rfl; intro _ _) | ((with_reducible refine Pn.wpTag_w ?_ ?_ ?_); rfl; rfl; intro _ _) | ((with_reducible refine Pn.wpTag_no ?_ ?_); (· first | rfl | (go_simp; done))) | ((with_reducible refine Pn.wpTag_s ?_ ?_); rfl; intro _ _; go_simp))) | ((with_reducible refine Pn.at_tag 2 ?_); (first | ((with_reducible refine Pn.wpTag_no ?_ ?_); (· first | rfl | (go_simp; done))) | (apply Pn.wpTag_2; (· rfl); (· first | rfl | go_simp); (· intro wq hq; (try replace c1 := (b1.only hq mr0_1).cf); (try replace c2 := (b2.only hq mr0_2).cf); (try replace c5 := (b5.only hq mr0_5).cf); go_simp <;> rfl); (try simp only [Act.put, actL])))) | ((with_reducible refine Pn.at_tag 3 ?_); (first | ((with_reducible refine Pn.wpTag_no ?_ ?_); (· first | rfl | (go_simp; done))) | ((refine Pn.wpTag_3 ?_ ?_ (fun K2 hK2 => ?_)); (· rfl); (· first | rfl | go_simp)))) | ((with_reducible refine at_ando ?_ ?_); (· first | exact Only.of_but hbk (by simp) | exact hxo | exact Only.of_below hx | exact Only.refl _ _)) | ((with_reducible refine Pn.at_tagn ?_); (with_reducible refine Pn.wpTag_nil ?_)))
    have e24 := hL24.out
    have HB : Hid (L24.map Ex.bare = (x.kids.take (j + 1)).map Ex.bare) := Lib.hid (by rw [← e24]; exact bare_snoc HS HY.out hzb)
    have HL24 : Hid (L24.length = j + 1) := Lib.hid (by rw [← e24, List.length_append, hLj.out]; rfl)
    have hfr2 : Ex.frs w.heap.size L24 := e24 ▸ frs_app hfr hf
    clear e24
    try simp only [← hgo]
    clear hgo
    go_roundw
    case rel => exact ⟨j + 1, L24, o24, k24, by go_num, by omega, HB, HL24, r2, mr2_1, mr2_2, T0, hra4, hfr2, r8, E, b1, b2⟩
    case measure => simp [intOf]; omega
  · have hb : L.map Ex.bare = x.kids.map Ex.bare := by
      have := HS.out
      rwa [List.take_of_length_le (by omega)] at this
    have HB := Lib.hid hb
    have mT0_2 := T0.away X2 tl1
    clear hb
    go_upto_region 9999 with (first | ((with_reducible refine at_dst 27 ?_); (refine wp_all b1.blk rfl rfl ?_ ?_ ?_); (· kernel_rfl); (· kernel_rfl)) | ((with_reducible refine at_store 2 ?_); (refine wp_put b2 rfl rfl ?_ ?_ ?_ ?_; (· kernel_rfl); (· first | rfl | kernel_rfl); (· first | decide | exact Nat.le_refl _ | simp [Act.eval, Value.cells] | (simp [Act.eval, Act.put, Value.cells]; done)); intro wn bn hb; have hbk := hb; have E2 := E.put b2 hb; (try replace b1 := b1.but hb n1_2); (first | (replace r8 := r8.but hb b2.blk (of_decide_eq_true rfl)) | (replace r8 := r8.but0 hb mr8_2) | skip); (first | (replace r0 := r0.but hb b2.blk (of_decide_eq_true rfl)) | (replace r0 := r0.but0 hb mr0_2) | skip); (first | (replace T0 := T0.but hb b2.blk (of_decide_eq_true rfl)) | (replace T0 := T0.but0 hb mT0_2) | skip); (first | (replace hzo := hzo.but hb b2.blk (of_decide_eq_true rfl)) | (replace hzo := hzo.but0 hb mhzo_2) | skip); (first | (replace r2 := r2.but hb b2.blk (of_decide_eq_true rfl)) | (replace r2 := r2.but0 hb mr2_2) | skip); clear E b2; have E := E2; clear E2; have b2 := bn; clear bn hb; dsimp only [Act.put]; simp only [putA, Act.eval, Value.cells, Nat.reduceAdd, putL, exC_size] at b2; (try replace hcE := bcell E.low); (try replace c1 := b1.cf); (try replace c2 := b2.cf))))
    refine bodyPost_ret (v := .agg (exC (cpH x a8 c8 so sc L)).toArray) (by simp [results, Try.f28, go_sem, c2]; rfl) rfl ⟨_, rfl, ?_, ?_, ?_, E.low⟩
    · unfold cpH Ex.ok
      exact ⟨r8.reads, r0.row.reads exC_len, T0.ok⟩
    · unfold cpH Ex.fr
      exact ⟨.inr r8.new, .inr r0.new, hfr⟩
    · rw [Ex.bare_eq, Ex.bare_eq x]
      show Ex.mk _ (L.map Ex.bare) = _
      rw [HB.out]; rfl
theorem copied_any : ∀ N : Nat, CopOk N
 | 0 => fun _ _ _ _ hz _ => absurd hz (Nat.not_lt_zero _)
 | N + 1 => copied_step (Lib.hid (copied_any N))
/-! ### Negate -/
def negX (x : Ex) : Ex := if x.h.op = 2 ∧ x.kids.length = 1 then x.kids.headD zX else opX 2 [x]
def NegPost (x : Ex) (w : World) (e : Ending) (w' : World) : Prop := ∃ y, e = .returned (.agg (exC y).toArray) ∧ y.ok w' ∧ y.fr w.heap.size ∧ y.bare = (negX x).bare ∧ Ext w w'
theorem bnegate_any {x : Ex} {w : World} (hok : x.ok w) (h4 : x.four) (hz : x.sz ≤ 1000000000000) : Calls Try.prog 18 #[.agg (exC x).toArray] w (NegPost x w) := by
 have n2 := (RRow.lens hok.kids).2
 unfold NegPost negX
 by_cases hop : x.h.op = 2
 · obtain ⟨s1, s2⟩ := kd_t hop
   by_cases hk : x.kids.length = 1
   · obtain ⟨a, hka⟩ : ∃ a, x.kids = [a] := by
       match hq : x.kids, hk with
       | [a], _ => exact ⟨a, rfl⟩
     rw [if_pos ⟨hop, hk⟩]
     have hV : x.kids.headD zX = a := by rw [hka]; rfl
     rw [hV]
     have ham : a ∈ x.kids := by rw [hka]; simp
     have hao := hok.subs.mem ham
     have ha4 := h4.kids.mem ham
     have haz : a.sz ≤ 1000000000000 := by rw [Ex.sz_kids, hka, Ex.szs] at hz; omega
     have H0 : Hid (x.kids[0]? = some a) := Lib.hid (by rw [hka]; rfl)
     have hlt : 0 < x.kids.length := by omega
     obtain ⟨g, o, hgo, hg, -⟩ := RRow.cells hok.kids hlt
     have hkc : RRow w 10 exC (.slice (some ⟨g, o, none⟩) x.kids.length x.h.hk.c) x.kids := hgo ▸ hok.kids
     have HKA := Lib.hid hka
     have HOP := Lib.hid hop
     have hk' : ((x.kids.length : Int) == 1) = true := by simp [hk]
     have HK := Lib.hid hk
     clear hop hka hV ham hk
     go_enter Try.func18, Try.ntmps18
     have E := Only.refl [] w
     go_upto_region 9999 with (first | ((first | ((with_reducible refine at_dst 16 ?_); go_simp; (have hc := copied_any (a.sz + 1) a (hao.ext E.low) ha4 (Nat.lt_succ_self _) haz); (first | with_reducible refine hc.mono ?_ | refine hc.mono ?_); clear hc; unfold CopPost; rintro e wn ⟨z, rfl, hzo, hf, hzb, hx⟩; (try have mhzo_1 := hf.away b1.lt); (try have mhzo_2 := hf.away b2.lt); (try replace hf := hf.mono E.size)) | ((with_reducible refine at_store 2 ?_); have bo := b2; refine wp_put bo rfl rfl ?_ ?_ ?_ ?_; (· kernel_rfl); (· first | rfl | kernel_rfl); (· first | decide | exact Nat.le_refl _ | simp [Act.eval, Value.cells] | (simp [Act.eval, Act.put, Value.cells]; done)); intro wn bn hb; dsimp only [Act.put]; simp only [putA, Act.eval, Value.cells, Nat.reduceAdd, putL, exC_size] at bn; have E2 := E.put bo hb; (try replace b1 := b1.but hb (by assumption)); (first | (replace hzo := hzo.but hb bo.blk (of_decide_eq_true rfl)) | (replace hzo := hzo.but0 hb (by assumption)) | skip); clear E bo; have E := E2; clear E2; clear b2; have b2 := bn; clear bn hb) | ((first | ((with_reducible refine at_dst 1 ?_); go_simp; (generalize hXn : Array.size (World.heap _) = X1); refine new_block hXn ?_; intro wn bb hx; have b1 := Loc.new bb E hXn) | ((with_reducible refine at_dst 2 ?_); go_simp; (generalize hXn : Array.size (World.heap _) = X2); refine new_block hXn ?_; intro wn bb hx; (try have ⟨n1_2, n2_1⟩ := b1.ne hXn); have b2 := Loc.new bb E hXn)); (try have ⟨nn, nm⟩ := b1.ne hXn); have zz := Nat.le_trans E.size (Nat.le_of_eq hXn); clear bb hXn)); (try replace E := E.ext hx); (try replace b1 := b1.ext hx); (try replace b2 := b2.ext hx); (try replace hcE := bcell E.low); (try replace c1 := b1.cf); (try replace c2 := b2.cf)) | ((with_reducible refine at_dst 15 ?_); (refine wp_rec2 ((RRow.ext hkc E.low)) (H0.out) exC_len rfl rfl ?_ ?_ ?_); (· kernel_rfl); (· kernel_rfl)))
     refine bodyPost_ret (v := .agg (exC z).toArray) (by simp [results, Try.f18, go_sem, c2]; rfl) rfl ⟨z, rfl, hzo, hf, hzb, E.low⟩
   · rw [if_neg (fun h => hk h.2)]
     have hk' : ((x.kids.length : Int) == 1) = false := by simp; omega
     have HOP := Lib.hid hop
     have HK := Lib.hid hk
     clear hop hk
     go_enter Try.func18, Try.ntmps18
     have E := Only.refl [] w
     go_upto_region 9999 with (first | ((first | ((with_reducible refine at_dst 18 ?_); go_simp; (have hc := copied_any (x.sz + 1) x (hok.ext E.low) h4 (Nat.lt_succ_self _) hz); (first | with_reducible refine hc.mono ?_ | refine hc.mono ?_); clear hc; unfold CopPost; rintro e wn ⟨z, rfl, hzo, hf, hzb, hx⟩; (try have mhzo_1 := hf.away b1.lt); (try have mhzo_2 := hf.away b2.lt); (try replace hf := hf.mono E.size)) | ((with_reducible refine at_dst 19 ?_); (refine wp_rows2 1 (exC z).toArray 28 ?_ ?_); (· kernel_rfl); intro X19 wn hX19 bb hx; (try have ⟨n1_19, n19_1⟩ := b1.ne hX19); (try have ⟨n2_19, n19_2⟩ := b2.ne hX19); (try have z19 := Nat.le_trans E.size (Nat.le_of_eq hX19)); have b19 := Loc.new bb E hX19; clear bb hX19) | ((with_reducible refine at_store 2 ?_); have bo := b2; refine wp_put bo rfl rfl ?_ ?_ ?_ ?_; (· kernel_rfl); (· first | rfl | kernel_rfl); (· first | decide | exact Nat.le_refl _ | simp [Act.eval, Value.cells] | (simp [Act.eval, Act.put, Value.cells]; done)); intro wn bn hb; dsimp only [Act.put]; simp only [putA, Act.eval, Value.cells, Nat.reduceAdd, putL, exC_size] at bn; have E2 := E.put bo hb; (try replace b1 := b1.but hb (by assumption)); (try replace b19 := b19.but hb (by assumption)); (first | (replace hzo := hzo.but hb bo.blk (of_decide_eq_true rfl)) | (replace hzo := hzo.but0 hb (by assumption)) | skip); clear E bo; have E := E2; clear E2; clear b2; have b2 := bn; clear bn hb) | ((first | ((with_reducible refine at_dst 1 ?_); go_simp; (generalize hXn : Array.size (World.heap _) = X1); refine new_block hXn ?_; intro wn bb hx; have b1 := Loc.new bb E hXn) | ((with_reducible refine at_dst 2 ?_); go_simp; (generalize hXn : Array.size (World.heap _) = X2); refine new_block hXn ?_; intro wn bb hx; (try have ⟨n1_2, n2_1⟩ := b1.ne hXn); have b2 := Loc.new bb E hXn)); (try have ⟨nn, nm⟩ := b1.ne hXn); have zz := Nat.le_trans E.size (Nat.le_of_eq hXn); clear bb hXn)); (try replace E := E.ext hx); (try replace b1 := b1.ext hx); (try replace b2 := b2.ext hx); (try replace hzo := hzo.ext hx); (try replace hcE := bcell E.low); (try replace c1 := b1.cf); (try replace c2 := b2.cf); (try replace c19 := b19.cf)) | ((with_reducible refine at_dst 17 ?_); (refine wp_all b1.blk rfl rfl ?_ ?_ ?_); (· kernel_rfl); (· kernel_rfl)))
     refine bodyPost_ret (v := .agg (exC (nodeX 2 (some ⟨X19, 0, none⟩) 1 [z])).toArray) (by simp [results, Try.f18, go_sem, c2]; rfl) rfl ⟨_, rfl, nodeX_ok (RRow.blk (xs := [z]) exC_len b19.blk (by simp) (show 1 ≤ maxLen by decide)) (oks1 hzo), nodeX_fr z19 (frs1 hf), ?_, E.low⟩
     rw [nodeX_bare, List.map_cons, List.map_nil, hzb]; rfl
 · obtain ⟨s1, s2⟩ := kd_f hop
   rw [if_neg (fun h => hop h.1)]
   have HOP := Lib.hid hop
   clear hop
   go_enter Try.func18, Try.ntmps18
   have E := Only.refl [] w
   go_upto_region 9999 with (first | ((first | ((with_reducible refine at_dst 18 ?_); go_simp; (have hc := copied_any (x.sz + 1) x (hok.ext E.low) h4 (Nat.lt_succ_self _) hz); (first | with_reducible refine hc.mono ?_ | refine hc.mono ?_); clear hc; unfold CopPost; rintro e wn ⟨z, rfl, hzo, hf, hzb, hx⟩; (try have mhzo_1 := hf.away b1.lt); (try have mhzo_2 := hf.away b2.lt); (try replace hf := hf.mono E.size)) | ((with_reducible refine at_dst 19 ?_); (refine wp_rows2 1 (exC z).toArray 28 ?_ ?_); (· kernel_rfl); intro X19 wn hX19 bb hx; (try have ⟨n1_19, n19_1⟩ := b1.ne hX19); (try have ⟨n2_19, n19_2⟩ := b2.ne hX19); (try have z19 := Nat.le_trans E.size (Nat.le_of_eq hX19)); have b19 := Loc.new bb E hX19; clear bb hX19) | ((with_reducible refine at_store 2 ?_); have bo := b2; refine wp_put bo rfl rfl ?_ ?_ ?_ ?_; (· kernel_rfl); (· first | rfl | kernel_rfl); (· first | decide | exact Nat.le_refl _ | simp [Act.eval, Value.cells] | (simp [Act.eval, Act.put, Value.cells]; done)); intro wn bn hb; dsimp only [Act.put]; simp only [putA, Act.eval, Value.cells, Nat.reduceAdd, putL, exC_size] at bn; have E2 := E.put bo hb; (try replace b1 := b1.but hb (by assumption)); (try replace b19 := b19.but hb (by assumption)); (first | (replace hzo := hzo.but hb bo.blk (of_decide_eq_true rfl)) | (replace hzo := hzo.but0 hb (by assumption)) | skip); clear E bo; have E := E2; clear E2; clear b2; have b2 := bn; clear bn hb) | ((first | ((with_reducible refine at_dst 1 ?_); go_simp; (generalize hXn : Array.size (World.heap _) = X1); refine new_block hXn ?_; intro wn bb hx; have b1 := Loc.new bb E hXn) | ((with_reducible refine at_dst 2 ?_); go_simp; (generalize hXn : Array.size (World.heap _) = X2); refine new_block hXn ?_; intro wn bb hx; (try have ⟨n1_2, n2_1⟩ := b1.ne hXn); have b2 := Loc.new bb E hXn)); (try have ⟨nn, nm⟩ := b1.ne hXn); have zz := Nat.le_trans E.size (Nat.le_of_eq hXn); clear bb hXn)); (try replace E := E.ext hx); (try replace b1 := b1.ext hx); (try replace b2 := b2.ext hx); (try replace hzo := hzo.ext hx); (try replace hcE := bcell E.low); (try replace c1 := b1.cf); (try replace c2 := b2.cf); (try replace c19 := b19.cf)) | ((with_reducible refine at_dst 17 ?_); (refine wp_all b1.blk rfl rfl ?_ ?_ ?_); (· kernel_rfl); (· kernel_rfl)))
   refine bodyPost_ret (v := .agg (exC (nodeX 2 (some ⟨X19, 0, none⟩) 1 [z])).toArray) (by simp [results, Try.f18, go_sem, c2]; rfl) rfl ⟨_, rfl, nodeX_ok (RRow.blk (xs := [z]) exC_len b19.blk (by simp) (show 1 ≤ maxLen by decide)) (oks1 hzo), nodeX_fr z19 (frs1 hf), ?_, E.low⟩
   rw [nodeX_bare, List.map_cons, List.map_nil, hzb]; rfl
open Go.RowKit Tk
def equalB (x y : Ex) : Bool := (equalR x y).1 && decide ((equalR x y).2 = 0)
theorem bequalB_any {x y : Ex} {w : World} (hx1 : x.ok w) (hy : y.ok w) (hsx : x.small) (hsy : y.small) (hzx : x.sz ≤ 100000000000) (hzy : y.sz ≤ 100000000000) :
    Calls Try.prog 90 #[.agg (exC x).toArray, .agg (exC y).toArray] w (BPost (equalB x y) w) := by
 unfold equalB
 obtain ⟨r, hr⟩ : ∃ r, equalR x y = r := ⟨_, rfl⟩
 obtain ⟨b, k⟩ := r
 have HE := Lib.hid hr
 rw [hr]
 clear hr
 cases b with
 | false =>
   go_enter Try.func90, Try.ntmps90
   have E := Only.refl [] w
   go_upto_region 9999 with (first | ((first | ((with_reducible refine at_dst 10 ?_); go_simp; (have hc := bequal_any (hx1.ext E.low) (hy.ext E.low) hsx hsy hzx hzy); (first | with_reducible refine hc.mono ?_ | refine hc.mono ?_); clear hc; unfold BIPost; rw [HE.out]; rintro e wn ⟨rfl, hx⟩) | ((first | ((with_reducible refine at_dst 2 ?_); go_simp; (generalize hXn : Array.size (World.heap _) = X2); refine new_block hXn ?_; intro wn bb hx; have b2 := Loc.new bb E hXn) | ((with_reducible refine at_dst 3 ?_); go_simp; (generalize hXn : Array.size (World.heap _) = X3); refine new_block hXn ?_; intro wn bb hx; have b3 := Loc.new bb E hXn)); (try have ⟨nn, nm⟩ := b2.ne hXn); have zz := Nat.le_trans E.size (Nat.le_of_eq hXn); clear bb hXn)); (try replace E := E.ext hx); (try replace b2 := b2.ext hx); (try replace b3 := b3.ext hx); (try replace hcE := bcell E.low); (try replace c2 := b2.cf); (try replace c3 := b3.cf)) | ((with_reducible refine at_dsts [8, 9] ?_ ?_); (· rfl); (refine wp_all (Loc.blk (by assumption)) rfl rfl ?_ ?_ ?_); (· kernel_rfl); (· kernel_rfl)))
   go_ret
   exact ⟨rfl, E.low⟩
 | true =>
   by_cases hk : k = 0
   · obtain ⟨s1, s2⟩ := kd_t hk
     have HK := Lib.hid hk
     rw [show (decide (k = 0)) = true from decide_eq_true hk]
     clear hk
     go_enter Try.func90, Try.ntmps90
     have E := Only.refl [] w
     go_upto_region 9999 with (first | ((first | ((with_reducible refine at_dst 10 ?_); go_simp; (have hc := bequal_any (hx1.ext E.low) (hy.ext E.low) hsx hsy hzx hzy); (first | with_reducible refine hc.mono ?_ | refine hc.mono ?_); clear hc; unfold BIPost; rw [HE.out]; rintro e wn ⟨rfl, hx⟩) | ((first | ((with_reducible refine at_dst 2 ?_); go_simp; (generalize hXn : Array.size (World.heap _) = X2); refine new_block hXn ?_; intro wn bb hx; have b2 := Loc.new bb E hXn) | ((with_reducible refine at_dst 3 ?_); go_simp; (generalize hXn : Array.size (World.heap _) = X3); refine new_block hXn ?_; intro wn bb hx; have b3 := Loc.new bb E hXn)); (try have ⟨nn, nm⟩ := b2.ne hXn); have zz := Nat.le_trans E.size (Nat.le_of_eq hXn); clear bb hXn)); (try replace E := E.ext hx); (try replace b2 := b2.ext hx); (try replace b3 := b3.ext hx); (try replace hcE := bcell E.low); (try replace c2 := b2.cf); (try replace c3 := b3.cf)) | ((with_reducible refine at_dsts [8, 9] ?_ ?_); (· rfl); (refine wp_all (Loc.blk (by assumption)) rfl rfl ?_ ?_ ?_); (· kernel_rfl); (· kernel_rfl)))
     go_ret
     exact ⟨rfl, E.low⟩
   · obtain ⟨s1, s2⟩ := kd_f hk
     have HK := Lib.hid hk
     rw [show (decide (k = 0)) = false from decide_eq_false hk]
     clear hk
     go_enter Try.func90, Try.ntmps90
     have E := Only.refl [] w
     go_upto_region 9999 with (first | ((first | ((with_reducible refine at_dst 10 ?_); go_simp; (have hc := bequal_any (hx1.ext E.low) (hy.ext E.low) hsx hsy hzx hzy); (first | with_reducible refine hc.mono ?_ | refine hc.mono ?_); clear hc; unfold BIPost; rw [HE.out]; rintro e wn ⟨rfl, hx⟩) | ((first | ((with_reducible refine at_dst 2 ?_); go_simp; (generalize hXn : Array.size (World.heap _) = X2); refine new_block hXn ?_; intro wn bb hx; have b2 := Loc.new bb E hXn) | ((with_reducible refine at_dst 3 ?_); go_simp; (generalize hXn : Array.size (World.heap _) = X3); refine new_block hXn ?_; intro wn bb hx; have b3 := Loc.new bb E hXn)); (try have ⟨nn, nm⟩ := b2.ne hXn); have zz := Nat.le_trans E.size (Nat.le_of_eq hXn); clear bb hXn)); (try replace E := E.ext hx); (try replace b2 := b2.ext hx); (try replace b3 := b3.ext hx); (try replace hcE := bcell E.low); (try replace c2 := b2.cf); (try replace c3 := b3.cf)) | ((with_reducible refine at_dsts [8, 9] ?_ ?_); (· rfl); (refine wp_all (Loc.blk (by assumption)) rfl rfl ?_ ?_ ?_); (· kernel_rfl); (· kernel_rfl)))
     go_ret
     exact ⟨rfl, E.low⟩
def SimP (x y : Ex) (r : Option Ex) (w : World) (e : Ending) (w' : World) : Prop :=
 match r with
 | none => e = .returned (.tuple #[.agg exZ, .bool false]) ∧ Ext w w'
 | some z => ∃ u, e = .returned (.tuple #[.agg (exC u).toArray, .bool true]) ∧ u.ok w' ∧ u.bare = z.bare ∧ (∀ X, X < w.heap.size → x.away X → y.away X → u.away X) ∧ Ext w w'
def domS (x y : Ex) (fixed firm : Bool) : Option Ex := if fixed = true then some x else if firm = true then some y else if equalB x y = true then some x else none
theorem bdominated_any {x y : Ex} {w : World} (hx1 : x.ok w) (hy : y.ok w) (hsx : x.small) (hsy : y.small) (hzx : x.sz ≤ 100000000000) (hzy : y.sz ≤ 100000000000) (fixed firm : Bool) :
    Calls Try.prog 69 #[.agg (exC x).toArray, .agg (exC y).toArray, .bool fixed, .bool firm] w (SimP x y (domS x y fixed firm) w) := by
 cases fixed with
 | true =>
   show Calls Try.prog 69 _ _ (SimP x y (some x) w)
   go_enter Try.func69, Try.ntmps69
   have E := Only.refl [] w
   go_upto_region 9999 with (first | ((first | ((with_reducible refine at_store 8 ?_); have bo := b8; refine wp_put bo rfl rfl ?_ ?_ ?_ ?_; (· kernel_rfl); (· first | rfl | kernel_rfl); (· first | decide | exact Nat.le_refl _ | simp [Act.eval, Value.cells] | (simp [Act.eval, Act.put, Value.cells]; done)); intro wn bn hb; dsimp only [Act.put]; simp only [putA, Act.eval, Value.cells, Nat.reduceAdd, putL, exC_size] at bn; have E2 := E.put bo hb; (try replace b4 := b4.but hb (by assumption)); (try replace b5 := b5.but hb (by assumption)); clear E bo; have E := E2; clear E2; clear b8; have b8 := bn; clear bn hb) | ((first | ((with_reducible refine at_dst 4 ?_); go_simp; (generalize hXn : Array.size (World.heap _) = X4); refine new_block hXn ?_; intro wn bb hx; have b4 := Loc.new bb E hXn) | ((with_reducible refine at_dst 5 ?_); go_simp; (generalize hXn : Array.size (World.heap _) = X5); refine new_block hXn ?_; intro wn bb hx; have b5 := Loc.new bb E hXn) | ((with_reducible refine at_dst 8 ?_); go_simp; (generalize hXn : Array.size (World.heap _) = X8); refine new_block hXn ?_; intro wn bb hx; have b8 := Loc.new bb E hXn)); (try have ⟨nn, nm⟩ := b4.ne hXn); (try have ⟨nn, nm⟩ := b5.ne hXn); have zz := Nat.le_trans E.size (Nat.le_of_eq hXn); clear bb hXn)); (try replace E := E.ext hx); (try replace b4 := b4.ext hx); (try replace b5 := b5.ext hx); (try replace hcE := bcell E.low); (try replace c4 := b4.cf); (try replace c5 := b5.cf); (try replace c8 := b8.cf)) | ((with_reducible refine at_dst 12 ?_); (refine wp_all b4.blk rfl rfl ?_ ?_ ?_); (· kernel_rfl); (· kernel_rfl)))
   refine bodyPost_ret (v := .tuple #[.agg (exC x).toArray, .bool true]) (by simp [results, Try.f69, go_sem, c8]; rfl) rfl ⟨x, rfl, hx1.ext E.low, rfl, fun _ _ h _ => h, E.low⟩
 | false =>
   cases firm with
   | true =>
     show Calls Try.prog 69 _ _ (SimP x y (some y) w)
     go_enter Try.func69, Try.ntmps69
     have E := Only.refl [] w
     go_upto_region 9999 with (first | ((first | ((with_reducible refine at_store 8 ?_); have bo := b8; refine wp_put bo rfl rfl ?_ ?_ ?_ ?_; (· kernel_rfl); (· first | rfl | kernel_rfl); (· first | decide | exact Nat.le_refl _ | simp [Act.eval, Value.cells] | (simp [Act.eval, Act.put, Value.cells]; done)); intro wn bn hb; dsimp only [Act.put]; simp only [putA, Act.eval, Value.cells, Nat.reduceAdd, putL, exC_size] at bn; have E2 := E.put bo hb; (try replace b4 := b4.but hb (by assumption)); (try replace b5 := b5.but hb (by assumption)); clear E bo; have E := E2; clear E2; clear b8; have b8 := bn; clear bn hb) | ((first | ((with_reducible refine at_dst 4 ?_); go_simp; (generalize hXn : Array.size (World.heap _) = X4); refine new_block hXn ?_; intro wn bb hx; have b4 := Loc.new bb E hXn) | ((with_reducible refine at_dst 5 ?_); go_simp; (generalize hXn : Array.size (World.heap _) = X5); refine new_block hXn ?_; intro wn bb hx; have b5 := Loc.new bb E hXn) | ((with_reducible refine at_dst 8 ?_); go_simp; (generalize hXn : Array.size (World.heap _) = X8); refine new_block hXn ?_; intro wn bb hx; have b8 := Loc.new bb E hXn)); (try have ⟨nn, nm⟩ := b4.ne hXn); (try have ⟨nn, nm⟩ := b5.ne hXn); have zz := Nat.le_trans E.size (Nat.le_of_eq hXn); clear bb hXn)); (try replace E := E.ext hx); (try replace b4 := b4.ext hx); (try replace b5 := b5.ext hx); (try replace hcE := bcell E.low); (try replace c4 := b4.cf); (try replace c5 := b5.cf); (try replace c8 := b8.cf)) | ((with_reducible refine at_dst 15 ?_); (refine wp_all b5.blk rfl rfl ?_ ?_ ?_); (· kernel_rfl); (· kernel_rfl)))
     refine bodyPost_ret (v := .tuple #[.agg (exC y).toArray, .bool true]) (by simp [results, Try.f69, go_sem, c8]; rfl) rfl ⟨y, rfl, hy.ext E.low, rfl, fun _ _ _ h => h, E.low⟩
   | false =>
     obtain ⟨b, hb⟩ : ∃ b, equalB x y = b := ⟨_, rfl⟩
     have HE := Lib.hid hb
     have e1 : domS x y false false = if b = true then some x else none := by unfold domS; rw [hb]; rfl
     rw [e1]
     clear hb e1
     cases b with
     | true =>
       show Calls Try.prog 69 _ _ (SimP x y (some x) w)
       go_enter Try.func69, Try.ntmps69
       have E := Only.refl [] w
       go_upto_region 9999 with (first | ((first | ((with_reducible refine at_dst 19 ?_); go_simp; (have hc := bequalB_any (hx1.ext E.low) (hy.ext E.low) hsx hsy hzx hzy); (first | with_reducible refine hc.mono ?_ | refine hc.mono ?_); clear hc; unfold BPost; rw [HE.out]; rintro e wn ⟨rfl, hx⟩) | ((with_reducible refine at_store 8 ?_); have bo := b8; refine wp_put bo rfl rfl ?_ ?_ ?_ ?_; (· kernel_rfl); (· first | rfl | kernel_rfl); (· first | decide | exact Nat.le_refl _ | simp [Act.eval, Value.cells] | (simp [Act.eval, Act.put, Value.cells]; done)); intro wn bn hb; dsimp only [Act.put]; simp only [putA, Act.eval, Value.cells, Nat.reduceAdd, putL, exC_size] at bn; have E2 := E.put bo hb; (try replace b4 := b4.but hb (by assumption)); (try replace b5 := b5.but hb (by assumption)); clear E bo; have E := E2; clear E2; clear b8; have b8 := bn; clear bn hb) | ((first | ((with_reducible refine at_dst 4 ?_); go_simp; (generalize hXn : Array.size (World.heap _) = X4); refine new_block hXn ?_; intro wn bb hx; have b4 := Loc.new bb E hXn) | ((with_reducible refine at_dst 5 ?_); go_simp; (generalize hXn : Array.size (World.heap _) = X5); refine new_block hXn ?_; intro wn bb hx; have b5 := Loc.new bb E hXn) | ((with_reducible refine at_dst 8 ?_); go_simp; (generalize hXn : Array.size (World.heap _) = X8); refine new_block hXn ?_; intro wn bb hx; have b8 := Loc.new bb E hXn)); (try have ⟨nn, nm⟩ := b4.ne hXn); (try have ⟨nn, nm⟩ := b5.ne hXn); have zz := Nat.le_trans E.size (Nat.le_of_eq hXn); clear bb hXn)); (try replace E := E.ext hx); (try replace b4 := b4.ext hx); (try replace b5 := b5.ext hx); (try replace b8 := b8.ext hx); (try replace hcE := bcell E.low); (try replace c4 := b4.cf); (try replace c5 := b5.cf); (try replace c8 := b8.cf)) | ((with_reducible refine at_dsts [17, 18, 20] ?_ ?_); (· rfl); (refine wp_all (Loc.blk (by assumption)) rfl rfl ?_ ?_ ?_); (· kernel_rfl); (· kernel_rfl)))
       refine bodyPost_ret (v := .tuple #[.agg (exC x).toArray, .bool true]) (by simp [results, Try.f69, go_sem, c8]; rfl) rfl ⟨x, rfl, hx1.ext E.low, rfl, fun _ _ h _ => h, E.low⟩
     | false =>
       show Calls Try.prog 69 _ _ (SimP x y none w)
       go_enter Try.func69, Try.ntmps69
       have E := Only.refl [] w
       go_upto_region 9999 with (first | ((first | ((with_reducible refine at_dst 19 ?_); go_simp; (have hc := bequalB_any (hx1.ext E.low) (hy.ext E.low) hsx hsy hzx hzy); (first | with_reducible refine hc.mono ?_ | refine hc.mono ?_); clear hc; unfold BPost; rw [HE.out]; rintro e wn ⟨rfl, hx⟩) | ((with_reducible refine at_store 8 ?_); have bo := b8; refine wp_put bo rfl rfl ?_ ?_ ?_ ?_; (· kernel_rfl); (· first | rfl | kernel_rfl); (· first | decide | exact Nat.le_refl _ | simp [Act.eval, Value.cells] | (simp [Act.eval, Act.put, Value.cells]; done)); intro wn bn hb; dsimp only [Act.put]; simp only [putA, Act.eval, Value.cells, Nat.reduceAdd, putL, exC_size] at bn; have E2 := E.put bo hb; (try replace b4 := b4.but hb (by assumption)); (try replace b5 := b5.but hb (by assumption)); clear E bo; have E := E2; clear E2; clear b8; have b8 := bn; clear bn hb) | ((first | ((with_reducible refine at_dst 4 ?_); go_simp; (generalize hXn : Array.size (World.heap _) = X4); refine new_block hXn ?_; intro wn bb hx; have b4 := Loc.new bb E hXn) | ((with_reducible refine at_dst 5 ?_); go_simp; (generalize hXn : Array.size (World.heap _) = X5); refine new_block hXn ?_; intro wn bb hx; have b5 := Loc.new bb E hXn) | ((with_reducible refine at_dst 8 ?_); go_simp; (generalize hXn : Array.size (World.heap _) = X8); refine new_block hXn ?_; intro wn bb hx; have b8 := Loc.new bb E hXn)); (try have ⟨nn, nm⟩ := b4.ne hXn); (try have ⟨nn, nm⟩ := b5.ne hXn); have zz := Nat.le_trans E.size (Nat.le_of_eq hXn); clear bb hXn)); (try replace E := E.ext hx); (try replace b4 := b4.ext hx); (try replace b5 := b5.ext hx); (try replace b8 := b8.ext hx); (try replace hcE := bcell E.low); (try replace c4 := b4.cf); (try replace c5 := b5.cf); (try replace c8 := b8.cf)) | ((with_reducible refine at_dsts [17, 18] ?_ ?_); (· rfl); (refine wp_all (Loc.blk (by assumption)) rfl rfl ?_ ?_ ?_); (· kernel_rfl); (· kernel_rfl)))
       refine bodyPost_ret (v := .tuple #[.agg exZ, .bool false]) (by simp [results, Try.f69, go_sem, c8]; try rfl) rfl ⟨rfl, E.low⟩
end Go.Proofs.Ytbobbbhgdfapjaa
