/- J8, J9, M8 -/
import Derived.Test.YtbobbbhgdfapjaaGreatZB1
import Derived.Test.YtbobbbhgdfapjaaGreatZB2
import Derived.Test.YtbobbbhgdfapjaaGreatZB3
import Derived.Test.YtbobbbhgdfapjaaGreatZB4
import Derived.Test.YtbobbbhgdfapjaaGreatZBnkt1
import Derived.Test.YtbobbbhgdfapjaaGreatZB5
import Derived.Test.YtbobbbhgdfapjaaGreatZB6
import Derived.Test.YtbobbbhgdfapjaaGreatZB7
import Derived.Test.YtbobbbhgdfapjaaGreatZB8
import Derived.Test.YtbobbbhgdfapjaaGreatZB9
import Derived.Test.YtbobbbhgdfapjaaGreatZBis1
import Derived.Test.YtbobbbhgdfapjaaGreatZB10
import Derived.Test.YtbobbbhgdfapjaaGreatZB11
import Derived.Test.YtbobbbhgdfapjaaGreatZB12
import Derived.Test.YtbobbbhgdfapjaaGreatZB13
import Derived.Test.YtbobbbhgdfapjaaGreatZB14
import Derived.Test.YtbobbbhgdfapjaaGreatZB15
import Derived.Test.YtbobbbhgdfapjaaGreatZB16
import Derived.Test.YtbobbbhgdfapjaaGreatZB17
import Derived.Test.YtbobbbhgdfapjaaGreatZB18
import Derived.Test.YtbobbbhgdfapjaaGreatZB19
import Derived.Test.YtbobbbhgdfapjaaGreatZB20
import Derived.Test.YtbobbbhgdfapjaaGreatZBikst1
import Derived.Test.YtbobbbhgdfapjaaGreatZB21
import Derived.Test.YtbobbbhgdfapjaaGreatZBcis1
import Derived.Test.YtbobbbhgdfapjaaGreatZBnk1
import Derived.Test.YtbobbbhgdfapjaaGreatZB22
import Derived.Test.YtbobbbhgdfapjaaGreatZB23
import Derived.Test.YtbobbbhgdfapjaaGreatZB24
import Derived.Test.YtbobbbhgdfapjaaGreatZB25
import Derived.Test.YtbobbbhgdfapjaaGreatZBncv1
import Derived.Test.YtbobbbhgdfapjaaGreatZB26
import Derived.Test.YtbobbbhgdfapjaaGreatZB27
import Derived.Test.YtbobbbhgdfapjaaGreatZB28
import Derived.Test.YtbobbbhgdfapjaaGreatZB29
import Derived.Test.YtbobbbhgdfapjaaGreatZB30
import Derived.Test.YtbobbbhgdfapjaaGreatZB31
import Derived.Test.YtbobbbhgdfapjaaGreatZB32
import Derived.Test.YtbobbbhgdfapjaaGreatZB33
import Derived.Test.YtbobbbhgdfapjaaGreatZB34
import Derived.Test.YtbobbbhgdfapjaaGreatZB35
import Derived.Test.YtbobbbhgdfapjaaGreatZBcis2
set_option linter.unusedSimpArgs false
set_option linter.unusedVariables false
namespace Go.Proofs.YtbobbbhgdfapjaaGreat
set_option maxHeartbeats 8000000
set_option maxRecDepth 100000
open Go.RowKit Tk
/-! ### what does not depend on where an expression lies -/
/-! ### simple -/
theorem simL_len : ∀ k : List Ex, (simL k).length = k.length
 | [] => by rw [simL]
 | e :: l => by rw [simL, List.length_cons, List.length_cons, simL_len l]
/-! ### it does not change its own result -/
inductive Sd : Ex → Prop
 | nm (x : Ex) : x.kids = [] → Sd x
 | no (k : Ex) : Sd k → ¬ (k.h.op = 2 ∧ k.kids.length = 1) → Sd (opX 2 [k])
 | two (o : Int) (a b : Ex) : Sd a → Sd b → simS o a b = none → Sd (opX o [a, b])
theorem Sd.same {x : Ex} (h : Sd x) : simE x = x := by
 induction h with
 | nm x hx => rw [simE_eq, hx, simL]; rfl
 | no k hk hn ih =>
   unfold opX
   rw [simE, simL, simL, ih]
   show negX k = _
   unfold negX
   rw [if_neg hn]; rfl
 | two o a b ha hb hs iha ihb =>
   unfold opX
   rw [simE, simL, simL, simL, iha, ihb]
   show (simS o a b).getD (opX o [a, b]) = _
   rw [hs]; rfl
theorem Sd.neg {x : Ex} (h : Sd x) : Sd (negX x) := by
 unfold negX
 by_cases hc : x.h.op = 2 ∧ x.kids.length = 1
 · rw [if_pos hc]
   cases h with
   | nm x hx => rw [hx] at hc; exact absurd hc.2 (by decide)
   | no k hk hn => exact hk
   | two o a b ha hb hs => exact absurd (show (2 : Nat) = 1 from hc.2) (by decide)
 · rw [if_neg hc]; exact .no x h hc
mutual
theorem simE_sd : ∀ x : Ex, Sd (simE x)
 | .mk h k => by
   have hk := simL_sd k
   rw [simE]
   match hq : simL k, hk with
   | [], _ =>
     have : k = [] := List.eq_nil_of_length_eq_zero (by rw [← simL_len, hq]; rfl)
     exact .nm _ this
   | [a], hk => exact (hk a (by simp)).neg
   | a :: b :: r, hk =>
     have ha := hk a (by simp)
     have hb := hk b (by simp)
     show Sd ((simS h.op a b).getD (opX h.op [a, b]))
     cases hs : simS h.op a b with
     | none => exact .two _ _ _ ha hb hs
     | some z =>
       rcases simS_one hs with rfl | rfl | rfl | rfl
       · exact ha
       · exact hb
       · exact ha.neg
       · exact hb.neg
theorem simL_sd : ∀ (k : List Ex), ∀ x ∈ simL k, Sd x
 | [], x, h => by rw [simL] at h; cases h
 | e :: r, x, h => by
   rw [simL] at h
   rcases List.mem_cons.1 h with rfl | h
   · exact simE_sd e
   · exact simL_sd r x h
end
theorem simE_twice (x : Ex) : simE (simE x) = simE x := (simE_sd x).same
/-! ### a good condition stays one -/
/-! ### levels and sizes do not grow -/
/-! ### names -/
open Go.RowKit Tk
mutual
theorem val_congr {l l' : List (ByteArray × Bool)} : ∀ x : Ex, x.wf → (∀ n ∈ namesE x, valB n l = valB n l') → valE l x = valE l' x
 | .mk h k, hw, hn => by
   unfold Ex.wf at hw
   have hk := vals_congr k hw.2.2 (fun n hm => hn n (by rw [namesE]; exact List.mem_append.2 (.inr hm)))
   rw [valE, valE, hk]
   by_cases h1 : h.op = 1
   · have hl := hw.2.1
     rw [h1, show namedE 1 = 1 from rfl] at hl
     match hq : h.names, hl with
     | [m], _ =>
       have := hn m (by rw [namesE, hq]; simp)
       show bodyV h ((valB m l).getD false) _ = bodyV h ((valB m l').getD false) _
       rw [this]
   · unfold bodyV
     rw [if_neg h1, if_neg h1]
theorem vals_congr {l l' : List (ByteArray × Bool)} : ∀ k : List Ex, Ex.wfs k → (∀ n ∈ namesEs k, valB n l = valB n l') → valEs l k = valEs l' k
 | [], _, _ => by rw [valEs, valEs]
 | e :: r, hw, hn => by
   unfold Ex.wfs at hw
   rw [valEs, valEs, val_congr e hw.1 (fun n hm => hn n (by rw [namesEs]; exact List.mem_append.2 (.inl hm))), vals_congr r hw.2 (fun n hm => hn n (by rw [namesEs]; exact List.mem_append.2 (.inr hm)))]
end
theorem idxN_at {s : ByteArray} : ∀ {ns : List ByteArray}, s ∈ ns → idxN s ns < ns.length ∧ ns[idxN s ns]? = some s
 | x :: l, h => by
   rw [idxN]
   by_cases hx : x = s
   · rw [if_pos hx, hx]; simp
   · rw [if_neg hx]
     obtain ⟨h1, h2⟩ := idxN_at ((List.mem_cons.1 h).resolve_left fun e => hx e.symm)
     exact ⟨by rw [List.length_cons]; omega, by rw [List.getElem?_cons_succ]; exact h2⟩
/-- the row of a table in which the names have the values of booleans -/
def rowOf (ns : List ByteArray) (l : List (ByteArray × Bool)) : Nat := wdF (fun i => ((ns[i]?).bind fun s => valB s l).getD false) ns.length
theorem rowOf_lt (ns : List ByteArray) (l : List (ByteArray × Bool)) : rowOf ns l < 2 ^ ns.length := wdF_lt _ _
theorem rowOf_val {ns : List ByteArray} {l : List (ByteArray × Bool)} {s : ByteArray} (hs : s ∈ ns) (hk : (findB s l).isSome = true) : valB s (numb ns (rowOf ns l)) = valB s l := by
 obtain ⟨h1, h2⟩ := idxN_at hs
 rw [numb_val hs]
 unfold rowOf
 rw [wdF_bit, decide_eq_true h1, Bool.true_and, h2]
 rw [← valB_some] at hk
 obtain ⟨b, hb⟩ := Option.isSome_iff_exists.1 hk
 show some ((valB s l).getD false) = _
 rw [hb]; rfl
theorem row_val {ns : List ByteArray} {l : List (ByteArray × Bool)} {x : Ex} (hw : x.wf) (hs : ∀ n ∈ namesE x, n ∈ ns) (hk : ∀ n ∈ namesE x, (findB n l).isSome = true) : rowV ns x (rowOf ns l) = valE l x :=
 val_congr x hw fun n hn => rowOf_val (hs n hn) (hk n hn)
/-- a constant has its value everywhere -/
theorem const_val {x : Ex} {a : Bool} {l : List (ByteArray × Bool)} (hc : constR x = (a, true)) (hk : ∀ n ∈ namesE x, (findB n l).isSome = true) : valE l x = a := by
 unfold constR at hc
 split at hc
 · cases hc
 rename_i hn
 have h0 : ¬ (namesR x).length = 0 := fun h => hn (.inl h)
 obtain ⟨hw, hall⟩ := namesR_all h0
 have hr := rowOf_lt (namesR x) l
 rw [← row_val hw hall hk]
 unfold conV at hc
 injection hc with h1 h2
 cases ht : eqRows (rowV (namesR x) x) (fun _ => true) (namesR x).length with
 | true =>
   rw [ht] at h1
   unfold eqRows at ht
   have := List.all_eq_true.1 ht _ (List.mem_range.2 hr)
   rw [← h1]
   simpa using this
 | false =>
   rw [ht] at h1 h2
   rw [Bool.false_or] at h2
   unfold eqRows at h2
   have := List.all_eq_true.1 h2 _ (List.mem_range.2 hr)
   rw [← h1]
   simpa using this
theorem equal_val {x y : Ex} {l : List (ByteArray × Bool)} (he : equalB x y = true) (hk : ∀ n ∈ namesE x, (findB n l).isSome = true) (hk2 : ∀ n ∈ namesE y, (findB n l).isSome = true) : valE l x = valE l y := by
 unfold equalB equalR at he
 by_cases hx : chk x 1 = 0
 · rw [if_neg (by simpa using hx)] at he
   by_cases hy : chk y 1 = 0
   · rw [if_neg (by simpa using hy)] at he
     unfold eqV at he
     split at he
     · simp at he
     · simp only [decide_true, Bool.and_true] at he
       unfold eqRows at he
       have hr := rowOf_lt (names2 x y) l
       have := List.all_eq_true.1 he _ (List.mem_range.2 hr)
       rw [row_val (chk_wf x 1 hx) names2_l hk, row_val (chk_wf y 1 hy) names2_r hk2] at this
       simpa using this
   · rw [if_pos hy] at he; simp at he
 · rw [if_pos hx] at he; simp at he
theorem val_op1 (l : List (ByteArray × Bool)) (a : Ex) : valE l (opX 2 [a]) = !valE l a := by unfold opX; rw [valE, valEs, valEs]; rfl
theorem val_op2 {o : Int} (ho : o = 3 ∨ o = 4 ∨ o = 5 ∨ o = 6 ∨ o = 7) (l : List (ByteArray × Bool)) (a b : Ex) : valE l (opX o [a, b]) = opB o (valE l a) (valE l b) := by
 unfold opX; rw [valE, valEs, valEs, valEs]
 rcases ho with rfl | rfl | rfl | rfl | rfl <;> rfl
theorem val_two {x a b : Ex} (ho : x.h.op = 3 ∨ x.h.op = 4 ∨ x.h.op = 5 ∨ x.h.op = 6 ∨ x.h.op = 7) (hk : x.kids = [a, b]) (l : List (ByteArray × Bool)) : valE l x = opB x.h.op (valE l a) (valE l b) := by
 rw [valE_eq, hk, valEs, valEs, valEs]
 unfold bodyV opB
 rw [if_neg (by omega), if_neg (by omega)]
 rfl
theorem val_one {x a : Ex} (ho : x.h.op = 2) (hk : x.kids = [a]) (l : List (ByteArray × Bool)) : valE l x = !valE l a := by
 rw [valE_eq, hk, valEs, valEs]
 unfold bodyV
 rw [if_neg (by omega), if_pos ho]
 rfl
theorem neg_val {x : Ex} (hg : x.good) (l : List (ByteArray × Bool)) : valE l (negX x) = !valE l x := by
 unfold negX
 by_cases hc : x.h.op = 2 ∧ x.kids.length = 1
 · rw [if_pos hc]
   obtain ⟨a, ha, -⟩ := kids1 hg hc.1
   rw [val_one hc.1 ha, ha]
   simp
 · rw [if_neg hc, val_op1]
theorem simT_val {op : Int} (ho : op = 3 ∨ op = 4 ∨ op = 5 ∨ op = 6 ∨ op = 7) {x y z : Ex} {a fixed b firm : Bool} {V : Ex → Bool} (hx : fixed = true → V x = a) (hy : firm = true → V y = b)
    (he : equalB x y = true → V x = V y) (nx : V (negX x) = !V x) (ny : V (negX y) = !V y) (h : simT op x y a fixed b firm = some z) : V z = opB op (V x) (V y) := by
 have key : ∀ (op : Int) (yes dom : Bool), yesB op = yes → domB op = dom →
     (∀ p q : Bool, (p = yes → opB op p q = q) ∧ (q = yes → opB op p q = p) ∧ (dom = true → (p = !yes → opB op p q = p) ∧ (q = !yes → opB op p q = q) ∧ opB op p p = p) ∧ (dom = false → (p = !yes → opB op p q = !q) ∧ (q = !yes → opB op p q = !p))) →
     simT op x y a fixed b firm = some z → V z = opB op (V x) (V y) := by
  intro op yes dom hye hdo hop h
  unfold simT domS at h
  rw [hye, hdo] at h
  obtain ⟨o1, o2, o3, o4⟩ := hop (V x) (V y)
  cases fixed <;> cases firm <;> cases dom
  all_goals
   simp only [Bool.false_and, Bool.true_and, if_false, if_true, Bool.false_eq_true, reduceCtorEq, beq_iff_eq] at h
   try simp only [true_implies] at hx
   try simp only [true_implies] at hy
   try simp only [true_implies] at o3
   try simp only [true_implies] at o4
  all_goals (repeat' split at h)
  all_goals (first | (injection h with h; subst h) | cases h)
  all_goals
   first
    | (refine (o1 ?_).symm; rw [hx]; assumption)
    | (refine (o2 ?_).symm; rw [hy]; assumption)
    | (refine (o3.1 ?_).symm; rw [hx]; (cases a <;> cases yes <;> simp_all); done)
    | (refine (o3.2.1 ?_).symm; rw [hy]; (cases b <;> cases yes <;> simp_all); done)
    | (rw [ny]; refine (o4.1 ?_).symm; rw [hx]; (cases a <;> cases yes <;> simp_all); done)
    | (rw [nx]; refine (o4.2 ?_).symm; rw [hy]; (cases b <;> cases yes <;> simp_all); done)
    | (have h1 := he (by assumption); have h3 := o3.2.2; rw [h1] at h3 ⊢; exact h3.symm)
 rcases ho with rfl | rfl | rfl | rfl | rfl
 · exact key 3 true true rfl rfl (by decide) h
 · exact key 4 false true rfl rfl (by decide) h
 · exact key 5 false false rfl rfl (by decide) h
 · exact key 6 true false rfl rfl (by decide) h
 · exact key 7 false false rfl rfl (by decide) h
theorem simE_val {x : Ex} (hg : x.good) {l : List (ByteArray × Bool)} : (∀ n ∈ namesE x, (findB n l).isSome = true) → valE l (simE x) = valE l x := by
 refine hg.ind (P := fun x => (∀ n ∈ namesE x, (findB n l).isSome = true) → valE l (simE x) = valE l x) (fun x hg h1 hl => ?_) (fun x a hg h1 hk hga iha hl => ?_) (fun x a b hg ho hk hga hgb iha ihb hl => ?_)
 · rw [simE_name hg h1]
 · have hla : ∀ n ∈ namesE a, (findB n l).isSome = true := fun n hn => hl n (names_mem (by rw [hk]; simp) hn)
   rw [simE_not hk, neg_val (good_simE hga), iha hla, val_one h1 hk]
 · have hla : ∀ n ∈ namesE a, (findB n l).isSome = true := fun n hn => hl n (names_mem (by rw [hk]; simp) hn)
   have hlb : ∀ n ∈ namesE b, (findB n l).isSome = true := fun n hn => hl n (names_mem (by rw [hk]; simp) hn)
   have hla2 : ∀ n ∈ namesE (simE a), (findB n l).isSome = true := fun n hn => hla n (simE_names hga hn)
   have hlb2 : ∀ n ∈ namesE (simE b), (findB n l).isSome = true := fun n hn => hlb n (simE_names hgb hn)
   rw [simE_two hk, val_two ho hk, ← iha hla, ← ihb hlb]
   cases hs : simS x.h.op (simE a) (simE b) with
   | none => exact val_op2 ho l _ _
   | some z =>
     unfold simS at hs
     rw [Option.getD_some]
     refine simT_val ho (V := valE l) (fun hf => const_val (a := (constR (simE a)).1) ?_ hla2) (fun hf => const_val (a := (constR (simE b)).1) ?_ hlb2) (fun he => equal_val he hla2 hlb2) (neg_val (good_simE hga) l) (neg_val (good_simE hgb) l) hs
     · rw [← hf]
     · rw [← hf]
/-! ### what Simplify returns -/
open Go.RowKit Tk
theorem eval_good {x : Ex} (hg : x.good) (hl : levE x ≤ 12) {l : List (ByteArray × Bool)} (hk : ∀ n ∈ namesE x, (findB n l).isSome = true) : evalR x l = (valE l x, 0) := by
 unfold evalR
 rw [if_neg (by rw [(chk_iff x).2 ⟨hg, hl⟩]; decide)]
 have : known l (namesE x) = true := List.all_eq_true.2 hk
 rw [this]; rfl
theorem simR_good {x : Ex} (hg : x.good) (hl : levE x ≤ 12) (hn : (namesS x).length ≤ 16) : simR x = (simE x, 0) := by
 unfold simR
 rw [if_neg (by rw [(chk_iff x).2 ⟨hg, hl⟩]; decide), if_neg]
 unfold namesR
 rw [if_neg (by rw [(chk_iff x).2 ⟨hg, hl⟩]; decide)]
 omega
theorem namesR_good {x : Ex} (hg : x.good) (hl : levE x ≤ 12) : namesR x = namesS x := by
 unfold namesR
 rw [if_neg (by rw [(chk_iff x).2 ⟨hg, hl⟩]; decide)]
theorem simR_ok {x z : Ex} (h : simR x = (z, 0)) : x.good ∧ levE x ≤ 12 ∧ (namesS x).length ≤ 16 ∧ z = simE x := by
 unfold simR at h
 by_cases hc : chk x 1 = 0
 · rw [if_neg (by simpa using hc)] at h
   obtain ⟨hg, hl⟩ := (chk_iff x).1 hc
   rw [namesR_good hg hl] at h
   by_cases h16 : 16 < (namesS x).length
   · rw [if_pos h16] at h; simp at h
   · rw [if_neg h16] at h
     injection h with h1 h2
     exact ⟨hg, hl, by omega, h1.symm⟩
 · rw [if_pos hc] at h
   injection h with h1 h2
   exact absurd h2 hc
theorem lawSimplifies {x : Ex} {w : World} {n : Nat} (hn : n < 256) (hxo : x.ok w) (hsmx : x.small) : Calls Tryz.prog 9 #[.agg (exC x).toArray, .int .u8 n] w (BPost true w) := by
 have hi : -9000000000000000000 ≤ (60 : Int) ∧ (60 : Int) ≤ 9000000000000000000 := by omega
 obtain ⟨bx, hbx⟩ : ∃ b, decide (0 ≤ cntE x 60) = b := ⟨_, rfl⟩
 have HFX := Lib.hid hbx
 have hn20 : n < 2 ^ 20 := by omega
 cases bx
 case' false =>
  clear hbx
 case' true =>
  have hsx : x.sz ≤ 60 := by have h0 := of_decide_eq_true hbx; have := (cntE_le x 60).2 h0; omega
  have h4x : x.four := cntE_four x 60 (of_decide_eq_true hbx)
  have hzx : x.sz ≤ 1000000000 := by omega
  have hzx2 : x.sz ≤ 100000000000 := by omega
  have hzx3 : x.sz ≤ 1000000000000 := by omega
  clear hbx
  obtain ⟨m, hm⟩ : ∃ m, manyB x x = m := ⟨_, rfl⟩
  have HM := Lib.hid hm
  clear hm
  obtain ⟨r, hr⟩ : ∃ r, simR x = r := ⟨_, rfl⟩
  obtain ⟨z, k⟩ := r
  have HS := Lib.hid hr
  cases m
  case' true =>
   clear hr
  case' false =>
   refine Classical.byCases (p := k = 0) (fun hk => ?k1p) (fun hk => ?k1n)
   case' k1p =>
    subst hk
    obtain ⟨hg, hl, hnl, hz⟩ := simR_ok hr
    have hgz : z.good := hz ▸ good_simE hg
    have hlz := simE_lev hg
    rw [← hz] at hlz
    have hsub : ∀ {a : ByteArray}, a ∈ namesE z → a ∈ namesE x := fun h => simE_names hg (hz ▸ h)
    have hnz : (namesS z).length ≤ (namesS x).length := names_fewer fun a h => hsub h
    obtain ⟨M, hM⟩ : ∃ M, namesS x = M := ⟨_, rfl⟩
    obtain ⟨M2, hM2⟩ : ∃ M, namesS z = M := ⟨_, rfl⟩
    have HN : Hid (namesR x = M) := Lib.hid ((namesR_good hg hl).trans hM)
    have HN2 : Hid (namesR z = M2) := Lib.hid ((namesR_good hgz (by omega)).trans hM2)
    have hk1 : ∀ a ∈ namesE x, (findB a (numb M n)).isSome = true := fun a h => numb_known (hM ▸ namesS_mem.2 h)
    have hk2 : ∀ a ∈ namesE z, (findB a (numb M n)).isSome = true := fun a h => hk1 a (hsub h)
    obtain ⟨v1, hv1⟩ : ∃ v, valE (numb M n) x = v := ⟨_, rfl⟩
    have hv2 : valE (numb M n) z = v1 := by rw [hz, simE_val hg hk1, hv1]
    have HE1 : Hid (evalR x (numb M n) = (v1, 0)) := Lib.hid (by rw [eval_good hg hl hk1, hv1])
    have HE2 : Hid (evalR z (numb M n) = (v1, 0)) := Lib.hid (by rw [eval_good hgz (by omega) hk2, hv2])
    have HS2 : Hid (simR z = (z, 0)) := Lib.hid (by rw [simR_good hgz (by omega) (by omega), hz, simE_twice])
    have HG : Hid z.good := Lib.hid hgz
    have hzg : z.sz ≤ 1000000000 := by omega
    rw [hM] at hnl hnz
    rw [hM2] at hnz
    have hn16 : M.length ≤ 16 := hnl
    have hle : M2.length ≤ M.length := hnz
    have hle2 : decide ((M2.length : Int) ≤ (M.length : Int)) = true := decide_eq_true (by omega)
    clear hr hg hl hnl hz hgz hlz hsub hnz hM hM2 hk1 hk2 hv1 hv2
   case' k1n =>
    obtain ⟨s1, s2⟩ := kd_f hk
    have HK := Lib.hid hk
    clear hk hr
 all_goals
  go_enter Tryz.func9, Tryz.ntmps9
  have E := Only.refl [] w
  go_upto_region 9999 with (first | ((first | ((with_reducible refine at_dst 16 ?_); go_simp; (have hc := few_any (hxo.ext E.low) 60 hi); (first | with_reducible refine hc.mono ?_ | refine hc.mono ?_); clear hc; unfold BPost; rw [HFX.out]; rintro e wn ⟨rfl, hx⟩) | ((with_reducible refine at_dst 23 ?_); go_simp; ((with_reducible refine (awake_any _).mono ?_)); unfold BPost; rintro e wn ⟨rfl, hx⟩) | ((with_reducible refine at_dst 26 ?_); go_simp; (have hc := bSimplify_any (hxo.ext E.low) hsmx h4x hzx2); (first | with_reducible refine hc.mono ?_ | refine hc.mono ?_); clear hc; unfold SRPost; rw [HS.out]; dsimp only; rintro e wn ⟨u, rfl, hu, hub, hx⟩) | ((with_reducible refine at_dst 31 ?_); go_simp; ((with_reducible refine (awake_any _).mono ?_)); unfold BPost; rintro e wn ⟨rfl, hx⟩) | ((with_reducible refine at_dst 33 ?_); go_simp; (have hc := qnames_any (hxo.ext E.low) hsmx hzx3); (first | with_reducible refine hc.mono ?_ | refine hc.mono ?_); clear hc; unfold RPost; rw [HN.out]; rintro e wn ⟨a7, c7, rfl, r7, hx⟩; have n7 := r7.lens.2) | ((with_reducible refine at_dst 37 ?_); go_simp; (have hc := qnumbered_any r7 hn16 hn20); (first | with_reducible refine hc.mono ?_ | refine hc.mono ?_); clear hc; unfold NumPost; rintro e wn ⟨a8, c8, rfl, r8, hx⟩) | ((with_reducible refine at_dst 41 ?_); go_simp; (have hc := beval_any r8 (hxo.ext E.low) hsmx hzx3); (first | with_reducible refine hc.mono ?_ | refine hc.mono ?_); clear hc; unfold BIPost; rw [HE1.out]; dsimp only; rintro e wn ⟨rfl, hx⟩) | ((with_reducible refine at_dst 47 ?_); go_simp; (have hc := beval_of r8 hu hub HG.out hzg HE2.out); (first | with_reducible refine hc.mono ?_ | refine hc.mono ?_); clear hc; unfold BIPost; dsimp only; rintro e wn ⟨rfl, hx⟩) | ((with_reducible refine at_dst 52 ?_); go_simp; (have hc := bSimplify_of hu hub HG.out hzg HS2.out); (first | with_reducible refine hc.mono ?_ | refine hc.mono ?_); clear hc; unfold SRPost; dsimp only; rintro e wn ⟨v, rfl, hv, hvb, hx⟩) | ((with_reducible refine at_dst 73 ?_); go_simp; (have hc := qsame_true hu hv (hub.trans hvb.symm)); (first | with_reducible refine hc.mono ?_ | refine hc.mono ?_); clear hc; unfold BPost; rintro e wn ⟨rfl, hx⟩) | ((first | ((with_reducible refine at_store 5 ?_); have bo := b5; refine wp_put bo rfl rfl ?_ ?_ ?_ ?_) | ((with_reducible refine at_store 13 ?_); have bo := b13; refine wp_put bo rfl rfl ?_ ?_ ?_ ?_)); (· kernel_rfl); (· first | rfl | kernel_rfl); (· first | decide | exact Nat.le_refl _ | simp [Act.eval, Value.cells] | (simp [Act.eval, Act.put, Value.cells]; done)); intro wn bn hb; dsimp only [Act.put]; simp only [putA, Act.eval, Value.cells, Nat.reduceAdd, putL, exC_size] at bn; have E2 := E.put bo hb; (try replace b2 := b2.but hb (by assumption)); (try replace b5 := b5.but hb (by assumption)); (first | (replace hu := hu.but hb bo.blk (of_decide_eq_true rfl)) | (replace hu := hu.but0 hb (by assumption)) | skip); (first | (replace hv := hv.but hb bo.blk (of_decide_eq_true rfl)) | (replace hv := hv.but0 hb (by assumption)) | skip); (first | (replace r7 := r7.but hb bo.blk (of_decide_eq_true rfl)) | (replace r7 := r7.but0 hb (by assumption)) | skip); (first | (replace r8 := r8.but hb bo.blk (of_decide_eq_true rfl)) | (replace r8 := r8.but0 hb (by assumption)) | skip); clear E bo; have E := E2; clear E2; (try replace b5 := b5.re bn); (try replace b13 := b13.re bn); clear bn hb) | ((first | ((with_reducible refine at_dst 2 ?_); go_simp; (generalize hXn : Array.size (World.heap _) = X2); refine new_block hXn ?_; intro wn bb hx; have b2 := Loc.new bb E hXn) | ((with_reducible refine at_dst 5 ?_); go_simp; (generalize hXn : Array.size (World.heap _) = X5); refine new_block hXn ?_; intro wn bb hx; have b5 := Loc.new bb E hXn) | ((with_reducible refine at_dst 13 ?_); go_simp; (generalize hXn : Array.size (World.heap _) = X13); refine new_block hXn ?_; intro wn bb hx; have b13 := Loc.new bb E hXn)); (try have ⟨nn, nm⟩ := b2.ne hXn); (try have ⟨nn, nm⟩ := b5.ne hXn); have zz := Nat.le_trans E.size (Nat.le_of_eq hXn); (try have mm := hu.notin (Nat.le_of_eq hXn)); (try have mm := hv.notin (Nat.le_of_eq hXn)); (try have mm := r7.notin (Nat.le_of_eq hXn)); (try have mm := r8.notin (Nat.le_of_eq hXn)); clear bb hXn)); (try replace E := E.ext hx); (try replace b2 := b2.ext hx); (try replace b5 := b5.ext hx); (try replace b13 := b13.ext hx); (try replace hu := hu.ext hx); (try replace hv := hv.ext hx); (try replace r7 := r7.ext hx); (try replace r8 := r8.ext hx); (try replace hcE := bcell E.low); (try replace c2 := b2.cf); (try replace c5 := b5.cf); (try replace c13 := b13.cf)) | ((with_reducible refine at_dsts [15, 19, 25, 32, 39, 45, 51, 71, 76] ?_ ?_); (· rfl); (refine wp_all (Loc.blk (by assumption)) rfl rfl ?_ ?_ ?_); (· kernel_rfl); (· kernel_rfl)) | (go_at_call 11; ((have hc := awake_any wn); (first | with_reducible refine hc.mono ?_ | refine hc.mono ?_); clear hc; unfold BPost); rintro e9 wn ⟨rfl, hx⟩; (try replace E := E.ext hx); (try replace b2 := b2.ext hx); (try replace b5 := b5.ext hx); (try replace b13 := b13.ext hx); (try replace hu := hu.ext hx); (try replace hv := hv.ext hx); (try replace r7 := r7.ext hx); (try replace r8 := r8.ext hx); (try replace hcE := bcell E.low); (try replace c2 := b2.cf); (try replace c5 := b5.cf); (try replace c13 := b13.cf)) | (go_at_call 29; ((have hc := many_any (hxo.ext E.low) (hxo.ext E.low) hsmx hsmx hzx hzx); (first | with_reducible refine hc.mono ?_ | refine hc.mono ?_); clear hc; unfold BPost; rw [HM.out]); rintro e9 wn ⟨rfl, hx⟩; (try replace E := E.ext hx); (try replace b2 := b2.ext hx); (try replace hcE := bcell E.low); (try replace c2 := b2.cf)) | (go_at_call 15; ((have hc := bnames_of hu hub HG.out hzg HN2.out); (first | with_reducible refine hc.mono ?_ | refine hc.mono ?_); clear hc; unfold RPost); rintro e9 wn ⟨a9, c9, rfl, r9, hx⟩; have n9 := r9.lens.2; (try replace E := E.ext hx); (try replace b2 := b2.ext hx); (try replace b5 := b5.ext hx); (try replace b13 := b13.ext hx); (try replace hu := hu.ext hx); (try replace hv := hv.ext hx); (try replace r7 := r7.ext hx); (try replace r8 := r8.ext hx); (try replace hcE := bcell E.low); (try replace c2 := b2.cf); (try replace c5 := b5.cf); (try replace c13 := b13.cf)))
  first
   | (go_ret
      exact ⟨rfl, E.low⟩)
theorem u8_wf {s : Int} (hs : (Lit.int .u8 s).wf = true) : 0 ≤ s ∧ s ≤ 255 := by
 unfold Lit.wf at hs
 rw [Bool.and_eq_true, decide_eq_true_eq, decide_eq_true_eq] at hs
 exact hs
theorem lawSimplifies8 {x : Ex} {w : World} {s : Int} (hs : (Lit.int .u8 s).wf = true) (hxo : x.ok w) (hsmx : x.small) : Calls Tryz.prog 9 #[.agg (exC x).toArray, .int .u8 s] w (BPost true w) := by
 have h := u8_wf hs
 obtain ⟨n, rfl⟩ := Int.eq_ofNat_of_zero_le h.1
 exact lawSimplifies (by omega) hxo hsmx
end Go.Proofs.YtbobbbhgdfapjaaGreat
