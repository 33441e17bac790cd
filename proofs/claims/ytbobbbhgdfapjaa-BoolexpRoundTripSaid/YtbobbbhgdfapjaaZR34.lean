/- L1, L2 -/
import Derived.Test.YtbobbbhgdfapjaaZR1
import Derived.Test.YtbobbbhgdfapjaaZR2
import Derived.Test.YtbobbbhgdfapjaaZR3
import Derived.Test.YtbobbbhgdfapjaaZR4
import Derived.Test.YtbobbbhgdfapjaaZR5
import Derived.Test.YtbobbbhgdfapjaaZR6
import Derived.Test.YtbobbbhgdfapjaaZR7
import Derived.Test.YtbobbbhgdfapjaaZR8
import Derived.Test.YtbobbbhgdfapjaaZR9
import Derived.Test.YtbobbbhgdfapjaaZR10
import Derived.Test.YtbobbbhgdfapjaaZR11
import Derived.Test.YtbobbbhgdfapjaaZR12
import Derived.Test.YtbobbbhgdfapjaaZR13
import Derived.Test.YtbobbbhgdfapjaaZR14
import Derived.Test.YtbobbbhgdfapjaaZR15
import Derived.Test.YtbobbbhgdfapjaaZR16
import Derived.Test.YtbobbbhgdfapjaaZR17
import Derived.Test.YtbobbbhgdfapjaaZR18
import Derived.Test.YtbobbbhgdfapjaaZR19
import Derived.Test.YtbobbbhgdfapjaaZR20
import Derived.Test.YtbobbbhgdfapjaaZR21
import Derived.Test.YtbobbbhgdfapjaaZR22
import Derived.Test.YtbobbbhgdfapjaaZR23
import Derived.Test.YtbobbbhgdfapjaaZR24
import Derived.Test.YtbobbbhgdfapjaaZR25
import Derived.Test.YtbobbbhgdfapjaaZR26
import Derived.Test.YtbobbbhgdfapjaaZR27
import Derived.Test.YtbobbbhgdfapjaaZR28
import Derived.Test.YtbobbbhgdfapjaaZR29
import Derived.Test.YtbobbbhgdfapjaaZR30
import Derived.Test.YtbobbbhgdfapjaaZR31
import Derived.Test.YtbobbbhgdfapjaaZR32
import Derived.Test.YtbobbbhgdfapjaaZR33
set_option linter.unusedSimpArgs false
set_option linter.unusedVariables false
namespace Go.Proofs.Ytbobbbhgdfapjaa
set_option maxHeartbeats 8000000
set_option maxRecDepth 100000
open Go.RowKit Tk
mutual
theorem text_bare : ∀ (x : Ex) (l : Int), textB x.bare l = textB x l
 | .mk h k, l => by
   rw [Ex.bare, textB, textB, texts_bare, bares_len]
   exact rfl
theorem texts_bare : ∀ (k : List Ex) (n : Int), textBs (Ex.bares k) n = textBs k n
 | [], _ => by rw [Ex.bares]
 | e :: r, n => by rw [Ex.bares, textBs, textBs, text_bare e, texts_bare r]
end
theorem textR_bare (x : Ex) : textR x.bare = textR x := by unfold textR; rw [chk_bare, text_bare]
theorem headSame_bare (x y : Ex) : headSame x.bare y.bare = headSame x y := by
 rw [Ex.bare_eq, Ex.bare_eq]
 unfold headSame
 rw [Ex.kids_mk, Ex.kids_mk, List.length_map, List.length_map]
 exact rfl
mutual
theorem sameE_bare : ∀ x y : Ex, sameE x.bare y.bare = sameE x y
 | .mk h k, y => by
   rw [sameE_eq, headSame_bare, sameE_eq (.mk h k) y, Ex.bare_eq (.mk h k), Ex.bare_eq y, ← Ex.bares_map, ← Ex.bares_map]
   show (_ && sames (Ex.bares k) (Ex.bares y.kids)) = (_ && sames k y.kids)
   rw [sames_bare2 k y.kids]
theorem sames_bare2 : ∀ k r : List Ex, sames (Ex.bares k) (Ex.bares r) = sames k r
 | [], r => by rw [Ex.bares, sames, sames]
 | e :: l, [] => by rw [Ex.bares, Ex.bares, sames, sames]
 | e :: l, y :: r => by rw [Ex.bares, Ex.bares, sames, sames, sameE_bare e y, sames_bare2 l r]
end
theorem wz_good {x : Ex} (h : x.good) : x.wz ≤ 48 * x.sz := by
 refine h.ind (P := fun x => x.wz ≤ 48 * x.sz) (fun x hg h1 => ?_) (fun x a hg h1 hk hga iha => ?_) (fun x a b hg ho hk hga hgb iha ihb => ?_)
 · have hk := kids0 hg h1
   have hl := (wf_good x hg).names
   rw [h1, show namedE 1 = 1 from rfl] at hl
   rw [Ex.wz_eq, Ex.sz_kids, hk, Ex.wzs, Ex.szs]
   obtain ⟨hh, k⟩ := x
   unfold Ex.good at hg
   have hi := hg.1.2.2.2.2.2.2.2.2.2 (by rw [show hh.op = 1 from h1]; rfl)
   have hl2 : hh.names.length = 1 := by have : ((hh.names.length : Nat) : Int) = 1 := hl; omega
   show 8 + (hh.names.map ByteArray.size).sum + 0 ≤ _
   match hq : hh.names, hl2 with
   | [m], _ =>
     rw [hq] at hi
     have := identB_size (show identB m = true from hi)
     simp only [List.map_cons, List.map_nil, List.sum_cons, List.sum_nil]
     omega
 · have hn := (wf_good x hg).names
   have hn0 : x.h.names = [] := List.eq_nil_of_length_eq_zero (by rw [h1] at hn; have : ((x.h.names.length : Nat) : Int) = 0 := hn; omega)
   rw [Ex.wz_eq, Ex.sz_kids, hk, hn0, Ex.wzs, Ex.wzs, Ex.szs, Ex.szs]
   simp only [List.map_nil, List.sum_nil]
   omega
 · have hn := (wf_good x hg).names
   have h2 : namedE x.h.op = 0 := by rcases ho with h | h | h | h | h <;> rw [h] <;> rfl
   have hn0 : x.h.names = [] := List.eq_nil_of_length_eq_zero (by rw [h2] at hn; omega)
   rw [Ex.wz_eq, Ex.sz_kids, hk, hn0, Ex.wzs, Ex.wzs, Ex.wzs, Ex.szs, Ex.szs, Ex.szs]
   simp only [List.map_nil, List.sum_nil]
   omega
/-! ### Text, for any expression -/
theorem bText_bad {w : World} {x : Ex} (hxo : x.ok w) (hs : x.small) (hsz : x.sz ≤ 1000000000000) {c : Int} (hc : chk x 1 = c) (h0 : ¬ c = 0) : Calls Try.prog 6 #[.agg (exC x).toArray] w (TIPost ⟨#[]⟩ c w) := by
 have HC := Lib.hid hc
 obtain ⟨g1, g2⟩ := kd_f h0
 clear hc h0
 go_enter Try.func6, Try.ntmps6
 have E := Only.refl [] w
 go_upto_region 9999 with (first | ((first | ((with_reducible refine at_dst 6 ?_); go_simp; (have hc := bCheck_any (hxo.ext E.low) hs hsz); (first | with_reducible refine hc.mono ?_ | refine hc.mono ?_); clear hc; unfold IPost; rw [HC.out]; rintro e wn ⟨rfl, hx⟩) | ((with_reducible refine at_dst 1 ?_); go_simp; (generalize hXn : Array.size (World.heap _) = X1); refine new_block hXn ?_; intro wn bb hx; have b1 := Loc.new bb E hXn; have zz := Nat.le_trans E.size (Nat.le_of_eq hXn); clear bb hXn)); (try replace E := E.ext hx); (try replace b1 := b1.ext hx); (try replace hcE := bcell E.low); (try replace c1 := b1.cf)) | ((with_reducible refine at_dst 5 ?_); (refine wp_all b1.blk rfl rfl ?_ ?_ ?_); (· kernel_rfl); (· kernel_rfl)))
 refine bodyPost_ret (v := .tuple #[.string ⟨#[]⟩, .int .i64 c]) (by simp [results, Try.f6, go_sem]) rfl ⟨rfl, E.low⟩
theorem bText_law {w : World} {x : Ex} (hxo : x.ok w) (hs : x.small) (hsz : x.sz ≤ 1000000000) : Calls Try.prog 6 #[.agg (exC x).toArray] w (TIPost (textR x).1 (textR x).2 w) := by
 by_cases h0 : chk x 1 = 0
 · have := wz_good (good_chk x 1 h0)
   exact bText_any hxo hs (by omega) (by omega)
 · have e : textR x = (⟨#[]⟩, chk x 1) := by unfold textR; rw [if_pos h0]
   rw [e]
   exact bText_bad hxo hs (by omega) rfl h0
/-! ### at expressions that are the same but for where they lie -/
section
variable {u v x y : Ex} {w : World}
theorem bText_of (hu : u.ok w) (hub : u.bare = x.bare) (hg : x.good) (hz : x.sz ≤ 1000000000) {r : ByteArray × Int} (hr : textR x = r) : Calls Try.prog 6 #[.agg (exC u).toArray] w (TIPost r.1 r.2 w) := by
 have h := bText_law hu (small_good u (good_of_bare hub hg)) (by rw [sz_of_bare hub]; exact hz)
 rwa [← textR_bare u, hub, textR_bare, hr] at h
theorem beval_of {la : Option Addr} {lc : Nat} {l : List (ByteArray × Bool)} (hl : RRow w 2 boC (.slice la l.length lc) l) (hu : u.ok w) (hub : u.bare = x.bare) (hg : x.good) (hz : x.sz ≤ 1000000000) {r : Bool × Int} (hr : evalR x l = r) :
    Calls Try.prog 12 #[.agg (exC u).toArray, .slice la l.length lc] w (BIPost r w) := by
 have h := beval_any hl hu (small_good u (good_of_bare hub hg)) (by rw [sz_of_bare hub]; omega)
 rwa [← evalR_bare u, hub, evalR_bare, hr] at h
theorem chk_of_bare (hub : u.bare = x.bare) (l : Int) : chk u l = chk x l := by rw [← chk_bare u, hub, chk_bare]
theorem namesR_of_bare (hub : u.bare = x.bare) : namesR u = namesR x := by rw [← namesR_bare u, hub, namesR_bare]
theorem simR_of_bare (hub : u.bare = x.bare) : (simR u).2 = (simR x).2 ∧ (simR u).1.bare = (simR x).1.bare := by
 unfold simR
 rw [chk_of_bare hub, namesR_of_bare hub]
 by_cases h1 : chk x 1 ≠ 0
 · simp only [if_pos h1]; exact ⟨trivial, trivial⟩
 · simp only [if_neg h1]
   by_cases h2 : 16 < (namesR x).length
   · simp only [if_pos h2]; exact ⟨trivial, trivial⟩
   · simp only [if_neg h2]; exact ⟨trivial, simE_of_bare hub⟩
theorem bSimplify_of (hu : u.ok w) (hub : u.bare = x.bare) (hg : x.good) (hz : x.sz ≤ 1000000000) {r : Ex × Int} (hr : simR x = r) : Calls Try.prog 13 #[.agg (exC u).toArray] w (SRPost r w) := by
 have hgu := good_of_bare hub hg
 refine (bSimplify_any hu (small_good u hgu) (good_four hgu) (by rw [sz_of_bare hub]; omega)).mono fun e w' he => ?_
 obtain ⟨z, h1, h2, h3, h4⟩ := he
 have hs := simR_of_bare hub
 rw [hr] at hs
 rw [hs.1] at h1
 exact ⟨z, h1, h2, h3.trans hs.2, h4⟩
theorem bequal_of (hu : u.ok w) (hv : v.ok w) (hub : u.bare = x.bare) (hvb : v.bare = y.bare) (hg : x.good) (hgy : y.good) (hz : x.sz ≤ 1000000000) (hzy : y.sz ≤ 1000000000) {r : Bool × Int} (hr : equalR x y = r) :
    Calls Try.prog 14 #[.agg (exC u).toArray, .agg (exC v).toArray] w (BIPost r w) := by
 have h := bequal_any hu hv (small_good u (good_of_bare hub hg)) (small_good v (good_of_bare hvb hgy)) (by rw [sz_of_bare hub]; omega) (by rw [sz_of_bare hvb]; omega)
 rwa [← equalR_bare u v, hub, hvb, equalR_bare, hr] at h
theorem bconstant_of (hu : u.ok w) (hub : u.bare = x.bare) (hg : x.good) (hz : x.sz ≤ 1000000000) {r : Bool × Bool} (hr : constR x = r) : Calls Try.prog 15 #[.agg (exC u).toArray] w (BBPost r w) := by
 have h := bconstant_any hu (small_good u (good_of_bare hub hg)) (by rw [sz_of_bare hub]; omega)
 rwa [← constR_bare u, hub, constR_bare, hr] at h
theorem bnames_of (hu : u.ok w) (hub : u.bare = x.bare) (hg : x.good) (hz : x.sz ≤ 1000000000) {r : List ByteArray} (hr : namesR x = r) : Calls Try.prog 20 #[.agg (exC u).toArray] w (RPost w r) := by
 have h := bnames_any hu (small_good u (good_of_bare hub hg)) (by rw [sz_of_bare hub]; omega)
 rwa [namesR_of_bare hub, hr] at h
theorem sameE_of_bare {x' y' : Ex} (hub : u.bare = x'.bare) (hvb : v.bare = y'.bare) : sameE u v = sameE x' y' := by rw [← sameE_bare u v, hub, hvb, sameE_bare]
theorem qsame_of (hu : u.ok w) (hv : v.ok w) (hub : u.bare = x.bare) (hvb : v.bare = y.bare) {b : Bool} (hr : sameE x y = b) : Calls Try.prog 8 #[.agg (exC u).toArray, .agg (exC v).toArray] w (BPost b w) := by
 have h := qsame_any (u.sz + 1) u v hu hv (Nat.lt_succ_self _)
 rwa [sameE_of_bare hub hvb, hr] at h
theorem bsame_of (hu : u.ok w) (hv : v.ok w) (hub : u.bare = x.bare) (hvb : v.bare = y.bare) {b : Bool} (hr : sameE x y = b) : Calls Try.prog 17 #[.agg (exC u).toArray, .agg (exC v).toArray] w (BPost b w) := by
 have h := bsame_any (u.sz + 1) u v hu hv (Nat.lt_succ_self _)
 rwa [sameE_of_bare hub hvb, hr] at h
theorem qsame_true (hu : u.ok w) (hv : v.ok w) (hb : u.bare = v.bare) : Calls Try.prog 8 #[.agg (exC u).toArray, .agg (exC v).toArray] w (BPost true w) := by
 have h := qsame_any (u.sz + 1) u v hu hv (Nat.lt_succ_self _)
 rwa [same_bare u v hb] at h
theorem bnegate_of (hu : u.ok w) (hub : u.bare = x.bare) (hg : x.good) (hz : x.sz ≤ 1000000000) {z : Ex} (hr : negX x = z) : Calls Try.prog 18 #[.agg (exC u).toArray] w (fun e w' => ∃ t, e = .returned (.agg (exC t).toArray) ∧ t.ok w' ∧ t.bare = z.bare ∧ Ext w w') := by
 refine (bnegate_any hu (good_four (good_of_bare hub hg)) (by rw [sz_of_bare hub]; omega)).mono fun e w' he => ?_
 obtain ⟨t, h1, h2, h3, h4, h5⟩ := he
 exact ⟨t, h1, h2, by rw [h4, negX_of_bare hub, hr], h5⟩
theorem lname_of (s : ByteArray) (w : World) : Calls Try.prog 10 #[.string s] w (fun e w' => ∃ t, e = .returned (.agg (exC t).toArray) ∧ t.ok w' ∧ t.bare = nmX s ∧ Ext w w') := by
 refine (lname_any s w).mono fun e w' he => ?_
 obtain ⟨X, h1, h2, h3⟩ := he
 exact ⟨_, h1, h2, nameX_bare X s, h3⟩
end
open Go.RowKit Tk
def sA : ByteArray := ⟨#[97]⟩
def sB1 : ByteArray := ⟨#[98]⟩
def sC1 : ByteArray := ⟨#[99]⟩
def eA1 : Ex := nmX sA
def eB1 : Ex := nmX sB1
def eC1 : Ex := nmX sC1
def eL1 : Ex := opX 3 [opX 3 [eA1, eB1], eC1]
def eR1 : Ex := opX 3 [eA1, opX 3 [eB1, eC1]]
def eO1 : Ex := opX 4 [eA1, opX 2 [eA1]]
def eS1 : Ex := opX 3 [eB1, eO1]
def tL : ByteArray := ⟨#[97, 32, 38, 38, 32, 98, 32, 38, 38, 32, 99]⟩
def tR : ByteArray := ⟨#[97, 32, 38, 38, 32, 40, 98, 32, 38, 38, 32, 99, 41]⟩
def t1 : ByteArray := ⟨#[97, 32, 38, 38, 32]⟩
def t2 : ByteArray := ⟨#[97, 32, 98]⟩
theorem eA_good : eA1.good := good_chk _ 1 (by decide +kernel)
theorem eL_good : eL1.good := good_chk _ 1 (by decide +kernel)
theorem eR_good : eR1.good := good_chk _ 1 (by decide +kernel)
theorem eO_good : eO1.good := good_chk _ 1 (by decide +kernel)
theorem eS_good : eS1.good := good_chk _ 1 (by decide +kernel)
theorem nA_good : (opX 2 [eA1]).good := good_chk _ 1 (by decide +kernel)
theorem eL_sz : eL1.sz ≤ 1000000000 := by decide +kernel
theorem eR_sz : eR1.sz ≤ 1000000000 := by decide +kernel
theorem eO_sz : eO1.sz ≤ 1000000000 := by decide +kernel
theorem eS_sz : eS1.sz ≤ 1000000000 := by decide +kernel
theorem eA_sz : eA1.sz ≤ 1000000000 := by decide +kernel
theorem nA_sz : (opX 2 [eA1]).sz ≤ 1000000000 := by decide +kernel
theorem eL_text : textR eL1 = (tL, 0) := by decide +kernel
theorem eR_text : textR eR1 = (tR, 0) := by decide +kernel
def okP (r : PT) (x : Ex) : Bool := match r with | .ok y _ => sameE y x | .err _ _ => false
def errP (r : PT) (c : Int) : Bool := match r with | .ok _ _ => false | .err k _ => decide (k = c)
def errQ (r : PT) (c : Int) (q : Int × Int) : Bool := match r with | .ok _ _ => false | .err k p => decide (k = c) && decide (p = q)
theorem tL_parse0 : okP (parseR tL) eL1 = true := by decide +kernel
theorem t1_parse0 : errP (parseR t1) 9 = true := by decide +kernel
theorem t2_parse0 : errQ (parseR t2) 9 (1, 3) = true := by decide +kernel
theorem tL_parse : ∃ y n, parseR tL = .ok y n ∧ sameE y eL1 = true := by
 have h := tL_parse0
 cases hp : parseR tL with
 | ok y n => rw [hp] at h; exact ⟨y, n, rfl, h⟩
 | err c q => rw [hp] at h; cases h
theorem t1_parse : ∃ q, parseR t1 = .err 9 q := by
 have h := t1_parse0
 cases hp : parseR t1 with
 | ok y n => rw [hp] at h; cases h
 | err c q => rw [hp] at h; exact ⟨q, by rw [of_decide_eq_true h]⟩
theorem t2_parse : parseR t2 = .err 9 (1, 3) := by
 have h := t2_parse0
 cases hp : parseR t2 with
 | ok y n => rw [hp] at h; cases h
 | err c q =>
   rw [hp] at h
   unfold errQ at h
   rw [Bool.and_eq_true, decide_eq_true_eq, decide_eq_true_eq] at h
   rw [h.1, h.2]
theorem eR_eval : evalR eR1 [(sA, true), (sB1, true), (sC1, true)] = (true, 0) := by decide +kernel
theorem eR_eval2 : evalR eR1 [(sA, false)] = (false, 11) := by decide +kernel
theorem eS_chk : chk eS1 1 = 0 := by decide +kernel
theorem eS_few : ¬ 16 < (namesR eS1).length := by decide +kernel
theorem eS_sim0 : (decide ((simR eS1).2 = 0) && sameE (simR eS1).1 eB1) = true := by decide +kernel
theorem eS_sim : ∃ z, simR eS1 = (z, 0) ∧ sameE z eB1 = true ∧ z.good := by
 have h := eS_sim0
 rw [Bool.and_eq_true, decide_eq_true_eq] at h
 refine ⟨(simR eS1).1, by rw [← h.1], h.2, ?_⟩
 unfold simR
 rw [if_neg (by rw [eS_chk]; decide), if_neg eS_few]
 exact good_simE eS_good
theorem eLR_equal : equalR eL1 eR1 = (true, 0) := by decide +kernel
theorem eO_const : constR eO1 = (true, true) := by decide +kernel
theorem zX_chk : chk zX 1 = 2 := by decide +kernel
theorem eL_self : sameE eL1 eL1 = true := by decide +kernel
theorem eLR_same : sameE eL1 eR1 = false := by decide +kernel
theorem eA_neg : negX eA1 = opX 2 [eA1] := by rfl
theorem nA_neg : negX (opX 2 [eA1]) = eA1 := by rfl
theorem eA_self : sameE eA1 eA1 = true := by decide +kernel
theorem eL_names : namesR eL1 = [sA, sB1, sC1] := by decide +kernel
end Go.Proofs.Ytbobbbhgdfapjaa
