/- I1, M3, Ob -/
import Derived.Test.YtbobbbhgdfapjaaGreatZB1
import Derived.Test.YtbobbbhgdfapjaaGreatZB2
import Derived.Test.YtbobbbhgdfapjaaGreatZB3
import Derived.Test.YtbobbbhgdfapjaaGreatZB4
import Derived.Test.YtbobbbhgdfapjaaGreatZBnkt1
import Derived.Test.YtbobbbhgdfapjaaGreatZB5
import Derived.Test.YtbobbbhgdfapjaaGreatZBcsv1
import Derived.Test.YtbobbbhgdfapjaaGreatZB6
import Derived.Test.YtbobbbhgdfapjaaGreatZB7
import Derived.Test.YtbobbbhgdfapjaaGreatZB8
import Derived.Test.YtbobbbhgdfapjaaGreatZB9
import Derived.Test.YtbobbbhgdfapjaaGreatZB10
import Derived.Test.YtbobbbhgdfapjaaGreatZB11
import Derived.Test.YtbobbbhgdfapjaaGreatZB12
import Derived.Test.YtbobbbhgdfapjaaGreatZB13
import Derived.Test.YtbobbbhgdfapjaaGreatZB14
import Derived.Test.YtbobbbhgdfapjaaGreatZB15
import Derived.Test.YtbobbbhgdfapjaaGreatZB16
import Derived.Test.YtbobbbhgdfapjaaGreatZB17
import Derived.Test.YtbobbbhgdfapjaaGreatZB18
import Derived.Test.YtbobbbhgdfapjaaGreatZB19
import Derived.Test.YtbobbbhgdfapjaaGreatZB20
import Derived.Test.YtbobbbhgdfapjaaGreatZB21
import Derived.Test.YtbobbbhgdfapjaaGreatZBnk1
import Derived.Test.YtbobbbhgdfapjaaGreatZB22
import Derived.Test.YtbobbbhgdfapjaaGreatZB23
import Derived.Test.YtbobbbhgdfapjaaGreatZB24
import Derived.Test.YtbobbbhgdfapjaaGreatZB25
import Derived.Test.YtbobbbhgdfapjaaGreatZB26
import Derived.Test.YtbobbbhgdfapjaaGreatZB27
import Derived.Test.YtbobbbhgdfapjaaGreatZB28
import Derived.Test.YtbobbbhgdfapjaaGreatZB29
import Derived.Test.YtbobbbhgdfapjaaGreatZB30
import Derived.Test.YtbobbbhgdfapjaaGreatZB31
import Derived.Test.YtbobbbhgdfapjaaGreatZB32
import Derived.Test.YtbobbbhgdfapjaaGreatZB33
import Derived.Test.YtbobbbhgdfapjaaGreatZB34
import Derived.Test.YtbobbbhgdfapjaaGreatZB35
import Derived.Test.YtbobbbhgdfapjaaGreatRows
import Derived.Test.YtbobbbhgdfapjaaGreatZB36
import Derived.Test.YtbobbbhgdfapjaaGreatZBkv1
set_option linter.unusedSimpArgs false
set_option linter.unusedVariables false
namespace Go.Proofs.YtbobbbhgdfapjaaGreat
set_option maxHeartbeats 8000000
set_option maxRecDepth 100000
open Go.RowKit Tk
theorem known_names (x : Ex) (l : List (ByteArray × Bool)) : known l (namesS x) = known l (namesE x) := by
 unfold known
 rw [Bool.eq_iff_iff, List.all_eq_true, List.all_eq_true]
 exact ⟨fun h n hn => h n (namesS_mem.2 hn), fun h n hn => h n (namesS_mem.1 hn)⟩
theorem qeval_any {x : Ex} {w : World} {la : Option Addr} {lc : Nat} {l : List (ByteArray × Bool)} (hl : RRow w 2 boC (.slice la l.length lc) l) (hxo : x.ok w) (hs : x.small) (hz : x.sz ≤ 1000000000000) :
    Calls Tryz.prog 22 #[.agg (exC x).toArray, .slice la l.length lc] w (BIPost (evalR x l) w) := by
 unfold evalR
 obtain ⟨v, hv⟩ : ∃ v, chk x 1 = v := ⟨_, rfl⟩
 have HC := Lib.hid hv
 rw [hv]
 by_cases h0 : v = 0
 · have hwf := chk_wf x 1 (hv.trans h0)
   subst h0
   rw [if_neg (by decide), ← known_names]
   obtain ⟨M, hM⟩ : ∃ M, namesS x = M := ⟨_, rfl⟩
   have HNR : Hid (namesR x = M) := Lib.hid (by unfold namesR; rw [if_neg (by rw [hv]; decide), hM])
   have HM := Lib.hid hM
   rw [hM]
   obtain ⟨K, hK⟩ : ∃ K, known l M = K := ⟨_, rfl⟩
   rw [hK]
   have HK0 : Hid (known l (M.drop 0) = K) := Lib.hid hK
   have HKK := Lib.hid hK
   clear hK hM hv
   obtain ⟨vb, hvb⟩ : ∃ v, valE l x = v := ⟨_, rfl⟩
   have HV := Lib.hid hvb
   rw [hvb]
   clear hvb
   go_enter Tryz.func22, Tryz.ntmps22
   have E := Only.refl [] w
   go_upto_region 6 with (first | ((first | ((with_reducible refine at_dst 10 ?_); go_simp; (have hc := qCheck_any (hxo.ext E.low) hs hz); (first | with_reducible refine hc.mono ?_ | refine hc.mono ?_); clear hc; unfold IPost; rw [HC.out]; rintro e wn ⟨rfl, hx⟩) | ((with_reducible refine at_dst 15 ?_); go_simp; (have hc := qnames_any (hxo.ext E.low) hs hz); (first | with_reducible refine hc.mono ?_ | refine hc.mono ?_); clear hc; unfold RPost; rw [HNR.out]; rintro e wn ⟨a9, c9, rfl, r9, hx⟩) | ((with_reducible refine at_dst 2 ?_); go_simp; (generalize hXn : Array.size (World.heap _) = X2); refine new_block hXn ?_; intro wn bb hx; have b2 := Loc.new bb E hXn; have zz := Nat.le_trans E.size (Nat.le_of_eq hXn); clear bb hXn)); (try replace E := E.ext hx); (try replace b2 := b2.ext hx); (try replace hcE := bcell E.low); (try replace c2 := b2.cf)) | ((with_reducible refine at_dsts [9, 14] ?_ ?_); (· rfl); (refine wp_all (Loc.blk (by assumption)) rfl rfl ?_ ?_ ?_); (· kernel_rfl); (· kernel_rfl)))
   go_loopw [8] (fun i wr => ∃ j : Nat, i = .int .i64 j ∧ j ≤ M.length ∧ Hid (known l (M.drop j) = K) ∧ Only [] w wr ∧ Reads wr (.slice a9 M.length c9) M ∧ Loc [] w wr X2 28 (exC x).toArray) (fun i _ => M.length - (intOf i).toNat)
   case atStart => exact ⟨0, rfl, Nat.zero_le _, HK0, E, r9, b2⟩
   case round =>
    clear E b2 c2 r9 HK0
    (try clear hcE)
    obtain ⟨j, rfl, hj, HS, E, r9, b2⟩ := hrel
    have c2 := b2.cf
    have hcE := bcell E.low
    have n9 := r9.lens.2
    by_cases hlt : j < M.length
    · obtain ⟨y, hy⟩ := at_some hlt
      obtain ⟨g, o, hgo, hg, k0⟩ := r9.cells hlt
      have ey : M[j] = y := by rw [List.getElem?_eq_getElem hlt] at hy; injection hy
      rw [ey] at k0
      have hst := known_at HS hy
      obtain ⟨fb, hfb⟩ : ∃ v, findB y l = v := ⟨_, rfl⟩
      rw [hfb] at hst
      cases fb with
      | none =>
        have HF : Hid (fOutB (findB y l) = -1) := Lib.hid (by rw [hfb]; rfl)
        have hKf : K = false := by rw [← hst]; rfl
        subst hKf
        clear hst hy ey HS hfb
        go_upto_region 9999 with (first | ((with_reducible refine at_dst 27 ?_); go_simp; (have hc := qfind_any (RRow.ext hl E.low) y); (first | with_reducible refine hc.mono ?_ | refine hc.mono ?_); clear hc; unfold IPost; rw [HF.out]; rintro e wn ⟨rfl, hx⟩; (try replace E := E.ext hx); (try replace b2 := b2.ext hx); (try replace r9 := r9.ext hx); (try replace hcE := bcell E.low); (try replace c2 := b2.cf)))
        refine bodyPost_ret (v := .tuple #[.bool false, .int .i64 11]) (by simp [results, Tryz.f22, go_sem]) rfl ⟨rfl, E.low⟩
      | some bv =>
        have HF : Hid (fOutB (findB y l) = bv) := Lib.hid (by rw [hfb]; rfl)
        have HT : Hid (known l (M.drop (j + 1)) = K) := Lib.hid (by rw [← hst]; rfl)
        have hbv := findB_lt hfb
        have hln := (RRow.lens hl).2
        clear hst hy ey HS hfb
        go_upto_region 9999 with (first | ((with_reducible refine at_dst 27 ?_); go_simp; (have hc := qfind_any (RRow.ext hl E.low) y); (first | with_reducible refine hc.mono ?_ | refine hc.mono ?_); clear hc; unfold IPost; rw [HF.out]; rintro e wn ⟨rfl, hx⟩; (try replace E := E.ext hx); (try replace b2 := b2.ext hx); (try replace r9 := r9.ext hx); (try replace hcE := bcell E.low); (try replace c2 := b2.cf)))
        try simp only [← hgo]
        clear hgo
        go_roundw
        case rel => exact ⟨j + 1, by go_num, by omega, HT, E, r9, b2⟩
        case measure => simp [intOf]; omega
    · have hKt : K = true := by
        have := HS.out
        rw [List.drop_of_length_le (by omega)] at this
        exact this.symm
      subst hKt
      have HALL : Hid (∀ n ∈ namesE x, (findB n l).isSome = true) := Lib.hid fun n hn => by
       have := HKK.out
       rw [← HM.out, known_names] at this
       exact List.all_eq_true.1 this n hn
      go_upto_region 9999 with (first | ((with_reducible refine at_dst 29 ?_); (refine wp_all b2.blk rfl rfl ?_ ?_ ?_); (· kernel_rfl); (· kernel_rfl)) | ((with_reducible refine at_dst 31 ?_); go_simp; (have hc := qvalue_any (x.sz + 1) x (RRow.ext hl E.low) (hxo.ext E.low) hwf (Nat.lt_succ_self _) HALL.out); (first | with_reducible refine hc.mono ?_ | refine hc.mono ?_); clear hc; unfold BPost; rw [HV.out]; rintro e wn ⟨rfl, hx⟩; (try replace E := E.ext hx); (try replace b2 := b2.ext hx); (try replace r9 := r9.ext hx); (try replace hcE := bcell E.low); (try replace c2 := b2.cf)))
      refine bodyPost_ret (v := .tuple #[.bool vb, .int .i64 0]) (by simp [results, Tryz.f22, go_sem]) rfl ⟨rfl, E.low⟩
 · obtain ⟨s1, s2⟩ := kd_f h0
   rw [if_pos h0]
   clear h0 hv
   go_enter Tryz.func22, Tryz.ntmps22
   have E := Only.refl [] w
   go_upto_region 9999 with (first | ((first | ((with_reducible refine at_dst 10 ?_); go_simp; (have hc := qCheck_any (hxo.ext E.low) hs hz); (first | with_reducible refine hc.mono ?_ | refine hc.mono ?_); clear hc; unfold IPost; rw [HC.out]; rintro e wn ⟨rfl, hx⟩) | ((with_reducible refine at_dst 2 ?_); go_simp; (generalize hXn : Array.size (World.heap _) = X2); refine new_block hXn ?_; intro wn bb hx; have b2 := Loc.new bb E hXn; have zz := Nat.le_trans E.size (Nat.le_of_eq hXn); clear bb hXn)); (try replace E := E.ext hx); (try replace b2 := b2.ext hx); (try replace hcE := bcell E.low); (try replace c2 := b2.cf)) | ((with_reducible refine at_dst 9 ?_); (refine wp_all b2.blk rfl rfl ?_ ?_ ?_); (· kernel_rfl); (· kernel_rfl)))
   refine bodyPost_ret (v := .tuple #[.bool false, .int .i64 v]) (by simp [results, Tryz.f22, go_sem]) rfl ⟨rfl, E.low⟩
open Go.RowKit Tk
theorem lawValues {x : Ex} {w : World} {la : Option Addr} {lc : Nat} {l : List (ByteArray × Bool)} (hxo : x.ok w) (hsm : x.small) (hl : RRow w 2 boC (.slice la l.length lc) l) : Calls Tryz.prog 4 #[.agg (exC x).toArray, .slice la l.length lc] w (BPost true w) := by
 have n2 := (RRow.lens hl).2
 have hi : -9000000000000000000 ≤ (200 : Int) ∧ (200 : Int) ≤ 9000000000000000000 := by omega
 obtain ⟨bx, hbx⟩ : ∃ b, decide (0 ≤ cntE x 200) = b := ⟨_, rfl⟩
 have HF := Lib.hid hbx
 cases bx with
 | false =>
   clear hbx
   go_enter Tryz.func4, Tryz.ntmps4
   have E := Only.refl [] w
   go_upto_region 9999 with (first | ((first | ((with_reducible refine at_dst 10 ?_); go_simp; (have hc := few_any (hxo.ext E.low) 200 hi); (first | with_reducible refine hc.mono ?_ | refine hc.mono ?_); clear hc; unfold BPost; rw [HF.out]; rintro e wn ⟨rfl, hx⟩) | ((with_reducible refine at_dst 17 ?_); go_simp; ((with_reducible refine (awake_any _).mono ?_)); unfold BPost; rintro e wn ⟨rfl, hx⟩) | ((with_reducible refine at_dst 2 ?_); go_simp; (generalize hXn : Array.size (World.heap _) = X2); refine new_block hXn ?_; intro wn bb hx; have b2 := Loc.new bb E hXn; have zz := Nat.le_trans E.size (Nat.le_of_eq hXn); clear bb hXn)); (try replace E := E.ext hx); (try replace b2 := b2.ext hx); (try replace hcE := bcell E.low); (try replace c2 := b2.cf)) | ((with_reducible refine at_dst 9 ?_); (refine wp_all b2.blk rfl rfl ?_ ?_ ?_); (· kernel_rfl); (· kernel_rfl)))
   go_ret
   exact ⟨rfl, E.low⟩
 | true =>
   have hsx : x.sz ≤ 200 := by have h0 := of_decide_eq_true hbx; have := (cntE_le x 200).2 h0; omega
   have h4x : x.four := cntE_four x 200 (of_decide_eq_true hbx)
   have hz : x.sz ≤ 1000000000000 := by omega
   clear hbx
   obtain ⟨r, hr⟩ : ∃ r, evalR x l = r := ⟨_, rfl⟩
   obtain ⟨v, k⟩ := r
   have HR := Lib.hid hr
   clear hr
   by_cases h60 : 60 < l.length
   · have g1 : decide ((60 : Int) < (l.length : Int)) = true := decide_eq_true (by omega)
     go_enter Tryz.func4, Tryz.ntmps4
     have E := Only.refl [] w
     go_upto_region 9999 with (first | ((first | ((with_reducible refine at_dst 10 ?_); go_simp; (have hc := few_any (hxo.ext E.low) 200 hi); (first | with_reducible refine hc.mono ?_ | refine hc.mono ?_); clear hc; unfold BPost; rw [HF.out]; rintro e wn ⟨rfl, hx⟩) | ((with_reducible refine at_dst 17 ?_); go_simp; ((with_reducible refine (awake_any _).mono ?_)); unfold BPost; rintro e wn ⟨rfl, hx⟩) | ((with_reducible refine at_dst 2 ?_); go_simp; (generalize hXn : Array.size (World.heap _) = X2); refine new_block hXn ?_; intro wn bb hx; have b2 := Loc.new bb E hXn; have zz := Nat.le_trans E.size (Nat.le_of_eq hXn); clear bb hXn)); (try replace E := E.ext hx); (try replace b2 := b2.ext hx); (try replace hcE := bcell E.low); (try replace c2 := b2.cf)) | ((with_reducible refine at_dst 9 ?_); (refine wp_all b2.blk rfl rfl ?_ ?_ ?_); (· kernel_rfl); (· kernel_rfl)))
     go_ret
     exact ⟨rfl, E.low⟩
   · have g1 : decide ((60 : Int) < (l.length : Int)) = false := decide_eq_false (by omega)
     go_enter Tryz.func4, Tryz.ntmps4
     have E := Only.refl [] w
     go_upto_region 9999 with (first | ((first | ((with_reducible refine at_dst 10 ?_); go_simp; (have hc := few_any (hxo.ext E.low) 200 hi); (first | with_reducible refine hc.mono ?_ | refine hc.mono ?_); clear hc; unfold BPost; rw [HF.out]; rintro e wn ⟨rfl, hx⟩) | ((with_reducible refine at_dst 21 ?_); go_simp; (have hc := beval_any (RRow.ext hl E.low) (hxo.ext E.low) hsm hz); (first | with_reducible refine hc.mono ?_ | refine hc.mono ?_); clear hc; unfold BIPost; rw [HR.out]; dsimp only; rintro e wn ⟨rfl, hx⟩) | ((with_reducible refine at_dst 27 ?_); go_simp; (have hc := qeval_any (RRow.ext hl E.low) (hxo.ext E.low) hsm hz); (first | with_reducible refine hc.mono ?_ | refine hc.mono ?_); clear hc; unfold BIPost; rw [HR.out]; dsimp only; rintro e wn ⟨rfl, hx⟩) | ((with_reducible refine at_dst 39 ?_); go_simp; ((with_reducible refine (awake_any _).mono ?_)); unfold BPost; rintro e wn ⟨rfl, hx⟩) | ((with_reducible refine at_dst 2 ?_); go_simp; (generalize hXn : Array.size (World.heap _) = X2); refine new_block hXn ?_; intro wn bb hx; have b2 := Loc.new bb E hXn; have zz := Nat.le_trans E.size (Nat.le_of_eq hXn); clear bb hXn)); (try replace E := E.ext hx); (try replace b2 := b2.ext hx); (try replace hcE := bcell E.low); (try replace c2 := b2.cf)) | ((with_reducible refine at_dsts [9, 19, 25] ?_ ?_); (· rfl); (refine wp_all (Loc.blk (by assumption)) rfl rfl ?_ ?_ ?_); (· kernel_rfl); (· kernel_rfl)))
     go_ret
     exact ⟨rfl, E.low⟩
open Go.ChangeShapes Go.WideShapes Go.ChangeAt Go.RowKit Tk
section
variable {W : World}
end
section
variable {H : Type} {enc : TypeId × Value → H} {W : World}
theorem one_bo : Tryz.prog.cellsOf 66 = 2 := by kernel_rfl
theorem one_bool : Tryz.prog.cellsOf 4 = 1 := by kernel_rfl
theorem und_bools : Tryz.prog.underlying 37 = some (.slice 66) := by kernel_rfl
theorem undf_bo : ∃ fs, Tryz.prog.underlying 66 = some (.struct fs) ∧ fs.toList.map (fun f => (f.type, f.offset)) = [(9, 0), (4, 1)] := ⟨_, Tryz.underlying66, by kernel_rfl⟩
theorem bo_open {fuel : Nat} {base : Nat} {sp : Nat → Bool} {held : Bool} {cs : List Value} {x : DataW H × List MemPlace} (h : DataW.trod enc Tryz.prog W base sp held fuel 66 cs = some x) : ∃ t : ByteArray × Bool, cs = boC t ∧ True ∧ (boC t).length = 2 := by
 obtain ⟨fs, hu, hf⟩ := undf_bo
 obtain ⟨xs, n, hn, hx, hl, hxl, hat⟩ := DataW.trod_struct hu h
 rw [one_bo] at hl
 have hsz : fs.size = 2 := by have := congrArg List.length hf; simpa using this
 rw [hsz] at hxl
 obtain ⟨f0, e0, t0, o0⟩ := field_at hf 0 _ rfl
 obtain ⟨x0, g0⟩ := some_len hxl (i := 0) (by omega)
 have h0 := (hat 0 f0 e0).trans g0
 rw [t0, o0] at h0
 dsimp only at h0
 rw [one_string] at h0
 obtain ⟨m0, c0, r0, b0⟩ := string_open h0
 have p0 := chunk c0
 obtain ⟨f1, e1, t1, o1⟩ := field_at hf 1 _ rfl
 obtain ⟨x1, g1⟩ := some_len hxl (i := 1) (by omega)
 have h1 := (hat 1 f1 e1).trans g1
 rw [t1, o1] at h1
 dsimp only at h1
 rw [one_bool] at h1
 obtain ⟨m1, c1, r1⟩ := DataW.trod_bool Tryz.underlying4 h1
 have p1 := chunk c1
 have hend : cs.drop 2 = [] := List.drop_of_length_le (by omega)
 refine ⟨(m0, m1), ?_, trivial, rfl⟩
 rw [show cs = cs.drop 0 from rfl, p0, p1, show cs.drop (0 + 1 + 1) = [] from hend]
 rfl
theorem open_bools {sp : Nat → Bool} {held : Bool} {base : Nat} {r : Reach} {b0 : Nat} {v : Value} {d : DataW H} {ps : List MemPlace} (hval : Value.okWide Tryz.prog W r b0 37 v) (h : DataW.Trod enc Tryz.prog W base sp held 37 v d ps) :
    ∃ l, RRow W 2 boC v l := by
 obtain ⟨l, h1, h2, _⟩ := open_rrow (f := boC) (ok := fun _ => True) und_bools one_bo (by omega) (⟨#[]⟩, false) bo_open hval h
 exact ⟨l, h1⟩
end
end Go.Proofs.YtbobbbhgdfapjaaGreat
