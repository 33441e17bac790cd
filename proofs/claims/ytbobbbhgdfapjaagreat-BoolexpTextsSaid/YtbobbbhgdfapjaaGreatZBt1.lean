/- Tk, Id, T2, He, Lo, Ra, Rb, Rc -/
import Derived.Test.YtbobbbhgdfapjaaGreatZB4
import Derived.Test.YtbobbbhgdfapjaaGreatRows
import Derived.WalkKit
import Derived.WalkSpells
import Derived.WalkLawsBesides
import Derived.Lib.Hide
import Derived.Test.YtbobbbhgdfapjaaGreatZB1
import Derived.Test.YtbobbbhgdfapjaaGreatZB5
import Derived.Test.YtbobbbhgdfapjaaGreatZB11
import Derived.Test.YtbobbbhgdfapjaaGreatZB2
import Derived.Test.YtbobbbhgdfapjaaGreatZB3
import Derived.Test.YtbobbbhgdfapjaaGreatZB6
import Derived.Test.YtbobbbhgdfapjaaGreatZB7
import Derived.Test.YtbobbbhgdfapjaaGreatZBkt1
import Derived.Test.YtbobbbhgdfapjaaGreatZB10
import Derived.Test.YtbobbbhgdfapjaaGreatZB20
import Derived.Test.YtbobbbhgdfapjaaGreatZB30
import Derived.Test.YtbobbbhgdfapjaaGreatZB12
import Derived.Test.YtbobbbhgdfapjaaGreatZB13
import Derived.Test.YtbobbbhgdfapjaaGreatZB14
import Derived.Test.YtbobbbhgdfapjaaGreatZB15
import Derived.Test.YtbobbbhgdfapjaaGreatZB16
import Derived.Test.YtbobbbhgdfapjaaGreatZB31
set_option linter.unusedSimpArgs false
set_option linter.unusedVariables false
namespace Go.Proofs.YtbobbbhgdfapjaaGreat.Tk

def numB (l : List UInt8) : Bool := !l.isEmpty && decide (l.length ≤ 9) && (decide (l.length ≤ 1) || !decide (bi (l.getD 0 0) = 48)) && l.all dgB
end Go.Proofs.YtbobbbhgdfapjaaGreat.Tk
set_option linter.unusedSimpArgs false
set_option linter.unusedVariables false
namespace Go.Proofs.YtbobbbhgdfapjaaGreat
set_option maxHeartbeats 8000000
set_option maxRecDepth 100000
open Go.RowKit Tk
theorem numB_val (s : ByteArray) (h : 0 < s.size) (ha : s.data.toList.all dgB = true) : numB s.data.toList = (decide (s.size ≤ 9) && (decide (s.size ≤ 1) || !decide ((s[0].toNat : Int) = 48))) := by
 unfold numB; rw [getD_of s h, isEmpty_of s h, ha]; simp [bi]; rfl
theorem numB_bad (s : ByteArray) (k : Nat) (h : k < s.size) (hk : dgB s[k] = false) : numB s.data.toList = false := by
 unfold numB; rw [all_stop s k h hk]; simp
theorem numB_no (s : ByteArray) (h : 9 < s.size ∨ ¬ 0 < s.size) : numB s.data.toList = false := by
 rcases h with h | h
 · simp [numB]; omega
 · rw [isEmpty_no s h]; rfl
theorem numB_zero (s : ByteArray) (h : 1 < s.size) (hk : (s[0].toNat : Int) = 48) : numB s.data.toList = false := by
 unfold numB; rw [getD_of s (by omega)]; simp [bi, hk]; omega
theorem numB_ok (s : ByteArray) (k : Nat) (h : 0 < s.size) (h9 : ¬ 9 < s.size) (hz : s.size ≤ 1 ∨ ¬ (s[0].toNat : Int) = 48) (hk : s.size ≤ k) (ha : (s.data.toList.take k).all dgB = true) : numB s.data.toList = true := by
 rw [numB_val s h (all_done s k hk ha)]; simp; omega
open Go.RowKit Tk
theorem rnumber_any (s : ByteArray) (hs : s.size ≤ maxLen) (w : World) : Calls Tryz.prog 126 #[.string s] w fun e w' => e = .returned (.bool (numB s.data.toList)) ∧ w = w' := by
 unfold maxLen at hs
 go_enter Tryz.func126, Tryz.ntmps126
 go_wp2_with (first | ((with_reducible refine wpTxt_q ?_ ?_ ?_); rfl; rfl; intro _ _) | ((with_reducible refine wpTxt_w0 ?_ ?_ ?_); rfl; rfl; intro _ _) | ((with_reducible refine wpTxt_s ?_ ?_); rfl; intro _ _; go_simp) | ((with_reducible refine wpTxt_sw ?_ ?_); rfl; intro _ _; go_simp) | (with_reducible refine wpTxt_nil ?_) | ((with_reducible refine wp_region_t mixed ?_ ?_); decide +kernel; intro _ _))
 go_loop [3] (fun i => ∃ k : Nat, k ≤ s.size ∧ i = .int .i64 k ∧ Hid ((s.data.toList.take k).all dgB = true)) (fun i => s.size - (intOf i).toNat)
 case atStart => exact ⟨0, by omega, rfl, by simp [Hid]⟩
 case round =>
  obtain ⟨k, hk, rfl, hall⟩ := hrel
  by_cases hlt : k < s.size
  · by_cases hg : digB (s[k].toNat : Int) = true
    · go_wp2_with (first | ((with_reducible refine wpTxt_q ?_ ?_ ?_); rfl; rfl; intro _ _) | ((with_reducible refine wpTxt_w0 ?_ ?_ ?_); rfl; rfl; intro _ _) | ((with_reducible refine wpTxt_s ?_ ?_); rfl; intro _ _; go_simp) | ((with_reducible refine wpTxt_sw ?_ ?_); rfl; intro _ _; go_simp) | (with_reducible refine wpTxt_nil ?_) | ((with_reducible refine wp_region_t mixed ?_ ?_); decide +kernel; intro _ _) | (go_at_call 125; ((with_reducible refine (rDigit_any _ _).mono ?_); rintro e w' ⟨rfl, rfl⟩)))
      go_round
      case rel => exact ⟨k + 1, by omega, by go_num, all_step s k hlt hall.out hg⟩
      case measure => simp [intOf]; omega
    · have hg2 : digB (s[k].toNat : Int) = false := by simpa using hg
      go_wp2_with (first | ((with_reducible refine wpTxt_q ?_ ?_ ?_); rfl; rfl; intro _ _) | ((with_reducible refine wpTxt_w0 ?_ ?_ ?_); rfl; rfl; intro _ _) | ((with_reducible refine wpTxt_s ?_ ?_); rfl; intro _ _; go_simp) | ((with_reducible refine wpTxt_sw ?_ ?_); rfl; intro _ _; go_simp) | (with_reducible refine wpTxt_nil ?_) | ((with_reducible refine wp_region_t mixed ?_ ?_); decide +kernel; intro _ _) | (go_at_call 125; ((with_reducible refine (rDigit_any _ _).mono ?_); rintro e w' ⟨rfl, rfl⟩)))
      go_ret
      exact ⟨ret_bool (numB_bad s k hlt hg2).symm, rfl⟩
  · by_cases h0 : 0 < s.size
    · by_cases h9 : 9 < s.size
      · go_wp2
        go_ret
        exact ⟨ret_bool (numB_no s (.inl h9)).symm, rfl⟩
      · by_cases h1 : s.size = 1
        · have h1b : ((s.size : Int) == 1) = true := by simp; omega
          have H1 := Lib.hid h1
          clear h1
          go_wp2
          go_ret
          exact ⟨ret_bool (numB_ok s k h0 h9 (.inl (by have := H1.out; omega)) (by omega) hall.out).symm, rfl⟩
        · have h1b : ((s.size : Int) == 1) = false := by simp; omega
          by_cases hz : (s[0].toNat : Int) = 48
          · have hb : ((s[0].toNat : Int) != 48) = false := by simpa using hz
            have HZ := Lib.hid hz
            clear hz
            go_wp2
            go_ret
            exact ⟨ret_bool (numB_zero s (by omega) HZ.out).symm, rfl⟩
          · have hb : ((s[0].toNat : Int) != 48) = true := by simpa using hz
            have HZ := Lib.hid hz
            clear hz
            go_wp2
            go_ret
            exact ⟨ret_bool (numB_ok s k h0 h9 (.inr HZ.out) (by omega) hall.out).symm, rfl⟩
    · go_wp2
      go_ret
      exact ⟨ret_bool (numB_no s (.inr h0)).symm, rfl⟩
open Go.RowKit Tk
theorem op_of0 {k : Int} (h : opn k = 0) : k = 1 := by unfold opn at h; repeat' split at h; all_goals omega
theorem op_of1 {k : Int} (h : opn k = 1) : k = 2 := by unfold opn at h; repeat' split at h; all_goals omega
theorem op_of2 {k : Int} (h : opn k = 2) : k = 3 ∨ k = 4 ∨ k = 5 ∨ k = 6 ∨ k = 7 := by unfold opn at h; repeat' split at h; all_goals omega
theorem str_lt {k l : Int} (hv : 0 ≤ opn k) (hl : l ≤ 5) : strQ k < l ↔ strB k < l := by
 rcases (show opn k = 0 ∨ opn k = 1 ∨ opn k = 2 by have := opn_vals k; omega) with h | h | h
 · have := op_of0 h; subst this; show (6 : Int) < l ↔ (5 : Int) < l; omega
 · have := op_of1 h; subst this; exact Iff.rfl
 · rcases op_of2 h with rfl | rfl | rfl | rfl | rfl <;> exact Iff.rfl
theorem bin_eq {k : Int} (h : opn k = 2) : strQ k = signN k ∧ markQ k = signM k ∧ 1 ≤ strQ k ∧ strQ k ≤ 4 := by
 rcases op_of2 h with rfl | rfl | rfl | rfl | rfl <;> exact ⟨rfl, rfl, by decide, by decide⟩
theorem strB_pos {k : Int} : ¬ strB k < 0 := by
 unfold strB signN; repeat' split
 all_goals omega
@[reducible] def OprOk (N : Nat) : Prop := ∀ (x : Ex) (l : Int) {w : World}, x.ok w → x.wf → x.wz ≤ 1000000000000 → x.sz < N → l ≤ 5 → Calls Tryz.prog 79 #[.agg (exC x).toArray, .int .i64 l] w (TPost (textB x l) w)
@[reducible] def WriOk (N : Nat) : Prop := ∀ (x : Ex) {w : World}, x.ok w → x.wf → x.wz ≤ 1000000000000 → x.sz < N → Calls Tryz.prog 53 #[.agg (exC x).toArray] w (TPost (textB x 0) w)
theorem opr_step {N : Nat} (IH : Hid (WriOk N)) : OprOk N := by
 intro x l w hxo hwf hwz hz hl
 obtain ⟨st, hst⟩ : ∃ st, strQ x.h.op = st := ⟨_, rfl⟩
 have hop : 0 ≤ opn x.h.op := by have := hwf.kids; omega
 have hlt := str_lt hop hl
 obtain ⟨t0, ht0⟩ : ∃ t0, textB x 0 = t0 := ⟨_, rfl⟩
 have hsz : t0.size ≤ 1000000000000 := by rw [← ht0]; exact Nat.le_trans (textB_size x 0) hwz
 have hV : textB x l = paren (decide (st < l)) t0 := by
  rw [← ht0, textB_eq, textB_eq, decide_eq_false strB_pos, ← hst]
  rw [show decide (strB x.h.op < l) = decide (strQ x.h.op < l) by rw [decide_eq_decide]; exact hlt.symm]
  rfl
 rw [hV]
 have HST := Lib.hid hst
 have HT0 := Lib.hid ht0
 clear hst ht0 hlt hop hV
 by_cases hp : st < l
 · rw [decide_eq_true hp]
   go_enter Tryz.func79, Tryz.ntmps79
   have E := Only.refl [] w
   go_upto_region 9999 with (first | ((first | ((with_reducible refine at_dst 7 ?_); go_simp; ((with_reducible refine (qstrength_any _ _).mono ?_)); unfold IPost; rw [HST.out]; rintro e wn ⟨rfl, hx⟩) | ((with_reducible refine at_dst 11 ?_); go_simp; (have hc := IH.out x (hxo.ext E.low) hwf hwz hz); (first | with_reducible refine hc.mono ?_ | refine hc.mono ?_); clear hc; unfold TPost; rw [HT0.out]; rintro e wn ⟨rfl, hx⟩) | ((with_reducible refine at_dst 2 ?_); go_simp; (generalize hXn : Array.size (World.heap _) = X2); refine new_block hXn ?_; intro wn bb hx; have b2 := Loc.new bb E hXn; have zz := Nat.le_trans E.size (Nat.le_of_eq hXn); clear bb hXn)); (try replace E := E.ext hx); (try replace b2 := b2.ext hx); (try replace hcE := bcell E.low); (try replace c2 := b2.cf)) | ((with_reducible refine at_dst 10 ?_); (refine wp_all b2.blk rfl rfl ?_ ?_ ?_); (· kernel_rfl); (· kernel_rfl)))
   all_goals
    go_ret
    exact ⟨rfl, E.low⟩
 · rw [decide_eq_false hp]
   go_enter Tryz.func79, Tryz.ntmps79
   have E := Only.refl [] w
   go_upto_region 9999 with (first | ((first | ((with_reducible refine at_dst 7 ?_); go_simp; ((with_reducible refine (qstrength_any _ _).mono ?_)); unfold IPost; rw [HST.out]; rintro e wn ⟨rfl, hx⟩) | ((with_reducible refine at_dst 15 ?_); go_simp; (have hc := IH.out x (hxo.ext E.low) hwf hwz hz); (first | with_reducible refine hc.mono ?_ | refine hc.mono ?_); clear hc; unfold TPost; rw [HT0.out]; rintro e wn ⟨rfl, hx⟩) | ((with_reducible refine at_dst 2 ?_); go_simp; (generalize hXn : Array.size (World.heap _) = X2); refine new_block hXn ?_; intro wn bb hx; have b2 := Loc.new bb E hXn; have zz := Nat.le_trans E.size (Nat.le_of_eq hXn); clear bb hXn)); (try replace E := E.ext hx); (try replace b2 := b2.ext hx); (try replace hcE := bcell E.low); (try replace c2 := b2.cf)) | ((with_reducible refine at_dst 14 ?_); (refine wp_all b2.blk rfl rfl ?_ ?_ ?_); (· kernel_rfl); (· kernel_rfl)))
   all_goals
    go_ret
    exact ⟨rfl, E.low⟩
theorem wri_step {N : Nat} (IH : Hid (OprOk N)) : WriOk (N + 1) := by
 intro x w hxo hwf hwz hz
 rw [Ex.sz_kids] at hz
 rw [Ex.wz_eq] at hwz
 have n2 := (RRow.lens hxo.kids).2
 have n3 := (Reads.lens hxo.names).2
 obtain ⟨n, hn⟩ : ∃ n, opn x.h.op = n := ⟨_, rfl⟩
 have h55 : (5 : Int) ≤ 5 := by omega
 obtain ⟨sq, hsq⟩ : ∃ sq, strQ x.h.op = sq := ⟨_, rfl⟩
 have hop0 : opn x.h.op = 0 → sq = 6 := fun h => by rw [← hsq, op_of0 h]; rfl
 have hop1 : opn x.h.op = 1 → sq = 5 := fun h => by rw [← hsq, op_of1 h]; rfl
 have hop2 : opn x.h.op = 2 → sq = signN x.h.op ∧ markQ x.h.op = signM x.h.op ∧ 1 ≤ sq ∧ sq ≤ 4 := fun h => by rw [← hsq]; exact bin_eq h
 rw [hn] at hop0 hop1 hop2
 have hk := hwf.kids
 have hnm := hwf.names
 unfold namedE at hnm
 rw [hn] at hk hnm
 have hv := opn_vals x.h.op
 rw [hn] at hv
 obtain ⟨V, hV⟩ : ∃ V, textB x 0 = V := ⟨_, rfl⟩
 rw [hV]
 rw [textB_eq, decide_eq_false strB_pos] at hV
 have HN := Lib.hid hn
 have HSQ := Lib.hid hsq
 have hwf2 := Lib.hid hwf
 clear hn hsq
 rcases (show n = 0 ∨ n = 1 ∨ n = 2 by omega) with rfl | rfl | rfl
 · have hs6 := hop0 rfl
   subst hs6
   clear hop0 hop1 hop2
   have hk0 : x.kids.length = 0 := by omega
   rw [if_pos rfl] at hnm
   have hlt : 0 < x.h.names.length := by omega
   obtain ⟨nm, hnm2⟩ : ∃ nm, x.h.names = [nm] := by
    have h8 : x.h.names.length = 1 := by omega
    match hq : x.h.names, h8 with
    | [nm], _ => exact ⟨nm, rfl⟩
   obtain ⟨gg, oo, hgo, hg, k0⟩ := hxo.names.cells hlt
   have hn0 : x.h.names[0] = nm := by simp [hnm2]
   rw [hn0, Nat.add_zero] at k0
   rw [hk0, bodyT, if_pos rfl, hnm2, show firstN [nm] = nm from rfl] at hV
   have hsz : nm.size ≤ 1000000000000 := by rw [hnm2] at hwz; simp only [List.map_cons, List.map_nil, List.sum_cons, List.sum_nil] at hwz; omega
   have HNM := Lib.hid hnm2
   clear hnm2 hn0 hk hk0 hnm
   rw [paren, if_neg (by decide)] at hV
   have HV := Lib.hid hV
   clear hV
   go_enter Tryz.func53, Tryz.ntmps53
   have E := Only.refl [] w
   go_upto_region 9999 with (first | ((first | ((with_reducible refine at_dst 6 ?_); go_simp; ((with_reducible refine (qstrength_any _ _).mono ?_)); unfold IPost; rw [HSQ.out]; rintro e wn ⟨rfl, hx⟩) | ((with_reducible refine at_dst 1 ?_); go_simp; (generalize hXn : Array.size (World.heap _) = X1); refine new_block hXn ?_; intro wn bb hx; have b1 := Loc.new bb E hXn; have zz := Nat.le_trans E.size (Nat.le_of_eq hXn); clear bb hXn)); (try replace E := E.ext hx); (try replace b1 := b1.ext hx); (try replace hcE := bcell E.low); (try replace c1 := b1.cf)))
   all_goals
    go_ret
    exact ⟨by rw [← HV.out]; rfl, E.low⟩
 · have hs6 := hop1 rfl
   subst hs6
   clear hop0 hop1 hop2
   obtain ⟨a, hka⟩ : ∃ a, x.kids = [a] := by
    have h8 : x.kids.length = 1 := by omega
    match hq : x.kids, h8 with
    | [a], _ => exact ⟨a, rfl⟩
   have ham : a ∈ x.kids := by rw [hka]; simp
   have hao := hxo.subs.mem ham
   have haw := hwf2.out.subs.mem ham
   have hw1 : Ex.wzs x.kids = a.wz := by rw [hka, Ex.wzs, Ex.wzs]; rfl
   have hs1 : Ex.szs x.kids = a.sz := by rw [hka, Ex.szs, Ex.szs]; rfl
   have haz : a.wz ≤ 1000000000000 := by omega
   have has : a.sz < N := by omega
   obtain ⟨ta, hta⟩ : ∃ ta, textB a 5 = ta := ⟨_, rfl⟩
   have hsz : ta.size ≤ 1000000000000 := by rw [← hta]; exact Nat.le_trans (textB_size a 5) haz
   have hlt : 0 < x.kids.length := by omega
   obtain ⟨g, o, hgo, hg, -⟩ := RRow.cells hxo.kids hlt
   have hkc : RRow w 10 exC (.slice (some ⟨g, o, none⟩) x.kids.length x.h.hk.c) x.kids := hgo ▸ hxo.kids
   have H0 : Hid (x.kids[0]? = some a) := Lib.hid (by rw [hka]; rfl)
   rw [hka] at hV
   rw [show bodyT x.h [a].length (textBs [a] (if [a].length = 1 then 5 else signN x.h.op)) = ⟨#[33]⟩ ++ ta by rw [← hta]; rfl] at hV
   have HA := Lib.hid hta
   have HKA := Lib.hid hka
   clear hta hka hk hnm hw1 hs1 hwf ham
   rw [paren, if_neg (by decide)] at hV
   have HV := Lib.hid hV
   clear hV
   go_enter Tryz.func53, Tryz.ntmps53
   have E := Only.refl [] w
   go_upto_region 9999 with (first | ((first | ((with_reducible refine at_dst 6 ?_); go_simp; ((with_reducible refine (qstrength_any _ _).mono ?_)); unfold IPost; rw [HSQ.out]; rintro e wn ⟨rfl, hx⟩) | ((with_reducible refine at_dst 19 ?_); go_simp; (have hc := IH.out a 5 (hao.ext E.low) haw haz has h55); (first | with_reducible refine hc.mono ?_ | refine hc.mono ?_); clear hc; unfold TPost; rw [HA.out]; rintro e wn ⟨rfl, hx⟩) | ((with_reducible refine at_dst 1 ?_); go_simp; (generalize hXn : Array.size (World.heap _) = X1); refine new_block hXn ?_; intro wn bb hx; have b1 := Loc.new bb E hXn; have zz := Nat.le_trans E.size (Nat.le_of_eq hXn); clear bb hXn)); (try replace E := E.ext hx); (try replace b1 := b1.ext hx); (try replace hcE := bcell E.low); (try replace c1 := b1.cf)) | ((with_reducible refine at_dst 18 ?_); (refine wp_rec2 ((RRow.ext hkc E.low)) (H0.out) exC_len rfl rfl ?_ ?_ ?_); (· kernel_rfl); (· kernel_rfl)))
   all_goals
    go_ret
    exact ⟨by rw [← HV.out]; rfl, E.low⟩
 · obtain ⟨hs6, hmk, hsn1, hsn2⟩ := hop2 rfl
   obtain ⟨mk, hmk2⟩ : ∃ mk, markQ x.h.op = mk := ⟨_, rfl⟩
   have HM := Lib.hid hmk2
   rw [hmk2] at hmk
   have hl5 : sq ≤ 5 := by omega
   have hl6 : sq + 1 ≤ 5 := by omega
   have g5 : (sq == 5) = false ∧ (sq != 5) = true := kd_f (by omega)
   have g6 : (sq == 6) = false ∧ (sq != 6) = true := kd_f (by omega)
   obtain ⟨g51, g52⟩ := g5
   obtain ⟨g61, g62⟩ := g6
   clear hop0 hop1 hop2 hmk2
   obtain ⟨a, b, hka⟩ : ∃ a b, x.kids = [a, b] := by
    have h8 : x.kids.length = 2 := by omega
    match hq : x.kids, h8 with
    | [a, b], _ => exact ⟨a, b, rfl⟩
   have ham : a ∈ x.kids := by rw [hka]; simp
   have hbm : b ∈ x.kids := by rw [hka]; simp
   have hao := hxo.subs.mem ham
   have haw := hwf2.out.subs.mem ham
   have hbo := hxo.subs.mem hbm
   have hbw := hwf2.out.subs.mem hbm
   have hw1 : Ex.wzs x.kids = a.wz + b.wz := by rw [hka, Ex.wzs, Ex.wzs, Ex.wzs]; rfl
   have hs1 : Ex.szs x.kids = a.sz + b.sz := by rw [hka, Ex.szs, Ex.szs, Ex.szs]; rfl
   have haz : a.wz ≤ 1000000000000 := by omega
   have has : a.sz < N := by omega
   have hbz : b.wz ≤ 1000000000000 := by omega
   have hbs : b.sz < N := by omega
   obtain ⟨ta, hta⟩ : ∃ ta, textB a sq = ta := ⟨_, rfl⟩
   obtain ⟨tb, htb⟩ : ∃ tb, textB b (sq + 1) = tb := ⟨_, rfl⟩
   have hsz : ta.size ≤ 1000000000000 := by rw [← hta]; exact Nat.le_trans (textB_size a _) haz
   have hsz2 : tb.size ≤ 1000000000000 := by rw [← htb]; exact Nat.le_trans (textB_size b _) hbz
   have hsz3 := signM_size x.h.op
   rw [← hmk] at hsz3
   have hlt : 0 < x.kids.length := by omega
   have hlt1 : 1 < x.kids.length := by omega
   obtain ⟨g, o, hgo, hg, -⟩ := RRow.cells hxo.kids hlt
   have hkc : RRow w 10 exC (.slice (some ⟨g, o, none⟩) x.kids.length x.h.hk.c) x.kids := hgo ▸ hxo.kids
   have H0 : Hid (x.kids[0]? = some a) := Lib.hid (by rw [hka]; rfl)
   have H1 : Hid (x.kids[1]? = some b) := Lib.hid (by rw [hka]; rfl)
   rw [hka] at hV
   rw [show bodyT x.h [a, b].length (textBs [a, b] (if [a, b].length = 1 then 5 else signN x.h.op)) = ta ++ ⟨#[32]⟩ ++ mk ++ ⟨#[32]⟩ ++ tb by rw [← hta, ← htb, hmk, hs6]; rfl] at hV
   have HA := Lib.hid hta
   have HB := Lib.hid htb
   have HKA := Lib.hid hka
   have HS6 := Lib.hid hs6
   have HMK := Lib.hid hmk
   clear hta htb hka hk hnm hw1 hs1 hwf ham hbm hs6 hmk
   rw [paren, if_neg (by decide)] at hV
   have HV := Lib.hid hV
   clear hV
   go_enter Tryz.func53, Tryz.ntmps53
   have E := Only.refl [] w
   go_upto_region 9999 with (first | ((first | ((with_reducible refine at_dst 6 ?_); go_simp; ((with_reducible refine (qstrength_any _ _).mono ?_)); unfold IPost; rw [HSQ.out]; rintro e wn ⟨rfl, hx⟩) | ((with_reducible refine at_reg 6 ?_); (refine wp_region_x (id := 6) (spOf [(5, spVal (.string ta)), (9, spVal (.string mk)), (18, spVal (.string tb))]) [0, 1, 2, 3, 4, 7, 8, 12, 13, 14, 15, 16, 17, 5, 6, 9, 10, 11, 18, 19, 20] [] [] mixed ?_ ?_); (· decide +kernel); intro K ws hx hK; dsimp only [pickE, pickL, List.getElem?_cons_succ, List.getElem?_cons_zero] at hK ⊢) | ((with_reducible refine at_dst 1 ?_); go_simp; (generalize hXn : Array.size (World.heap _) = X1); refine new_block hXn ?_; intro wn bb hx; have b1 := Loc.new bb E hXn; have zz := Nat.le_trans E.size (Nat.le_of_eq hXn); clear bb hXn)); (try replace E := E.ext hx); (try replace b1 := b1.ext hx); (try replace hcE := bcell E.low); (try replace c1 := b1.cf)) | ((with_reducible refine at_j 5 ?_); refine wpE_w (spVal (.string ta)) _ rfl rfl ?_ rfl rfl (⟨_, rfl⟩) ?_ ?_; (· first | rfl | go_simp); (· intro wn hx K2 hK2; (try replace E := E.ext hx); go_wp2_with fail; (first | ((with_reducible refine (IH.out a sq (hao.ext E.low) haw haz has hl5).mono ?_)) | ((have hc := IH.out a sq (hao.ext E.low) haw haz has hl5); (with_reducible refine hc.mono ?_); clear hc)); unfold TPost; rw [HA.out]; rintro e wn ⟨rfl, hx⟩; go_wp2_with fail; exact good_val hx); rintro v26 rfl; (try simp only [Act.put, actL])) | ((with_reducible refine at_j 9 ?_); refine wpE_w (spVal (.string mk)) _ rfl rfl ?_ rfl rfl (⟨_, rfl⟩) ?_ ?_; (· first | rfl | go_simp); (· intro wn hx K2 hK2; go_wp2_with fail; (first | ((with_reducible refine (qmark_any _ _).mono ?_)) | ((have hc := qmark_any _ _); (with_reducible refine hc.mono ?_); clear hc)); unfold TPost; rw [HM.out]; rintro e wn ⟨rfl, hx⟩; go_wp2_with fail; exact good_val hx); rintro v30 rfl; (try simp only [Act.put, actL])) | ((with_reducible refine at_j 18 ?_); refine wpE_w (spVal (.string tb)) _ rfl rfl ?_ rfl rfl (⟨_, rfl⟩) ?_ ?_; (· first | rfl | go_simp); (· intro wn hx K2 hK2; (try replace E := E.ext hx); go_wp2_with fail; (first | ((with_reducible refine (IH.out b (sq + 1) (hbo.ext E.low) hbw hbz hbs hl6).mono ?_)) | ((have hc := IH.out b (sq + 1) (hbo.ext E.low) hbw hbz hbs hl6); (with_reducible refine hc.mono ?_); clear hc)); unfold TPost; rw [HB.out]; rintro e wn ⟨rfl, hx⟩; go_wp2_with fail; exact good_val hx); rintro v39 rfl; (try simp only [Act.put, actL])) | ((with_reducible refine at_j 3 ?_); (with_reducible refine wpE_q ?_ ?_ ?_); rfl; rfl; intro wq hq K2 hK2; (refine wp_rec2 (RRow.ext ((RRow.ext hkc E.low)) hq) (H0.out) exC_len rfl rfl ?_ ?_ ?_); (· kernel_rfl); (· kernel_rfl); refine hK2 _ ?_; clear hK2; (try simp only [Act.put, actL])) | ((with_reducible refine at_j 15 ?_); (with_reducible refine wpE_q ?_ ?_ ?_); rfl; rfl; intro wq hq K2 hK2; (refine wp_rec2 (RRow.ext ((RRow.ext hkc E.low)) hq) (H1.out) exC_len rfl rfl ?_ ?_ ?_); (· kernel_rfl); (· kernel_rfl); refine hK2 _ ?_; clear hK2; (try simp only [Act.put, actL])) | ((with_reducible refine wpE_q ?_ ?_ ?_); rfl; rfl; intro wq hq _ _; (try replace hcE := bcell (E.ext hq).low); (try replace c1 := (b1.ext hq).cf)) | ((with_reducible refine at_nil 0 ?_); refine wpE_nil (fun wn hx hΦ hfp hdis => ?_); (try replace E := E.ext hx); (try replace b1 := b1.ext hx); (try replace hcE := bcell E.low); (try replace c1 := b1.cf); clear hΦ hfp hdis; refine hK _ _ ?_; clear hK) | (with_reducible refine wpTxt_nil ?_))
   all_goals
    go_ret
    exact ⟨by rw [← HV.out]; rfl, E.low⟩
theorem wri_any : ∀ N : Nat, WriOk N
 | 0 => fun _ _ _ _ _ hz => absurd hz (Nat.not_lt_zero _)
 | N + 1 => wri_step (Lib.hid (opr_step (Lib.hid (wri_any N))))
/-! ### Text -/
theorem qText_any {w : World} {x : Ex} (hxo : x.ok w) (hs : x.small) (hsz : x.sz ≤ 1000000000000) (hwz : x.wz ≤ 1000000000000) : Calls Tryz.prog 24 #[.agg (exC x).toArray] w (TIPost (textR x).1 (textR x).2 w) := by
 obtain ⟨R, hR⟩ : ∃ R, textR x = R := ⟨_, rfl⟩
 rw [hR]
 unfold textR at hR
 obtain ⟨c, hc⟩ : ∃ c, chk x 1 = c := ⟨_, rfl⟩
 rw [hc] at hR
 have hwf := Lib.hid (show c = 0 → x.wf from fun h => chk_wf x 1 (hc.trans h))
 have HC := Lib.hid hc
 obtain ⟨t, ht⟩ : ∃ t, textB x 0 = t := ⟨_, rfl⟩
 rw [ht] at hR
 have HT := Lib.hid ht
 clear hc ht
 by_cases h0 : c = 0
 · rw [if_neg (by simpa using h0)] at hR
   replace hwf := Lib.hid (hwf.out h0)
   obtain ⟨g1, g2⟩ := kd_t h0
   have HR := Lib.hid hR
   clear hR h0
   go_enter Tryz.func24, Tryz.ntmps24
   have E := Only.refl [] w
   go_upto_region 9999 with (first | ((first | ((with_reducible refine at_dst 6 ?_); go_simp; (have hc := qCheck_any (hxo.ext E.low) hs hsz); (first | with_reducible refine hc.mono ?_ | refine hc.mono ?_); clear hc; unfold IPost; rw [HC.out]; rintro e wn ⟨rfl, hx⟩) | ((with_reducible refine at_dst 11 ?_); go_simp; (have hc := wri_any (x.sz + 1) x (hxo.ext E.low) hwf.out hwz (Nat.lt_succ_self _)); (first | with_reducible refine hc.mono ?_ | refine hc.mono ?_); clear hc; unfold TPost; rw [HT.out]; rintro e wn ⟨rfl, hx⟩) | ((with_reducible refine at_dst 1 ?_); go_simp; (generalize hXn : Array.size (World.heap _) = X1); refine new_block hXn ?_; intro wn bb hx; have b1 := Loc.new bb E hXn; have zz := Nat.le_trans E.size (Nat.le_of_eq hXn); clear bb hXn)); (try replace E := E.ext hx); (try replace b1 := b1.ext hx); (try replace hcE := bcell E.low); (try replace c1 := b1.cf)) | ((with_reducible refine at_dsts [5, 10] ?_ ?_); (· rfl); (refine wp_all (Loc.blk (by assumption)) rfl rfl ?_ ?_ ?_); (· kernel_rfl); (· kernel_rfl)))
   refine bodyPost_ret (v := .tuple #[.string t, .int .i64 0]) (by simp [results, Tryz.f24, go_sem]) rfl ⟨by rw [← HR.out], E.low⟩
 · rw [if_pos h0] at hR
   obtain ⟨g1, g2⟩ := kd_f h0
   have HR := Lib.hid hR
   clear hR h0 hwf
   go_enter Tryz.func24, Tryz.ntmps24
   have E := Only.refl [] w
   go_upto_region 9999 with (first | ((first | ((with_reducible refine at_dst 6 ?_); go_simp; (have hc := qCheck_any (hxo.ext E.low) hs hsz); (first | with_reducible refine hc.mono ?_ | refine hc.mono ?_); clear hc; unfold IPost; rw [HC.out]; rintro e wn ⟨rfl, hx⟩) | ((with_reducible refine at_dst 1 ?_); go_simp; (generalize hXn : Array.size (World.heap _) = X1); refine new_block hXn ?_; intro wn bb hx; have b1 := Loc.new bb E hXn; have zz := Nat.le_trans E.size (Nat.le_of_eq hXn); clear bb hXn)); (try replace E := E.ext hx); (try replace b1 := b1.ext hx); (try replace hcE := bcell E.low); (try replace c1 := b1.cf)) | ((with_reducible refine at_dst 5 ?_); (refine wp_all b1.blk rfl rfl ?_ ?_ ?_); (· kernel_rfl); (· kernel_rfl)))
   refine bodyPost_ret (v := .tuple #[.string ⟨#[]⟩, .int .i64 c]) (by simp [results, Tryz.f24, go_sem]) rfl ⟨by rw [← HR.out], E.low⟩
open Go.RowKit Tk

def locI (src : ByteArray) (i : Int) : Int × Int := if 0 ≤ i ∧ i ≤ src.size then loc src.data.toList i.toNat else (0, 0)
theorem locI_in {src : ByteArray} {n : Nat} (h : n ≤ src.size) : locI src n = loc src.data.toList n := by
 unfold locI; rw [if_pos ⟨by omega, by omega⟩]; rfl
theorem locI_out {src : ByteArray} {i : Int} (h : i < 0 ∨ (src.size : Int) < i) : locI src i = (0, 0) := by
 unfold locI; rw [if_neg (by omega)]
def LocPost (src : ByteArray) (i : Int) (w : World) (e : Ending) (w' : World) : Prop :=
 e = .returned (.agg #[.int .i64 (locI src i).1, .int .i64 (locI src i).2]) ∧ Below w.heap.size w w'
theorem rLocate_any (src : ByteArray) (i : Int) (w : World) (hs : src.size ≤ 65536) (h0 : -9223372036854775808 ≤ i) : Calls Tryz.prog 86 #[.string src, .int .i64 i] w (LocPost src i w) := by
 by_cases hi : i < 0
 · have e0 := Lib.hid (locI_out (src := src) (.inl hi))
   go_enter Tryz.func86, Tryz.ntmps86
   go_wp2_with (first | ((with_reducible refine wpTxt_q ?_ ?_ ?_); rfl; rfl; intro _ _) | ((with_reducible refine wpTxt_w0 ?_ ?_ ?_); rfl; rfl; intro _ _) | ((with_reducible refine wpTxt_s ?_ ?_); rfl; intro _ _; go_simp) | ((with_reducible refine wpTxt_sw ?_ ?_); rfl; intro _ _; go_simp) | (with_reducible refine wpTxt_nil ?_) | ((with_reducible refine wp_region_t mixed ?_ ?_); decide +kernel; intro _ _))
   refine bodyPost_ret (v := .agg #[.int .i64 0, .int .i64 0]) (by simp [results, Tryz.f86, go_sem]) rfl ?_
   unfold LocPost
   rw [e0.out]
   refine ⟨rfl, ?_⟩
   (repeat (first | (with_reducible first | assumption | exact Below.refl _ _ | refine Below.drewN' ?_ _ | refine Below.drew ?_) | ((with_reducible first | refine Below.setCell ?_ ?_ _ | refine Below.alloc ?_ ?_ _); rotate_left; (· first | omega | (simp only [szW]; omega) | (dsimp only; omega)))))
 · by_cases hj : (src.size : Int) < i
   · have e0 := Lib.hid (locI_out (src := src) (.inr hj))
     go_enter Tryz.func86, Tryz.ntmps86
     go_wp2_with (first | ((with_reducible refine wpTxt_q ?_ ?_ ?_); rfl; rfl; intro _ _) | ((with_reducible refine wpTxt_w0 ?_ ?_ ?_); rfl; rfl; intro _ _) | ((with_reducible refine wpTxt_s ?_ ?_); rfl; intro _ _; go_simp) | ((with_reducible refine wpTxt_sw ?_ ?_); rfl; intro _ _; go_simp) | (with_reducible refine wpTxt_nil ?_) | ((with_reducible refine wp_region_t mixed ?_ ?_); decide +kernel; intro _ _))
     refine bodyPost_ret (v := .agg #[.int .i64 0, .int .i64 0]) (by simp [results, Tryz.f86, go_sem]) rfl ?_
     unfold LocPost
     rw [e0.out]
     refine ⟨rfl, ?_⟩
     (repeat (first | (with_reducible first | assumption | exact Below.refl _ _ | refine Below.drewN' ?_ _ | refine Below.drew ?_) | ((with_reducible first | refine Below.setCell ?_ ?_ _ | refine Below.alloc ?_ ?_ _); rotate_left; (· first | omega | (simp only [szW]; omega) | (dsimp only; omega)))))
   · obtain ⟨n, rfl⟩ : ∃ n : Nat, i = n := ⟨i.toNat, by omega⟩
     have e0 := Lib.hid (locI_in (src := src) (n := n) (by omega))
     have hn : n ≤ src.size := by omega
     go_enter Tryz.func86, Tryz.ntmps86
     go_wp2_with (first | ((with_reducible refine wpTxt_q ?_ ?_ ?_); rfl; rfl; intro _ _) | ((with_reducible refine wpTxt_w0 ?_ ?_ ?_); rfl; rfl; intro _ _) | ((with_reducible refine wpTxt_s ?_ ?_); rfl; intro _ _; go_simp) | ((with_reducible refine wpTxt_sw ?_ ?_); rfl; intro _ _; go_simp) | (with_reducible refine wpTxt_nil ?_) | ((with_reducible refine wp_region_t mixed ?_ ?_); decide +kernel; intro _ _))
     go_loopw [6] (fun v wr => ∃ j : Nat, v = .int .i64 j ∧ j ≤ n ∧ Hid (Blk wr (w.heap.size + 1) 44 #[.int .i64 (loc src.data.toList j).1, .int .i64 (loc src.data.toList j).2]) ∧ Hid (Blk wr w.heap.size 44 #[.int .i64 0, .int .i64 0]) ∧ Hid (Below w.heap.size w wr)) (fun v _ => n - (intOf v).toNat)
     case atStart =>
      have hN := (Blk.fresh w 44 #[.int .i64 0, .int .i64 0]).alloc (.cells #[.int .i64 1, .int .i64 1] 44)
      have hM := Blk.fresh (w.alloc (.cells #[.int .i64 0, .int .i64 0] 44)) 44 #[.int .i64 1, .int .i64 1]
      rw [World.size_alloc] at hM
      refine ⟨0, rfl, by omega, hM, hN, ?_⟩
      show Below _ _ _; (repeat (first | (with_reducible first | assumption | exact Below.refl _ _ | refine Below.drewN' ?_ _ | refine Below.drew ?_) | ((with_reducible first | refine Below.setCell ?_ ?_ _ | refine Below.alloc ?_ ?_ _); rotate_left; (· first | omega | (simp only [szW]; omega) | (dsimp only; omega)))))
     case round =>
      obtain ⟨j, rfl, hj1, hA, hF, hL⟩ := hrel
      have hl := loc_le src.data.toList j
      obtain ⟨c0, c1, g0, g1⟩ := hA.out.two
      by_cases hlt : j < n
      · have hjs : j < src.size := by omega
        have e1 : loc src.data.toList (j + 1) = aft (loc src.data.toList j) src[j] := by rw [loc_succ _ j (by rw [sz]; exact hjs), at_ src j hjs]
        by_cases hx : (src[j].toNat : Int) = 10
        · have ha : aft (loc src.data.toList j) src[j] = ((loc src.data.toList j).1 + 1, 1) := by simp [aft, bi, hx]
          rw [ha] at e1
          have E1 := Lib.hid e1
          have hb := beq_t hx
          clear ha e1 hx
          go_wp2_with (first | ((with_reducible refine wpTxt_q ?_ ?_ ?_); rfl; rfl; intro _ _) | ((with_reducible refine wpTxt_w0 ?_ ?_ ?_); rfl; rfl; intro _ _) | ((with_reducible refine wpTxt_s ?_ ?_); rfl; intro _ _; go_simp) | ((with_reducible refine wpTxt_sw ?_ ?_); rfl; intro _ _; go_simp) | (with_reducible refine wpTxt_nil ?_) | ((with_reducible refine wp_region_t mixed ?_ ?_); decide +kernel; intro _ _))
          go_roundw
          case rel =>
           refine ⟨j + 1, by go_num, by omega, ?_, ?_, ?_⟩
           · rw [E1.out]; exact ((hA.out.set 1 _).set 0 (.int .i64 ((loc src.data.toList j).1 + 1))).set 1 (.int .i64 1)
           · exact ((hF.out.far (by simp only [ne_eq]; omega) _).far (by simp only [ne_eq]; omega) _).far (by simp only [ne_eq]; omega) _
           · have hb := hL.out
             show Below _ _ _; (repeat (first | (with_reducible first | assumption | exact Below.refl _ _ | refine Below.drewN' ?_ _ | refine Below.drew ?_) | ((with_reducible first | refine Below.setCell ?_ ?_ _ | refine Below.alloc ?_ ?_ _); rotate_left; (· first | omega | (simp only [szW]; omega) | (dsimp only; omega)))))
          case measure => simp [intOf]; omega
        · have ha : aft (loc src.data.toList j) src[j] = ((loc src.data.toList j).1, (loc src.data.toList j).2 + 1) := by simp [aft, bi, hx]
          rw [ha] at e1
          have E1 := Lib.hid e1
          have hb := beq_f hx
          clear ha e1 hx
          go_wp2_with (first | ((with_reducible refine wpTxt_q ?_ ?_ ?_); rfl; rfl; intro _ _) | ((with_reducible refine wpTxt_w0 ?_ ?_ ?_); rfl; rfl; intro _ _) | ((with_reducible refine wpTxt_s ?_ ?_); rfl; intro _ _; go_simp) | ((with_reducible refine wpTxt_sw ?_ ?_); rfl; intro _ _; go_simp) | (with_reducible refine wpTxt_nil ?_) | ((with_reducible refine wp_region_t mixed ?_ ?_); decide +kernel; intro _ _))
          go_roundw
          case rel =>
           refine ⟨j + 1, by go_num, by omega, ?_, ?_, ?_⟩
           · rw [E1.out]; exact hA.out.set 1 (.int .i64 ((loc src.data.toList j).2 + 1))
           · exact hF.out.far (by simp only [ne_eq]; omega) _
           · have hb := hL.out
             show Below _ _ _; (repeat (first | (with_reducible first | assumption | exact Below.refl _ _ | refine Below.drewN' ?_ _ | refine Below.drew ?_) | ((with_reducible first | refine Below.setCell ?_ ?_ _ | refine Below.alloc ?_ ?_ _); rotate_left; (· first | omega | (simp only [szW]; omega) | (dsimp only; omega)))))
          case measure => simp [intOf]; omega
      · have e1 : j = n := by omega
        subst e1
        obtain ⟨b0, b1, f0, f1⟩ := hF.out.two
        have hz := hF.out.lt
        go_wp2_with (first | ((with_reducible refine wpTxt_q ?_ ?_ ?_); rfl; rfl; intro _ _) | ((with_reducible refine wpTxt_w0 ?_ ?_ ?_); rfl; rfl; intro _ _) | ((with_reducible refine wpTxt_s ?_ ?_); rfl; intro _ _; go_simp) | ((with_reducible refine wpTxt_sw ?_ ?_); rfl; intro _ _; go_simp) | (with_reducible refine wpTxt_nil ?_) | ((with_reducible refine wp_region_t mixed ?_ ?_); decide +kernel; intro _ _))
        refine bodyPost_ret (v := .agg #[.int .i64 (loc src.data.toList j).1, .int .i64 (loc src.data.toList j).2]) (by simp [results, Tryz.f86, go_sem, b0, b1]) rfl ?_
        unfold LocPost
        rw [e0.out]
        have hb := hL.out
        refine ⟨rfl, ?_⟩
        (repeat (first | (with_reducible first | assumption | exact Below.refl _ _ | refine Below.drewN' ?_ _ | refine Below.drew ?_) | ((with_reducible first | refine Below.setCell ?_ ?_ _ | refine Below.alloc ?_ ?_ _); rotate_left; (· first | omega | (simp only [szW]; omega) | (dsimp only; omega)))))
open Go.RowKit Tk

theorem rskip_any (src : ByteArray) (k : Nat) (w : World) (hs : src.size ≤ 65536) (hk : k ≤ src.size) :
    Calls Tryz.prog 84 #[.string src, .int .i64 k] w fun e w' => e = .returned (.int .i64 ((k + Tk.skipL false (src.data.toList.drop k) : Nat) : Int)) ∧ w = w' := by
 go_enter Tryz.func84, Tryz.ntmps84
 go_wp2_with (first | ((with_reducible refine wpTxt_q ?_ ?_ ?_); rfl; rfl; intro _ _) | ((with_reducible refine wpTxt_w0 ?_ ?_ ?_); rfl; rfl; intro _ _) | ((with_reducible refine wpTxt_s ?_ ?_); rfl; intro _ _; go_simp) | ((with_reducible refine wpTxt_sw ?_ ?_); rfl; intro _ _; go_simp) | (with_reducible refine wpTxt_nil ?_) | ((with_reducible refine wp_region_t mixed ?_ ?_); decide +kernel; intro _ _))
 go_loop [1, 5] (fun i c => ∃ (m : Nat) (cc : Bool), m ≤ src.size ∧ i = .int .i64 m ∧ c = .bool cc ∧ Hid (m + skipL cc (src.data.toList.drop m) = k + skipL false (src.data.toList.drop k))) (fun i _ => src.size - (intOf i).toNat)
 case atStart => exact ⟨k, false, hk, rfl, rfl, rfl⟩
 case round =>
  obtain ⟨m, cc, hm, rfl, rfl, hT⟩ := hrel
  by_cases hlt : m < src.size
  · by_cases x10 : (src[m].toNat : Int) = 10
    · have X := Lib.hid (skip_nl cc src m hlt x10)
      have y := beq_t x10
      clear x10
      go_wp2_with (first | ((with_reducible refine wpTxt_q ?_ ?_ ?_); rfl; rfl; intro _ _) | ((with_reducible refine wpTxt_w0 ?_ ?_ ?_); rfl; rfl; intro _ _) | ((with_reducible refine wpTxt_s ?_ ?_); rfl; intro _ _; go_simp) | ((with_reducible refine wpTxt_sw ?_ ?_); rfl; intro _ _; go_simp) | (with_reducible refine wpTxt_nil ?_) | ((with_reducible refine wp_region_t mixed ?_ ?_); decide +kernel; intro _ _))
      go_round
      case rel => exact ⟨m + 1, false, by omega, by go_num, rfl, X.out.symm.trans hT.out⟩
      case measure => simp [intOf]; omega
    · by_cases x35 : (src[m].toNat : Int) = 35
      · have X := Lib.hid (skip_ha cc src m hlt x35)
        have y := beq_f x10
        have y2 := beq_t x35
        clear x10 x35
        go_wp2_with (first | ((with_reducible refine wpTxt_q ?_ ?_ ?_); rfl; rfl; intro _ _) | ((with_reducible refine wpTxt_w0 ?_ ?_ ?_); rfl; rfl; intro _ _) | ((with_reducible refine wpTxt_s ?_ ?_); rfl; intro _ _; go_simp) | ((with_reducible refine wpTxt_sw ?_ ?_); rfl; intro _ _; go_simp) | (with_reducible refine wpTxt_nil ?_) | ((with_reducible refine wp_region_t mixed ?_ ?_); decide +kernel; intro _ _))
        go_round
        case rel => exact ⟨m + 1, true, by omega, by go_num, rfl, X.out.symm.trans hT.out⟩
        case measure => simp [intOf]; omega
      · have y := beq_f x10
        have y2 := beq_f x35
        cases cc with
        | true =>
          have X := Lib.hid (skip_co src m hlt x10)
          clear x10 x35
          go_wp2_with (first | ((with_reducible refine wpTxt_q ?_ ?_ ?_); rfl; rfl; intro _ _) | ((with_reducible refine wpTxt_w0 ?_ ?_ ?_); rfl; rfl; intro _ _) | ((with_reducible refine wpTxt_s ?_ ?_); rfl; intro _ _; go_simp) | ((with_reducible refine wpTxt_sw ?_ ?_); rfl; intro _ _; go_simp) | (with_reducible refine wpTxt_nil ?_) | ((with_reducible refine wp_region_t mixed ?_ ?_); decide +kernel; intro _ _))
          go_round
          case rel => exact ⟨m + 1, true, by omega, by go_num, rfl, X.out.symm.trans hT.out⟩
          case measure => simp [intOf]; omega
        | false =>
          by_cases x32 : (src[m].toNat : Int) = 32
          · have X := Lib.hid (skip_bl src m hlt (.inl x32))
            have y3 : ((src[m].toNat : Int) != 32) = false := by rw [bne, beq_t x32]; rfl
            clear x10 x35 x32
            go_wp2_with (first | ((with_reducible refine wpTxt_q ?_ ?_ ?_); rfl; rfl; intro _ _) | ((with_reducible refine wpTxt_w0 ?_ ?_ ?_); rfl; rfl; intro _ _) | ((with_reducible refine wpTxt_s ?_ ?_); rfl; intro _ _; go_simp) | ((with_reducible refine wpTxt_sw ?_ ?_); rfl; intro _ _; go_simp) | (with_reducible refine wpTxt_nil ?_) | ((with_reducible refine wp_region_t mixed ?_ ?_); decide +kernel; intro _ _))
            go_round
            case rel => exact ⟨m + 1, false, by omega, by go_num, rfl, X.out.symm.trans hT.out⟩
            case measure => simp [intOf]; omega
          · have y3 : ((src[m].toNat : Int) != 32) = true := by rw [bne, beq_f x32]; rfl
            by_cases x9 : (src[m].toNat : Int) = 9
            · have X := Lib.hid (skip_bl src m hlt (.inr x9))
              have y4 : ((src[m].toNat : Int) != 9) = false := by rw [bne, beq_t x9]; rfl
              clear x10 x35 x32 x9
              go_wp2_with (first | ((with_reducible refine wpTxt_q ?_ ?_ ?_); rfl; rfl; intro _ _) | ((with_reducible refine wpTxt_w0 ?_ ?_ ?_); rfl; rfl; intro _ _) | ((with_reducible refine wpTxt_s ?_ ?_); rfl; intro _ _; go_simp) | ((with_reducible refine wpTxt_sw ?_ ?_); rfl; intro _ _; go_simp) | (with_reducible refine wpTxt_nil ?_) | ((with_reducible refine wp_region_t mixed ?_ ?_); decide +kernel; intro _ _))
              go_round
              case rel => exact ⟨m + 1, false, by omega, by go_num, rfl, X.out.symm.trans hT.out⟩
              case measure => simp [intOf]; omega
            · have y4 : ((src[m].toNat : Int) != 9) = true := by rw [bne, beq_f x9]; rfl
              have X := Lib.hid (skip_no src m hlt x10 x32 x9 x35)
              clear x10 x35 x32 x9
              go_wp2_with (first | ((with_reducible refine wpTxt_q ?_ ?_ ?_); rfl; rfl; intro _ _) | ((with_reducible refine wpTxt_w0 ?_ ?_ ?_); rfl; rfl; intro _ _) | ((with_reducible refine wpTxt_s ?_ ?_); rfl; intro _ _; go_simp) | ((with_reducible refine wpTxt_sw ?_ ?_); rfl; intro _ _; go_simp) | (with_reducible refine wpTxt_nil ?_) | ((with_reducible refine wp_region_t mixed ?_ ?_); decide +kernel; intro _ _))
              go_ret
              refine fin_int ?_ rfl
              have h1 := X.out; have h2 := hT.out; omega
  · go_wp2_with (first | ((with_reducible refine wpTxt_q ?_ ?_ ?_); rfl; rfl; intro _ _) | ((with_reducible refine wpTxt_w0 ?_ ?_ ?_); rfl; rfl; intro _ _) | ((with_reducible refine wpTxt_s ?_ ?_); rfl; intro _ _; go_simp) | ((with_reducible refine wpTxt_sw ?_ ?_); rfl; intro _ _; go_simp) | (with_reducible refine wpTxt_nil ?_) | ((with_reducible refine wp_region_t mixed ?_ ?_); decide +kernel; intro _ _))
    go_ret
    refine fin_int ?_ rfl
    have h1 := skipL_end cc src.data.toList m (by rw [sz]; omega); have h2 := hT.out; omega

theorem rend_name (src : ByteArray) (k : Nat) (w : World) (hs : src.size ≤ 65536) (hk : k < src.size) (hc : letB (src[k].toNat : Int) = true) :
    Calls Tryz.prog 124 #[.string src, .int .i64 k] w fun e w' => e = .returned (.int .i64 ((k + tw nmB (src.data.toList.drop k) : Nat) : Int)) ∧ w = w' := by
 go_enter Tryz.func124, Tryz.ntmps124
 go_wp2_with (first | ((with_reducible refine wpTxt_q ?_ ?_ ?_); rfl; rfl; intro _ _) | ((with_reducible refine wpTxt_w0 ?_ ?_ ?_); rfl; rfl; intro _ _) | ((with_reducible refine wpTxt_s ?_ ?_); rfl; intro _ _; go_simp) | ((with_reducible refine wpTxt_sw ?_ ?_); rfl; intro _ _; go_simp) | (with_reducible refine wpTxt_nil ?_) | ((with_reducible refine wp_region_t mixed ?_ ?_); decide +kernel; intro _ _) | (go_at_call 123; ((with_reducible refine (rLetter_any _ _).mono ?_); rintro e w' ⟨rfl, rfl⟩)))
 go_loop [1] (fun i => ∃ m : Nat, m ≤ src.size ∧ i = .int .i64 m ∧ Hid (m + tw nmB (src.data.toList.drop m) = k + tw nmB (src.data.toList.drop k))) (fun i => src.size - (intOf i).toNat)
 case atStart => exact ⟨k, by omega, rfl, rfl⟩
 case round =>
  obtain ⟨m, hm, rfl, hT⟩ := hrel
  by_cases hlt : m < src.size
  · cases hd : digB (src[m].toNat : Int) <;> cases hl : letB (src[m].toNat : Int)
    all_goals
     have hp : nmB src[m] = nmB src[m] := rfl
     first
      | rw [show nmB src[m] = true by simp [nmB, dgB, bi, hd, hl]] at hp
        have T := Lib.hid (tw_yes nmB src.data.toList m (by rw [sz]; exact hlt) (by rw [at_ src _ hlt]; simp [nmB, dgB, bi, hd, hl]))
        clear hp
        go_wp2_with (first | ((with_reducible refine wpTxt_q ?_ ?_ ?_); rfl; rfl; intro _ _) | ((with_reducible refine wpTxt_w0 ?_ ?_ ?_); rfl; rfl; intro _ _) | ((with_reducible refine wpTxt_s ?_ ?_); rfl; intro _ _; go_simp) | ((with_reducible refine wpTxt_sw ?_ ?_); rfl; intro _ _; go_simp) | (with_reducible refine wpTxt_nil ?_) | ((with_reducible refine wp_region_t mixed ?_ ?_); decide +kernel; intro _ _) | (go_at_call 123; ((with_reducible refine (rLetter_any _ _).mono ?_); rintro e w' ⟨rfl, rfl⟩)) | (go_at_call 125; ((with_reducible refine (rDigit_any _ _).mono ?_); rintro e w' ⟨rfl, rfl⟩)))
        go_round
        case rel => exact ⟨m + 1, by omega, by go_num, by have := T.out; have h2 := hT.out; show m + 1 + _ = _; omega⟩
        case measure => simp [intOf]; omega
      | have T := Lib.hid (tw_no nmB src.data.toList m (by rw [sz]; exact hlt) (by rw [at_ src _ hlt]; simp [nmB, dgB, bi, hd, hl]))
        go_wp2_with (first | ((with_reducible refine wpTxt_q ?_ ?_ ?_); rfl; rfl; intro _ _) | ((with_reducible refine wpTxt_w0 ?_ ?_ ?_); rfl; rfl; intro _ _) | ((with_reducible refine wpTxt_s ?_ ?_); rfl; intro _ _; go_simp) | ((with_reducible refine wpTxt_sw ?_ ?_); rfl; intro _ _; go_simp) | (with_reducible refine wpTxt_nil ?_) | ((with_reducible refine wp_region_t mixed ?_ ?_); decide +kernel; intro _ _) | (go_at_call 123; ((with_reducible refine (rLetter_any _ _).mono ?_); rintro e w' ⟨rfl, rfl⟩)) | (go_at_call 125; ((with_reducible refine (rDigit_any _ _).mono ?_); rintro e w' ⟨rfl, rfl⟩)))
        go_ret
        refine fin_int ?_ rfl
        have h1 := T.out; have h2 := hT.out; omega
  · go_wp2_with (first | ((with_reducible refine wpTxt_q ?_ ?_ ?_); rfl; rfl; intro _ _) | ((with_reducible refine wpTxt_w0 ?_ ?_ ?_); rfl; rfl; intro _ _) | ((with_reducible refine wpTxt_s ?_ ?_); rfl; intro _ _; go_simp) | ((with_reducible refine wpTxt_sw ?_ ?_); rfl; intro _ _; go_simp) | (with_reducible refine wpTxt_nil ?_) | ((with_reducible refine wp_region_t mixed ?_ ?_); decide +kernel; intro _ _) | (go_at_call 123; ((with_reducible refine (rLetter_any _ _).mono ?_); rintro e w' ⟨rfl, rfl⟩)) | (go_at_call 125; ((with_reducible refine (rDigit_any _ _).mono ?_); rintro e w' ⟨rfl, rfl⟩)))
    go_ret
    refine fin_int ?_ rfl
    have h1 := tw_end nmB src.data.toList m (by rw [sz]; omega); have h2 := hT.out; omega
theorem rend_digit (src : ByteArray) (k : Nat) (w : World) (hs : src.size ≤ 65536) (hk : k < src.size) (hc : letB (src[k].toNat : Int) = false) :
    Calls Tryz.prog 124 #[.string src, .int .i64 k] w fun e w' => e = .returned (.int .i64 ((k + tw dgB (src.data.toList.drop k) : Nat) : Int)) ∧ w = w' := by
 go_enter Tryz.func124, Tryz.ntmps124
 go_wp2_with (first | ((with_reducible refine wpTxt_q ?_ ?_ ?_); rfl; rfl; intro _ _) | ((with_reducible refine wpTxt_w0 ?_ ?_ ?_); rfl; rfl; intro _ _) | ((with_reducible refine wpTxt_s ?_ ?_); rfl; intro _ _; go_simp) | ((with_reducible refine wpTxt_sw ?_ ?_); rfl; intro _ _; go_simp) | (with_reducible refine wpTxt_nil ?_) | ((with_reducible refine wp_region_t mixed ?_ ?_); decide +kernel; intro _ _) | (go_at_call 123; ((with_reducible refine (rLetter_any _ _).mono ?_); rintro e w' ⟨rfl, rfl⟩)))
 go_loop [1] (fun i => ∃ m : Nat, m ≤ src.size ∧ i = .int .i64 m ∧ Hid (m + tw dgB (src.data.toList.drop m) = k + tw dgB (src.data.toList.drop k))) (fun i => src.size - (intOf i).toNat)
 case atStart => exact ⟨k, by omega, rfl, rfl⟩
 case round =>
  obtain ⟨m, hm, rfl, hT⟩ := hrel
  by_cases hlt : m < src.size
  · cases hd : digB (src[m].toNat : Int) <;> cases hl : letB (src[m].toNat : Int)
    all_goals
     have hp : dgB src[m] = dgB src[m] := rfl
     first
      | rw [show dgB src[m] = true by simp [nmB, dgB, bi, hd, hl]] at hp
        have T := Lib.hid (tw_yes dgB src.data.toList m (by rw [sz]; exact hlt) (by rw [at_ src _ hlt]; simp [nmB, dgB, bi, hd, hl]))
        clear hp
        go_wp2_with (first | ((with_reducible refine wpTxt_q ?_ ?_ ?_); rfl; rfl; intro _ _) | ((with_reducible refine wpTxt_w0 ?_ ?_ ?_); rfl; rfl; intro _ _) | ((with_reducible refine wpTxt_s ?_ ?_); rfl; intro _ _; go_simp) | ((with_reducible refine wpTxt_sw ?_ ?_); rfl; intro _ _; go_simp) | (with_reducible refine wpTxt_nil ?_) | ((with_reducible refine wp_region_t mixed ?_ ?_); decide +kernel; intro _ _) | (go_at_call 123; ((with_reducible refine (rLetter_any _ _).mono ?_); rintro e w' ⟨rfl, rfl⟩)) | (go_at_call 125; ((with_reducible refine (rDigit_any _ _).mono ?_); rintro e w' ⟨rfl, rfl⟩)))
        go_round
        case rel => exact ⟨m + 1, by omega, by go_num, by have := T.out; have h2 := hT.out; show m + 1 + _ = _; omega⟩
        case measure => simp [intOf]; omega
      | have T := Lib.hid (tw_no dgB src.data.toList m (by rw [sz]; exact hlt) (by rw [at_ src _ hlt]; simp [nmB, dgB, bi, hd, hl]))
        go_wp2_with (first | ((with_reducible refine wpTxt_q ?_ ?_ ?_); rfl; rfl; intro _ _) | ((with_reducible refine wpTxt_w0 ?_ ?_ ?_); rfl; rfl; intro _ _) | ((with_reducible refine wpTxt_s ?_ ?_); rfl; intro _ _; go_simp) | ((with_reducible refine wpTxt_sw ?_ ?_); rfl; intro _ _; go_simp) | (with_reducible refine wpTxt_nil ?_) | ((with_reducible refine wp_region_t mixed ?_ ?_); decide +kernel; intro _ _) | (go_at_call 123; ((with_reducible refine (rLetter_any _ _).mono ?_); rintro e w' ⟨rfl, rfl⟩)) | (go_at_call 125; ((with_reducible refine (rDigit_any _ _).mono ?_); rintro e w' ⟨rfl, rfl⟩)))
        go_ret
        refine fin_int ?_ rfl
        have h1 := T.out; have h2 := hT.out; omega
  · go_wp2_with (first | ((with_reducible refine wpTxt_q ?_ ?_ ?_); rfl; rfl; intro _ _) | ((with_reducible refine wpTxt_w0 ?_ ?_ ?_); rfl; rfl; intro _ _) | ((with_reducible refine wpTxt_s ?_ ?_); rfl; intro _ _; go_simp) | ((with_reducible refine wpTxt_sw ?_ ?_); rfl; intro _ _; go_simp) | (with_reducible refine wpTxt_nil ?_) | ((with_reducible refine wp_region_t mixed ?_ ?_); decide +kernel; intro _ _) | (go_at_call 123; ((with_reducible refine (rLetter_any _ _).mono ?_); rintro e w' ⟨rfl, rfl⟩)) | (go_at_call 125; ((with_reducible refine (rDigit_any _ _).mono ?_); rintro e w' ⟨rfl, rfl⟩)))
    go_ret
    refine fin_int ?_ rfl
    have h1 := tw_end dgB src.data.toList m (by rw [sz]; omega); have h2 := hT.out; omega
open Go.RowKit Tk

def TextV (k : Nat) : Res → Value
 | .err c off => .tuple #[.int .i64 0, .int .i64 c, .int .i64 ((k + off : Nat) : Int)]
 | .ok _ n => .tuple #[.int .i64 ((k + n : Nat) : Int), .int .i64 0, .int .i64 0]
section
variable {src : ByteArray} {k m : Nat}
theorem textR_5 (hk : k < src.size) (hm : m + tw ptB (src.data.toList.drop m) = k + 1 + tw ptB (src.data.toList.drop (k + 1))) (h : src.size ≤ m) : Tk.textR (src.data.toList.drop k) = .err 5 0 := by
 have h1 := tw_end ptB src.data.toList m (by rw [sz]; omega)
 unfold Tk.textR
 rw [drop1, List.length_drop, sz, if_pos (by omega)]
theorem textR_lt (hm : m + tw ptB (src.data.toList.drop m) = k + 1 + tw ptB (src.data.toList.drop (k + 1))) (h : m < src.size) (hp : ptB src[m] = false) : m = k + 1 + tw ptB (src.data.toList.drop (k + 1)) ∧ k + 1 + tw ptB (src.data.toList.drop (k + 1)) < src.size := by
 have h1 := tw_no ptB src.data.toList m (by rw [sz]; exact h) (by rw [at_ src _ h]; exact hp)
 omega
theorem textR_9 (hk : k < src.size) (hm : m + tw ptB (src.data.toList.drop m) = k + 1 + tw ptB (src.data.toList.drop (k + 1))) (h : m < src.size) (hp : ptB src[m] = false) (hq : ¬ (src[m].toNat : Int) = 34) : Tk.textR (src.data.toList.drop k) = .err 9 (m - k) := by
 obtain ⟨h1, h2⟩ := textR_lt hm h hp
 unfold Tk.textR
 rw [drop1, List.length_drop, sz, if_neg (by omega), at_drop1 src k _ h2]
 subst h1
 rw [if_pos (show ¬ bi _ = 34 from hq)]
 congr 1; omega
theorem textR_4 (hk : k < src.size) (hm : m + tw ptB (src.data.toList.drop m) = k + 1 + tw ptB (src.data.toList.drop (k + 1))) (h : m < src.size) (hp : ptB src[m] = false) (hq : (src[m].toNat : Int) = 34) (h4 : 256 < (m : Int) - k - 1) : Tk.textR (src.data.toList.drop k) = .err 4 0 := by
 obtain ⟨h1, h2⟩ := textR_lt hm h hp
 unfold Tk.textR
 rw [drop1, List.length_drop, sz, if_neg (by omega), at_drop1 src k _ h2]
 subst h1
 rw [if_neg (fun h' => h' hq), if_pos (by omega)]
theorem textR_ok (hk : k < src.size) (hm : m + tw ptB (src.data.toList.drop m) = k + 1 + tw ptB (src.data.toList.drop (k + 1))) (h : m < src.size) (hp : ptB src[m] = false) (hq : (src[m].toNat : Int) = 34) (h4 : ¬ 256 < (m : Int) - k - 1) : Tk.textR (src.data.toList.drop k) = .ok 3 (m + 1 - k) := by
 obtain ⟨h1, h2⟩ := textR_lt hm h hp
 unfold Tk.textR
 rw [drop1, List.length_drop, sz, if_neg (by omega), at_drop1 src k _ h2]
 subst h1
 rw [if_neg (fun h' => h' hq), if_neg (by omega)]
 congr 1; omega
end
theorem fin_val {v1 v2 : Value} {w w' : World} (h : v1 = v2) (hw : w = w') : Ending.returned v1 = .returned v2 ∧ w = w' := ⟨by rw [h], hw⟩

theorem rtext_any (src : ByteArray) (k : Nat) (w : World) (hs : src.size ≤ 65536) (hk : k < src.size) :
    Calls Tryz.prog 127 #[.string src, .int .i64 k] w fun e w' => e = .returned (TextV k (Tk.textR (src.data.toList.drop k))) ∧ w = w' := by
 go_enter Tryz.func127, Tryz.ntmps127
 go_wp2_with (first | ((with_reducible refine wpTxt_q ?_ ?_ ?_); rfl; rfl; intro _ _) | ((with_reducible refine wpTxt_w0 ?_ ?_ ?_); rfl; rfl; intro _ _) | ((with_reducible refine wpTxt_s ?_ ?_); rfl; intro _ _; go_simp) | ((with_reducible refine wpTxt_sw ?_ ?_); rfl; intro _ _; go_simp) | (with_reducible refine wpTxt_nil ?_) | ((with_reducible refine wp_region_t mixed ?_ ?_); decide +kernel; intro _ _))
 go_loop [7] (fun i => ∃ m : Nat, k + 1 ≤ m ∧ m ≤ src.size ∧ i = .int .i64 m ∧ Hid (m + tw ptB (src.data.toList.drop m) = k + 1 + tw ptB (src.data.toList.drop (k + 1)))) (fun i => src.size - (intOf i).toNat)
 case atStart => exact ⟨k + 1, by omega, by omega, by go_num, rfl⟩
 case round =>
  obtain ⟨m, hm0, hm, rfl, hT⟩ := hrel
  by_cases hlt : m < src.size
  · by_cases x34 : (src[m].toNat : Int) = 34
    · have hp : ptB src[m] = false := by simp [ptB, prtB, bi, x34]
      have y : ((src[m].toNat : Int) != 34) = false := by rw [bne, beq_t x34]; rfl
      have hne : ¬ m = src.size := by omega
      by_cases h4 : 256 < (m : Int) - k - 1
      · have X := Lib.hid (textR_4 hk hT.out hlt hp x34 h4)
        clear x34 hp
        go_wp2_with (first | ((with_reducible refine wpTxt_q ?_ ?_ ?_); rfl; rfl; intro _ _) | ((with_reducible refine wpTxt_w0 ?_ ?_ ?_); rfl; rfl; intro _ _) | ((with_reducible refine wpTxt_s ?_ ?_); rfl; intro _ _; go_simp) | ((with_reducible refine wpTxt_sw ?_ ?_); rfl; intro _ _; go_simp) | (with_reducible refine wpTxt_nil ?_) | ((with_reducible refine wp_region_t mixed ?_ ?_); decide +kernel; intro _ _))
        refine bodyPost_ret (v := .tuple #[.int .i64 0, .int .i64 4, .int .i64 k]) (by simp [results, Tryz.f127, go_sem]) rfl ?_
        refine fin_val ?_ rfl
        rw [X.out]
        rfl
      · have X := Lib.hid (textR_ok hk hT.out hlt hp x34 h4)
        clear x34 hp
        go_wp2_with (first | ((with_reducible refine wpTxt_q ?_ ?_ ?_); rfl; rfl; intro _ _) | ((with_reducible refine wpTxt_w0 ?_ ?_ ?_); rfl; rfl; intro _ _) | ((with_reducible refine wpTxt_s ?_ ?_); rfl; intro _ _; go_simp) | ((with_reducible refine wpTxt_sw ?_ ?_); rfl; intro _ _; go_simp) | (with_reducible refine wpTxt_nil ?_) | ((with_reducible refine wp_region_t mixed ?_ ?_); decide +kernel; intro _ _))
        refine bodyPost_ret (v := .tuple #[.int .i64 ((m : Int) + 1), .int .i64 0, .int .i64 0]) (by simp [results, Tryz.f127, go_sem]) rfl ?_
        refine fin_val ?_ rfl
        rw [X.out]
        simp only [TextV]; rw [show k + (m + 1 - k) = m + 1 by omega]; rfl
    · have y : ((src[m].toNat : Int) != 34) = true := by rw [bne, beq_f x34]; rfl
      by_cases h1 : (src[m].toNat : Int) < 32
      · have hp : ptB src[m] = false := by simp only [ptB, prtB, bi]; exact decide_eq_false (by omega)
        have X := Lib.hid (textR_9 hk hT.out hlt hp x34)
        clear x34 hp
        go_wp2_with (first | ((with_reducible refine wpTxt_q ?_ ?_ ?_); rfl; rfl; intro _ _) | ((with_reducible refine wpTxt_w0 ?_ ?_ ?_); rfl; rfl; intro _ _) | ((with_reducible refine wpTxt_s ?_ ?_); rfl; intro _ _; go_simp) | ((with_reducible refine wpTxt_sw ?_ ?_); rfl; intro _ _; go_simp) | (with_reducible refine wpTxt_nil ?_) | ((with_reducible refine wp_region_t mixed ?_ ?_); decide +kernel; intro _ _))
        refine bodyPost_ret (v := .tuple #[.int .i64 0, .int .i64 9, .int .i64 m]) (by simp [results, Tryz.f127, go_sem]) rfl ?_
        refine fin_val ?_ rfl
        rw [X.out]
        simp only [TextV]; rw [show k + (m - k) = m by omega]
      · by_cases h2 : 126 < (src[m].toNat : Int)
        · have hp : ptB src[m] = false := by simp only [ptB, prtB, bi]; exact decide_eq_false (by omega)
          have X := Lib.hid (textR_9 hk hT.out hlt hp x34)
          clear x34 hp
          go_wp2_with (first | ((with_reducible refine wpTxt_q ?_ ?_ ?_); rfl; rfl; intro _ _) | ((with_reducible refine wpTxt_w0 ?_ ?_ ?_); rfl; rfl; intro _ _) | ((with_reducible refine wpTxt_s ?_ ?_); rfl; intro _ _; go_simp) | ((with_reducible refine wpTxt_sw ?_ ?_); rfl; intro _ _; go_simp) | (with_reducible refine wpTxt_nil ?_) | ((with_reducible refine wp_region_t mixed ?_ ?_); decide +kernel; intro _ _))
          refine bodyPost_ret (v := .tuple #[.int .i64 0, .int .i64 9, .int .i64 m]) (by simp [results, Tryz.f127, go_sem]) rfl ?_
          refine fin_val ?_ rfl
          rw [X.out]
          simp only [TextV]; rw [show k + (m - k) = m by omega]
        · have X := Lib.hid (tw_yes ptB src.data.toList m (by rw [sz]; exact hlt) (by rw [at_ src _ hlt]; simp only [ptB, prtB, bi]; exact decide_eq_true (by omega)))
          clear x34
          go_wp2_with (first | ((with_reducible refine wpTxt_q ?_ ?_ ?_); rfl; rfl; intro _ _) | ((with_reducible refine wpTxt_w0 ?_ ?_ ?_); rfl; rfl; intro _ _) | ((with_reducible refine wpTxt_s ?_ ?_); rfl; intro _ _; go_simp) | ((with_reducible refine wpTxt_sw ?_ ?_); rfl; intro _ _; go_simp) | (with_reducible refine wpTxt_nil ?_) | ((with_reducible refine wp_region_t mixed ?_ ?_); decide +kernel; intro _ _))
          go_round
          case rel => exact ⟨m + 1, by omega, by omega, by go_num, by have := X.out; have h2 := hT.out; show m + 1 + _ = _; omega⟩
          case measure => simp [intOf]; omega
  · have e1 : m = src.size := by omega
    have X := Lib.hid (textR_5 hk hT.out (by omega))
    subst e1
    go_wp2_with (first | ((with_reducible refine wpTxt_q ?_ ?_ ?_); rfl; rfl; intro _ _) | ((with_reducible refine wpTxt_w0 ?_ ?_ ?_); rfl; rfl; intro _ _) | ((with_reducible refine wpTxt_s ?_ ?_); rfl; intro _ _; go_simp) | ((with_reducible refine wpTxt_sw ?_ ?_); rfl; intro _ _; go_simp) | (with_reducible refine wpTxt_nil ?_) | ((with_reducible refine wp_region_t mixed ?_ ?_); decide +kernel; intro _ _))
    refine bodyPost_ret (v := .tuple #[.int .i64 0, .int .i64 5, .int .i64 k]) (by simp [results, Tryz.f127, go_sem]) rfl ?_
    refine fin_val ?_ rfl
    rw [X.out]
    rfl
open Go.RowKit Tk

def OneV (x y : Int) (k : Nat) : Res → Value
 | .err c off => .tuple #[.int .i64 x, .int .i64 y, .int .i64 c, .int .i64 ((k + off : Nat) : Int)]
 | .ok kd n => .tuple #[.int .i64 kd, .int .i64 ((k + n : Nat) : Int), .int .i64 0, .int .i64 0]
def markList : List (List UInt8) := [[123], [125], [40], [41], [59], [58], [44], [46], [45], [126], [42], [33], [61, 61], [33, 61], [38, 38], [124, 124], [94]]
def mkB (l : List UInt8) : Bool := markList.contains l
theorem mkB_two (a b : UInt8) : mkB [a, b] = marks2.contains [a, b] := by simp [mkB, markList, marks2]
theorem mkB_one (a : UInt8) : mkB [a] = marks1.contains a := by simp [mkB, markList, marks1]
theorem inWords_mk (l ws : List UInt8) (h : words [] ws = markList) : inWords l ws = mkB l := by
 unfold inWords mkB
 rw [h]
 cases l with
 | nil => decide
 | cons => simp
theorem within_mk (s ws : ByteArray) (hw : ws.size ≤ maxLen) (hws : words [] ws.data.toList = markList) (v : Bool) (hv : mkB s.data.toList = v) (w : World) : Calls Tryz.prog 128 #[.string s, .string ws] w fun e w' => e = .returned (.bool v) ∧ w = w' :=
 (within_any s ws hw w).mono fun e w' h => ⟨by rw [h.1, inWords_mk _ _ hws, hv], h.2⟩
theorem ext_two (src : ByteArray) (k : Nat) (h : k + 2 ≤ src.size) : mkB (src.extract k (k + 2)).data.toList = marks2.contains ((src.data.toList.drop k).take 2) := by
 rw [← bl, ext_list, show k + 2 - k = 2 by omega]
 have h1 : k < src.data.toList.length := by rw [sz]; omega
 have h2 : k + 1 < src.data.toList.length := by rw [sz]; omega
 rw [List.drop_eq_getElem_cons h1, List.drop_eq_getElem_cons h2]
 exact mkB_two _ _
theorem ext_one (src : ByteArray) (k : Nat) (h : k < src.size) : mkB (src.extract k (k + 1)).data.toList = marks1.contains src[k] := by
 rw [← bl, ext_list, show k + 1 - k = 1 by omega]
 have h1 : k < src.data.toList.length := by rw [sz]; omega
 rw [List.drop_eq_getElem_cons h1, ← at_ src k h]
 exact mkB_one _
theorem markN_2 (l : List UInt8) (h : marks2.contains (l.take 2) = true) : markN l = 2 := by unfold markN; rw [if_pos h]
theorem markN_1 (src : ByteArray) (k : Nat) (h : k < src.size) (h2 : marks2.contains ((src.data.toList.drop k).take 2) = false) (h1 : marks1.contains src[k] = true) : markN (src.data.toList.drop k) = 1 := by
 unfold markN
 rw [if_neg (by rw [h2]; decide)]
 have hk : k < src.data.toList.length := by rw [sz]; omega
 rw [List.drop_eq_getElem_cons hk, at_ src k h]
 exact if_pos h1
theorem markN_0 (src : ByteArray) (k : Nat) (h : k < src.size) (h2 : marks2.contains ((src.data.toList.drop k).take 2) = false) (h1 : marks1.contains src[k] = false) : markN (src.data.toList.drop k) = 0 := by
 unfold markN
 rw [if_neg (by rw [h2]; decide)]
 have hk : k < src.data.toList.length := by rw [sz]; omega
 rw [List.drop_eq_getElem_cons hk, at_ src k h]
 exact if_neg (fun h' => by have h3 : marks1.contains src[k] = true := h'; rw [h1] at h3; cases h3)
theorem marks2_short (src : ByteArray) (k : Nat) (h : ¬ k + 2 ≤ src.size) : marks2.contains ((src.data.toList.drop k).take 2) = false := by
 have hl : ((src.data.toList.drop k).take 2).length ≤ 1 := by rw [List.length_take, List.length_drop, sz]; omega
 generalize (src.data.toList.drop k).take 2 = l at hl
 match l, hl with
 | [], _ => rfl
 | [a], _ => simp [marks2]
theorem oneR_name {src : ByteArray} {k : Nat} (h : k < src.size) (hc : letB (src[k].toNat : Int) = true) : oneR (src.data.toList.drop k) = nameR (src.data.toList.drop k) := by
 unfold oneR; rw [at_drop src k h]; exact if_pos hc
theorem oneR_num {src : ByteArray} {k : Nat} (h : k < src.size) (hc : letB (src[k].toNat : Int) = false) (hd : digB (src[k].toNat : Int) = true) : oneR (src.data.toList.drop k) = numR (src.data.toList.drop k) := by
 unfold oneR; rw [at_drop src k h, if_neg (by unfold bi; rw [hc]; decide)]; exact if_pos hd
theorem oneR_text {src : ByteArray} {k : Nat} (h : k < src.size) (hc : letB (src[k].toNat : Int) = false) (hd : digB (src[k].toNat : Int) = false) (hq : (src[k].toNat : Int) = 34) : oneR (src.data.toList.drop k) = Tk.textR (src.data.toList.drop k) := by
 unfold oneR; rw [at_drop src k h, if_neg (by unfold bi; rw [hc]; decide), if_neg (by unfold bi; rw [hd]; decide)]; exact if_pos hq
theorem oneR_mark {src : ByteArray} {k : Nat} (h : k < src.size) (hc : letB (src[k].toNat : Int) = false) (hd : digB (src[k].toNat : Int) = false) (hq : ¬ (src[k].toNat : Int) = 34) : oneR (src.data.toList.drop k) = markR (src.data.toList.drop k) := by
 unfold oneR; rw [at_drop src k h, if_neg (by unfold bi; rw [hc]; decide), if_neg (by unfold bi; rw [hd]; decide)]; exact if_neg hq

def OnePost (src : ByteArray) (k : Nat) (w : World) (e : Ending) (w' : World) : Prop := ∃ x y : Int, e = .returned (OneV x y k (oneR (src.data.toList.drop k))) ∧ w = w'
theorem rOne_name (src : ByteArray) (k : Nat) (w : World) (hs : src.size ≤ 65536) (hk : k < src.size) (hc : letB (src[k].toNat : Int) = true) : Calls Tryz.prog 85 #[.string src, .int .i64 k] w (OnePost src k w) := by
 have E0 := Lib.hid (oneR_name hk hc)
 have hl := tw_le nmB (src.data.toList.drop k)
 rw [List.length_drop, sz] at hl
 by_cases h : 32 < tw nmB (src.data.toList.drop k)
 · have X : Hid (nameR (src.data.toList.drop k) = _) := if_pos h
   go_enter Tryz.func85, Tryz.ntmps85
   go_wp2_with (first | ((with_reducible refine wpTxt_q ?_ ?_ ?_); rfl; rfl; intro _ _) | ((with_reducible refine wpTxt_w0 ?_ ?_ ?_); rfl; rfl; intro _ _) | ((with_reducible refine wpTxt_s ?_ ?_); rfl; intro _ _; go_simp) | ((with_reducible refine wpTxt_sw ?_ ?_); rfl; intro _ _; go_simp) | (with_reducible refine wpTxt_nil ?_) | ((with_reducible refine wp_region_t mixed ?_ ?_); decide +kernel; intro _ _) | (go_at_call 123; ((with_reducible refine (rLetter_any _ _).mono ?_); rintro e w' ⟨rfl, rfl⟩)) | (go_at_call 124; ((with_reducible refine (rend_name src k _ hs hk hc).mono ?_); rintro e w' ⟨rfl, rfl⟩)))
   refine bodyPost_ret (v := .tuple #[.int .i64 0, .int .i64 0, .int .i64 10, .int .i64 k]) (by simp [results, Tryz.f85, go_sem]) rfl ?_
   refine ⟨0, 0, fin_val ?_ rfl⟩
   rw [E0.out, X.out]; rfl
 · have X : Hid (nameR (src.data.toList.drop k) = _) := if_neg h
   go_enter Tryz.func85, Tryz.ntmps85
   go_wp2_with (first | ((with_reducible refine wpTxt_q ?_ ?_ ?_); rfl; rfl; intro _ _) | ((with_reducible refine wpTxt_w0 ?_ ?_ ?_); rfl; rfl; intro _ _) | ((with_reducible refine wpTxt_s ?_ ?_); rfl; intro _ _; go_simp) | ((with_reducible refine wpTxt_sw ?_ ?_); rfl; intro _ _; go_simp) | (with_reducible refine wpTxt_nil ?_) | ((with_reducible refine wp_region_t mixed ?_ ?_); decide +kernel; intro _ _) | (go_at_call 123; ((with_reducible refine (rLetter_any _ _).mono ?_); rintro e w' ⟨rfl, rfl⟩)) | (go_at_call 124; ((with_reducible refine (rend_name src k _ hs hk hc).mono ?_); rintro e w' ⟨rfl, rfl⟩)))
   refine bodyPost_ret (v := .tuple #[.int .i64 1, .int .i64 ((k + tw nmB (src.data.toList.drop k) : Nat) : Int), .int .i64 0, .int .i64 0]) (by simp [results, Tryz.f85, go_sem]) rfl ?_
   refine ⟨0, 0, fin_val ?_ rfl⟩
   rw [E0.out, X.out]; rfl

theorem tw_all (p : UInt8 → Bool) (l : List UInt8) : (l.take (tw p l)).all p = true := by
 induction l with
 | nil => rfl
 | cons c l ih =>
   rw [tw_cons]
   by_cases h : p c = true
   · rw [if_pos h, List.take_succ_cons, List.all_cons, h, ih]; rfl
   · rw [if_neg h]; rfl
theorem numB_ext (src : ByteArray) (k : Nat) (hk : k < src.size) (hd : digB (src[k].toNat : Int) = true) (h9 : ¬ 9 < tw dgB (src.data.toList.drop k)) :
    numB (src.extract k (k + tw dgB (src.data.toList.drop k))).data.toList = !(decide (1 < tw dgB (src.data.toList.drop k)) && decide ((src[k].toNat : Int) = 48)) := by
 rw [← bl, ext_list, show k + tw dgB (src.data.toList.drop k) - k = tw dgB (src.data.toList.drop k) by omega]
 have h0 := tw_pos dgB (src.data.toList.drop k) (by rw [List.length_drop, sz]; omega) (by rw [at_drop src k hk]; exact hd)
 have h1 := tw_le dgB (src.data.toList.drop k)
 have h2 := tw_all dgB (src.data.toList.drop k)
 have h3 := at_drop src k hk
 revert h0 h1 h2 h3 h9
 generalize src.data.toList.drop k = l
 generalize tw dgB l = T
 intro h9 h0 h1 h2 h3
 have e1 : (l.take T).length = T := by rw [List.length_take]; omega
 have e2 : (l.take T).isEmpty = false := by rw [List.isEmpty_eq_false_iff_exists_mem]; exact ⟨_, List.getElem_mem (n := 0) (by omega)⟩
 have e3 : (l.take T).getD 0 0 = src[k] := by
  rw [← h3]
  cases l with
  | nil => simp at h1; omega
  | cons c l => cases T with
    | zero => omega
    | succ T => rfl
 unfold numB
 rw [e1, e2, e3, h2]
 simp only [bi]
 by_cases hx : (src[k].toNat : Int) = 48 <;> by_cases hy : 1 < T <;> simp [hx, hy] <;> omega

theorem rOne_num (src : ByteArray) (k : Nat) (w : World) (hs : src.size ≤ 65536) (hk : k < src.size) (hc : letB (src[k].toNat : Int) = false) (hd : digB (src[k].toNat : Int) = true) : Calls Tryz.prog 85 #[.string src, .int .i64 k] w (OnePost src k w) := by
 have E0 := Lib.hid (oneR_num hk hc hd)
 have hl := tw_le dgB (src.data.toList.drop k)
 rw [List.length_drop, sz] at hl
 by_cases h : 9 < tw dgB (src.data.toList.drop k)
 · have X : Hid (numR (src.data.toList.drop k) = _) := if_pos h
   go_enter Tryz.func85, Tryz.ntmps85
   go_wp2_with (first | ((with_reducible refine wpTxt_q ?_ ?_ ?_); rfl; rfl; intro _ _) | ((with_reducible refine wpTxt_w0 ?_ ?_ ?_); rfl; rfl; intro _ _) | ((with_reducible refine wpTxt_s ?_ ?_); rfl; intro _ _; go_simp) | ((with_reducible refine wpTxt_sw ?_ ?_); rfl; intro _ _; go_simp) | (with_reducible refine wpTxt_nil ?_) | ((with_reducible refine wp_region_t mixed ?_ ?_); decide +kernel; intro _ _) | (go_at_call 123; ((with_reducible refine (rLetter_any _ _).mono ?_); rintro e w' ⟨rfl, rfl⟩)) | (go_at_call 125; ((with_reducible refine (rDigit_any _ _).mono ?_); rintro e w' ⟨rfl, rfl⟩)) | (go_at_call 124; ((with_reducible refine (rend_digit src k _ hs hk hc).mono ?_); rintro e w' ⟨rfl, rfl⟩)))
   refine bodyPost_ret (v := .tuple #[.int .i64 0, .int .i64 0, .int .i64 3, .int .i64 k]) (by simp [results, Tryz.f85, go_sem]) rfl ?_
   refine ⟨0, 0, fin_val ?_ rfl⟩
   rw [E0.out, X.out]; rfl
 · have HN0 := numB_ext src k hk hd h
   by_cases hz : 1 < tw dgB (src.data.toList.drop k) ∧ (src[k].toNat : Int) = 48
   · have X : Hid (numR (src.data.toList.drop k) = _) := (if_neg h).trans (if_pos (by rw [at_drop src k hk]; exact hz))
     rw [decide_eq_true hz.1, decide_eq_true hz.2] at HN0
     have HN := Lib.hid HN0
     clear HN0 hz
     go_enter Tryz.func85, Tryz.ntmps85
     go_wp2_with (first | ((with_reducible refine wpTxt_q ?_ ?_ ?_); rfl; rfl; intro _ _) | ((with_reducible refine wpTxt_w0 ?_ ?_ ?_); rfl; rfl; intro _ _) | ((with_reducible refine wpTxt_s ?_ ?_); rfl; intro _ _; go_simp) | ((with_reducible refine wpTxt_sw ?_ ?_); rfl; intro _ _; go_simp) | (with_reducible refine wpTxt_nil ?_) | ((with_reducible refine wp_region_t mixed ?_ ?_); decide +kernel; intro _ _) | (go_at_call 123; ((with_reducible refine (rLetter_any _ _).mono ?_); rintro e w' ⟨rfl, rfl⟩)) | (go_at_call 125; ((with_reducible refine (rDigit_any _ _).mono ?_); rintro e w' ⟨rfl, rfl⟩)) | (go_at_call 124; ((with_reducible refine (rend_digit src k _ hs hk hc).mono ?_); rintro e w' ⟨rfl, rfl⟩)) | (go_at_call 126; ((with_reducible refine (rnumber_any (src.extract k (k + tw dgB (src.data.toList.drop k))) ?_ _).mono ?_); (· rw [ByteArray.size_extract]; unfold maxLen; omega); rintro e w' ⟨rfl, rfl⟩; rw [HN.out])))
     refine bodyPost_ret (v := .tuple #[.int .i64 0, .int .i64 0, .int .i64 9, .int .i64 k]) (by simp [results, Tryz.f85, go_sem]) rfl ?_
     refine ⟨0, 0, fin_val ?_ rfl⟩
     rw [E0.out, X.out]; rfl
   · have X : Hid (numR (src.data.toList.drop k) = _) := (if_neg h).trans (if_neg (by rw [at_drop src k hk]; exact hz))
     have hz2 : (decide (1 < tw dgB (src.data.toList.drop k)) && decide ((src[k].toNat : Int) = 48)) = false := by
      rw [← Bool.decide_and]; exact decide_eq_false hz
     rw [hz2] at HN0
     have HN := Lib.hid HN0
     clear HN0 hz hz2
     go_enter Tryz.func85, Tryz.ntmps85
     go_wp2_with (first | ((with_reducible refine wpTxt_q ?_ ?_ ?_); rfl; rfl; intro _ _) | ((with_reducible refine wpTxt_w0 ?_ ?_ ?_); rfl; rfl; intro _ _) | ((with_reducible refine wpTxt_s ?_ ?_); rfl; intro _ _; go_simp) | ((with_reducible refine wpTxt_sw ?_ ?_); rfl; intro _ _; go_simp) | (with_reducible refine wpTxt_nil ?_) | ((with_reducible refine wp_region_t mixed ?_ ?_); decide +kernel; intro _ _) | (go_at_call 123; ((with_reducible refine (rLetter_any _ _).mono ?_); rintro e w' ⟨rfl, rfl⟩)) | (go_at_call 125; ((with_reducible refine (rDigit_any _ _).mono ?_); rintro e w' ⟨rfl, rfl⟩)) | (go_at_call 124; ((with_reducible refine (rend_digit src k _ hs hk hc).mono ?_); rintro e w' ⟨rfl, rfl⟩)) | (go_at_call 126; ((with_reducible refine (rnumber_any (src.extract k (k + tw dgB (src.data.toList.drop k))) ?_ _).mono ?_); (· rw [ByteArray.size_extract]; unfold maxLen; omega); rintro e w' ⟨rfl, rfl⟩; rw [HN.out])))
     refine bodyPost_ret (v := .tuple #[.int .i64 2, .int .i64 ((k + tw dgB (src.data.toList.drop k) : Nat) : Int), .int .i64 0, .int .i64 0]) (by simp [results, Tryz.f85, go_sem]) rfl ?_
     refine ⟨0, 0, fin_val ?_ rfl⟩
     rw [E0.out, X.out]; rfl

theorem rOne_text (src : ByteArray) (k : Nat) (w : World) (hs : src.size ≤ 65536) (hk : k < src.size) (hc : letB (src[k].toNat : Int) = false) (hd : digB (src[k].toNat : Int) = false) (hq : ((src[k].toNat : Int) == 34) = true) : Calls Tryz.prog 85 #[.string src, .int .i64 k] w (OnePost src k w) := by
 have E0 := Lib.hid (oneR_text hk hc hd (by simpa using hq))
 cases ht : Tk.textR (src.data.toList.drop k) with
 | err c off =>
   have HT : Hid (TextV k (Tk.textR (src.data.toList.drop k)) = .tuple #[.int .i64 0, .int .i64 c, .int .i64 ((k + off : Nat) : Int)]) := by rw [ht]; rfl
   have X := Lib.hid ht
   clear ht
   go_enter Tryz.func85, Tryz.ntmps85
   go_wp2_with (first | ((with_reducible refine wpTxt_q ?_ ?_ ?_); rfl; rfl; intro _ _) | ((with_reducible refine wpTxt_w0 ?_ ?_ ?_); rfl; rfl; intro _ _) | ((with_reducible refine wpTxt_s ?_ ?_); rfl; intro _ _; go_simp) | ((with_reducible refine wpTxt_sw ?_ ?_); rfl; intro _ _; go_simp) | (with_reducible refine wpTxt_nil ?_) | ((with_reducible refine wp_region_t mixed ?_ ?_); decide +kernel; intro _ _) | (go_at_call 123; ((with_reducible refine (rLetter_any _ _).mono ?_); rintro e w' ⟨rfl, rfl⟩)) | (go_at_call 125; ((with_reducible refine (rDigit_any _ _).mono ?_); rintro e w' ⟨rfl, rfl⟩)) | (go_at_call 127; ((with_reducible refine (rtext_any src k _ hs hk).mono ?_); rintro e w' ⟨rfl, rfl⟩; rw [HT.out])))
   refine bodyPost_ret (v := .tuple #[.int .i64 3, .int .i64 0, .int .i64 c, .int .i64 ((k + off : Nat) : Int)]) (by simp [results, Tryz.f85, go_sem]) rfl ?_
   refine ⟨3, 0, fin_val ?_ rfl⟩
   rw [E0.out, X.out]; rfl
 | ok kd n =>
   have h3 : kd = 3 := by
    unfold Tk.textR at ht
    split at ht
    · cases ht
    · split at ht
      · cases ht
      · split at ht
        · cases ht
        · injection ht with h1 h2; exact h1.symm
   subst h3
   have HT : Hid (TextV k (Tk.textR (src.data.toList.drop k)) = .tuple #[.int .i64 ((k + n : Nat) : Int), .int .i64 0, .int .i64 0]) := by rw [ht]; rfl
   have X := Lib.hid ht
   clear ht
   go_enter Tryz.func85, Tryz.ntmps85
   go_wp2_with (first | ((with_reducible refine wpTxt_q ?_ ?_ ?_); rfl; rfl; intro _ _) | ((with_reducible refine wpTxt_w0 ?_ ?_ ?_); rfl; rfl; intro _ _) | ((with_reducible refine wpTxt_s ?_ ?_); rfl; intro _ _; go_simp) | ((with_reducible refine wpTxt_sw ?_ ?_); rfl; intro _ _; go_simp) | (with_reducible refine wpTxt_nil ?_) | ((with_reducible refine wp_region_t mixed ?_ ?_); decide +kernel; intro _ _) | (go_at_call 123; ((with_reducible refine (rLetter_any _ _).mono ?_); rintro e w' ⟨rfl, rfl⟩)) | (go_at_call 125; ((with_reducible refine (rDigit_any _ _).mono ?_); rintro e w' ⟨rfl, rfl⟩)) | (go_at_call 127; ((with_reducible refine (rtext_any src k _ hs hk).mono ?_); rintro e w' ⟨rfl, rfl⟩; rw [HT.out])))
   refine bodyPost_ret (v := .tuple #[.int .i64 3, .int .i64 ((k + n : Nat) : Int), .int .i64 0, .int .i64 0]) (by simp [results, Tryz.f85, go_sem]) rfl ?_
   refine ⟨0, 0, fin_val ?_ rfl⟩
   rw [E0.out, X.out]; rfl

def MkRel (src : ByteArray) (k : Nat) (hk : k < src.size) (n : Nat) : Prop := (n < 2 → marks2.contains ((src.data.toList.drop k).take 2) = false) ∧ (n < 1 → marks1.contains src[k] = false)
theorem rOne_mark (src : ByteArray) (k : Nat) (w : World) (hs : src.size ≤ 65536) (hk : k < src.size) (hc : letB (src[k].toNat : Int) = false) (hd : digB (src[k].toNat : Int) = false) (hq : ((src[k].toNat : Int) == 34) = false) : Calls Tryz.prog 85 #[.string src, .int .i64 k] w (OnePost src k w) := by
 have E0 := Lib.hid (oneR_mark hk hc hd (by simpa using hq))
 go_enter Tryz.func85, Tryz.ntmps85
 go_wp2_with (first | ((with_reducible refine wpTxt_q ?_ ?_ ?_); rfl; rfl; intro _ _) | ((with_reducible refine wpTxt_w0 ?_ ?_ ?_); rfl; rfl; intro _ _) | ((with_reducible refine wpTxt_s ?_ ?_); rfl; intro _ _; go_simp) | ((with_reducible refine wpTxt_sw ?_ ?_); rfl; intro _ _; go_simp) | (with_reducible refine wpTxt_nil ?_) | ((with_reducible refine wp_region_t mixed ?_ ?_); decide +kernel; intro _ _) | (go_at_call 123; ((with_reducible refine (rLetter_any _ _).mono ?_); rintro e w' ⟨rfl, rfl⟩)) | (go_at_call 125; ((with_reducible refine (rDigit_any _ _).mono ?_); rintro e w' ⟨rfl, rfl⟩)))
 go_loop [14] (fun i => ∃ n : Nat, n ≤ 2 ∧ i = .int .i64 n ∧ MkRel src k hk n) (fun i => (intOf i).toNat)
 case atStart => exact ⟨2, by omega, rfl, by constructor <;> intro h <;> omega⟩
 case round =>
  obtain ⟨n, hn, rfl, hT⟩ := hrel
  obtain rfl | rfl | rfl : n = 2 ∨ n = 1 ∨ n = 0 := by omega
  · by_cases h2 : k + 2 ≤ src.size
    · have HV0 := ext_two src k h2
      cases hm : marks2.contains ((src.data.toList.drop k).take 2)
      · rw [hm] at HV0
        have HV := Lib.hid HV0
        have X := Lib.hid hm
        clear HV0 hm
        go_wp2_with (first | ((with_reducible refine wpTxt_q ?_ ?_ ?_); rfl; rfl; intro _ _) | ((with_reducible refine wpTxt_w0 ?_ ?_ ?_); rfl; rfl; intro _ _) | ((with_reducible refine wpTxt_s ?_ ?_); rfl; intro _ _; go_simp) | ((with_reducible refine wpTxt_sw ?_ ?_); rfl; intro _ _; go_simp) | (with_reducible refine wpTxt_nil ?_) | ((with_reducible refine wp_region_t mixed ?_ ?_); decide +kernel; intro _ _) | (go_at_call 128; ((with_reducible refine (within_mk _ _ ?_ ?_ _ HV.out _).mono ?_); (· decide +kernel); (· decide +kernel); rintro e w' ⟨rfl, rfl⟩)))
        refine ⟨⟨1, by omega, rfl, fun _ => X.out, fun h => by omega⟩, by simp [intOf]⟩
      · rw [hm] at HV0
        have HV := Lib.hid HV0
        have X := Lib.hid (markN_2 _ hm)
        clear HV0 hm
        go_wp2_with (first | ((with_reducible refine wpTxt_q ?_ ?_ ?_); rfl; rfl; intro _ _) | ((with_reducible refine wpTxt_w0 ?_ ?_ ?_); rfl; rfl; intro _ _) | ((with_reducible refine wpTxt_s ?_ ?_); rfl; intro _ _; go_simp) | ((with_reducible refine wpTxt_sw ?_ ?_); rfl; intro _ _; go_simp) | (with_reducible refine wpTxt_nil ?_) | ((with_reducible refine wp_region_t mixed ?_ ?_); decide +kernel; intro _ _) | (go_at_call 128; ((with_reducible refine (within_mk _ _ ?_ ?_ _ HV.out _).mono ?_); (· decide +kernel); (· decide +kernel); rintro e w' ⟨rfl, rfl⟩)))
        refine bodyPost_ret (v := .tuple #[.int .i64 4, .int .i64 ((k : Int) + 2), .int .i64 0, .int .i64 0]) (by simp [results, Tryz.f85, go_sem]) rfl ?_
        refine ⟨0, 0, fin_val ?_ rfl⟩
        rw [E0.out, markR, X.out]; rfl
    · have X := Lib.hid (marks2_short src k h2)
      go_wp2_with (first | ((with_reducible refine wpTxt_q ?_ ?_ ?_); rfl; rfl; intro _ _) | ((with_reducible refine wpTxt_w0 ?_ ?_ ?_); rfl; rfl; intro _ _) | ((with_reducible refine wpTxt_s ?_ ?_); rfl; intro _ _; go_simp) | ((with_reducible refine wpTxt_sw ?_ ?_); rfl; intro _ _; go_simp) | (with_reducible refine wpTxt_nil ?_) | ((with_reducible refine wp_region_t mixed ?_ ?_); decide +kernel; intro _ _) | (go_at_call 128; ((with_reducible refine (within_mk _ _ ?_ ?_ _ HV.out _).mono ?_); (· decide +kernel); (· decide +kernel); rintro e w' ⟨rfl, rfl⟩)))
      refine ⟨⟨1, by omega, rfl, fun _ => X.out, fun h => by omega⟩, by simp [intOf]⟩
  · have h2 : k + 1 ≤ src.size := by omega
    have HV0 := ext_one src k hk
    cases hm : marks1.contains src[k]
    · rw [hm] at HV0
      have HV := Lib.hid HV0
      have X := Lib.hid hm
      clear HV0 hm
      go_wp2_with (first | ((with_reducible refine wpTxt_q ?_ ?_ ?_); rfl; rfl; intro _ _) | ((with_reducible refine wpTxt_w0 ?_ ?_ ?_); rfl; rfl; intro _ _) | ((with_reducible refine wpTxt_s ?_ ?_); rfl; intro _ _; go_simp) | ((with_reducible refine wpTxt_sw ?_ ?_); rfl; intro _ _; go_simp) | (with_reducible refine wpTxt_nil ?_) | ((with_reducible refine wp_region_t mixed ?_ ?_); decide +kernel; intro _ _) | (go_at_call 128; ((with_reducible refine (within_mk _ _ ?_ ?_ _ HV.out _).mono ?_); (· decide +kernel); (· decide +kernel); rintro e w' ⟨rfl, rfl⟩)))
      refine ⟨⟨0, by omega, rfl, fun _ => hT.1 (by omega), fun h => X.out⟩, by simp [intOf]⟩
    · rw [hm] at HV0
      have HV := Lib.hid HV0
      have X := Lib.hid (markN_1 src k hk (hT.1 (by omega)) hm)
      clear HV0 hm
      go_wp2_with (first | ((with_reducible refine wpTxt_q ?_ ?_ ?_); rfl; rfl; intro _ _) | ((with_reducible refine wpTxt_w0 ?_ ?_ ?_); rfl; rfl; intro _ _) | ((with_reducible refine wpTxt_s ?_ ?_); rfl; intro _ _; go_simp) | ((with_reducible refine wpTxt_sw ?_ ?_); rfl; intro _ _; go_simp) | (with_reducible refine wpTxt_nil ?_) | ((with_reducible refine wp_region_t mixed ?_ ?_); decide +kernel; intro _ _) | (go_at_call 128; ((with_reducible refine (within_mk _ _ ?_ ?_ _ HV.out _).mono ?_); (· decide +kernel); (· decide +kernel); rintro e w' ⟨rfl, rfl⟩)))
      refine bodyPost_ret (v := .tuple #[.int .i64 4, .int .i64 ((k : Int) + 1), .int .i64 0, .int .i64 0]) (by simp [results, Tryz.f85, go_sem]) rfl ?_
      refine ⟨0, 0, fin_val ?_ rfl⟩
      rw [E0.out, markR, X.out]; rfl
  · have X := Lib.hid (markN_0 src k hk (hT.1 (by omega)) (hT.2 (by omega)))
    go_wp2_with (first | ((with_reducible refine wpTxt_q ?_ ?_ ?_); rfl; rfl; intro _ _) | ((with_reducible refine wpTxt_w0 ?_ ?_ ?_); rfl; rfl; intro _ _) | ((with_reducible refine wpTxt_s ?_ ?_); rfl; intro _ _; go_simp) | ((with_reducible refine wpTxt_sw ?_ ?_); rfl; intro _ _; go_simp) | (with_reducible refine wpTxt_nil ?_) | ((with_reducible refine wp_region_t mixed ?_ ?_); decide +kernel; intro _ _) | (go_at_call 128; ((with_reducible refine (within_mk _ _ ?_ ?_ _ HV.out _).mono ?_); (· decide +kernel); (· decide +kernel); rintro e w' ⟨rfl, rfl⟩)))
    refine bodyPost_ret (v := .tuple #[.int .i64 0, .int .i64 0, .int .i64 9, .int .i64 k]) (by simp [results, Tryz.f85, go_sem]) rfl ?_
    refine ⟨0, 0, fin_val ?_ rfl⟩
    rw [E0.out, markR, X.out]; rfl

theorem rOne_any (src : ByteArray) (k : Nat) (w : World) (hs : src.size ≤ 65536) (hk : k < src.size) : Calls Tryz.prog 85 #[.string src, .int .i64 k] w (OnePost src k w) := by
 cases hc : letB (src[k].toNat : Int)
 · cases hd : digB (src[k].toNat : Int)
   · cases hq : ((src[k].toNat : Int) == 34)
     · exact rOne_mark src k w hs hk hc hd hq
     · exact rOne_text src k w hs hk hc hd hq
   · exact rOne_num src k w hs hk hc hd
 · exact rOne_name src k w hs hk hc
end Go.Proofs.YtbobbbhgdfapjaaGreat
