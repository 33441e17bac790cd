/- Hb, Hv, Hs -/
import Derived.Test.YtbobbbhgdfapjaaGreatZB1
import Derived.Test.YtbobbbhgdfapjaaGreatZB2
import Derived.Test.YtbobbbhgdfapjaaGreatZB3
import Derived.Test.YtbobbbhgdfapjaaGreatZB4
import Derived.Test.YtbobbbhgdfapjaaGreatZB5
import Derived.Test.YtbobbbhgdfapjaaGreatZB7
import Derived.Test.YtbobbbhgdfapjaaGreatZB6
import Derived.Test.YtbobbbhgdfapjaaGreatZB11
import Derived.Test.YtbobbbhgdfapjaaGreatZB12
import Derived.Test.YtbobbbhgdfapjaaGreatZB13
import Derived.Test.YtbobbbhgdfapjaaGreatZB14
import Derived.Test.YtbobbbhgdfapjaaGreatZB15
import Derived.Test.YtbobbbhgdfapjaaGreatZB16
import Derived.Test.YtbobbbhgdfapjaaGreatZB17
import Derived.Test.YtbobbbhgdfapjaaGreatZB18
import Derived.Test.YtbobbbhgdfapjaaGreatZB19
import Derived.Test.YtbobbbhgdfapjaaGreatZB20
import Derived.Test.YtbobbbhgdfapjaaGreatZBikst1
import Derived.Test.YtbobbbhgdfapjaaGreatZB21
set_option linter.unusedSimpArgs false
set_option linter.unusedVariables false
namespace Go.Proofs.YtbobbbhgdfapjaaGreat
set_option maxHeartbeats 8000000
set_option maxRecDepth 100000
open Go.RowKit Tk
def strQ (op : Int) : Int := if op = 4 then 1 else if op = 5 then 2 else if op = 3 then 3 else if op = 6 ∨ op = 7 then 4 else if op = 2 then 5 else 6
def markQ (op : Int) : ByteArray := if op = 4 then ⟨#[124, 124]⟩ else if op = 5 then ⟨#[94]⟩ else if op = 3 then ⟨#[38, 38]⟩ else if op = 6 then ⟨#[61, 61]⟩ else ⟨#[33, 61]⟩
theorem qstrength_any (k : Int) (w : World) : Calls Tryz.prog 78 #[.int .i64 k] w (IPost (strQ k) w) := by
 rcases seven k with hin | ⟨n2, n3, n4, n5, n6, n7⟩
 · rcases hin with rfl | rfl | rfl | rfl | rfl | rfl
   all_goals
    go_enter Tryz.func78, Tryz.ntmps78
    have E := Only.refl [] w
    go_upto_region 9999 with (first | fail)
    go_ret
    exact ⟨rfl, E.low⟩
 · obtain ⟨g2, -⟩ := kd_f n2
   obtain ⟨g3, -⟩ := kd_f n3
   obtain ⟨g4, -⟩ := kd_f n4
   obtain ⟨g5, -⟩ := kd_f n5
   obtain ⟨g6, -⟩ := kd_f n6
   obtain ⟨g7, -⟩ := kd_f n7
   have hv : strQ k = 6 := by simp [strQ, n2, n3, n4, n5, n6, n7]
   have HV := Lib.hid hv
   clear hv n2 n3 n4 n5 n6 n7
   go_enter Tryz.func78, Tryz.ntmps78
   have E := Only.refl [] w
   go_upto_region 9999 with (first | fail)
   go_ret
   exact ⟨by rw [HV.out]; rfl, E.low⟩
theorem qmark_any (k : Int) (w : World) : Calls Tryz.prog 80 #[.int .i64 k] w (TPost (markQ k) w) := by
 rcases seven k with hin | ⟨n2, n3, n4, n5, n6, n7⟩
 · rcases hin with rfl | rfl | rfl | rfl | rfl | rfl
   all_goals
    go_enter Tryz.func80, Tryz.ntmps80
    have E := Only.refl [] w
    go_upto_region 9999 with (first | fail)
    go_ret
    exact ⟨rfl, E.low⟩
 · obtain ⟨g3, -⟩ := kd_f n3
   obtain ⟨g4, -⟩ := kd_f n4
   obtain ⟨g5, -⟩ := kd_f n5
   obtain ⟨g6, -⟩ := kd_f n6
   have hv : markQ k = ⟨#[33, 61]⟩ := by simp [markQ, n3, n4, n5, n6]
   have HV := Lib.hid hv
   clear hv n2 n3 n4 n5 n6 n7
   go_enter Tryz.func80, Tryz.ntmps80
   have E := Only.refl [] w
   go_upto_region 9999 with (first | fail)
   go_ret
   exact ⟨by rw [HV.out]; rfl, E.low⟩
open Go.RowKit Tk
theorem nmX_good {s : ByteArray} (h : identB s = true) : (nmX s).good := by
 unfold nmX Ex.good
 exact ⟨⟨rfl, rfl, rfl, rfl, rfl, rfl, rfl, rfl, rfl, fun _ => h⟩, by unfold Ex.goods; trivial⟩
theorem opAt_vals (ts : List Tok) (i n : Nat) (h : ¬ opAt ts i n = 0) : opAt ts i n = 3 ∨ opAt ts i n = 4 ∨ opAt ts i n = 5 ∨ opAt ts i n = 6 ∨ opAt ts i n = 7 := by
 unfold opAt at *
 repeat' split at h
 all_goals (first | (exfalso; exact h rfl) | simp [*])
theorem nameAt_ident {ts : List Tok} {i : Nat} {s : ByteArray} (h : nameAt ts i = some s) : identB s = true := by
 unfold nameAt at h
 split at h
 · split at h
   · rename_i hc
     injection h with h
     subst h
     exact hc.2
   · cases h
 · cases h
theorem prs_good (ts : List Tok) : ∀ f : Nat,
    (∀ n i d x j, prs ts f n i d = .ok x j → x.good) ∧
    (∀ n x i d y j, x.good → plp ts f n x i d = .ok y j → y.good)
 | 0 => ⟨fun n i d x j h => (by rw [prs] at h; cases h), fun n x i d y j hx h => (by rw [plp] at h; cases h)⟩
 | f + 1 => by
   obtain ⟨ihp, ihl⟩ := prs_good ts f
   refine ⟨fun n i d y k h => ?_, fun n x i d y k hx h => ?_⟩
   · rw [prs] at h
     by_cases hn : n = 5
     · subst hn
       rw [if_pos rfl] at h
       cases hnm : nameAt ts i with
       | some s =>
         rw [hnm] at h
         injection h with h1 _; subst h1; exact nmX_good (nameAt_ident hnm)
       | none =>
         rw [hnm] at h
         dsimp only at h
         by_cases hb : isM ts i ⟨#[33]⟩ = true
         · rw [if_pos hb] at h
           by_cases hd : 12 ≤ d
           · rw [if_pos hd] at h; cases h
           · rw [if_neg hd] at h
             cases hr : prs ts f 5 (i + 1) (d + 1) with
             | none => rw [hr] at h; cases h
             | err c j => rw [hr] at h; cases h
             | ok x j =>
               rw [hr] at h
               injection h with h1 _; subst h1; exact opX_good1 (ihp _ _ _ _ _ hr)
         · rw [if_neg hb] at h
           by_cases hp : isM ts i ⟨#[40]⟩ = true
           · rw [if_pos hp] at h
             by_cases hd : 12 ≤ d
             · rw [if_pos hd] at h; cases h
             · rw [if_neg hd] at h
               cases hr : prs ts f 1 (i + 1) (d + 1) with
               | none => rw [hr] at h; cases h
               | err c j => rw [hr] at h; cases h
               | ok x j =>
                 rw [hr] at h
                 dsimp only at h
                 by_cases hc : isM ts j ⟨#[41]⟩ = true
                 · rw [if_pos hc] at h
                   injection h with h1 _; subst h1; exact ihp _ _ _ _ _ hr
                 · rw [if_neg hc] at h; cases h
           · rw [if_neg hp] at h; cases h
     · rw [if_neg hn] at h
       cases hr : prs ts f (n + 1) i d with
       | none => rw [hr] at h; cases h
       | err c j => rw [hr] at h; cases h
       | ok x j =>
         rw [hr] at h
         exact ihl _ _ _ _ _ _ (ihp _ _ _ _ _ hr) h
   · rw [plp] at h
     by_cases ho : opAt ts i n = 0
     · rw [if_pos ho] at h
       injection h with h1 _; subst h1; exact hx
     · rw [if_neg ho] at h
       cases hr : prs ts f (n + 1) (i + 1) d with
       | none => rw [hr] at h; cases h
       | err c j => rw [hr] at h; cases h
       | ok y j =>
         rw [hr] at h
         exact ihl _ _ _ _ _ _ (opX_good2 (opAt_vals ts i n ho) hx (ihp _ _ _ _ _ hr)) h
open Go.RowKit Tk
def FltPost (c : Int) (q : Int × Int) (w : World) (e : Ending) (w' : World) : Prop := e = .returned (fltV c q) ∧ Ext w w'
theorem qis_any {w : World} {a : Option Addr} {c : Nat} {ts : List Tok} (ht : RRow w 4 Tok.cells (.slice a ts.length c) ts) (i : Nat) (m : ByteArray) :
    Calls Tryz.prog 131 #[.slice a ts.length c, .int .i64 i, .string m] w (BPost (isM ts i m) w) := by
 obtain ⟨-, n2⟩ := RRow.lens ht
 by_cases hlt : i < ts.length
 · obtain ⟨t, hti⟩ := at_some hlt
   have hv := isM_at (m := m) hti
   obtain ⟨g, o, hgo, hg, k0, k1, -, -⟩ := ht.tok hti
   rw [hv]
   clear hv hti
   by_cases hk : t.kind = 4
   · obtain ⟨g1, g2⟩ := kd_t hk
     by_cases hm : t.text = m
     · have g3 := txt_t hm
       rw [decide_eq_true hk, decide_eq_true hm]
       have HK := Lib.hid hk
       have HM := Lib.hid hm
       clear hk hm
       go_enter Tryz.func131, Tryz.ntmps131
       have E := Only.refl [] w
       go_upto_region 9999 with (first | fail)
       go_ret
       exact ⟨rfl, E.low⟩
     · have g3 := txt_f hm
       rw [decide_eq_true hk, decide_eq_false hm]
       have HK := Lib.hid hk
       have HM := Lib.hid hm
       clear hk hm
       go_enter Tryz.func131, Tryz.ntmps131
       have E := Only.refl [] w
       go_upto_region 9999 with (first | fail)
       go_ret
       exact ⟨rfl, E.low⟩
   · obtain ⟨g1, g2⟩ := kd_f hk
     rw [decide_eq_false hk]
     have HK := Lib.hid hk
     clear hk
     go_enter Tryz.func131, Tryz.ntmps131
     have E := Only.refl [] w
     go_upto_region 9999 with (first | fail)
     go_ret
     exact ⟨rfl, E.low⟩
 · rw [isM_out (by omega)]
   go_enter Tryz.func131, Tryz.ntmps131
   have E := Only.refl [] w
   go_upto_region 9999 with (first | fail)
   go_ret
   exact ⟨rfl, E.low⟩
theorem qfault_any {w : World} {a : Option Addr} {c : Nat} {ts : List Tok} (ht : RRow w 4 Tok.cells (.slice a ts.length c) ts) (i : Nat) (k : Int) :
    Calls Tryz.prog 56 #[.slice a ts.length c, .int .i64 i, .int .i64 k] w (FltPost k (posAt ts i) w) := by
 obtain ⟨-, n2⟩ := RRow.lens ht
 by_cases hlt : i < ts.length
 · obtain ⟨t, hti⟩ := at_some hlt
   have hv : posAt ts i = t.pos := by unfold posAt; rw [hti]
   obtain ⟨g, o, hgo, hg, -, -, k2, k3⟩ := ht.tok hti
   rw [hv]
   clear hv hti
   go_enter Tryz.func56, Tryz.ntmps56
   have E := Only.refl [] w
   go_upto_region 9999 with (first | ((first | ((first | ((first | (with_reducible refine at_store 7 ?_) | (with_reducible refine at_store 19 ?_)); have bo := b7; refine wp_put bo rfl rfl ?_ ?_ ?_ ?_) | ((with_reducible refine at_store 6 ?_); have bo := b6; refine wp_put bo rfl rfl ?_ ?_ ?_ ?_)); (· kernel_rfl); (· first | rfl | kernel_rfl); (· first | decide | exact Nat.le_refl _ | simp [Act.eval, Value.cells] | (simp [Act.eval, Act.put, Value.cells]; done)); intro wn bn hb; dsimp only [Act.put]; simp only [putA, Act.eval, Value.cells, Nat.reduceAdd, putL, exC_size] at bn; have E2 := E.put bo hb; (try replace b6 := b6.but hb (by assumption)); (try replace b7 := b7.but hb (by assumption)); clear E bo; have E := E2; clear E2; (try replace b7 := b7.re bn); (try replace b6 := b6.re bn); clear bn hb) | ((first | ((with_reducible refine at_dst 6 ?_); go_simp; (generalize hXn : Array.size (World.heap _) = X6); refine new_block hXn ?_; intro wn bb hx; have b6 := Loc.new bb E hXn) | ((with_reducible refine at_dst 7 ?_); go_simp; (generalize hXn : Array.size (World.heap _) = X7); refine new_block hXn ?_; intro wn bb hx; have b7 := Loc.new bb E hXn)); (try have ⟨nn, nm⟩ := b6.ne hXn); have zz := Nat.le_trans E.size (Nat.le_of_eq hXn); clear bb hXn)); (try replace E := E.ext hx); (try replace b6 := b6.ext hx); (try replace hcE := bcell E.low); (try replace c6 := b6.cf); (try replace c7 := b7.cf)) | ((with_reducible refine at_dst 20 ?_); (refine wp_all b7.blk rfl rfl ?_ ?_ ?_); (· kernel_rfl); (· kernel_rfl)))
   refine bodyPost_ret (v := fltV k t.pos) (by simp [results, Tryz.f56, go_sem, c6]; rfl) rfl ⟨rfl, E.low⟩
 · have hv : posAt ts i = (0, 0) := by unfold posAt; rw [List.getElem?_eq_none (by omega)]
   rw [hv]
   clear hv
   go_enter Tryz.func56, Tryz.ntmps56
   have E := Only.refl [] w
   go_upto_region 9999 with (first | ((first | ((first | ((with_reducible refine at_store 7 ?_); have bo := b7; refine wp_put bo rfl rfl ?_ ?_ ?_ ?_) | ((with_reducible refine at_store 6 ?_); have bo := b6; refine wp_put bo rfl rfl ?_ ?_ ?_ ?_)); (· kernel_rfl); (· first | rfl | kernel_rfl); (· first | decide | exact Nat.le_refl _ | simp [Act.eval, Value.cells] | (simp [Act.eval, Act.put, Value.cells]; done)); intro wn bn hb; dsimp only [Act.put]; simp only [putA, Act.eval, Value.cells, Nat.reduceAdd, putL, exC_size] at bn; have E2 := E.put bo hb; (try replace b6 := b6.but hb (by assumption)); (try replace b7 := b7.but hb (by assumption)); clear E bo; have E := E2; clear E2; (try replace b7 := b7.re bn); (try replace b6 := b6.re bn); clear bn hb) | ((first | ((with_reducible refine at_dst 6 ?_); go_simp; (generalize hXn : Array.size (World.heap _) = X6); refine new_block hXn ?_; intro wn bb hx; have b6 := Loc.new bb E hXn) | ((with_reducible refine at_dst 7 ?_); go_simp; (generalize hXn : Array.size (World.heap _) = X7); refine new_block hXn ?_; intro wn bb hx; have b7 := Loc.new bb E hXn)); (try have ⟨nn, nm⟩ := b6.ne hXn); have zz := Nat.le_trans E.size (Nat.le_of_eq hXn); clear bb hXn)); (try replace E := E.ext hx); (try replace b6 := b6.ext hx); (try replace hcE := bcell E.low); (try replace c6 := b6.cf); (try replace c7 := b7.cf)) | ((with_reducible refine at_dst 20 ?_); (refine wp_all b7.blk rfl rfl ?_ ?_ ?_); (· kernel_rfl); (· kernel_rfl)))
   refine bodyPost_ret (v := fltV k (0, 0)) (by simp [results, Tryz.f56, go_sem, c6]; rfl) rfl ⟨rfl, E.low⟩
def opQ (ts : List Tok) (i : Nat) (n : Int) : List Int → Int
 | [] => 0
 | k :: l => if strQ k = n ∧ isM ts i (markQ k) = true then k else opQ ts i n l
def opsL : List Int := [3, 4, 5, 6, 7]
theorem opQ_eq (ts : List Tok) (i n : Nat) (h1 : 1 ≤ n) (h4 : n ≤ 4) : opQ ts i n opsL = opAt ts i n := by
 have : n = 1 ∨ n = 2 ∨ n = 3 ∨ n = 4 := by omega
 rcases this with rfl | rfl | rfl | rfl <;> simp [opQ, opsL, opAt, strQ, markQ]
theorem opQ_at {ts : List Tok} {i : Nat} {n : Int} {l : List Int} {j : Nat} {k R : Int} (h : Hid (opQ ts i n (l.drop j) = R)) (hk : l[j]? = some k) : (if strQ k = n ∧ isM ts i (markQ k) = true then k else opQ ts i n (l.drop (j + 1))) = R := by
 have := h.out
 rw [drop_at hk, opQ] at this
 exact this
theorem qoperator_any {w : World} {a : Option Addr} {c : Nat} {ts : List Tok} (ht : RRow w 4 Tok.cells (.slice a ts.length c) ts) (i n : Nat) :
    Calls Tryz.prog 90 #[.slice a ts.length c, .int .i64 i, .int .i64 n] w (IPost (opQ ts i n opsL) w) := by
 obtain ⟨V, hV⟩ : ∃ V, opQ ts i n opsL = V := ⟨_, rfl⟩
 rw [hV]
 have HV : Hid (opQ ts i n (opsL.drop 0) = V) := Lib.hid hV
 clear hV
 go_enter Tryz.func90, Tryz.ntmps90
 have E := Only.refl [] w
 go_upto_region 2 with (first | fail)
 go_loopw [7] (fun v wr => ∃ (k : Int) (j : Nat), v = .int .i64 k ∧ k = 3 + (j : Int) ∧ j ≤ 5 ∧ Hid (opQ ts i n (opsL.drop j) = V) ∧ Only [] w wr) (fun v _ => 8 - (intOf v).toNat)
 case atStart => exact ⟨3, 0, rfl, rfl, by omega, HV, E⟩
 case round =>
  clear E HV
  obtain ⟨k, j, rfl, hkj, hj, HS, E⟩ := hrel
  by_cases hlt : j < 5
  · have hk : opsL[j]? = some k := by
      have : j = 0 ∨ j = 1 ∨ j = 2 ∨ j = 3 ∨ j = 4 := by omega
      rcases this with rfl | rfl | rfl | rfl | rfl <;> (subst hkj; rfl)
    have hk7 : k ≤ 7 := by omega
    have hk3 : 3 ≤ k := by omega
    have HKJ := Lib.hid hkj
    have hst := opQ_at HS hk
    clear hk hkj
    obtain ⟨b, hb⟩ : ∃ b, isM ts i (markQ k) = b := ⟨_, rfl⟩
    have HB := Lib.hid hb
    rw [hb] at hst
    clear hb HS
    by_cases hs : strQ k = n
    · obtain ⟨s1, s2⟩ := kd_t hs
      cases b with
      | true =>
        have hVk : k = V := by rw [← hst, if_pos ⟨hs, rfl⟩]
        subst hVk
        have HS2 := Lib.hid hs
        clear hs hst
        go_upto_region 9999 with (first | ((with_reducible refine at_dst 13 ?_); go_simp; ((with_reducible refine (qstrength_any k _).mono ?_)); unfold IPost; rintro e wn ⟨rfl, hx⟩; (try replace E := E.ext hx); (try replace hcE := bcell E.low)) | (go_at_call 80; ((refine (qmark_any k _).mono ?_)); unfold TPost; rintro e wn ⟨rfl, hx⟩; (try replace E := E.ext hx); (try replace hcE := bcell E.low)) | (go_at_call 131; ((refine (qis_any (ht.ext E.low) i (markQ k)).mono ?_)); unfold BPost; rw [HB.out]; rintro e wn ⟨rfl, hx⟩; (try replace E := E.ext hx); (try replace hcE := bcell E.low)))
        go_ret
        exact ⟨rfl, E.low⟩
      | false =>
        have HT : Hid (opQ ts i n (opsL.drop (j + 1)) = V) := Lib.hid (by rw [← hst, if_neg (by simp)])
        have HS2 := Lib.hid hs
        clear hs hst
        go_upto_region 9999 with (first | ((with_reducible refine at_dst 13 ?_); go_simp; ((with_reducible refine (qstrength_any k _).mono ?_)); unfold IPost; rintro e wn ⟨rfl, hx⟩; (try replace E := E.ext hx); (try replace hcE := bcell E.low)) | (go_at_call 80; ((refine (qmark_any k _).mono ?_)); unfold TPost; rintro e wn ⟨rfl, hx⟩; (try replace E := E.ext hx); (try replace hcE := bcell E.low)) | (go_at_call 131; ((refine (qis_any (ht.ext E.low) i (markQ k)).mono ?_)); unfold BPost; rw [HB.out]; rintro e wn ⟨rfl, hx⟩; (try replace E := E.ext hx); (try replace hcE := bcell E.low)))
        go_roundw
        case rel => exact ⟨_, j + 1, rfl, by have := HKJ.out; push_cast; omega, by omega, HT, E⟩
        case measure => simp [intOf]; omega
    · obtain ⟨s1, s2⟩ := kd_f hs
      have HT : Hid (opQ ts i n (opsL.drop (j + 1)) = V) := Lib.hid (by rw [← hst, if_neg (fun h => hs h.1)])
      have HS2 := Lib.hid hs
      clear hs hst
      go_upto_region 9999 with (first | ((with_reducible refine at_dst 13 ?_); go_simp; ((with_reducible refine (qstrength_any k _).mono ?_)); unfold IPost; rintro e wn ⟨rfl, hx⟩; (try replace E := E.ext hx); (try replace hcE := bcell E.low)))
      go_roundw
      case rel => exact ⟨_, j + 1, rfl, by have := HKJ.out; push_cast; omega, by omega, HT, E⟩
      case measure => simp [intOf]; omega
  · have hV0 : V = 0 := by
      have := HS.out
      rw [List.drop_of_length_le (show opsL.length ≤ j from by show 5 ≤ j; omega), opQ] at this
      exact this.symm
    have hk8 : k = 8 := by omega
    subst hk8
    subst hV0
    go_upto_region 9999 with (first | fail)
    go_ret
    exact ⟨rfl, E.low⟩
theorem qoperator_eq {w : World} {a : Option Addr} {c : Nat} {ts : List Tok} (ht : RRow w 4 Tok.cells (.slice a ts.length c) ts) {i n : Nat} (h1 : 1 ≤ n) (h4 : n ≤ 4) {o : Int} (ho : opAt ts i n = o) :
    Calls Tryz.prog 90 #[.slice a ts.length c, .int .i64 i, .int .i64 n] w (IPost o w) := by
 have := qoperator_any ht i n
 rwa [opQ_eq ts i n h1 h4, ho] at this
end Go.Proofs.YtbobbbhgdfapjaaGreat
