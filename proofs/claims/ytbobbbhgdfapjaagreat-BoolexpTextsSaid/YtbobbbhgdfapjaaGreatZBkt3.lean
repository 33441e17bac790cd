/- Hu -/
import Derived.Test.YtbobbbhgdfapjaaGreatZB1
import Derived.Test.YtbobbbhgdfapjaaGreatZB2
import Derived.Test.YtbobbbhgdfapjaaGreatZB3
import Derived.Test.YtbobbbhgdfapjaaGreatZB4
import Derived.Test.YtbobbbhgdfapjaaGreatZB5
import Derived.Test.YtbobbbhgdfapjaaGreatZB6
import Derived.Test.YtbobbbhgdfapjaaGreatZB7
import Derived.Test.YtbobbbhgdfapjaaGreatZBkt1
import Derived.Test.YtbobbbhgdfapjaaGreatZB11
import Derived.Test.YtbobbbhgdfapjaaGreatZB12
import Derived.Test.YtbobbbhgdfapjaaGreatZB13
import Derived.Test.YtbobbbhgdfapjaaGreatZB14
import Derived.Test.YtbobbbhgdfapjaaGreatZB15
import Derived.Test.YtbobbbhgdfapjaaGreatZB16
import Derived.Test.YtbobbbhgdfapjaaGreatZB17
import Derived.Test.YtbobbbhgdfapjaaGreatZB18
import Derived.Test.YtbobbbhgdfapjaaGreatZB19
import Derived.Test.YtbobbbhgdfapjaaGreatZB20
import Derived.Test.YtbobbbhgdfapjaaGreatZB21
import Derived.Test.YtbobbbhgdfapjaaGreatZBkt2
set_option linter.unusedSimpArgs false
set_option linter.unusedVariables false
namespace Go.Proofs.YtbobbbhgdfapjaaGreat
set_option maxHeartbeats 8000000
set_option maxRecDepth 100000
open Go.RowKit Tk
theorem opAt_nn (ts : List Tok) (i n : Nat) : 0 ≤ opAt ts i n := by unfold opAt; repeat' split; all_goals omega
theorem qbn_succ {f n : Nat} (h : QbnOk f) (h4 : n ≤ 4) {i d : Nat} {a : Option Addr} {c : Nat} {ts : List Tok} {w : World} (ht : RRow w 4 Tok.cells (.slice a ts.length c) ts) (hs : ∀ t ∈ ts, t.text.size ≤ maxLen) (hi : i ≤ ts.length) (hd : d ≤ 12) (hne : prs ts f (n + 1) i d ≠ .none) :
    Calls Tryz.prog 61 #[.slice a ts.length c, .int .i64 i, .int .i64 ((n : Int) + 1), .int .i64 d] w (QrPost ts (prs ts f (n + 1) i d) w) := h (n + 1) (by omega) (by omega) ht hs hi hd hne
theorem qbn_at {f n : Nat} (h : ∀ g, g ≤ f → QbnOk g) {g : Nat} (hg : g + 1 ≤ f) (h4 : n ≤ 4) {i d : Nat} {a : Option Addr} {c : Nat} {ts : List Tok} {w : World} (ht : RRow w 4 Tok.cells (.slice a ts.length c) ts) (hs : ∀ t ∈ ts, t.text.size ≤ maxLen) (hi : i + 1 ≤ ts.length) (hd : d ≤ 12) (hne : prs ts g (n + 1) (i + 1) d ≠ .none) :
    Calls Tryz.prog 61 #[.slice a ts.length c, .int .i64 ((i : Int) + 1), .int .i64 ((n : Int) + 1), .int .i64 d] w (QrPost ts (prs ts g (n + 1) (i + 1) d) w) := h g (by omega) (n + 1) (by omega) (by omega) ht hs hi hd hne
def qLeft (X N : Nat) (v : Value) (w : World) : Nat := match w.cell? ⟨X, 0, none⟩ with
 | some (.int _ k) => if k = 0 then 1 + (N - (intOf v).toNat) else 0
 | _ => 0
theorem qLeft_eq {F : List Nat} {w0 w : World} {X N : Nat} {k : Int} {p q s : Value} {j : Int} (b : Loc F w0 w X 46 #[.int .i64 k, p, q, s]) : qLeft X N (.int .i64 j) w = if k = 0 then 1 + (N - j.toNat) else 0 := by
 unfold qLeft
 rw [b.cell]
 rfl
@[reducible] def fltC (k : Int) (q : Int × Int) : Array Value := #[.int .i64 k, .int .i64 q.1, .int .i64 q.2, .string ⟨#[]⟩]
theorem qbn_five {f : Nat} (IHn : Hid (PriOk f)) {i d : Nat} {a : Option Addr} {c : Nat} {ts : List Tok} {w : World} (ht : RRow w 4 Tok.cells (.slice a ts.length c) ts) (hsm : ∀ t ∈ ts, t.text.size ≤ maxLen) (hi : i ≤ ts.length) (hd12 : d ≤ 12) (hne : prs ts f 5 i d ≠ .none) :
    Calls Tryz.prog 61 #[.slice a ts.length c, .int .i64 i, .int .i64 5, .int .i64 d] w (QrPost ts (prs ts f 5 i d) w) := by
 obtain ⟨r, hr⟩ : ∃ r, prs ts f 5 i d = r := ⟨_, rfl⟩
 have HRN := Lib.hid hne
 rw [hr] at hne ⊢
 have HR := Lib.hid hr
 clear hr
 cases r with
 | none => exact absurd rfl hne
 | err k j =>
   clear hne
   go_enter Tryz.func61, Tryz.ntmps61
   have E := Only.refl [] w
   go_upto_region 9999 with (first | ((first | ((with_reducible refine at_dst 23 ?_); go_simp; (have hc := IHn.out (ht.ext E.low) hsm hi hd12 HRN.out); (first | with_reducible refine hc.mono ?_ | refine hc.mono ?_); clear hc; unfold QrPost; rw [HR.out]; dsimp only [fltV]; rintro e wn ⟨rfl, hx⟩) | ((first | ((with_reducible refine at_store 8 ?_); have bo := b8; refine wp_put bo rfl rfl ?_ ?_ ?_ ?_) | ((with_reducible refine at_store 10 ?_); have bo := b10; refine wp_put bo rfl rfl ?_ ?_ ?_ ?_)); (· kernel_rfl); (· first | rfl | kernel_rfl); (· first | decide | exact Nat.le_refl _ | simp [Act.eval, Value.cells] | (simp [Act.eval, Act.put, Value.cells]; done)); intro wn bn hb; dsimp only [Act.put]; simp only [putA, Act.eval, Value.cells, Nat.reduceAdd, putL, exC_size] at bn; have E2 := E.put bo hb; (try replace b10 := b10.but hb (by assumption)); (try replace b8 := b8.but hb (by assumption)); (first | (replace he := he.but hb bo.blk (of_decide_eq_true rfl)) | (replace he := he.but0 hb (by assumption)) | skip); (first | (replace hy := hy.but hb bo.blk (of_decide_eq_true rfl)) | (replace hy := hy.but0 hb (by assumption)) | skip); clear E bo; have E := E2; clear E2; (try replace b8 := b8.re bn); (try replace b10 := b10.re bn); clear bn hb) | ((first | ((with_reducible refine at_dst 8 ?_); go_simp; (generalize hXn : Array.size (World.heap _) = X8); refine new_block hXn ?_; intro wn bb hx; have b8 := Loc.new bb E hXn) | ((with_reducible refine at_dst 10 ?_); go_simp; (generalize hXn : Array.size (World.heap _) = X10); refine new_block hXn ?_; intro wn bb hx; (try have ⟨n8_10, n10_8⟩ := b8.ne hXn); have b10 := Loc.new bb E hXn)); (try have ⟨nn, nm⟩ := b8.ne hXn); have zz := Nat.le_trans E.size (Nat.le_of_eq hXn); clear bb hXn)); (try replace E := E.ext hx); (try replace b8 := b8.ext hx); (try replace b10 := b10.ext hx); (try replace hcE := bcell E.low); (try replace c8 := b8.cf); (try replace c10 := b10.cf)))
   refine bodyPost_ret (v := .tuple #[.agg exZ, .int .i64 0, fltV k (posAt ts j)]) (by simp [results, Tryz.f61, go_sem, c8, c10]; first | rfl | exact ⟨rfl, rfl⟩) rfl ⟨rfl, E.low⟩
 | ok x j =>
   clear hne
   go_enter Tryz.func61, Tryz.ntmps61
   have E := Only.refl [] w
   go_upto_region 9999 with (first | ((first | ((with_reducible refine at_dst 23 ?_); go_simp; (have hc := IHn.out (ht.ext E.low) hsm hi hd12 HRN.out); (first | with_reducible refine hc.mono ?_ | refine hc.mono ?_); clear hc; unfold QrPost; rw [HR.out]; dsimp only [fltV]; rintro e wn ⟨y, rfl, hy, hf, hyb, hx⟩; (try have mhy_8 := hf.away b8.lt); (try have mhy_10 := hf.away b10.lt); (try replace hf := hf.mono E.size)) | ((first | ((with_reducible refine at_store 8 ?_); have bo := b8; refine wp_put bo rfl rfl ?_ ?_ ?_ ?_) | ((with_reducible refine at_store 10 ?_); have bo := b10; refine wp_put bo rfl rfl ?_ ?_ ?_ ?_)); (· kernel_rfl); (· first | rfl | kernel_rfl); (· first | decide | exact Nat.le_refl _ | simp [Act.eval, Value.cells] | (simp [Act.eval, Act.put, Value.cells]; done)); intro wn bn hb; dsimp only [Act.put]; simp only [putA, Act.eval, Value.cells, Nat.reduceAdd, putL, exC_size] at bn; have E2 := E.put bo hb; (try replace b10 := b10.but hb (by assumption)); (try replace b8 := b8.but hb (by assumption)); (first | (replace he := he.but hb bo.blk (of_decide_eq_true rfl)) | (replace he := he.but0 hb (by assumption)) | skip); (first | (replace hy := hy.but hb bo.blk (of_decide_eq_true rfl)) | (replace hy := hy.but0 hb (by assumption)) | skip); clear E bo; have E := E2; clear E2; (try replace b8 := b8.re bn); (try replace b10 := b10.re bn); clear bn hb) | ((first | ((with_reducible refine at_dst 8 ?_); go_simp; (generalize hXn : Array.size (World.heap _) = X8); refine new_block hXn ?_; intro wn bb hx; have b8 := Loc.new bb E hXn) | ((with_reducible refine at_dst 10 ?_); go_simp; (generalize hXn : Array.size (World.heap _) = X10); refine new_block hXn ?_; intro wn bb hx; (try have ⟨n8_10, n10_8⟩ := b8.ne hXn); have b10 := Loc.new bb E hXn)); (try have ⟨nn, nm⟩ := b8.ne hXn); have zz := Nat.le_trans E.size (Nat.le_of_eq hXn); clear bb hXn)); (try replace E := E.ext hx); (try replace b8 := b8.ext hx); (try replace b10 := b10.ext hx); (try replace hcE := bcell E.low); (try replace c8 := b8.cf); (try replace c10 := b10.cf)))
   refine bodyPost_ret (v := .tuple #[.agg (exC y).toArray, .int .i64 j, fltV 0 (0, 0)]) (by simp [results, Tryz.f61, go_sem, c8, c10]; first | rfl | exact ⟨rfl, rfl⟩) rfl ⟨_, rfl, hy, hf, hyb, E.low⟩
theorem qbn_four {f : Nat} (IHb : Hid (QbnOk f)) (IHg : Hid (∀ g, g ≤ f → QbnOk g)) {i d : Nat} {a : Option Addr} {c : Nat} {ts : List Tok} {w : World} {n : Nat} (h1 : 1 ≤ n) (h4 : n ≤ 4) (ht : RRow w 4 Tok.cells (.slice a ts.length c) ts) (hsm : ∀ t ∈ ts, t.text.size ≤ maxLen) (hi : i ≤ ts.length) (hd12 : d ≤ 12) (hne : prs ts (f + 1) n i d ≠ .none) :
    Calls Tryz.prog 61 #[.slice a ts.length c, .int .i64 i, .int .i64 n, .int .i64 d] w (QrPost ts (prs ts (f + 1) n i d) w) := by
 have n2 := (RRow.lens ht).2
 have e1 : prs ts (f + 1) n i d = match prs ts f (n + 1) i d with | .none => .none | .err c j => .err c j | .ok x j => plp ts f n x j d := by
  rw [prs, if_neg (by omega)]
  first | rfl | (cases prs ts f (n + 1) i d <;> rfl)
 rw [e1] at hne ⊢
 clear e1
 obtain ⟨r, hr⟩ : ∃ r, prs ts f (n + 1) i d = r := ⟨_, rfl⟩
 have hrn : prs ts f (n + 1) i d ≠ .none := by intro h; rw [h] at hne; exact hne rfl
 have HRN := Lib.hid hrn
 rw [hr] at hne ⊢
 have HR := Lib.hid hr
 clear hrn
 cases r with
 | none => exact absurd rfl hne
 | err k j =>
   obtain ⟨s1, s2⟩ := kd_f (show ¬ k = 0 by rcases (prs_err ts f).1 _ _ _ _ _ hr with h | h <;> omega)
   clear hne hr
   dsimp only
   go_enter Tryz.func61, Tryz.ntmps61
   have E := Only.refl [] w
   go_upto_region 4 with (first | ((first | ((with_reducible refine at_dst 33 ?_); go_simp; (have hc := qbn_succ IHb.out h4 (ht.ext E.low) hsm hi hd12 HRN.out); (first | with_reducible refine hc.mono ?_ | refine hc.mono ?_); clear hc; unfold QrPost; rw [HR.out]; dsimp only [fltV]; rintro e wn ⟨rfl, hx⟩) | ((first | ((with_reducible refine at_store 11 ?_); have bo := b11; refine wp_put bo rfl rfl ?_ ?_ ?_ ?_) | ((with_reducible refine at_store 13 ?_); have bo := b13; refine wp_put bo rfl rfl ?_ ?_ ?_ ?_)); (· kernel_rfl); (· first | rfl | kernel_rfl); (· first | decide | exact Nat.le_refl _ | simp [Act.eval, Value.cells] | (simp [Act.eval, Act.put, Value.cells]; done)); intro wn bn hb; dsimp only [Act.put]; simp only [putA, Act.eval, Value.cells, Nat.reduceAdd, putL, exC_size] at bn; have hbk := hb; have E2 := E.put bo hb; (try replace b8 := b8.but hb (by assumption)); (try replace b10 := b10.but hb (by assumption)); (try replace b13 := b13.but hb (by assumption)); (try replace b11 := b11.but hb (by assumption)); (first | (replace he := he.but hb bo.blk (of_decide_eq_true rfl)) | (replace he := he.but0 hb (by assumption)) | skip); (first | (replace hy := hy.but hb bo.blk (of_decide_eq_true rfl)) | (replace hy := hy.but0 hb (by assumption)) | skip); clear E bo; have E := E2; clear E2; (try replace b11 := b11.re bn); (try replace b13 := b13.re bn); clear bn hb) | ((first | ((with_reducible refine at_dst 8 ?_); go_simp; (generalize hXn : Array.size (World.heap _) = X8); refine new_block hXn ?_; intro wn bb hx; have b8 := Loc.new bb E hXn) | ((with_reducible refine at_dst 10 ?_); go_simp; (generalize hXn : Array.size (World.heap _) = X10); refine new_block hXn ?_; intro wn bb hx; (try have ⟨n8_10, n10_8⟩ := b8.ne hXn); have b10 := Loc.new bb E hXn) | ((with_reducible refine at_dst 11 ?_); go_simp; (generalize hXn : Array.size (World.heap _) = X11); refine new_block hXn ?_; intro wn bb hx; (try have ⟨n8_11, n11_8⟩ := b8.ne hXn); have b11 := Loc.new bb E hXn) | ((with_reducible refine at_dst 13 ?_); go_simp; (generalize hXn : Array.size (World.heap _) = X13); refine new_block hXn ?_; intro wn bb hx; (try have ⟨n8_13, n13_8⟩ := b8.ne hXn); have b13 := Loc.new bb E hXn)); (try have ⟨nn, nm⟩ := b8.ne hXn); (try have ⟨nn, nm⟩ := b10.ne hXn); (try have ⟨nn, nm⟩ := b11.ne hXn); have zz := Nat.le_trans E.size (Nat.le_of_eq hXn); clear bb hXn)); (try replace E := E.ext hx); (try replace b8 := b8.ext hx); (try replace b10 := b10.ext hx); (try replace b11 := b11.ext hx); (try replace hcE := bcell E.low); (try replace c8 := b8.cf); (try replace c10 := b10.cf); (try replace c11 := b11.cf); (try replace c13 := b13.cf)))
   go_loopw [12] (fun v wr => v = .int .i64 0 ∧ Only [] w wr ∧ Loc [] w wr X8 28 exZ ∧ Loc [] w wr X10 46 (fltC 0 (0, 0)) ∧ Loc [] w wr X13 46 (fltC k (posAt ts j))) (fun _ _ => 0)
   case atStart => exact ⟨rfl, E, b8, b10, b13⟩
   case round =>
    clear E b8 b10 b11 b13 c8 c10 c11 c13
    obtain ⟨rfl, E, b8, b10, b13⟩ := hrel
    have c8 := b8.cf
    have c10 := b10.cf
    have c13 := b13.cf
    go_upto_region 9999 with (first | ((first | ((with_reducible refine at_reg 11 ?_); (refine Pn.wp_region_o (id := 11) [X8] (fun _ _ _ => False) [0, 2, 3, 0, 0] [0, 1, 2, 3, 4] mixed ?_ ?_ ?_); (· decide +kernel); (· exact fun _ _ _ h => h.elim); intro K hK wn hx; dsimp only [pickL, List.getElem?_cons_succ, List.getElem?_cons_zero]) | ((first | ((with_reducible refine at_store 8 ?_); have bo := b8; refine wp_put bo rfl rfl ?_ ?_ ?_ ?_) | ((with_reducible refine at_store 10 ?_); have bo := b10; refine wp_put bo rfl rfl ?_ ?_ ?_ ?_)); (· kernel_rfl); (· first | rfl | kernel_rfl); (· first | decide | exact Nat.le_refl _ | simp [Act.eval, Value.cells] | (simp [Act.eval, Act.put, Value.cells]; done)); intro wn bn hb; dsimp only [Act.put]; simp only [putA, Act.eval, Value.cells, Nat.reduceAdd, putL, exC_size] at bn; have hbk := hb; have E2 := E.put bo hb; (try replace b10 := b10.but hb (by assumption)); (try replace b8 := b8.but hb (by assumption)); (try replace b13 := b13.but hb (by assumption)); (first | (replace he := he.but hb bo.blk (of_decide_eq_true rfl)) | (replace he := he.but0 hb (by assumption)) | skip); (first | (replace hy := hy.but hb bo.blk (of_decide_eq_true rfl)) | (replace hy := hy.but0 hb (by assumption)) | skip); clear E bo; have E := E2; clear E2; (try replace b8 := b8.re bn); (try replace b10 := b10.re bn); clear bn hb)); (try replace E := E.ext hx); (try replace b8 := b8.ext hx); (try replace b10 := b10.ext hx); (try replace b13 := b13.ext hx); (try replace hcE := bcell E.low); (try replace c8 := b8.cf); (try replace c10 := b10.cf); (try replace c13 := b13.cf)) | ((with_reducible refine Pn.at_tag 0 ?_); (first | ((with_reducible refine Pn.wpTag_q ?_ ?_ ?_); rfl; rfl; intro _ _) | ((with_reducible refine Pn.wpTag_w ?_ ?_ ?_); rfl; rfl; intro _ _) | ((with_reducible refine Pn.wpTag_no ?_ ?_); (· first | rfl | (go_simp; done))) | ((with_reducible refine Pn.wpTag_s ?_ ?_); rfl; intro _ _; go_simp))) | ((with_reducible refine Pn.at_tag 2 ?_); (first | ((with_reducible refine Pn.wpTag_no ?_ ?_); (· first | rfl | (go_simp; done))) | (apply Pn.wpTag_2; (· rfl); (· first | rfl | go_simp); (· intro wq hq; (try replace c10 := (b10.only hq (not_in1 n10_8)).cf); (try replace c13 := (b13.only hq (not_in1 n13_8)).cf); go_simp <;> rfl); (try simp only [Act.put, actL])))) | ((with_reducible refine Pn.at_tag 3 ?_); (first | ((with_reducible refine Pn.wpTag_no ?_ ?_); (· first | rfl | (go_simp; done))) | ((refine Pn.wpTag_3 ?_ ?_ (fun K2 hK2 => ?_)); (· rfl); (· first | rfl | go_simp)))) | ((with_reducible refine at_ando ?_ ?_); (· first | exact Only.of_but hbk (by simp) | exact hxo | exact Only.of_below hx | exact Only.refl _ _)) | ((with_reducible refine Pn.at_tagn ?_); (with_reducible refine Pn.wpTag_nil ?_)))
    refine bodyPost_ret (v := .tuple #[.agg exZ, .int .i64 0, fltV k (posAt ts j)]) (by simp [results, Tryz.f61, go_sem, c8, c10]; first | rfl | exact ⟨rfl, rfl⟩) rfl ⟨rfl, E.low⟩
 | ok x j =>
   have hj2 := ((prs_in ts f).1 _ _ _ _ _ hr).2
   clear hr
   dsimp only at hne ⊢
   obtain ⟨R, hR⟩ : ∃ R, plp ts f n x j d = R := ⟨_, rfl⟩
   rw [hR] at hne ⊢
   have HN := Lib.hid hne
   have HP := Lib.hid hR
   clear hne hR
   go_enter Tryz.func61, Tryz.ntmps61
   have E := Only.refl [] w
   go_upto_region 4 with (first | ((first | ((with_reducible refine at_dst 33 ?_); go_simp; (have hc := qbn_succ IHb.out h4 (ht.ext E.low) hsm hi hd12 HRN.out); (first | with_reducible refine hc.mono ?_ | refine hc.mono ?_); clear hc; unfold QrPost; rw [HR.out]; dsimp only [fltV]; rintro e wn ⟨e, rfl, he, hf, heb, hx⟩; (try have mhe_8 := hf.away b8.lt); (try have mhe_10 := hf.away b10.lt); (try replace hf := hf.mono E.size)) | ((first | ((with_reducible refine at_store 11 ?_); have bo := b11; refine wp_put bo rfl rfl ?_ ?_ ?_ ?_) | ((with_reducible refine at_store 13 ?_); have bo := b13; refine wp_put bo rfl rfl ?_ ?_ ?_ ?_)); (· kernel_rfl); (· first | rfl | kernel_rfl); (· first | decide | exact Nat.le_refl _ | simp [Act.eval, Value.cells] | (simp [Act.eval, Act.put, Value.cells]; done)); intro wn bn hb; dsimp only [Act.put]; simp only [putA, Act.eval, Value.cells, Nat.reduceAdd, putL, exC_size] at bn; have hbk := hb; have E2 := E.put bo hb; (try replace b8 := b8.but hb (by assumption)); (try replace b10 := b10.but hb (by assumption)); (try replace b13 := b13.but hb (by assumption)); (try replace b11 := b11.but hb (by assumption)); (first | (replace he := he.but hb bo.blk (of_decide_eq_true rfl)) | (replace he := he.but0 hb (by assumption)) | skip); (first | (replace hy := hy.but hb bo.blk (of_decide_eq_true rfl)) | (replace hy := hy.but0 hb (by assumption)) | skip); clear E bo; have E := E2; clear E2; (try replace b11 := b11.re bn); (try replace b13 := b13.re bn); clear bn hb) | ((first | ((with_reducible refine at_dst 8 ?_); go_simp; (generalize hXn : Array.size (World.heap _) = X8); refine new_block hXn ?_; intro wn bb hx; have b8 := Loc.new bb E hXn) | ((with_reducible refine at_dst 10 ?_); go_simp; (generalize hXn : Array.size (World.heap _) = X10); refine new_block hXn ?_; intro wn bb hx; (try have ⟨n8_10, n10_8⟩ := b8.ne hXn); have b10 := Loc.new bb E hXn) | ((with_reducible refine at_dst 11 ?_); go_simp; (generalize hXn : Array.size (World.heap _) = X11); refine new_block hXn ?_; intro wn bb hx; (try have ⟨n8_11, n11_8⟩ := b8.ne hXn); (try have mhe_11 := he.notin (Nat.le_of_eq hXn)); have b11 := Loc.new bb E hXn) | ((with_reducible refine at_dst 13 ?_); go_simp; (generalize hXn : Array.size (World.heap _) = X13); refine new_block hXn ?_; intro wn bb hx; (try have ⟨n8_13, n13_8⟩ := b8.ne hXn); (try have mhe_13 := he.notin (Nat.le_of_eq hXn)); have b13 := Loc.new bb E hXn)); (try have ⟨nn, nm⟩ := b8.ne hXn); (try have ⟨nn, nm⟩ := b10.ne hXn); (try have ⟨nn, nm⟩ := b11.ne hXn); have zz := Nat.le_trans E.size (Nat.le_of_eq hXn); (try have mm := he.notin (Nat.le_of_eq hXn)); clear bb hXn)); (try replace E := E.ext hx); (try replace b8 := b8.ext hx); (try replace b10 := b10.ext hx); (try replace b11 := b11.ext hx); (try replace he := he.ext hx); (try replace hcE := bcell E.low); (try replace c8 := b8.cf); (try replace c10 := b10.cf); (try replace c11 := b11.cf); (try replace c13 := b13.cf)))
   go_loopw [12] (fun v wr => ∃ (e : Ex) (k : Int) (q : Int × Int) (j : Nat), v = .int .i64 j ∧ Only [] w wr ∧ Loc [] w wr X8 28 exZ ∧ Loc [] w wr X10 46 (fltC 0 (0, 0)) ∧ Loc [] w wr X11 28 (exC e).toArray ∧ Loc [] w wr X13 46 (fltC k q) ∧
    Hid ((k ≠ 0 ∧ ∃ l, R = .err k l ∧ q = posAt ts l) ∨ (k = 0 ∧ q = (0, 0) ∧ e.ok wr ∧ e.fr w.heap.size ∧ (e.away X8 ∧ e.away X10 ∧ e.away X11 ∧ e.away X13) ∧ ∃ g, g ≤ f ∧ plp ts g n e.bare j d = R ∧ j ≤ ts.length))) (fun v wr => qLeft X13 ts.length v wr)
   case atStart => exact ⟨e, 0, (0, 0), j, rfl, E, b8, b10, b11, b13, Lib.hid (.inr ⟨rfl, rfl, he, hf, ⟨mhe_8, mhe_10, mhe_11, mhe_13⟩, f, Nat.le_refl _, by rw [heb]; exact HP.out, hj2⟩)⟩
   case round =>
    clear E b8 b10 b11 b13 c8 c10 c11 c13 he hf heb mhe_8 mhe_10 mhe_11 mhe_13 hj2
    obtain ⟨e, k, q, j, rfl, E, b8, b10, b11, b13, HD⟩ := hrel
    have c8 := b8.cf
    have c10 := b10.cf
    have c11 := b11.cf
    have c13 := b13.cf
    have HL := Lib.hid (qLeft_eq (N := ts.length) (j := j) b13)
    rcases HD.out with ⟨hk, l, hRl, hql⟩ | ⟨hk, hq, he, hf, ⟨mhe_8, mhe_10, mhe_11, mhe_13⟩, g, hg, hS, hj2⟩
    · obtain ⟨s1, s2⟩ := kd_f hk
      subst hRl hql
      clear hk HD
      go_upto_region 9999 with (first | ((first | ((with_reducible refine at_reg 11 ?_); (refine Pn.wp_region_o (id := 11) [X8] (fun _ _ _ => False) [0, 2, 3, 0, 0] [0, 1, 2, 3, 4] mixed ?_ ?_ ?_); (· decide +kernel); (· exact fun _ _ _ h => h.elim); intro K hK wn hx; dsimp only [pickL, List.getElem?_cons_succ, List.getElem?_cons_zero]) | ((first | ((with_reducible refine at_store 8 ?_); have bo := b8; refine wp_put bo rfl rfl ?_ ?_ ?_ ?_) | ((with_reducible refine at_store 10 ?_); have bo := b10; refine wp_put bo rfl rfl ?_ ?_ ?_ ?_)); (· kernel_rfl); (· first | rfl | kernel_rfl); (· first | decide | exact Nat.le_refl _ | simp [Act.eval, Value.cells] | (simp [Act.eval, Act.put, Value.cells]; done)); intro wn bn hb; dsimp only [Act.put]; simp only [putA, Act.eval, Value.cells, Nat.reduceAdd, putL, exC_size] at bn; have hbk := hb; have E2 := E.put bo hb; (try replace b10 := b10.but hb (by assumption)); (try replace b8 := b8.but hb (by assumption)); (try replace b11 := b11.but hb (by assumption)); (try replace b13 := b13.but hb (by assumption)); (first | (replace he := he.but hb bo.blk (of_decide_eq_true rfl)) | (replace he := he.but0 hb (by assumption)) | skip); (first | (replace hy := hy.but hb bo.blk (of_decide_eq_true rfl)) | (replace hy := hy.but0 hb (by assumption)) | skip); clear E bo; have E := E2; clear E2; (try replace b8 := b8.re bn); (try replace b10 := b10.re bn); clear bn hb)); (try replace E := E.ext hx); (try replace b8 := b8.ext hx); (try replace b10 := b10.ext hx); (try replace b11 := b11.ext hx); (try replace b13 := b13.ext hx); (try replace hcE := bcell E.low); (try replace c8 := b8.cf); (try replace c10 := b10.cf); (try replace c11 := b11.cf); (try replace c13 := b13.cf)) | ((with_reducible refine Pn.at_tag 0 ?_); (first | ((with_reducible refine Pn.wpTag_q ?_ ?_ ?_); rfl; rfl; intro _ _) | ((with_reducible refine Pn.wpTag_w ?_ ?_ ?_); rfl; rfl; intro _ _) | ((with_reducible refine Pn.wpTag_no ?_ ?_); (· first | rfl | (go_simp; done))) | ((with_reducible refine Pn.wpTag_s ?_ ?_); rfl; intro _ _; go_simp))) | ((with_reducible refine Pn.at_tag 2 ?_); (first | ((with_reducible refine Pn.wpTag_no ?_ ?_); (· first | rfl | (go_simp; done))) | (apply Pn.wpTag_2; (· rfl); (· first | rfl | go_simp); (· intro wq hq; (try replace c10 := (b10.only hq (not_in1 n10_8)).cf); (try replace c11 := (b11.only hq (not_in1 n11_8)).cf); (try replace c13 := (b13.only hq (not_in1 n13_8)).cf); go_simp <;> rfl); (try simp only [Act.put, actL])))) | ((with_reducible refine Pn.at_tag 3 ?_); (first | ((with_reducible refine Pn.wpTag_no ?_ ?_); (· first | rfl | (go_simp; done))) | ((refine Pn.wpTag_3 ?_ ?_ (fun K2 hK2 => ?_)); (· rfl); (· first | rfl | go_simp)))) | ((with_reducible refine at_ando ?_ ?_); (· first | exact Only.of_but hbk (by simp) | exact hxo | exact Only.of_below hx | exact Only.refl _ _)) | ((with_reducible refine Pn.at_tagn ?_); (with_reducible refine Pn.wpTag_nil ?_)))
      refine bodyPost_ret (v := .tuple #[.agg exZ, .int .i64 0, fltV k (posAt ts l)]) (by simp [results, Tryz.f61, go_sem, c8, c10]; first | rfl | exact ⟨rfl, rfl⟩) rfl ⟨rfl, E.low⟩
    · subst hk hq
      clear HD
      obtain ⟨o, ho⟩ : ∃ o, opAt ts j n = o := ⟨_, rfl⟩
      have HO := Lib.hid ho
      have hon : 0 ≤ o := ho ▸ opAt_nn ts j n
      obtain ⟨g', rfl⟩ : ∃ g', g = g' + 1 := by
       cases g with
       | zero => exact absurd (hS.symm.trans (by rw [plp])) HN.out
       | succ g' => exact ⟨g', rfl⟩
      rw [plp, ho] at hS
      by_cases ho0 : o = 0
      · rw [if_pos ho0] at hS
        subst hS
        clear ho
        subst ho0
        go_upto_region 9999 with (first | ((first | ((first | ((with_reducible refine at_store 8 ?_); have bo := b8; refine wp_put bo rfl rfl ?_ ?_ ?_ ?_) | ((with_reducible refine at_store 10 ?_); have bo := b10; refine wp_put bo rfl rfl ?_ ?_ ?_ ?_)); (· kernel_rfl); (· first | rfl | kernel_rfl); (· first | decide | exact Nat.le_refl _ | simp [Act.eval, Value.cells] | (simp [Act.eval, Act.put, Value.cells]; done)); intro wn bn hb; dsimp only [Act.put]; simp only [putA, Act.eval, Value.cells, Nat.reduceAdd, putL, exC_size] at bn; have hbk := hb; have E2 := E.put bo hb; (try replace b10 := b10.but hb (by assumption)); (try replace b8 := b8.but hb (by assumption)); (try replace b11 := b11.but hb (by assumption)); (try replace b13 := b13.but hb (by assumption)); (first | (replace he := he.but hb bo.blk (of_decide_eq_true rfl)) | (replace he := he.but0 hb (by assumption)) | skip); (first | (replace hy := hy.but hb bo.blk (of_decide_eq_true rfl)) | (replace hy := hy.but0 hb (by assumption)) | skip); clear E bo; have E := E2; clear E2; (try replace b8 := b8.re bn); (try replace b10 := b10.re bn); clear bn hb)); (try replace hcE := bcell E.low); (try replace c8 := b8.cf); (try replace c10 := b10.cf); (try replace c11 := b11.cf); (try replace c13 := b13.cf)) | ((with_reducible refine at_dst 74 ?_); (refine wp_all b11.blk rfl rfl ?_ ?_ ?_); (· kernel_rfl); (· kernel_rfl)) | (go_at_call 90; ((have hc := qoperator_eq (ht.ext E.low) h1 h4 HO.out); ((with_reducible refine hc.mono ?_)); clear hc); unfold IPost; rintro e9 wn ⟨rfl, hx⟩; (try replace E := E.ext hx); (try replace b8 := b8.ext hx); (try replace b10 := b10.ext hx); (try replace b11 := b11.ext hx); (try replace b13 := b13.ext hx); (try replace he := he.ext hx); (try replace hcE := bcell E.low); (try replace c8 := b8.cf); (try replace c10 := b10.cf); (try replace c11 := b11.cf); (try replace c13 := b13.cf)))
        refine bodyPost_ret (v := .tuple #[.agg (exC e).toArray, .int .i64 j, fltV 0 (0, 0)]) (by simp [results, Tryz.f61, go_sem, c8, c10]; first | rfl | exact ⟨rfl, rfl⟩) rfl ⟨_, rfl, he, hf, rfl, E.low⟩
      · have hjl : j < ts.length := opAt_lt (by rw [ho]; exact ho0)
        have ho1 : 0 < o := by omega
        rw [if_neg ho0] at hS
        clear ho ho0
        obtain ⟨r, hr⟩ : ∃ r, prs ts g' (n + 1) (j + 1) d = r := ⟨_, rfl⟩
        have hrn : prs ts g' (n + 1) (j + 1) d ≠ .none := fun h => HN.out (by rw [← hS, h])
        have HRN := Lib.hid hrn
        rw [hr] at hS
        have HR := Lib.hid hr
        clear hrn
        have hj1 : j + 1 ≤ ts.length := hjl
        cases r with
        | none => exact absurd hS.symm HN.out
        | err k l =>
          have hk0 : k ≠ 0 := by rcases (prs_err ts g').1 _ _ _ _ _ hr with h | h <;> omega
          dsimp only at hS
          have HS2 := Lib.hid hS
          have HK0 := Lib.hid hk0
          clear hS hr hk0
          go_upto_region 9999 with (first | ((first | ((with_reducible refine at_dst 50 ?_); go_simp; (have hc := qoperator_eq (ht.ext E.low) h1 h4 HO.out); (first | with_reducible refine hc.mono ?_ | refine hc.mono ?_); clear hc; unfold IPost; rintro e wn ⟨rfl, hx⟩) | ((with_reducible refine at_dst 58 ?_); go_simp; (have hc := qbn_at IHg.out hg h4 (ht.ext E.low) hsm hj1 hd12 HRN.out); (first | with_reducible refine hc.mono ?_ | refine hc.mono ?_); clear hc; unfold QrPost; rw [HR.out]; dsimp only [fltV]; rintro e wn ⟨rfl, hx⟩) | ((with_reducible refine at_dst 65 ?_); (refine wp_rows2 2 ([e, zX].flatMap exC).toArray 28 ?_ ?_); (· kernel_rfl); intro X65 wn hX65 bb hx; (try have ⟨n8_65, n65_8⟩ := b8.ne hX65); (try have ⟨n10_65, n65_10⟩ := b10.ne hX65); (try have ⟨n11_65, n65_11⟩ := b11.ne hX65); (try have ⟨n13_65, n65_13⟩ := b13.ne hX65); (try have ⟨n15_65, n65_15⟩ := b15.ne hX65); (try have ⟨n17_65, n65_17⟩ := b17.ne hX65); (try have z65 := Nat.le_trans E.size (Nat.le_of_eq hX65)); (try have mhe_65 := he.notin (Nat.le_of_eq hX65)); have b65 := Loc.new bb E hX65; clear bb hX65) | ((first | ((with_reducible refine at_store 11 ?_); have bo := b11; refine wp_put bo rfl rfl ?_ ?_ ?_ ?_) | ((with_reducible refine at_store 13 ?_); have bo := b13; refine wp_put bo rfl rfl ?_ ?_ ?_ ?_) | ((with_reducible refine at_store 15 ?_); have bo := b15; refine wp_put bo rfl rfl ?_ ?_ ?_ ?_) | ((with_reducible refine at_store 17 ?_); have bo := b17; refine wp_put bo rfl rfl ?_ ?_ ?_ ?_)); (· kernel_rfl); (· first | rfl | kernel_rfl); (· first | decide | exact Nat.le_refl _ | simp [Act.eval, Value.cells] | (simp [Act.eval, Act.put, Value.cells]; done)); intro wn bn hb; dsimp only [Act.put]; simp only [putA, Act.eval, Value.cells, Nat.reduceAdd, putL, exC_size] at bn; have hbk := hb; have E2 := E.put bo hb; (try replace b8 := b8.but hb (by assumption)); (try replace b10 := b10.but hb (by assumption)); (try replace b11 := b11.but hb (by assumption)); (try replace b13 := b13.but hb (by assumption)); (try replace b15 := b15.but hb (by assumption)); (try replace b17 := b17.but hb (by assumption)); (try replace b65 := b65.but hb (by assumption)); (first | (replace he := he.but hb bo.blk (of_decide_eq_true rfl)) | (replace he := he.but0 hb (by assumption)) | skip); (first | (replace hy := hy.but hb bo.blk (of_decide_eq_true rfl)) | (replace hy := hy.but0 hb (by assumption)) | skip); clear E bo; have E := E2; clear E2; (try replace b11 := b11.re bn); (try replace b13 := b13.re bn); (try replace b15 := b15.re bn); (try replace b17 := b17.re bn); clear bn hb) | ((first | ((with_reducible refine at_dst 15 ?_); go_simp; (generalize hXn : Array.size (World.heap _) = X15); refine new_block hXn ?_; intro wn bb hx; have b15 := Loc.new bb E hXn) | ((with_reducible refine at_dst 17 ?_); go_simp; (generalize hXn : Array.size (World.heap _) = X17); refine new_block hXn ?_; intro wn bb hx; have b17 := Loc.new bb E hXn)); (try have ⟨nn, nm⟩ := b8.ne hXn); (try have ⟨nn, nm⟩ := b10.ne hXn); (try have ⟨nn, nm⟩ := b11.ne hXn); (try have ⟨nn, nm⟩ := b13.ne hXn); (try have ⟨nn, nm⟩ := b15.ne hXn); have zz := Nat.le_trans E.size (Nat.le_of_eq hXn); (try have mm := he.notin (Nat.le_of_eq hXn)); clear bb hXn)); (try replace E := E.ext hx); (try replace b8 := b8.ext hx); (try replace b10 := b10.ext hx); (try replace b11 := b11.ext hx); (try replace b13 := b13.ext hx); (try replace b15 := b15.ext hx); (try replace b17 := b17.ext hx); (try replace he := he.ext hx); (try replace hcE := bcell E.low); (try replace c8 := b8.cf); (try replace c10 := b10.cf); (try replace c11 := b11.cf); (try replace c13 := b13.cf); (try replace c15 := b15.cf); (try replace c17 := b17.cf); (try replace c65 := b65.cf)) | ((with_reducible refine at_dsts [63, 64, 68] ?_ ?_); (· rfl); (refine wp_all (Loc.blk (by assumption)) rfl rfl ?_ ?_ ?_); (· kernel_rfl); (· kernel_rfl)) | (go_at_call 90; ((have hc := qoperator_eq (ht.ext E.low) h1 h4 HO.out); ((with_reducible refine hc.mono ?_)); clear hc); unfold IPost; rintro e9 wn ⟨rfl, hx⟩; (try replace E := E.ext hx); (try replace b8 := b8.ext hx); (try replace b10 := b10.ext hx); (try replace b11 := b11.ext hx); (try replace b13 := b13.ext hx); (try replace he := he.ext hx); (try replace hcE := bcell E.low); (try replace c8 := b8.cf); (try replace c10 := b10.cf); (try replace c11 := b11.cf); (try replace c13 := b13.cf)))
          simp only [Act.put, actL]
          go_roundw
          case rel => exact ⟨nodeX o (some ⟨X65, 0, none⟩) 2 [e, zX], k, posAt ts l, 0, rfl, E, b8, b10, b11, b13, Lib.hid (.inl ⟨HK0.out, l, HS2.out.symm, rfl⟩)⟩
          case measure => rw [qLeft_eq (N := ts.length) (j := 0) b13, HL.out, if_neg HK0.out, if_pos trivial]; omega
        | ok x l =>
          have hjl2 := (prs_in ts g').1 _ _ _ _ _ hr
          have hl1 := hjl2.1
          have hl2 := hjl2.2
          clear hr hjl2
          dsimp only at hS
          have HS2 := Lib.hid hS
          clear hS
          go_upto_region 9999 with (first | ((first | ((with_reducible refine at_dst 50 ?_); go_simp; (have hc := qoperator_eq (ht.ext E.low) h1 h4 HO.out); (first | with_reducible refine hc.mono ?_ | refine hc.mono ?_); clear hc; unfold IPost; rintro e wn ⟨rfl, hx⟩) | ((with_reducible refine at_dst 58 ?_); go_simp; (have hc := qbn_at IHg.out hg h4 (ht.ext E.low) hsm hj1 hd12 HRN.out); (first | with_reducible refine hc.mono ?_ | refine hc.mono ?_); clear hc; unfold QrPost; rw [HR.out]; dsimp only [fltV]; rintro e wn ⟨y, rfl, hy, hfy, hyb, hx⟩; have hf0 := hf; clear hf; have hf := hfy; clear hfy; (try have mhy_8 := hf.away b8.lt); (try have mhy_10 := hf.away b10.lt); (try have mhy_11 := hf.away b11.lt); (try have mhy_13 := hf.away b13.lt); (try replace hf := hf.mono E.size)) | ((with_reducible refine at_dst 65 ?_); (refine wp_rows2 2 ([e, y].flatMap exC).toArray 28 ?_ ?_); (· kernel_rfl); intro X65 wn hX65 bb hx; (try have ⟨n8_65, n65_8⟩ := b8.ne hX65); (try have ⟨n10_65, n65_10⟩ := b10.ne hX65); (try have ⟨n11_65, n65_11⟩ := b11.ne hX65); (try have ⟨n13_65, n65_13⟩ := b13.ne hX65); (try have ⟨n15_65, n65_15⟩ := b15.ne hX65); (try have ⟨n17_65, n65_17⟩ := b17.ne hX65); (try have z65 := Nat.le_trans E.size (Nat.le_of_eq hX65)); (try have mhe_65 := he.notin (Nat.le_of_eq hX65)); (try have mhy_65 := hy.notin (Nat.le_of_eq hX65)); have b65 := Loc.new bb E hX65; clear bb hX65) | ((first | ((with_reducible refine at_store 11 ?_); have bo := b11; refine wp_put bo rfl rfl ?_ ?_ ?_ ?_) | ((with_reducible refine at_store 13 ?_); have bo := b13; refine wp_put bo rfl rfl ?_ ?_ ?_ ?_) | ((with_reducible refine at_store 15 ?_); have bo := b15; refine wp_put bo rfl rfl ?_ ?_ ?_ ?_) | ((with_reducible refine at_store 17 ?_); have bo := b17; refine wp_put bo rfl rfl ?_ ?_ ?_ ?_)); (· kernel_rfl); (· first | rfl | kernel_rfl); (· first | decide | exact Nat.le_refl _ | simp [Act.eval, Value.cells] | (simp [Act.eval, Act.put, Value.cells]; done)); intro wn bn hb; dsimp only [Act.put]; simp only [putA, Act.eval, Value.cells, Nat.reduceAdd, putL, exC_size] at bn; have hbk := hb; have E2 := E.put bo hb; (try replace b8 := b8.but hb (by assumption)); (try replace b10 := b10.but hb (by assumption)); (try replace b11 := b11.but hb (by assumption)); (try replace b13 := b13.but hb (by assumption)); (try replace b15 := b15.but hb (by assumption)); (try replace b17 := b17.but hb (by assumption)); (try replace b65 := b65.but hb (by assumption)); (first | (replace he := he.but hb bo.blk (of_decide_eq_true rfl)) | (replace he := he.but0 hb (by assumption)) | skip); (first | (replace hy := hy.but hb bo.blk (of_decide_eq_true rfl)) | (replace hy := hy.but0 hb (by assumption)) | skip); clear E bo; have E := E2; clear E2; (try replace b11 := b11.re bn); (try replace b13 := b13.re bn); (try replace b15 := b15.re bn); (try replace b17 := b17.re bn); clear bn hb) | ((first | ((with_reducible refine at_dst 15 ?_); go_simp; (generalize hXn : Array.size (World.heap _) = X15); refine new_block hXn ?_; intro wn bb hx; have b15 := Loc.new bb E hXn) | ((with_reducible refine at_dst 17 ?_); go_simp; (generalize hXn : Array.size (World.heap _) = X17); refine new_block hXn ?_; intro wn bb hx; have b17 := Loc.new bb E hXn)); (try have ⟨nn, nm⟩ := b8.ne hXn); (try have ⟨nn, nm⟩ := b10.ne hXn); (try have ⟨nn, nm⟩ := b11.ne hXn); (try have ⟨nn, nm⟩ := b13.ne hXn); (try have ⟨nn, nm⟩ := b15.ne hXn); have zz := Nat.le_trans E.size (Nat.le_of_eq hXn); (try have mm := he.notin (Nat.le_of_eq hXn)); (try have mm := hy.notin (Nat.le_of_eq hXn)); clear bb hXn)); (try replace E := E.ext hx); (try replace b8 := b8.ext hx); (try replace b10 := b10.ext hx); (try replace b11 := b11.ext hx); (try replace b13 := b13.ext hx); (try replace b15 := b15.ext hx); (try replace b17 := b17.ext hx); (try replace he := he.ext hx); (try replace hy := hy.ext hx); (try replace hcE := bcell E.low); (try replace c8 := b8.cf); (try replace c10 := b10.cf); (try replace c11 := b11.cf); (try replace c13 := b13.cf); (try replace c15 := b15.cf); (try replace c17 := b17.cf); (try replace c65 := b65.cf)) | ((with_reducible refine at_dsts [63, 64, 68] ?_ ?_); (· rfl); (refine wp_all (Loc.blk (by assumption)) rfl rfl ?_ ?_ ?_); (· kernel_rfl); (· kernel_rfl)) | (go_at_call 90; ((have hc := qoperator_eq (ht.ext E.low) h1 h4 HO.out); ((with_reducible refine hc.mono ?_)); clear hc); unfold IPost; rintro e9 wn ⟨rfl, hx⟩; (try replace E := E.ext hx); (try replace b8 := b8.ext hx); (try replace b10 := b10.ext hx); (try replace b11 := b11.ext hx); (try replace b13 := b13.ext hx); (try replace he := he.ext hx); (try replace hcE := bcell E.low); (try replace c8 := b8.cf); (try replace c10 := b10.cf); (try replace c11 := b11.cf); (try replace c13 := b13.cf)))
          simp only [Act.put, actL]
          go_roundw
          case rel => exact ⟨nodeX o (some ⟨X65, 0, none⟩) 2 [e, y], 0, (0, 0), l, rfl, E, b8, b10, b11, b13, Lib.hid (.inr ⟨rfl, rfl, nodeX_ok (RRow.blk (xs := [e, y]) exC_len b65.blk (by simp) (show 2 ≤ maxLen by decide)) (oks2 he hy), nodeX_fr z65 (frs2 hf0 hf), ⟨nodeX_away (op := 0) n65_8 (aways2 mhe_8 mhy_8), nodeX_away (op := 0) n65_10 (aways2 mhe_10 mhy_10), nodeX_away (op := 0) n65_11 (aways2 mhe_11 mhy_11), nodeX_away (op := 0) n65_13 (aways2 mhe_13 mhy_13)⟩, g', by omega, by rw [nodeX_bare, List.map_cons, List.map_cons, List.map_nil, hyb]; exact HS2.out, hl2⟩)⟩
          case measure => rw [qLeft_eq (N := ts.length) (j := l) b13, HL.out, if_pos rfl, if_pos trivial]; omega
theorem qpar_zero : PriOk 0 ∧ QbnOk 0 := ⟨fun _ _ _ _ h => absurd (by rw [prs]) h, fun n h1 h5 _ _ _ _ h => absurd (by rw [prs]) h⟩
theorem qpar_all : ∀ f g : Nat, g ≤ f → PriOk g ∧ QbnOk g
 | 0, g, hg => by
   have : g = 0 := by omega
   subst this
   exact qpar_zero
 | f + 1, g, hg => by
   rcases Nat.lt_or_ge f g with h | h
   · have : g = f + 1 := by omega
     subst this
     have hs : PriOk (f + 1) := pri_step (qpar_all f f (Nat.le_refl _)).1 (qpar_all f f (Nat.le_refl _)).2
     refine ⟨hs, fun n h1 h5 ht hp hi hd hne => ?_⟩
     by_cases hn : n = 5
     · subst hn
       exact qbn_five (Lib.hid hs) ht hp hi hd hne
     · exact qbn_four (Lib.hid (qpar_all f f (Nat.le_refl _)).2) (Lib.hid fun g hg => (qpar_all f g hg).2) h1 (by omega) ht hp hi hd hne
   · exact qpar_all f g h
theorem qparse_any (f : Nat) : QbnOk f := (qpar_all f f (Nat.le_refl _)).2
end Go.Proofs.YtbobbbhgdfapjaaGreat
