/- Ht -/
import Derived.Test.YtbobbbhgdfapjaaGreatZB1
import Derived.Test.YtbobbbhgdfapjaaGreatZB2
import Derived.Test.YtbobbbhgdfapjaaGreatZB3
import Derived.Test.YtbobbbhgdfapjaaGreatZB4
import Derived.Test.YtbobbbhgdfapjaaGreatZB5
import Derived.Test.YtbobbbhgdfapjaaGreatZB6
import Derived.Test.YtbobbbhgdfapjaaGreatZB7
import Derived.Test.YtbobbbhgdfapjaaGreatZBkt1
import Derived.Test.YtbobbbhgdfapjaaGreatZB11
import Derived.Test.YtbobbbhgdfapjaaGreatZB12
import Derived.Test.YtbobbbhgdfapjaaGreatZB13
import Derived.Test.YtbobbbhgdfapjaaGreatZB14
import Derived.Test.YtbobbbhgdfapjaaGreatZB15
import Derived.Test.YtbobbbhgdfapjaaGreatZB16
import Derived.Test.YtbobbbhgdfapjaaGreatZB17
import Derived.Test.YtbobbbhgdfapjaaGreatZB18
import Derived.Test.YtbobbbhgdfapjaaGreatZB19
import Derived.Test.YtbobbbhgdfapjaaGreatZB20
import Derived.Test.YtbobbbhgdfapjaaGreatZB21
set_option linter.unusedSimpArgs false
set_option linter.unusedVariables false
namespace Go.Proofs.YtbobbbhgdfapjaaGreat
set_option maxHeartbeats 8000000
set_option maxRecDepth 100000
open Go.RowKit Tk
theorem rId_any {s : ByteArray} {b : Bool} (h : identB s = b) (hs : s.size ≤ maxLen) (w : World) : Calls Tryz.prog 69 #[.string s] w (BPost b w) :=
 (rIdentifier_any s hs w).mono fun e w' he => by obtain ⟨rfl, rfl⟩ := he; exact ⟨by rw [← h]; rfl, Ext.refl _⟩
def QrPost (ts : List Tok) (r : PR) (w : World) (e : Ending) (w' : World) : Prop :=
 match r with
 | .none => False
 | .err k j => e = .returned (.tuple #[.agg exZ, .int .i64 0, fltV k (posAt ts j)]) ∧ Ext w w'
 | .ok x j => ∃ y, e = .returned (.tuple #[.agg (exC y).toArray, .int .i64 j, fltV 0 (0, 0)]) ∧ y.ok w' ∧ y.fr w.heap.size ∧ y.bare = x ∧ Ext w w'
@[reducible] def PriOk (f : Nat) : Prop := ∀ {i d : Nat} {a : Option Addr} {c : Nat} {ts : List Tok} {w : World}, RRow w 4 Tok.cells (.slice a ts.length c) ts → (∀ t ∈ ts, t.text.size ≤ maxLen) → i ≤ ts.length → d ≤ 12 → prs ts f 5 i d ≠ .none →
 Calls Tryz.prog 89 #[.slice a ts.length c, .int .i64 i, .int .i64 d] w (QrPost ts (prs ts f 5 i d) w)
@[reducible] def QbnOk (f : Nat) : Prop := ∀ {i d : Nat} {a : Option Addr} {c : Nat} {ts : List Tok} {w : World} (n : Nat), 1 ≤ n → n ≤ 5 → RRow w 4 Tok.cells (.slice a ts.length c) ts → (∀ t ∈ ts, t.text.size ≤ maxLen) → i ≤ ts.length → d ≤ 12 → prs ts f n i d ≠ .none →
 Calls Tryz.prog 61 #[.slice a ts.length c, .int .i64 i, .int .i64 n, .int .i64 d] w (QrPost ts (prs ts f n i d) w)
theorem qbn_one {f : Nat} (h : QbnOk f) {i d : Nat} {a : Option Addr} {c : Nat} {ts : List Tok} {w : World} (ht : RRow w 4 Tok.cells (.slice a ts.length c) ts) (hs : ∀ t ∈ ts, t.text.size ≤ maxLen) (hi : i + 1 ≤ ts.length) (hd : d + 1 ≤ 12) (hne : prs ts f 1 (i + 1) (d + 1) ≠ .none) :
    Calls Tryz.prog 61 #[.slice a ts.length c, .int .i64 ((i : Int) + 1), .int .i64 1, .int .i64 ((d : Int) + 1)] w (QrPost ts (prs ts f 1 (i + 1) (d + 1)) w) := h 1 (by decide) (by decide) ht hs hi hd hne
theorem qpri_one {f : Nat} (h : PriOk f) {i d : Nat} {a : Option Addr} {c : Nat} {ts : List Tok} {w : World} (ht : RRow w 4 Tok.cells (.slice a ts.length c) ts) (hs : ∀ t ∈ ts, t.text.size ≤ maxLen) (hi : i + 1 ≤ ts.length) (hd : d + 1 ≤ 12) (hne : prs ts f 5 (i + 1) (d + 1) ≠ .none) :
    Calls Tryz.prog 89 #[.slice a ts.length c, .int .i64 ((i : Int) + 1), .int .i64 ((d : Int) + 1)] w (QrPost ts (prs ts f 5 (i + 1) (d + 1)) w) := h ht hs hi hd hne
theorem pri_all {f : Nat} (IHn : Hid (PriOk f)) (IHb : Hid (QbnOk f)) {i d : Nat} {a : Option Addr} {c : Nat} {ts : List Tok} {w : World} (ht : RRow w 4 Tok.cells (.slice a ts.length c) ts) (hsm : ∀ t ∈ ts, t.text.size ≤ maxLen) (hi : i ≤ ts.length) (hd12 : d ≤ 12) (hne : prs ts (f + 1) 5 i d ≠ .none) :
    Calls Tryz.prog 89 #[.slice a ts.length c, .int .i64 i, .int .i64 d] w (QrPost ts (prs ts (f + 1) 5 i d) w) := by
 refine Classical.byCases (p := isM ts i ⟨#[33]⟩ = true) (fun h33 => ?k8p) (fun h33 => ?k8n)
 case' k8p =>
  have n2 := (RRow.lens ht).2
  have hlt := isM_lt h33
  obtain ⟨t, hti, hk4⟩ := isM_kind h33
  have e1 : prs ts (f + 1) 5 i d = if 12 ≤ d then .err 4 i else match prs ts f 5 (i + 1) (d + 1) with | .none => .none | .err c j => .err c j | .ok x j => .ok (opX 2 [x]) j := by
   rw [prs, if_pos rfl, isM_name h33]; dsimp only; rw [if_pos h33]
   first | rfl | (cases prs ts f 5 (i + 1) (d + 1) <;> rfl)
  rw [e1] at hne ⊢
  clear e1
  have H33 := Lib.hid h33
  have H40 : Hid (isM ts i ⟨#[40]⟩ = false) := Lib.hid (isM_two h33 (n := ⟨#[40]⟩) (by decide))
  obtain ⟨g, o, hgo, hg, k0, k1, -, -⟩ := ht.tok hti
  obtain ⟨g1, g2⟩ := kd_f (show ¬ t.kind = 1 by omega)
  clear h33 hti hk4
  subst hgo
  refine Classical.byCases (p := 12 ≤ d) (fun hd => ?k9p) (fun hd => ?k9n)
  case' k9p =>
   rw [if_pos hd]
   clear hne
  case' k9n =>
   rw [if_neg hd] at hne ⊢
   have hd1 : d + 1 ≤ 12 := by omega
   have hi1 : i + 1 ≤ ts.length := hlt
   obtain ⟨r, hr⟩ : ∃ r, prs ts f 5 (i + 1) (d + 1) = r := ⟨_, rfl⟩
   rw [hr] at hne ⊢
   have hrn : prs ts f 5 (i + 1) (d + 1) ≠ .none := by rw [hr]; rintro rfl; exact hne rfl
   have HR := Lib.hid hr
   have HRN := Lib.hid hrn
   cases r
   case' none => exact absurd rfl hne
   case' err k j =>
    obtain ⟨s1, s2⟩ := kd_f (show ¬ k = 0 by rcases (prs_err ts f).1 _ _ _ _ _ hr with h | h <;> omega)
    clear hne hrn hr
    dsimp only
   case' ok x j =>
    clear hne hrn hr
    dsimp only
 case' k8n =>
  refine Classical.byCases (p := isM ts i ⟨#[40]⟩ = true) (fun h40 => ?k10p) (fun h40 => ?k10n)
  case' k10p =>
   clear h33
   have n2 := (RRow.lens ht).2
   have hlt := isM_lt h40
   obtain ⟨t, hti, hk4⟩ := isM_kind h40
   have h33 := isM_two h40 (n := ⟨#[33]⟩) (by decide)
   have e1 : prs ts (f + 1) 5 i d = if 12 ≤ d then .err 4 i else match prs ts f 1 (i + 1) (d + 1) with | .none => .none | .err c j => .err c j | .ok x j => if isM ts j ⟨#[41]⟩ = true then .ok x (j + 1) else .err 9 j := by
    rw [prs, if_pos rfl, isM_name h40]; dsimp only; rw [if_neg (by rw [h33]; decide), if_pos h40]
    first | rfl | (cases prs ts f 1 (i + 1) (d + 1) <;> rfl)
   rw [e1] at hne ⊢
   clear e1
   have H33 := Lib.hid h33
   have H40 := Lib.hid h40
   obtain ⟨g, o, hgo, hg, k0, k1, -, -⟩ := ht.tok hti
   obtain ⟨g1, g2⟩ := kd_f (show ¬ t.kind = 1 by omega)
   clear h33 h40 hti hk4
   subst hgo
   refine Classical.byCases (p := 12 ≤ d) (fun hd => ?k11p) (fun hd => ?k11n)
   case' k11p =>
    rw [if_pos hd]
    clear hne
   case' k11n =>
    rw [if_neg hd] at hne ⊢
    have hd1 : d + 1 ≤ 12 := by omega
    have hi1 : i + 1 ≤ ts.length := hlt
    obtain ⟨r, hr⟩ : ∃ r, prs ts f 1 (i + 1) (d + 1) = r := ⟨_, rfl⟩
    rw [hr] at hne ⊢
    have hrn : prs ts f 1 (i + 1) (d + 1) ≠ .none := by rw [hr]; rintro rfl; exact hne rfl
    have HR := Lib.hid hr
    have HRN := Lib.hid hrn
    cases r
    case' none => exact absurd rfl hne
    case' err k j =>
     obtain ⟨s1, s2⟩ := kd_f (show ¬ k = 0 by rcases (prs_err ts f).1 _ _ _ _ _ hr with h | h <;> omega)
     clear hne hrn hr
     dsimp only
    case' ok x j =>
     have hj2 := ((prs_in ts f).1 _ _ _ _ _ hr).2
     clear hne hrn hr
     dsimp only
     obtain ⟨b, hb⟩ : ∃ b, isM ts j ⟨#[41]⟩ = b := ⟨_, rfl⟩
     rw [hb]
     have H41 := Lib.hid hb
     cases b
     case' false =>
      clear hb
      rw [if_neg (by decide)]
     case' true =>
      have hj3 := isM_lt hb
      clear hb
      rw [if_pos rfl]
  case' k10n =>
   replace h33 : isM ts i ⟨#[33]⟩ = false := by simpa using h33
   replace h40 : isM ts i ⟨#[40]⟩ = false := by simpa using h40
   clear hne
   have n2 := (RRow.lens ht).2
   have e1 : prs ts (f + 1) 5 i d = match nameAt ts i with | some s => .ok (nmX s) (i + 1) | none => .err 9 i := by
    rw [prs, if_pos rfl, h33, h40]
    cases nameAt ts i <;> rfl
   rw [e1]
   clear e1
   have H33 := Lib.hid h33
   have H40 := Lib.hid h40
   clear h33 h40
   refine Classical.byCases (p := i < ts.length) (fun hlt => ?k12p) (fun hlt => ?k12n)
   case' k12p =>
    obtain ⟨t, hti⟩ := at_some hlt
    obtain ⟨g, o, hgo, hg, k0, k1, -, -⟩ := ht.tok hti
    have hsz := hsm t (List.mem_of_getElem? hti)
    subst hgo
    unfold nameAt
    rw [hti]
    dsimp only
    obtain ⟨b, hb⟩ : ∃ b, identB t.text = b := ⟨_, rfl⟩
    rw [hb]
    have HI := Lib.hid hb
    clear hb hti
    refine Classical.byCases (p := t.kind = 1) (fun hk => ?k13p) (fun hk => ?k13n)
    case' k13p =>
     obtain ⟨g1, g2⟩ := kd_t hk
     cases b
     case' false =>
      rw [if_neg (by simp)]
      have HK := Lib.hid hk
      clear hk
     case' true =>
      rw [if_pos ⟨hk, rfl⟩]
      have HK := Lib.hid hk
      clear hk
    case' k13n =>
     obtain ⟨g1, g2⟩ := kd_f hk
     rw [if_neg (fun h => hk h.1)]
     have HK := Lib.hid hk
     clear hk
   case' k12n =>
    have hno : nameAt ts i = none := by unfold nameAt; rw [List.getElem?_eq_none (by omega)]
    rw [hno]
    clear hno
    dsimp only
 all_goals
  go_enter Tryz.func89, Tryz.ntmps89
  have E := Only.refl [] w
  go_upto_region 9999 with (first | ((first | ((with_reducible refine at_dst 47 ?_); go_simp; (have hc := qis_any (ht.ext E.low) i ⟨#[33]⟩); (first | with_reducible refine hc.mono ?_ | refine hc.mono ?_); clear hc; unfold BPost; rw [H33.out]; rintro e wn ⟨rfl, hx⟩) | ((with_reducible refine at_dst 58 ?_); go_simp; (have hc := qfault_any (ht.ext E.low) i 9); (first | with_reducible refine hc.mono ?_ | refine hc.mono ?_); clear hc; unfold FltPost fltV; rintro e wn ⟨rfl, hx⟩) | ((with_reducible refine at_dst 64 ?_); go_simp; (have hc := qfault_any (ht.ext E.low) i 4); (first | with_reducible refine hc.mono ?_ | refine hc.mono ?_); clear hc; unfold FltPost fltV; rintro e wn ⟨rfl, hx⟩) | ((with_reducible refine at_dst 67 ?_); go_simp; (have hc := qis_any (ht.ext E.low) i ⟨#[33]⟩); (first | with_reducible refine hc.mono ?_ | refine hc.mono ?_); clear hc; unfold BPost; rw [H33.out]; rintro e wn ⟨rfl, hx⟩) | ((with_reducible refine at_dst 74 ?_); go_simp; (have hc := qpri_one IHn.out (ht.ext E.low) hsm hi1 hd1 HRN.out); (first | with_reducible refine hc.mono ?_ | refine hc.mono ?_); clear hc; unfold QrPost; rw [HR.out]; dsimp only [fltV]; rintro e wn ⟨rfl, hx⟩) | ((with_reducible refine at_dst 74 ?_); go_simp; (have hc := qpri_one IHn.out (ht.ext E.low) hsm hi1 hd1 HRN.out); (first | with_reducible refine hc.mono ?_ | refine hc.mono ?_); clear hc; unfold QrPost; rw [HR.out]; dsimp only [fltV]; rintro e wn ⟨y, rfl, hy, hf, hyb, hx⟩; (try have mhy_6 := hf.away b6.lt); (try have mhy_8 := hf.away b8.lt); (try replace hf := hf.mono E.size)) | ((with_reducible refine at_dst 84 ?_); (refine wp_rows2 1 (exC y).toArray 28 ?_ ?_); (· kernel_rfl); intro X84 wn hX84 bb hx; (try have ⟨n6_84, n84_6⟩ := b6.ne hX84); (try have ⟨n8_84, n84_8⟩ := b8.ne hX84); (try have ⟨n9_84, n84_9⟩ := b9.ne hX84); (try have ⟨n11_84, n84_11⟩ := b11.ne hX84); (try have z84 := Nat.le_trans E.size (Nat.le_of_eq hX84)); (try have mhy_84 := hy.notin (Nat.le_of_eq hX84)); have b84 := Loc.new bb E hX84; clear bb hX84) | ((with_reducible refine at_dst 94 ?_); go_simp; (have hc := qbn_one IHb.out (ht.ext E.low) hsm hi1 hd1 HRN.out); (first | with_reducible refine hc.mono ?_ | refine hc.mono ?_); clear hc; unfold QrPost; rw [HR.out]; dsimp only [fltV]; rintro e wn ⟨rfl, hx⟩) | ((with_reducible refine at_dst 94 ?_); go_simp; (have hc := qbn_one IHb.out (ht.ext E.low) hsm hi1 hd1 HRN.out); (first | with_reducible refine hc.mono ?_ | refine hc.mono ?_); clear hc; unfold QrPost; rw [HR.out]; dsimp only [fltV]; rintro e wn ⟨y, rfl, hy, hf, hyb, hx⟩; (try have mhy_6 := hf.away b6.lt); (try have mhy_8 := hf.away b8.lt); (try replace hf := hf.mono E.size)) | ((with_reducible refine at_dst 105 ?_); go_simp; (have hc := qis_any (ht.ext E.low) j ⟨#[41]⟩); (first | with_reducible refine hc.mono ?_ | refine hc.mono ?_); clear hc; unfold BPost; rw [H41.out]; rintro e wn ⟨rfl, hx⟩) | ((with_reducible refine at_dst 110 ?_); go_simp; (have hc := qfault_any (ht.ext E.low) j 9); (first | with_reducible refine hc.mono ?_ | refine hc.mono ?_); clear hc; unfold FltPost fltV; rintro e wn ⟨rfl, hx⟩) | ((with_reducible refine at_reg 10 ?_); (refine Pn.wp_region_o (id := 10) [X6] (fun _ _ _ => False) [0, 2, 3, 0, 0] [0, 1, 2, 3, 4] mixed ?_ ?_ ?_); (· decide +kernel); (· exact fun _ _ _ h => h.elim); intro K hK wn hx; dsimp only [pickL, List.getElem?_cons_succ, List.getElem?_cons_zero]) | ((with_reducible refine at_reg 14 ?_); (refine Pn.wp_region_o (id := 14) [X6] (fun _ _ _ => False) [0, 2, 3, 0, 0] [0, 1, 2, 3, 4] mixed ?_ ?_ ?_); (· decide +kernel); (· exact fun _ _ _ h => h.elim); intro K hK wn hx; dsimp only [pickL, List.getElem?_cons_succ, List.getElem?_cons_zero]) | ((first | ((with_reducible refine at_store 6 ?_); have bo := b6; refine wp_put bo rfl rfl ?_ ?_ ?_ ?_) | ((with_reducible refine at_store 8 ?_); have bo := b8; refine wp_put bo rfl rfl ?_ ?_ ?_ ?_) | ((with_reducible refine at_store 9 ?_); have bo := b9; refine wp_put bo rfl rfl ?_ ?_ ?_ ?_) | ((with_reducible refine at_store 11 ?_); have bo := b11; refine wp_put bo rfl rfl ?_ ?_ ?_ ?_) | ((with_reducible refine at_store 12 ?_); have bo := b12; refine wp_put bo rfl rfl ?_ ?_ ?_ ?_) | ((with_reducible refine at_store 14 ?_); have bo := b14; refine wp_put bo rfl rfl ?_ ?_ ?_ ?_)); (· kernel_rfl); (· first | rfl | kernel_rfl); (· first | decide | exact Nat.le_refl _ | simp [Act.eval, Value.cells] | (simp [Act.eval, Act.put, Value.cells]; done)); intro wn bn hb; dsimp only [Act.put]; simp only [putA, Act.eval, Value.cells, Nat.reduceAdd, putL, exC_size] at bn; have hbk := hb; have E2 := E.put bo hb; (try replace b6 := b6.but hb (by assumption)); (try replace b8 := b8.but hb (by assumption)); (try replace b9 := b9.but hb (by assumption)); (try replace b11 := b11.but hb (by assumption)); (try replace b12 := b12.but hb (by assumption)); (try replace b14 := b14.but hb (by assumption)); (try replace b40 := b40.but hb (by assumption)); (try replace b84 := b84.but hb (by assumption)); (first | (replace hy := hy.but hb bo.blk (of_decide_eq_true rfl)) | (replace hy := hy.but0 hb (by assumption)) | skip); clear E bo; have E := E2; clear E2; (try replace b6 := b6.re bn); (try replace b8 := b8.re bn); (try replace b9 := b9.re bn); (try replace b11 := b11.re bn); (try replace b12 := b12.re bn); (try replace b14 := b14.re bn); clear bn hb) | ((first | ((with_reducible refine at_dst 6 ?_); go_simp; (generalize hXn : Array.size (World.heap _) = X6); refine new_block hXn ?_; intro wn bb hx; have b6 := Loc.new bb E hXn) | ((with_reducible refine at_dst 8 ?_); go_simp; (generalize hXn : Array.size (World.heap _) = X8); refine new_block hXn ?_; intro wn bb hx; (try have ⟨n6_8, n8_6⟩ := b6.ne hXn); have b8 := Loc.new bb E hXn) | ((with_reducible refine at_dst 40 ?_); go_simp; (generalize hXn : Array.size (World.heap _) = X40); refine new_block hXn ?_; intro wn bb hx; (try have z40 := Nat.le_trans E.size (Nat.le_of_eq hXn)); have b40 := Loc.new bb E hXn) | ((with_reducible refine at_dst 9 ?_); go_simp; (generalize hXn : Array.size (World.heap _) = X9); refine new_block hXn ?_; intro wn bb hx; (try have ⟨n6_9, n9_6⟩ := b6.ne hXn); have b9 := Loc.new bb E hXn) | ((with_reducible refine at_dst 11 ?_); go_simp; (generalize hXn : Array.size (World.heap _) = X11); refine new_block hXn ?_; intro wn bb hx; (try have ⟨n6_11, n11_6⟩ := b6.ne hXn); have b11 := Loc.new bb E hXn) | ((with_reducible refine at_dst 12 ?_); go_simp; (generalize hXn : Array.size (World.heap _) = X12); refine new_block hXn ?_; intro wn bb hx; (try have ⟨n6_12, n12_6⟩ := b6.ne hXn); have b12 := Loc.new bb E hXn) | ((with_reducible refine at_dst 14 ?_); go_simp; (generalize hXn : Array.size (World.heap _) = X14); refine new_block hXn ?_; intro wn bb hx; (try have ⟨n6_14, n14_6⟩ := b6.ne hXn); have b14 := Loc.new bb E hXn)); (try have ⟨nn, nm⟩ := b6.ne hXn); (try have ⟨nn, nm⟩ := b8.ne hXn); (try have ⟨nn, nm⟩ := b9.ne hXn); (try have ⟨nn, nm⟩ := b12.ne hXn); have zz := Nat.le_trans E.size (Nat.le_of_eq hXn); (try have mm := hy.notin (Nat.le_of_eq hXn)); clear bb hXn)); (try replace E := E.ext hx); (try replace b6 := b6.ext hx); (try replace b8 := b8.ext hx); (try replace b9 := b9.ext hx); (try replace b11 := b11.ext hx); (try replace b12 := b12.ext hx); (try replace b14 := b14.ext hx); (try replace hy := hy.ext hx); (try replace hcE := bcell E.low); (try replace c6 := b6.cf); (try replace c8 := b8.cf); (try replace c9 := b9.cf); (try replace c11 := b11.cf); (try replace c12 := b12.cf); (try replace c14 := b14.cf); (try replace c40 := b40.cf); (try replace c84 := b84.cf)) | ((with_reducible refine at_dsts [83, 111] ?_ ?_); (· rfl); (refine wp_all (Loc.blk (by assumption)) rfl rfl ?_ ?_ ?_); (· kernel_rfl); (· kernel_rfl)) | ((with_reducible refine Pn.at_tag 0 ?_); (first | ((with_reducible refine Pn.wpTag_q ?_ ?_ ?_); rfl; rfl; intro _ _) | ((with_reducible refine Pn.wpTag_w ?_ ?_ ?_); rfl; rfl; intro _ _) | ((with_reducible refine Pn.wpTag_no ?_ ?_); (· first | rfl | (go_simp; done))) | ((with_reducible refine Pn.wpTag_s ?_ ?_); rfl; intro _ _; go_simp))) | ((with_reducible refine Pn.at_tag 2 ?_); (first | ((with_reducible refine Pn.wpTag_no ?_ ?_); (· first | rfl | (go_simp; done))) | (apply Pn.wpTag_2; (· rfl); (· first | rfl | go_simp); (· intro wq hq; (try replace c8 := (b8.only hq (not_in1 n8_6)).cf); (try replace c9 := (b9.only hq (not_in1 n9_6)).cf); (try replace c11 := (b11.only hq (not_in1 n11_6)).cf); (try replace c12 := (b12.only hq (not_in1 n12_6)).cf); (try replace c14 := (b14.only hq (not_in1 n14_6)).cf); go_simp <;> rfl); (try simp only [Act.put, actL])))) | ((with_reducible refine Pn.at_tag 3 ?_); (first | ((with_reducible refine Pn.wpTag_no ?_ ?_); (· first | rfl | (go_simp; done))) | ((refine Pn.wpTag_3 ?_ ?_ (fun K2 hK2 => ?_)); (· rfl); (· first | rfl | go_simp)))) | ((with_reducible refine at_ando ?_ ?_); (· first | exact Only.of_but hbk (by simp) | exact hxo | exact Only.of_below hx | exact Only.refl _ _)) | ((with_reducible refine Pn.at_tagn ?_); (with_reducible refine Pn.wpTag_nil ?_)) | (go_at_call 131; ((have hc := qis_any (ht.ext E.low) i ⟨#[40]⟩); ((with_reducible refine hc.mono ?_)); clear hc); unfold BPost; rw [H40.out]; rintro e wn ⟨rfl, hx⟩; (try replace E := E.ext hx); (try replace b6 := b6.ext hx); (try replace b8 := b8.ext hx); (try replace hcE := bcell E.low); (try replace c6 := b6.cf); (try replace c8 := b8.cf)) | (go_at_call 69; ((have hc := rId_any HI.out hsz wn); ((with_reducible refine hc.mono ?_)); clear hc); unfold BPost; rintro e wn ⟨rfl, hx⟩; (try replace E := E.ext hx); (try replace b6 := b6.ext hx); (try replace b8 := b8.ext hx); (try replace hcE := bcell E.low); (try replace c6 := b6.cf); (try replace c8 := b8.cf)))
  first
   | (refine bodyPost_ret (v := .tuple #[.agg exZ, .int .i64 0, fltV 4 (posAt ts i)]) (by simp [results, Tryz.f89, go_sem, c6, c8]; first | rfl | exact ⟨rfl, rfl⟩) rfl ⟨rfl, E.low⟩)
   | (refine bodyPost_ret (v := .tuple #[.agg exZ, .int .i64 0, fltV k (posAt ts j)]) (by simp [results, Tryz.f89, go_sem, c6, c8]; first | rfl | exact ⟨rfl, rfl⟩) rfl ⟨rfl, E.low⟩)
   | (refine bodyPost_ret (v := .tuple #[.agg (exC (nodeX 2 (some ⟨X84, 0, none⟩) 1 [y])).toArray, .int .i64 j, fltV 0 (0, 0)]) (by simp [results, Tryz.f89, go_sem, c6, c8]; first | rfl | exact ⟨rfl, rfl⟩) rfl ⟨_, rfl, nodeX_ok (RRow.blk (xs := [y]) exC_len b84.blk (by simp) (show 1 ≤ maxLen by decide)) (oks1 hy), nodeX_fr z84 (frs1 hf), ?_, E.low⟩
      rw [nodeX_bare, List.map_cons, List.map_nil, hyb])
   | (refine bodyPost_ret (v := .tuple #[.agg exZ, .int .i64 0, fltV 9 (posAt ts j)]) (by simp [results, Tryz.f89, go_sem, c6, c8]; first | rfl | exact ⟨rfl, rfl⟩) rfl ⟨rfl, E.low⟩)
   | (refine bodyPost_ret (v := .tuple #[.agg (exC y).toArray, .int .i64 ((j : Int) + 1), fltV 0 (0, 0)]) (by simp [results, Tryz.f89, go_sem, c6, c8]; first | rfl | exact ⟨rfl, rfl⟩) rfl ⟨_, rfl, hy, hf, hyb, E.low⟩)
   | (refine bodyPost_ret (v := .tuple #[.agg exZ, .int .i64 0, fltV 9 (posAt ts i)]) (by simp [results, Tryz.f89, go_sem, c6, c8]; first | rfl | exact ⟨rfl, rfl⟩) rfl ⟨rfl, E.low⟩)
   | (refine bodyPost_ret (v := .tuple #[.agg (exC (nameX X40 t.text)).toArray, .int .i64 ((i : Int) + 1), fltV 0 (0, 0)]) (by simp [results, Tryz.f89, go_sem, c6, c8]; first | rfl | exact ⟨rfl, rfl⟩) rfl ⟨_, rfl, nameX_ok b40.blk, nameX_fr z40, nameX_bare _ _, E.low⟩)
theorem pri_step {f : Nat} (IHn : PriOk f) (IHb : QbnOk f) : PriOk (f + 1) := fun ht hs hi hd hne => pri_all (Lib.hid IHn) (Lib.hid IHb) ht hs hi hd hne
end Go.Proofs.YtbobbbhgdfapjaaGreat
