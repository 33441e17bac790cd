/- Ho -/
import Derived.Test.YtbobbbhgdfapjaaZR1
import Derived.Test.YtbobbbhgdfapjaaZR2
import Derived.Test.YtbobbbhgdfapjaaZR3
import Derived.Test.YtbobbbhgdfapjaaZR4
import Derived.Test.YtbobbbhgdfapjaaZR5
import Derived.Test.YtbobbbhgdfapjaaZR6
import Derived.Test.YtbobbbhgdfapjaaZR7
import Derived.Test.YtbobbbhgdfapjaaZR9
import Derived.Test.YtbobbbhgdfapjaaZR10
import Derived.Test.YtbobbbhgdfapjaaZR11
import Derived.Test.YtbobbbhgdfapjaaZR12
import Derived.Test.YtbobbbhgdfapjaaZR13
import Derived.Test.YtbobbbhgdfapjaaZR14
import Derived.Test.YtbobbbhgdfapjaaZR15
import Derived.Test.YtbobbbhgdfapjaaZR16
import Derived.Test.YtbobbbhgdfapjaaZR17
set_option linter.unusedSimpArgs false
set_option linter.unusedVariables false
namespace Go.Proofs.Ytbobbbhgdfapjaa
set_option maxHeartbeats 8000000
set_option maxRecDepth 100000
open Go.RowKit Tk
theorem tId_any {s : ByteArray} {b : Bool} (h : identB s = b) (hs : s.size ≤ maxLen) (w : World) : Calls Try.prog 81 #[.string s] w (BPost b w) :=
 (tIdentifier_any s hs w).mono fun e w' he => by obtain ⟨rfl, rfl⟩ := he; exact ⟨by rw [← h]; rfl, Ext.refl _⟩
theorem bin_one {f : Nat} (h : BinOk f) {p i d : Nat} {a : Option Addr} {c : Nat} {ts : List Tok} {w : World} (ht : TkAt p w a c ts) (hp : Blk w p 89 (parC a c ts i d)) (hi : i ≤ ts.length) (hd : d ≤ 12) (hne : prs ts f 1 i d ≠ .none) :
    Calls Try.prog 42 #[.pointer (some ⟨p, 0, none⟩), .int .i64 1] w (ParPost p a c ts d (prs ts f 1 i d) w) := h 1 (by decide) (by decide) ht hp hi hd hne
theorem not_neg {f : Nat} (IHn : Hid (NotOk f)) {p i d : Nat} {a : Option Addr} {c : Nat} {ts : List Tok} {w : World} (ht : TkAt p w a c ts) (hp : Blk w p 89 (parC a c ts i d)) (hi : i ≤ ts.length) (hd12 : d ≤ 12) (h33 : isM ts i ⟨#[33]⟩ = true) (hne : prs ts (f + 1) 5 i d ≠ .none) :
    Calls Try.prog 63 #[.pointer (some ⟨p, 0, none⟩)] w (ParPost p a c ts d (prs ts (f + 1) 5 i d) w) := by
 have n2 := Tk.lens ht
 have hil := isM_lt h33
 have e1 : prs ts (f + 1) 5 i d = if 12 ≤ d then .err 4 i else match prs ts f 5 (i + 1) (d + 1) with | .none => .none | .err c j => .err c j | .ok x j => .ok (opX 2 [x]) j := by
  rw [prs, if_pos rfl, isM_name h33]; dsimp only; rw [if_pos h33]
  first | rfl | (cases prs ts f 5 (i + 1) (d + 1) <;> rfl)
 rw [e1] at hne ⊢
 clear e1
 have H33 := Lib.hid h33
 clear h33
 have bp : Loc [p] w w p 89 (parC a c ts i d) := ⟨hp, .inl (by simp)⟩
 have cp := hp.cell
 have fp := hp.free
 refine Classical.byCases (p := 12 ≤ d) (fun hd => ?k1p) (fun hd => ?k1n)
 case' k1p =>
  rw [if_pos hd]
  clear hne
 case' k1n =>
  rw [if_neg hd] at hne ⊢
  have hd' : d < 12 := by omega
  have hi1 : i + 1 ≤ ts.length := hil
  have hi9 : i < 9223372036854775807 := by omega
  obtain ⟨r, hr⟩ : ∃ r, prs ts f 5 (i + 1) (d + 1) = r := ⟨_, rfl⟩
  rw [hr] at hne ⊢
  have hrn : prs ts f 5 (i + 1) (d + 1) ≠ .none := by rw [hr]; rintro rfl; exact hne rfl
  have HR := Lib.hid hr
  have HRN := Lib.hid hrn
  cases r
  case' none => exact absurd rfl hne
  case' err k j =>
   clear hne hrn hr
   dsimp only
  case' ok x j =>
   have hjl := (prs_in ts f).1 _ _ _ _ _ hr
   have hj1 := hjl.1
   have hj2 := hjl.2
   clear hne hrn hr hjl
   dsimp only
 all_goals
  go_enter Try.func63, Try.ntmps63
  have E := Only.refl [p] w
  go_upto_region 9999 with (first | ((first | ((with_reducible refine at_dst 7 ?_); go_simp; (have hc := bis_any (ht.only E) bp.blk ⟨#[33]⟩); (first | with_reducible refine hc.mono ?_ | refine hc.mono ?_); clear hc; unfold BPost; rw [H33.out]; rintro e wn ⟨rfl, hx⟩) | ((with_reducible refine at_dst 9 ?_); go_simp; (have hc := benter_bad (ht.only E) bp.blk hd); (first | with_reducible refine hc.mono ?_ | refine hc.mono ?_); clear hc; unfold FailPost; rintro e wn ⟨rfl, hx⟩) | ((with_reducible refine at_dst 9 ?_); go_simp; (have hc := benter_ok bp.blk hd' hi9); (first | with_reducible refine hc.mono ?_ | refine hc.mono ?_); clear hc; unfold EnterPost; rintro e wn ⟨rfl, bq, hx⟩; have hxo := hx; (try replace b2 := b2.onlyT bp.blk hx (of_decide_eq_true rfl)); replace E := E.more hx (fun x hx => by rw [List.mem_singleton.1 hx]; exact bp.may); (try (replace bp := Loc.rebl bp bq; clear bq)); clear hx) | ((with_reducible refine at_dst 11 ?_); go_simp; (have hc := IHn.out (ht.only E) bp.blk hi1 (Nat.succ_le_of_lt hd') HRN.out); (first | with_reducible refine hc.mono ?_ | refine hc.mono ?_); clear hc; unfold ParPost; rw [HR.out]; rintro e wn ⟨rfl, hx⟩; have hxo := hx; (try replace b2 := b2.onlyT bp.blk hx (of_decide_eq_true rfl)); replace E := E.more hx (fun x hx => by rw [List.mem_singleton.1 hx]; exact bp.may); clear hx) | ((with_reducible refine at_dst 11 ?_); go_simp; (have hc := IHn.out (ht.only E) bp.blk hi1 (Nat.succ_le_of_lt hd') HRN.out); (first | with_reducible refine hc.mono ?_ | refine hc.mono ?_); clear hc; unfold ParPost; rw [HR.out]; rintro e wn ⟨y, rfl, hy, hf, hyb, bq, hx⟩; replace hy : Ex.okp p wn y := ⟨hy, hf.away bp.lt⟩; (try have mhy_2 := hf.away b2.lt); replace hf := hf.mono E.size; have hxo := hx; (try replace b2 := b2.onlyT bp.blk hx (of_decide_eq_true rfl)); replace E := E.more hx (fun x hx => by rw [List.mem_singleton.1 hx]; exact bp.may); (try (replace bp := Loc.rebl bp bq; clear bq)); clear hx) | ((with_reducible refine at_dst 12 ?_); (refine wp_rows2 1 (exC y).toArray 28 ?_ ?_); (· kernel_rfl); intro X12 wn hX12 bb hx; (try have ⟨n2_12, n12_2⟩ := b2.ne hX12); (try have z12 := Nat.le_trans E.size (Nat.le_of_eq hX12)); (try have mhy_12 := hy.notin (Nat.le_of_eq hX12)); have b12 := Loc.new bb E hX12; clear bb hX12) | ((first | ((with_reducible refine at_store 3 ?_); have bo := b3; refine wp_put bo rfl rfl ?_ ?_ ?_ ?_) | ((with_reducible refine at_store 20 ?_); have bo := bp; refine wp_put bo rfl rfl ?_ ?_ ?_ ?_) | ((with_reducible refine at_store 2 ?_); have bo := b2; refine wp_put bo rfl rfl ?_ ?_ ?_ ?_)); (· kernel_rfl); (· first | rfl | kernel_rfl); (· first | decide | exact Nat.le_refl _ | simp [Act.eval, Value.cells] | (simp [Act.eval, Act.put, Value.cells]; done)); intro wn bn hb; dsimp only [Act.put]; simp only [putA, Act.eval, Value.cells, Nat.reduceAdd, putL, exC_size] at bn; have E2 := E.put bo hb; (first | (replace b2 := b2.but hb (by assumption)) | (replace b2 := b2.but hb (b2.blk.ne_ bo.blk (of_decide_eq_true rfl))) | skip); (first | (replace b3 := b3.but hb (b3.blk.ne_ bo.blk (of_decide_eq_true rfl))) | (replace b3 := b3.but hb (by assumption)) | skip); (first | (replace b12 := b12.but hb (by assumption)) | (replace b12 := b12.but hb (b12.blk.ne_ bo.blk (of_decide_eq_true rfl))) | skip); (first | (replace bp := bp.but hb (bp.blk.ne_ bo.blk (of_decide_eq_true rfl))) | (replace bp := bp.but0 hb (by assumption)) | skip); (first | (replace hy := hy.but hb bo.blk (of_decide_eq_true rfl)) | (replace hy := hy.but0 hb (by assumption)) | (replace hy := hy.butB hb bo.blk) | (replace hy := hy.butb hb) | (replace hy := hy.but hb (hy.blk.ne_ bo.blk (of_decide_eq_true rfl))) | skip); clear E bo; have E := E2; clear E2; (try replace b3 := b3.re bn); (try replace bp := bp.re bn); (try replace b2 := b2.re bn); clear bn hb) | ((first | ((with_reducible refine at_dst 2 ?_); go_simp; (generalize hXn : Array.size (World.heap _) = X2); refine new_block hXn ?_; intro wn bb hx; have b2 := Loc.new bb E hXn) | ((with_reducible refine at_dst 3 ?_); go_simp; (generalize hXn : Array.size (World.heap _) = X3); refine new_block hXn ?_; intro wn bb hx; have b3 := Loc.new bb E hXn)); (try have ⟨nn, nm⟩ := b2.ne hXn); (try have ⟨nn, nm⟩ := b12.ne hXn); have zz := Nat.le_trans E.size (Nat.le_of_eq hXn); (try have mm := hy.notin (Nat.le_of_eq hXn)); clear bb hXn)); (try replace E := E.ext hx); (try replace b2 := b2.ext hx); (try replace b12 := b12.ext hx); (try replace bp := bp.ext hx); (try replace hy := hy.ext hx); (try replace c2 := b2.cf); (try replace c3 := b3.cf); (try replace c12 := b12.cf); (try replace cp := (bp).cf); (try clear hcP hfP); (try (have hcg := pcell E; obtain ⟨hcP, hfP⟩ := hcg))) | ((with_reducible refine at_dst 21 ?_); (refine wp_all b3.blk rfl rfl ?_ ?_ ?_); (· kernel_rfl); (· kernel_rfl)))
  first
   | (exact ⟨rfl, rfl, E⟩)
   | (refine bodyPost_ret (v := .agg (exC (nodeX 2 (some ⟨X12, 0, none⟩) 1 [y])).toArray) (by simp [results, Try.f63, go_sem, c2]; rfl) rfl ⟨_, rfl, nodeX_ok (RRow.blk (xs := [y]) exC_len b12.blk (by simp) (show 1 ≤ maxLen by decide)) (oks1 hy.ok), nodeX_fr z12 (frs1 hf), ?_, bp.blk, E⟩
      rw [nodeX_bare, List.map_cons, List.map_nil, hyb])
theorem not_par {f : Nat} (IHb : Hid (BinOk f)) {p i d : Nat} {a : Option Addr} {c : Nat} {ts : List Tok} {w : World} (ht : TkAt p w a c ts) (hp : Blk w p 89 (parC a c ts i d)) (hi : i ≤ ts.length) (hd12 : d ≤ 12) (h40 : isM ts i ⟨#[40]⟩ = true) (hne : prs ts (f + 1) 5 i d ≠ .none) :
    Calls Try.prog 63 #[.pointer (some ⟨p, 0, none⟩)] w (ParPost p a c ts d (prs ts (f + 1) 5 i d) w) := by
 have n2 := Tk.lens ht
 have hil := isM_lt h40
 have h33 := isM_two h40 (n := ⟨#[33]⟩) (by decide)
 have e1 : prs ts (f + 1) 5 i d = if 12 ≤ d then .err 4 i else match prs ts f 1 (i + 1) (d + 1) with | .none => .none | .err c j => .err c j | .ok x j => if isM ts j ⟨#[41]⟩ = true then .ok x (j + 1) else .err 9 j := by
  rw [prs, if_pos rfl, isM_name h40]; dsimp only; rw [if_neg (by rw [h33]; decide), if_pos h40]
  first | rfl | (cases prs ts f 1 (i + 1) (d + 1) <;> rfl)
 rw [e1] at hne ⊢
 clear e1
 have H33 := Lib.hid h33
 have H40 := Lib.hid h40
 clear h33 h40
 have bp : Loc [p] w w p 89 (parC a c ts i d) := ⟨hp, .inl (by simp)⟩
 have cp := hp.cell
 have fp := hp.free
 refine Classical.byCases (p := 12 ≤ d) (fun hd => ?k2p) (fun hd => ?k2n)
 case' k2p =>
  rw [if_pos hd]
  clear hne
 case' k2n =>
  rw [if_neg hd] at hne ⊢
  have hd' : d < 12 := by omega
  have hi1 : i + 1 ≤ ts.length := hil
  have hi9 : i < 9223372036854775807 := by omega
  obtain ⟨r, hr⟩ : ∃ r, prs ts f 1 (i + 1) (d + 1) = r := ⟨_, rfl⟩
  rw [hr] at hne ⊢
  have hrn : prs ts f 1 (i + 1) (d + 1) ≠ .none := by rw [hr]; rintro rfl; exact hne rfl
  have HR := Lib.hid hr
  have HRN := Lib.hid hrn
  cases r
  case' none => exact absurd rfl hne
  case' err k j =>
   clear hne hrn hr
   dsimp only
  case' ok x j =>
   have hjl := (prs_in ts f).1 _ _ _ _ _ hr
   have hj1 := hjl.1
   have hj2 := hjl.2
   clear hne hrn hr hjl
   dsimp only
   obtain ⟨b, hb⟩ : ∃ b, isM ts j ⟨#[41]⟩ = b := ⟨_, rfl⟩
   rw [hb]
   have H41 := Lib.hid hb
   cases b
   case' false =>
    clear hb
    rw [if_neg (by decide)]
   case' true =>
    have hj3 := isM_lt hb
    clear hb
    rw [if_pos rfl]
 all_goals
  go_enter Try.func63, Try.ntmps63
  have E := Only.refl [p] w
  go_upto_region 9999 with (first | ((first | ((with_reducible refine at_dst 7 ?_); go_simp; (have hc := bis_any (ht.only E) bp.blk ⟨#[33]⟩); (first | with_reducible refine hc.mono ?_ | refine hc.mono ?_); clear hc; unfold BPost; rw [H33.out]; rintro e wn ⟨rfl, hx⟩) | ((with_reducible refine at_dst 24 ?_); go_simp; (have hc := bis_any (ht.only E) bp.blk ⟨#[40]⟩); (first | with_reducible refine hc.mono ?_ | refine hc.mono ?_); clear hc; unfold BPost; rw [H40.out]; rintro e wn ⟨rfl, hx⟩) | ((with_reducible refine at_dst 26 ?_); go_simp; (have hc := benter_bad (ht.only E) bp.blk hd); (first | with_reducible refine hc.mono ?_ | refine hc.mono ?_); clear hc; unfold FailPost; rintro e wn ⟨rfl, hx⟩) | ((with_reducible refine at_dst 26 ?_); go_simp; (have hc := benter_ok bp.blk hd' hi9); (first | with_reducible refine hc.mono ?_ | refine hc.mono ?_); clear hc; unfold EnterPost; rintro e wn ⟨rfl, bq, hx⟩; have hxo := hx; (try replace b2 := b2.onlyT bp.blk hx (of_decide_eq_true rfl)); replace E := E.more hx (fun x hx => by rw [List.mem_singleton.1 hx]; exact bp.may); (try (replace bp := Loc.rebl bp bq; clear bq)); clear hx) | ((with_reducible refine at_dst 28 ?_); go_simp; (have hc := bin_one IHb.out (ht.only E) bp.blk hi1 (Nat.succ_le_of_lt hd') HRN.out); (first | with_reducible refine hc.mono ?_ | refine hc.mono ?_); clear hc; unfold ParPost; rw [HR.out]; rintro e wn ⟨rfl, hx⟩; have hxo := hx; (try replace b2 := b2.onlyT bp.blk hx (of_decide_eq_true rfl)); replace E := E.more hx (fun x hx => by rw [List.mem_singleton.1 hx]; exact bp.may); clear hx) | ((with_reducible refine at_dst 28 ?_); go_simp; (have hc := bin_one IHb.out (ht.only E) bp.blk hi1 (Nat.succ_le_of_lt hd') HRN.out); (first | with_reducible refine hc.mono ?_ | refine hc.mono ?_); clear hc; unfold ParPost; rw [HR.out]; rintro e wn ⟨y, rfl, hy, hf, hyb, bq, hx⟩; replace hy : Ex.okp p wn y := ⟨hy, hf.away bp.lt⟩; (try have mhy_2 := hf.away b2.lt); replace hf := hf.mono E.size; have hxo := hx; (try replace b2 := b2.onlyT bp.blk hx (of_decide_eq_true rfl)); replace E := E.more hx (fun x hx => by rw [List.mem_singleton.1 hx]; exact bp.may); (try (replace bp := Loc.rebl bp bq; clear bq)); clear hx) | ((with_reducible refine at_dst 30 ?_); go_simp; (have hc := bis_any (ht.only E) bp.blk ⟨#[41]⟩); (first | with_reducible refine hc.mono ?_ | refine hc.mono ?_); clear hc; unfold BPost; rw [H41.out]; rintro e wn ⟨rfl, hx⟩) | ((with_reducible refine at_dst 33 ?_); go_simp; (have hc := bfail_any (ht.only E) bp.blk 9); (first | with_reducible refine hc.mono ?_ | refine hc.mono ?_); clear hc; unfold FailPost; rintro e wn ⟨rfl, hx⟩) | ((first | ((with_reducible refine at_store 2 ?_); have bo := b2; refine wp_put bo rfl rfl ?_ ?_ ?_ ?_) | ((with_reducible refine at_store 4 ?_); have bo := b4; refine wp_put bo rfl rfl ?_ ?_ ?_ ?_) | ((first | (with_reducible refine at_store 40 ?_) | (with_reducible refine at_store 47 ?_)); have bo := bp; refine wp_put bo rfl rfl ?_ ?_ ?_ ?_)); (· kernel_rfl); (· first | rfl | kernel_rfl); (· first | decide | exact Nat.le_refl _ | simp [Act.eval, Value.cells] | (simp [Act.eval, Act.put, Value.cells]; done)); intro wn bn hb; dsimp only [Act.put]; simp only [putA, Act.eval, Value.cells, Nat.reduceAdd, putL, exC_size] at bn; have E2 := E.put bo hb; (first | (replace b2 := b2.but hb (by assumption)) | (replace b2 := b2.but hb (b2.blk.ne_ bo.blk (of_decide_eq_true rfl))) | skip); (first | (replace b4 := b4.but hb (by assumption)) | (replace b4 := b4.but hb (b4.blk.ne_ bo.blk (of_decide_eq_true rfl))) | skip); (first | (replace bp := bp.but hb (bp.blk.ne_ bo.blk (of_decide_eq_true rfl))) | (replace bp := bp.but0 hb (by assumption)) | skip); (first | (replace hy := hy.but hb bo.blk (of_decide_eq_true rfl)) | (replace hy := hy.but0 hb (by assumption)) | (replace hy := hy.butB hb bo.blk) | (replace hy := hy.butb hb) | (replace hy := hy.but hb (hy.blk.ne_ bo.blk (of_decide_eq_true rfl))) | skip); clear E bo; have E := E2; clear E2; (try replace b2 := b2.re bn); (try replace b4 := b4.re bn); (try replace bp := bp.re bn); clear bn hb) | ((first | ((with_reducible refine at_dst 2 ?_); go_simp; (generalize hXn : Array.size (World.heap _) = X2); refine new_block hXn ?_; intro wn bb hx; have b2 := Loc.new bb E hXn) | ((with_reducible refine at_dst 4 ?_); go_simp; (generalize hXn : Array.size (World.heap _) = X4); refine new_block hXn ?_; intro wn bb hx; have b4 := Loc.new bb E hXn)); (try have ⟨nn, nm⟩ := b2.ne hXn); have zz := Nat.le_trans E.size (Nat.le_of_eq hXn); (try have mm := hy.notin (Nat.le_of_eq hXn)); clear bb hXn)); (try replace E := E.ext hx); (try replace b2 := b2.ext hx); (try replace b4 := b4.ext hx); (try replace bp := bp.ext hx); (try replace hy := hy.ext hx); (try replace c2 := b2.cf); (try replace c4 := b4.cf); (try replace cp := (bp).cf); (try clear hcP hfP); (try (have hcg := pcell E; obtain ⟨hcP, hfP⟩ := hcg))) | ((with_reducible refine at_dst 48 ?_); (refine wp_all b4.blk rfl rfl ?_ ?_ ?_); (· kernel_rfl); (· kernel_rfl)))
  first
   | (exact ⟨rfl, rfl, E⟩)
   | (refine bodyPost_ret (v := .agg (exC y).toArray) (by simp [results, Try.f63, go_sem, c2]; rfl) rfl ⟨_, rfl, hy.ok, hf, hyb, bp.blk, E⟩)
theorem not_name {f : Nat} {p i d : Nat} {a : Option Addr} {c : Nat} {ts : List Tok} {w : World} (ht : TkAt p w a c ts) (hp : Blk w p 89 (parC a c ts i d)) (hi : i ≤ ts.length) (hd12 : d ≤ 12) (h33 : isM ts i ⟨#[33]⟩ = false) (h40 : isM ts i ⟨#[40]⟩ = false) :
    Calls Try.prog 63 #[.pointer (some ⟨p, 0, none⟩)] w (ParPost p a c ts d (prs ts (f + 1) 5 i d) w) := by
 have n2 := Tk.lens ht
 have e1 : prs ts (f + 1) 5 i d = match nameAt ts i with | some s => .ok (nmX s) (i + 1) | none => .err 9 i := by
  rw [prs, if_pos rfl, h33, h40]
  cases nameAt ts i <;> rfl
 rw [e1]
 clear e1
 have H33 := Lib.hid h33
 have H40 := Lib.hid h40
 clear h33 h40
 have bp : Loc [p] w w p 89 (parC a c ts i d) := ⟨hp, .inl (by simp)⟩
 have cp := hp.cell
 have fp := hp.free
 by_cases hlt : i < ts.length
 · obtain ⟨t, hti⟩ := at_some hlt
   obtain ⟨g, o, hgo, hg, k0, k1, -, -⟩ := ht.get hti
   have hgp := ht.gne hlt hgo
   have hsz := ht.sm t (List.mem_of_getElem? hti)
   unfold nameAt
   rw [hti]
   dsimp only
   obtain ⟨b, hb⟩ : ∃ b, identB t.text = b := ⟨_, rfl⟩
   rw [hb]
   have HI := Lib.hid hb
   clear hb hti
   by_cases hk : t.kind = 1
   · obtain ⟨g1, g2⟩ := kd_t hk
     cases b with
     | false =>
       rw [if_neg (by simp)]
       have HK := Lib.hid hk
       clear hk
       go_enter Try.func63, Try.ntmps63
       have E := Only.refl [p] w
       go_upto_region 9999 with (first | ((first | ((with_reducible refine at_dst 7 ?_); go_simp; (have hc := bis_any (ht.only E) bp.blk ⟨#[33]⟩); (first | with_reducible refine hc.mono ?_ | refine hc.mono ?_); clear hc; unfold BPost; rw [H33.out]; rintro e wn ⟨rfl, hx⟩) | ((with_reducible refine at_dst 24 ?_); go_simp; (have hc := bis_any (ht.only E) bp.blk ⟨#[40]⟩); (first | with_reducible refine hc.mono ?_ | refine hc.mono ?_); clear hc; unfold BPost; rw [H40.out]; rintro e wn ⟨rfl, hx⟩) | ((with_reducible refine at_dst 110 ?_); go_simp; (have hc := bfail_any (ht.only E) bp.blk 9); (first | with_reducible refine hc.mono ?_ | refine hc.mono ?_); clear hc; unfold FailPost; rintro e wn ⟨rfl, hx⟩) | ((with_reducible refine at_dst 2 ?_); go_simp; (generalize hXn : Array.size (World.heap _) = X2); refine new_block hXn ?_; intro wn bb hx; have b2 := Loc.new bb E hXn; have zz := Nat.le_trans E.size (Nat.le_of_eq hXn); clear bb hXn)); (try replace E := E.ext hx); (try replace b2 := b2.ext hx); (try replace bp := bp.ext hx); (try replace c2 := b2.cf); (try replace cp := (bp).cf); (try clear hcP hfP); (try (have hcg := pcell E; obtain ⟨hcP, hfP⟩ := hcg))) | ((with_reducible refine at_j 36 ?_); (first | ((with_reducible refine wpE_no ?_ ?_); (· (go_simp; done))) | (refine wpE_w (spVal (.bool false)) _ rfl rfl ?_ rfl rfl (⟨_, rfl⟩) ?_ ?_; (· first | rfl | go_simp); (· intro wn hx K2 hK2; (try replace E := E.ext hx); (try clear hcP hfP); (try (have hcg := pcell E; obtain ⟨hcP, hfP⟩ := hcg)); go_wp2_with fail; (first | ((with_reducible refine (tId_any HI.out hsz _).mono ?_)) | ((have hc := tId_any HI.out hsz _); (with_reducible refine hc.mono ?_); clear hc)); unfold BPost; rintro e wn ⟨rfl, hx⟩; go_wp2_with fail; exact good_val hx); rintro v86 rfl; (try simp only [Act.put, actL])))) | ((with_reducible refine at_reg 14 ?_); (refine wp_region_x (id := 14) (spOf [(36, spVal (.bool false))]) [0, 1, 2, 3, 4, 5, 6, 7, 8, 9, 10, 11, 12, 13, 14, 15, 16, 17, 18, 19, 20, 21, 22, 23, 24, 25, 26, 27, 28, 29, 30, 31, 32, 33, 34, 35, 36, 37, 38] [] [] mixed ?_ ?_); (· decide +kernel); intro K ws hx hK; (try replace E := E.ext hx); (try replace b2 := b2.ext hx); (try replace bp := bp.ext hx); (try replace c2 := b2.cf); (try replace cp := (bp).cf); (try clear hcP hfP); (try (have hcg := pcell E; obtain ⟨hcP, hfP⟩ := hcg)); dsimp only [pickE, pickL, List.getElem?_cons_succ, List.getElem?_cons_zero] at hK ⊢) | ((with_reducible refine wpE_q ?_ ?_ ?_); rfl; rfl; intro wq hq _ _; (try replace c2 := (b2.ext hq).cf); (try replace cp := ((bp.ext hq)).cf); (try clear hcP hfP); (try (have hcg := pcell (E.ext hq); obtain ⟨hcP, hfP⟩ := hcg))) | ((with_reducible refine wpE_s ?_ ?_); rfl; intro wq hq _ _; (try replace c2 := (b2.ext hq).cf); (try replace cp := ((bp.ext hq)).cf); (try clear hcP hfP); (try (have hcg := pcell (E.ext hq); obtain ⟨hcP, hfP⟩ := hcg)); go_simp) | ((with_reducible refine at_nil 0 ?_); refine wpE_nil (fun wn hx hΦ hfp hdis => ?_); (try replace E := E.ext hx); (try replace b2 := b2.ext hx); (try replace bp := bp.ext hx); (try replace c2 := b2.cf); (try replace cp := (bp).cf); (try clear hcP hfP); (try (have hcg := pcell E; obtain ⟨hcP, hfP⟩ := hcg)); clear hΦ hfp hdis; refine hK _ _ ?_; clear hK) | (with_reducible refine wpTxt_nil ?_))
       exact ⟨rfl, rfl, E⟩
     | true =>
       rw [if_pos ⟨hk, rfl⟩]
       have HK := Lib.hid hk
       clear hk
       go_enter Try.func63, Try.ntmps63
       have E := Only.refl [p] w
       go_upto_region 9999 with (first | ((first | ((with_reducible refine at_dst 7 ?_); go_simp; (have hc := bis_any (ht.only E) bp.blk ⟨#[33]⟩); (first | with_reducible refine hc.mono ?_ | refine hc.mono ?_); clear hc; unfold BPost; rw [H33.out]; rintro e wn ⟨rfl, hx⟩) | ((with_reducible refine at_dst 24 ?_); go_simp; (have hc := bis_any (ht.only E) bp.blk ⟨#[40]⟩); (first | with_reducible refine hc.mono ?_ | refine hc.mono ?_); clear hc; unfold BPost; rw [H40.out]; rintro e wn ⟨rfl, hx⟩) | ((first | ((with_reducible refine at_store 2 ?_); have bo := b2; refine wp_put bo rfl rfl ?_ ?_ ?_ ?_) | ((with_reducible refine at_store 94 ?_); have bo := bp; refine wp_put bo rfl rfl ?_ ?_ ?_ ?_)); (· kernel_rfl); (· first | rfl | kernel_rfl); (· first | decide | exact Nat.le_refl _ | simp [Act.eval, Value.cells] | (simp [Act.eval, Act.put, Value.cells]; done)); intro wn bn hb; dsimp only [Act.put]; simp only [putA, Act.eval, Value.cells, Nat.reduceAdd, putL, exC_size] at bn; have E2 := E.put bo hb; (try replace b107 := b107.but hb (by assumption)); (first | (replace bp := bp.but hb (bp.blk.ne_ bo.blk (of_decide_eq_true rfl))) | (replace bp := bp.but0 hb (by assumption)) | skip); (try replace b2 := b2.but hb (b2.blk.ne_ bo.blk (of_decide_eq_true rfl))); (first | (replace hy := hy.but hb bo.blk (of_decide_eq_true rfl)) | (replace hy := hy.but0 hb (by assumption)) | (replace hy := hy.butB hb bo.blk) | (replace hy := hy.butb hb) | (replace hy := hy.but hb (hy.blk.ne_ bo.blk (of_decide_eq_true rfl))) | skip); clear E bo; have E := E2; clear E2; (try replace b2 := b2.re bn); (try replace bp := bp.re bn); clear bn hb) | ((first | ((with_reducible refine at_dst 2 ?_); go_simp; (generalize hXn : Array.size (World.heap _) = X2); refine new_block hXn ?_; intro wn bb hx; have b2 := Loc.new bb E hXn) | ((with_reducible refine at_dst 107 ?_); go_simp; (generalize hXn : Array.size (World.heap _) = X107); refine new_block hXn ?_; intro wn bb hx; (try have z107 := Nat.le_trans E.size (Nat.le_of_eq hXn)); have b107 := Loc.new bb E hXn)); (try have ⟨nn, nm⟩ := b2.ne hXn); have zz := Nat.le_trans E.size (Nat.le_of_eq hXn); clear bb hXn)); (try replace E := E.ext hx); (try replace b2 := b2.ext hx); (try replace bp := bp.ext hx); (try replace c2 := b2.cf); (try replace c107 := b107.cf); (try replace cp := (bp).cf); (try clear hcP hfP); (try (have hcg := pcell E; obtain ⟨hcP, hfP⟩ := hcg))) | ((with_reducible refine at_j 36 ?_); (first | ((with_reducible refine wpE_no ?_ ?_); (· (go_simp; done))) | (refine wpE_w (spVal (.bool true)) _ rfl rfl ?_ rfl rfl (⟨_, rfl⟩) ?_ ?_; (· first | rfl | go_simp); (· intro wn hx K2 hK2; (try replace E := E.ext hx); (try clear hcP hfP); (try (have hcg := pcell E; obtain ⟨hcP, hfP⟩ := hcg)); go_wp2_with fail; (first | ((with_reducible refine (tId_any HI.out hsz _).mono ?_)) | ((have hc := tId_any HI.out hsz _); (with_reducible refine hc.mono ?_); clear hc)); unfold BPost; rintro e wn ⟨rfl, hx⟩; go_wp2_with fail; exact good_val hx); rintro v86 rfl; (try simp only [Act.put, actL])))) | ((with_reducible refine at_reg 14 ?_); (refine wp_region_x (id := 14) (spOf [(36, spVal (.bool true))]) [0, 1, 2, 3, 4, 5, 6, 7, 8, 9, 10, 11, 12, 13, 14, 15, 16, 17, 18, 19, 20, 21, 22, 23, 24, 25, 26, 27, 28, 29, 30, 31, 32, 33, 34, 35, 36, 37, 38] [] [] mixed ?_ ?_); (· decide +kernel); intro K ws hx hK; (try replace E := E.ext hx); (try replace b2 := b2.ext hx); (try replace bp := bp.ext hx); (try replace c2 := b2.cf); (try replace cp := (bp).cf); (try clear hcP hfP); (try (have hcg := pcell E; obtain ⟨hcP, hfP⟩ := hcg)); dsimp only [pickE, pickL, List.getElem?_cons_succ, List.getElem?_cons_zero] at hK ⊢) | ((with_reducible refine wpE_q ?_ ?_ ?_); rfl; rfl; intro wq hq _ _; (try replace c2 := (b2.ext hq).cf); (try replace cp := ((bp.ext hq)).cf); (try clear hcP hfP); (try (have hcg := pcell (E.ext hq); obtain ⟨hcP, hfP⟩ := hcg))) | ((with_reducible refine wpE_s ?_ ?_); rfl; intro wq hq _ _; (try replace c2 := (b2.ext hq).cf); (try replace cp := ((bp.ext hq)).cf); (try clear hcP hfP); (try (have hcg := pcell (E.ext hq); obtain ⟨hcP, hfP⟩ := hcg)); go_simp) | ((with_reducible refine at_nil 0 ?_); refine wpE_nil (fun wn hx hΦ hfp hdis => ?_); (try replace E := E.ext hx); (try replace b2 := b2.ext hx); (try replace bp := bp.ext hx); (try replace c2 := b2.cf); (try replace cp := (bp).cf); (try clear hcP hfP); (try (have hcg := pcell E; obtain ⟨hcP, hfP⟩ := hcg)); clear hΦ hfp hdis; refine hK _ _ ?_; clear hK) | ((with_reducible refine at_reg 16 ?_); (refine Pn.wp_region_o (id := 16) [p] (fun _ _ _ => False) [0, 0, 0, 0, 0, 0, 0, 0, 0, 0, 0, 0, 0, 0, 0] [0, 1, 2, 3, 4, 5, 6, 7, 8, 9, 10, 11, 12, 13, 14] mixed ?_ ?_ ?_); (· decide +kernel); (· exact fun _ _ _ h => h.elim); intro K hK wn hx; (try replace E := E.ext hx); (try replace b2 := b2.ext hx); (try replace bp := bp.ext hx); (try replace c2 := b2.cf); (try replace cp := (bp).cf); (try clear hcP hfP); (try (have hcg := pcell E; obtain ⟨hcP, hfP⟩ := hcg)); dsimp only [pickL, List.getElem?_cons_succ, List.getElem?_cons_zero]) | ((with_reducible refine Pn.at_tag 0 ?_); (first | ((with_reducible refine Pn.wpTag_q ?_ ?_ ?_); rfl; rfl; intro _ _) | ((with_reducible refine Pn.wpTag_w ?_ ?_ ?_); rfl; rfl; intro _ _) | ((with_reducible refine Pn.wpTag_no ?_ ?_); (· first | rfl | (go_simp; done))) | ((with_reducible refine Pn.wpTag_s ?_ ?_); rfl; intro _ _; go_simp))) | ((with_reducible refine Pn.at_tagn ?_); (with_reducible refine Pn.wpTag_nil ?_)) | (with_reducible refine wpTxt_nil ?_))
       refine bodyPost_ret (v := .agg (exC (nameX X107 t.text)).toArray) (by simp [results, Try.f63, go_sem, c2]; rfl) rfl ⟨_, rfl, nameX_ok b107.blk, nameX_fr z107, nameX_bare _ _, bp.blk, E⟩
   · obtain ⟨g1, g2⟩ := kd_f hk
     rw [if_neg (fun h => hk h.1)]
     have HK := Lib.hid hk
     clear hk
     go_enter Try.func63, Try.ntmps63
     have E := Only.refl [p] w
     go_upto_region 9999 with (first | ((first | ((with_reducible refine at_dst 7 ?_); go_simp; (have hc := bis_any (ht.only E) bp.blk ⟨#[33]⟩); (first | with_reducible refine hc.mono ?_ | refine hc.mono ?_); clear hc; unfold BPost; rw [H33.out]; rintro e wn ⟨rfl, hx⟩) | ((with_reducible refine at_dst 24 ?_); go_simp; (have hc := bis_any (ht.only E) bp.blk ⟨#[40]⟩); (first | with_reducible refine hc.mono ?_ | refine hc.mono ?_); clear hc; unfold BPost; rw [H40.out]; rintro e wn ⟨rfl, hx⟩) | ((with_reducible refine at_dst 110 ?_); go_simp; (have hc := bfail_any (ht.only E) bp.blk 9); (first | with_reducible refine hc.mono ?_ | refine hc.mono ?_); clear hc; unfold FailPost; rintro e wn ⟨rfl, hx⟩) | ((with_reducible refine at_dst 2 ?_); go_simp; (generalize hXn : Array.size (World.heap _) = X2); refine new_block hXn ?_; intro wn bb hx; have b2 := Loc.new bb E hXn; have zz := Nat.le_trans E.size (Nat.le_of_eq hXn); clear bb hXn)); (try replace E := E.ext hx); (try replace b2 := b2.ext hx); (try replace bp := bp.ext hx); (try replace c2 := b2.cf); (try replace cp := (bp).cf); (try clear hcP hfP); (try (have hcg := pcell E; obtain ⟨hcP, hfP⟩ := hcg))) | ((with_reducible refine at_j 36 ?_); (first | ((with_reducible refine wpE_no ?_ ?_); (· (go_simp; done))) | (refine wpE_w (spVal (.bool false)) _ rfl rfl ?_ rfl rfl (⟨_, rfl⟩) ?_ ?_; (· first | rfl | go_simp); (· intro wn hx K2 hK2; go_wp2_with fail; (first | ((with_reducible refine (tId_any HI.out hsz _).mono ?_)) | ((have hc := tId_any HI.out hsz _); (with_reducible refine hc.mono ?_); clear hc)); unfold BPost; rintro e wn ⟨rfl, hx⟩; go_wp2_with fail; exact good_val hx); rintro v86 rfl))) | ((with_reducible refine at_reg 14 ?_); (refine wp_region_x (id := 14) (spOf [(36, spVal (.bool false))]) [0, 1, 2, 3, 4, 5, 6, 7, 8, 9, 10, 11, 12, 13, 14, 15, 16, 17, 18, 19, 20, 21, 22, 23, 24, 25, 26, 27, 28, 29, 30, 31, 32, 33, 34, 35, 36, 37, 38] [] [] mixed ?_ ?_); (· decide +kernel); intro K ws hx hK; (try replace E := E.ext hx); (try replace b2 := b2.ext hx); (try replace bp := bp.ext hx); (try replace c2 := b2.cf); (try replace cp := (bp).cf); (try clear hcP hfP); (try (have hcg := pcell E; obtain ⟨hcP, hfP⟩ := hcg)); dsimp only [pickE, pickL, List.getElem?_cons_succ, List.getElem?_cons_zero] at hK ⊢) | ((with_reducible refine wpE_q ?_ ?_ ?_); rfl; rfl; intro wq hq _ _; (try replace c2 := (b2.ext hq).cf); (try replace cp := ((bp.ext hq)).cf); (try clear hcP hfP); (try (have hcg := pcell (E.ext hq); obtain ⟨hcP, hfP⟩ := hcg))) | ((with_reducible refine wpE_s ?_ ?_); rfl; intro wq hq _ _; (try replace c2 := (b2.ext hq).cf); (try replace cp := ((bp.ext hq)).cf); (try clear hcP hfP); (try (have hcg := pcell (E.ext hq); obtain ⟨hcP, hfP⟩ := hcg)); go_simp) | ((with_reducible refine at_nil 0 ?_); refine wpE_nil (fun wn hx hΦ hfp hdis => ?_); (try replace E := E.ext hx); (try replace b2 := b2.ext hx); (try replace bp := bp.ext hx); (try replace c2 := b2.cf); (try replace cp := (bp).cf); (try clear hcP hfP); (try (have hcg := pcell E; obtain ⟨hcP, hfP⟩ := hcg)); clear hΦ hfp hdis; refine hK _ _ ?_; clear hK) | (with_reducible refine wpTxt_nil ?_))
     exact ⟨rfl, rfl, E⟩
 · have hno : nameAt ts i = none := by unfold nameAt; rw [List.getElem?_eq_none (by omega)]
   rw [hno]
   clear hno
   dsimp only
   go_enter Try.func63, Try.ntmps63
   have E := Only.refl [p] w
   go_upto_region 9999 with (first | ((first | ((with_reducible refine at_dst 7 ?_); go_simp; (have hc := bis_any (ht.only E) bp.blk ⟨#[33]⟩); (first | with_reducible refine hc.mono ?_ | refine hc.mono ?_); clear hc; unfold BPost; rw [H33.out]; rintro e wn ⟨rfl, hx⟩) | ((with_reducible refine at_dst 24 ?_); go_simp; (have hc := bis_any (ht.only E) bp.blk ⟨#[40]⟩); (first | with_reducible refine hc.mono ?_ | refine hc.mono ?_); clear hc; unfold BPost; rw [H40.out]; rintro e wn ⟨rfl, hx⟩) | ((with_reducible refine at_dst 110 ?_); go_simp; (have hc := bfail_any (ht.only E) bp.blk 9); (first | with_reducible refine hc.mono ?_ | refine hc.mono ?_); clear hc; unfold FailPost; rintro e wn ⟨rfl, hx⟩) | ((with_reducible refine at_dst 2 ?_); go_simp; (generalize hXn : Array.size (World.heap _) = X2); refine new_block hXn ?_; intro wn bb hx; have b2 := Loc.new bb E hXn; have zz := Nat.le_trans E.size (Nat.le_of_eq hXn); clear bb hXn)); (try replace E := E.ext hx); (try replace b2 := b2.ext hx); (try replace bp := bp.ext hx); (try replace c2 := b2.cf); (try replace cp := (bp).cf); (try clear hcP hfP); (try (have hcg := pcell E; obtain ⟨hcP, hfP⟩ := hcg))) | ((with_reducible refine at_j 36 ?_); (first | ((with_reducible refine wpE_no ?_ ?_); (· (go_simp; done))) | (refine wpE_w (spVal (.bool false)) _ rfl rfl ?_ rfl rfl (⟨_, rfl⟩) ?_ ?_; (· first | rfl | go_simp); (· intro wn hx K2 hK2; go_wp2_with fail; (first | ((with_reducible refine (tId_any HI.out hsz _).mono ?_)) | ((have hc := tId_any HI.out hsz _); (with_reducible refine hc.mono ?_); clear hc)); unfold BPost; rintro e wn ⟨rfl, hx⟩; go_wp2_with fail; exact good_val hx); rintro v86 rfl))) | ((with_reducible refine at_reg 14 ?_); (refine wp_region_x (id := 14) (spOf [(36, spVal (.bool false))]) [0, 1, 2, 3, 4, 5, 6, 7, 8, 9, 10, 11, 12, 13, 14, 15, 16, 17, 18, 19, 20, 21, 22, 23, 24, 25, 26, 27, 28, 29, 30, 31, 32, 33, 34, 35, 36, 37, 38] [] [] mixed ?_ ?_); (· decide +kernel); intro K ws hx hK; (try replace E := E.ext hx); (try replace b2 := b2.ext hx); (try replace bp := bp.ext hx); (try replace c2 := b2.cf); (try replace cp := (bp).cf); (try clear hcP hfP); (try (have hcg := pcell E; obtain ⟨hcP, hfP⟩ := hcg)); dsimp only [pickE, pickL, List.getElem?_cons_succ, List.getElem?_cons_zero] at hK ⊢) | ((with_reducible refine wpE_q ?_ ?_ ?_); rfl; rfl; intro wq hq _ _; (try replace c2 := (b2.ext hq).cf); (try replace cp := ((bp.ext hq)).cf); (try clear hcP hfP); (try (have hcg := pcell (E.ext hq); obtain ⟨hcP, hfP⟩ := hcg))) | ((with_reducible refine wpE_s ?_ ?_); rfl; intro wq hq _ _; (try replace c2 := (b2.ext hq).cf); (try replace cp := ((bp.ext hq)).cf); (try clear hcP hfP); (try (have hcg := pcell (E.ext hq); obtain ⟨hcP, hfP⟩ := hcg)); go_simp) | ((with_reducible refine at_nil 0 ?_); refine wpE_nil (fun wn hx hΦ hfp hdis => ?_); (try replace E := E.ext hx); (try replace b2 := b2.ext hx); (try replace bp := bp.ext hx); (try replace c2 := b2.cf); (try replace cp := (bp).cf); (try clear hcP hfP); (try (have hcg := pcell E; obtain ⟨hcP, hfP⟩ := hcg)); clear hΦ hfp hdis; refine hK _ _ ?_; clear hK) | (with_reducible refine wpTxt_nil ?_))
   exact ⟨rfl, rfl, E⟩
theorem not_step {f : Nat} (IHn : NotOk f) (IHb : BinOk f) : NotOk (f + 1) := fun ht hp hi hd hne => by
 rename_i p i d a c ts w
 by_cases h33 : isM ts i ⟨#[33]⟩ = true
 · exact not_neg (Lib.hid IHn) ht hp hi hd h33 hne
 by_cases h40 : isM ts i ⟨#[40]⟩ = true
 · exact not_par (Lib.hid IHb) ht hp hi hd h40 hne
 · exact not_name ht hp hi hd (by simpa using h33) (by simpa using h40)
end Go.Proofs.Ytbobbbhgdfapjaa
