/- Hp, Hq, Hr, Hv, Hx, H4 -/
import Derived.Test.YtbobbbhgdfapjaaZR1
import Derived.Test.YtbobbbhgdfapjaaZR2
import Derived.Test.YtbobbbhgdfapjaaZR3
import Derived.Test.YtbobbbhgdfapjaaZR4
import Derived.Test.YtbobbbhgdfapjaaZR5
import Derived.Test.YtbobbbhgdfapjaaZR6
import Derived.Test.YtbobbbhgdfapjaaZR7
import Derived.Test.YtbobbbhgdfapjaaZR9
import Derived.Test.YtbobbbhgdfapjaaZR10
import Derived.Test.YtbobbbhgdfapjaaZR11
import Derived.Test.YtbobbbhgdfapjaaZR12
import Derived.Test.YtbobbbhgdfapjaaZR13
import Derived.Test.YtbobbbhgdfapjaaZR14
import Derived.Test.YtbobbbhgdfapjaaZR15
import Derived.Test.YtbobbbhgdfapjaaZR16
import Derived.Test.YtbobbbhgdfapjaaZR17
import Derived.Test.YtbobbbhgdfapjaaZR18
import Derived.Recover
import Derived.Defers
set_option linter.unusedSimpArgs false
set_option linter.unusedVariables false
namespace Go.Proofs.Ytbobbbhgdfapjaa
set_option maxHeartbeats 8000000
set_option maxRecDepth 100000
open Go.RowKit Tk
theorem bin_succ {f n : Nat} (h : BinOk f) (h4 : n ≤ 4) {p i d : Nat} {a : Option Addr} {c : Nat} {ts : List Tok} {w : World} (ht : TkAt p w a c ts) (hp : Blk w p 89 (parC a c ts i d)) (hi : i ≤ ts.length) (hd : d ≤ 12) (hne : prs ts f (n + 1) i d ≠ .none) :
    Calls Try.prog 42 #[.pointer (some ⟨p, 0, none⟩), .int .i64 ((n : Int) + 1)] w (ParPost p a c ts d (prs ts f (n + 1) i d) w) := h (n + 1) (by omega) (by omega) ht hp hi hd hne
theorem bin_at {f n : Nat} (h : ∀ g, g ≤ f → BinOk g) {g : Nat} (hg : g + 1 ≤ f) (h4 : n ≤ 4) {p i d : Nat} {a : Option Addr} {c : Nat} {ts : List Tok} {w : World} (ht : TkAt p w a c ts) (hp : Blk w p 89 (parC a c ts i d)) (hi : i ≤ ts.length) (hd : d ≤ 12) (hne : prs ts g (n + 1) i d ≠ .none) :
    Calls Try.prog 42 #[.pointer (some ⟨p, 0, none⟩), .int .i64 ((n : Int) + 1)] w (ParPost p a c ts d (prs ts g (n + 1) i d) w) := bin_succ (h g (by omega)) h4 ht hp hi hd hne
theorem bsought_eq {w : World} {p i d : Nat} {a : Option Addr} {c : Nat} {ts : List Tok} (ht : TkAt p w a c ts) (hp : Blk w p 89 (parC a c ts i d)) {n : Nat} (h1 : 1 ≤ n) (h4 : n ≤ 4) {o : Int} (ho : opAt ts i n = o) :
    Calls Try.prog 64 #[.pointer (some ⟨p, 0, none⟩), .int .i64 n] w (IPost o w) := by
 have := bsought_any ht hp n
 rwa [opsAt_eq ts i n h1 h4, ho] at this
def parLeft (p : Nat) (N : Nat) (w : World) : Nat := match w.cell? ⟨p, 1, none⟩ with
 | some (.int _ k) => N - k.toNat
 | _ => 0
theorem parLeft_eq {p N : Nat} {w : World} {a : Option Addr} {c : Nat} {ts : List Tok} {i d : Nat} (h : Blk w p 89 (parC a c ts i d)) : parLeft p N w = N - i := by
 unfold parLeft
 rw [h.cell]
 rfl
theorem bin_five {f : Nat} (IHn : Hid (NotOk f)) {p i d : Nat} {a : Option Addr} {c : Nat} {ts : List Tok} {w : World} (ht : TkAt p w a c ts) (hp : Blk w p 89 (parC a c ts i d)) (hi : i ≤ ts.length) (hd12 : d ≤ 12) (hne : prs ts f 5 i d ≠ .none) :
    Calls Try.prog 42 #[.pointer (some ⟨p, 0, none⟩), .int .i64 5] w (ParPost p a c ts d (prs ts f 5 i d) w) := by
 have bp : Loc [p] w w p 89 (parC a c ts i d) := ⟨hp, .inl (by simp)⟩
 have cp := hp.cell
 have fp := hp.free
 obtain ⟨r, hr⟩ : ∃ r, prs ts f 5 i d = r := ⟨_, rfl⟩
 have HRN := Lib.hid hne
 rw [hr] at hne ⊢
 have HR := Lib.hid hr
 clear hr
 cases r with
 | none => exact absurd rfl hne
 | err k j =>
   clear hne
   go_enter Try.func42, Try.ntmps42
   have E := Only.refl [p] w
   go_upto_region 9999 with (first | ((first | ((with_reducible refine at_dst 10 ?_); go_simp; (have hc := IHn.out (ht.only E) bp.blk hi hd12 HRN.out); (first | with_reducible refine hc.mono ?_ | refine hc.mono ?_); clear hc; unfold ParPost; rw [HR.out]; rintro e wn ⟨rfl, hx⟩; have hxo := hx; (try replace b4 := b4.onlyT bp.blk hx (of_decide_eq_true rfl)); replace E := E.more hx (fun x hx => by rw [List.mem_singleton.1 hx]; exact bp.may); clear hx) | ((with_reducible refine at_dst 4 ?_); go_simp; (generalize hXn : Array.size (World.heap _) = X4); refine new_block hXn ?_; intro wn bb hx; have b4 := Loc.new bb E hXn; have zz := Nat.le_trans E.size (Nat.le_of_eq hXn); clear bb hXn)); (try replace E := E.ext hx); (try replace bp := bp.ext hx); (try replace c4 := b4.cf); (try replace cp := (bp).cf)))
   exact ⟨rfl, rfl, E⟩
 | ok x j =>
   clear hne
   go_enter Try.func42, Try.ntmps42
   have E := Only.refl [p] w
   go_upto_region 9999 with (first | ((first | ((with_reducible refine at_dst 10 ?_); go_simp; (have hc := IHn.out (ht.only E) bp.blk hi hd12 HRN.out); (first | with_reducible refine hc.mono ?_ | refine hc.mono ?_); clear hc; unfold ParPost; rw [HR.out]; rintro e wn ⟨y, rfl, hy, hf, hyb, bq, hx⟩; replace hy : Ex.okp p wn y := ⟨hy, hf.away bp.lt⟩; (try have mhy_4 := hf.away b4.lt); replace hf := hf.mono E.size; have hxo := hx; (try replace b4 := b4.onlyT bp.blk hx (of_decide_eq_true rfl)); replace E := E.more hx (fun x hx => by rw [List.mem_singleton.1 hx]; exact bp.may); (try (replace bp := Loc.rebl bp bq; clear bq)); clear hx) | ((with_reducible refine at_store 4 ?_); have bo := b4; refine wp_put bo rfl rfl ?_ ?_ ?_ ?_; (· kernel_rfl); (· first | rfl | kernel_rfl); (· first | decide | exact Nat.le_refl _ | simp [Act.eval, Value.cells] | (simp [Act.eval, Act.put, Value.cells]; done)); intro wn bn hb; dsimp only [Act.put]; simp only [putA, Act.eval, Value.cells, Nat.reduceAdd, putL, exC_size] at bn; have E2 := E.put bo hb; (first | (replace bp := bp.but hb (bp.blk.ne_ bo.blk (of_decide_eq_true rfl))) | (replace bp := bp.but0 hb (by assumption)) | skip); (first | (replace hy := hy.but hb bo.blk (of_decide_eq_true rfl)) | (replace hy := hy.but0 hb (by assumption)) | skip); (first | (replace he := he.but hb bo.blk (of_decide_eq_true rfl)) | (replace he := he.but0 hb (by assumption)) | skip); clear E bo; have E := E2; clear E2; clear b4; have b4 := bn; clear bn hb) | ((with_reducible refine at_dst 4 ?_); go_simp; (generalize hXn : Array.size (World.heap _) = X4); refine new_block hXn ?_; intro wn bb hx; have b4 := Loc.new bb E hXn; have zz := Nat.le_trans E.size (Nat.le_of_eq hXn); clear bb hXn)); (try replace E := E.ext hx); (try replace bp := bp.ext hx); (try replace c4 := b4.cf); (try replace cp := (bp).cf)))
   refine bodyPost_ret (v := .agg (exC y).toArray) (by simp [results, Try.f42, go_sem, c4]; rfl) rfl ⟨_, rfl, hy.ok, hf, hyb, bp.blk, E⟩
theorem bin_four {f : Nat} (IHb : Hid (BinOk f)) (IHg : Hid (∀ g, g ≤ f → BinOk g)) {p i d : Nat} {a : Option Addr} {c : Nat} {ts : List Tok} {w : World} {n : Nat} (h1 : 1 ≤ n) (h4 : n ≤ 4) (ht : TkAt p w a c ts) (hp : Blk w p 89 (parC a c ts i d)) (hi : i ≤ ts.length) (hd12 : d ≤ 12) (hne : prs ts (f + 1) n i d ≠ .none) :
    Calls Try.prog 42 #[.pointer (some ⟨p, 0, none⟩), .int .i64 n] w (ParPost p a c ts d (prs ts (f + 1) n i d) w) := by
 have n2 := Tk.lens ht
 have bp : Loc [p] w w p 89 (parC a c ts i d) := ⟨hp, .inl (by simp)⟩
 have cp := hp.cell
 have fp := hp.free
 have e1 : prs ts (f + 1) n i d = match prs ts f (n + 1) i d with | .none => .none | .err c j => .err c j | .ok x j => plp ts f n x j d := by
  rw [prs, if_neg (by omega)]
  first | rfl | (cases prs ts f (n + 1) i d <;> rfl)
 rw [e1] at hne ⊢
 clear e1
 obtain ⟨r, hr⟩ : ∃ r, prs ts f (n + 1) i d = r := ⟨_, rfl⟩
 have hrn : prs ts f (n + 1) i d ≠ .none := by intro h; rw [h] at hne; exact hne rfl
 have HRN := Lib.hid hrn
 rw [hr] at hne ⊢
 have HR := Lib.hid hr
 clear hrn
 cases r with
 | none => exact absurd rfl hne
 | err k j =>
   clear hne hr
   dsimp only
   go_enter Try.func42, Try.ntmps42
   have E := Only.refl [p] w
   go_upto_region 9999 with (first | ((first | ((with_reducible refine at_dst 14 ?_); go_simp; (have hc := bin_succ IHb.out h4 (ht.only E) bp.blk hi hd12 HRN.out); (first | with_reducible refine hc.mono ?_ | refine hc.mono ?_); clear hc; unfold ParPost; rw [HR.out]; rintro e wn ⟨rfl, hx⟩; have hxo := hx; (try replace b4 := b4.onlyT bp.blk hx (of_decide_eq_true rfl)); replace E := E.more hx (fun x hx => by rw [List.mem_singleton.1 hx]; exact bp.may); clear hx) | ((with_reducible refine at_dst 4 ?_); go_simp; (generalize hXn : Array.size (World.heap _) = X4); refine new_block hXn ?_; intro wn bb hx; have b4 := Loc.new bb E hXn; have zz := Nat.le_trans E.size (Nat.le_of_eq hXn); clear bb hXn)); (try replace E := E.ext hx); (try replace bp := bp.ext hx); (try replace c4 := b4.cf); (try replace cp := (bp).cf)))
   exact ⟨rfl, rfl, E⟩
 | ok x j =>
   have hjl := (prs_in ts f).1 _ _ _ _ _ hr
   have hj2 := hjl.2
   clear hr hjl
   dsimp only at hne ⊢
   obtain ⟨R, hR⟩ : ∃ R, plp ts f n x j d = R := ⟨_, rfl⟩
   rw [hR] at hne ⊢
   have HN := Lib.hid hne
   have HP := Lib.hid hR
   clear hne hR
   go_enter Try.func42, Try.ntmps42
   have E := Only.refl [p] w
   go_upto_region 4 with (first | ((first | ((with_reducible refine at_dst 14 ?_); go_simp; (have hc := bin_succ IHb.out h4 (ht.only E) bp.blk hi hd12 HRN.out); (first | with_reducible refine hc.mono ?_ | refine hc.mono ?_); clear hc; unfold ParPost; rw [HR.out]; rintro e wn ⟨e, rfl, he, hf, heb, bq, hx⟩; replace he : Ex.okp p wn e := ⟨he, hf.away bp.lt⟩; (try have mhe_4 := hf.away b4.lt); replace hf := hf.mono E.size; have hxo := hx; (try replace b4 := b4.onlyT bp.blk hx (of_decide_eq_true rfl)); replace E := E.more hx (fun x hx => by rw [List.mem_singleton.1 hx]; exact bp.may); (try (replace bp := Loc.rebl bp bq; clear bq)); clear hx) | ((with_reducible refine at_store 5 ?_); have bo := b5; refine wp_put bo rfl rfl ?_ ?_ ?_ ?_; (· kernel_rfl); (· first | rfl | kernel_rfl); (· first | decide | exact Nat.le_refl _ | simp [Act.eval, Value.cells] | (simp [Act.eval, Act.put, Value.cells]; done)); intro wn bn hb; dsimp only [Act.put]; simp only [putA, Act.eval, Value.cells, Nat.reduceAdd, putL, exC_size] at bn; have E2 := E.put bo hb; (try replace b4 := b4.but hb (by assumption)); (first | (replace bp := bp.but hb (bp.blk.ne_ bo.blk (of_decide_eq_true rfl))) | (replace bp := bp.but0 hb (by assumption)) | skip); (first | (replace hy := hy.but hb bo.blk (of_decide_eq_true rfl)) | (replace hy := hy.but0 hb (by assumption)) | skip); (first | (replace he := he.but hb bo.blk (of_decide_eq_true rfl)) | (replace he := he.but0 hb (by assumption)) | skip); clear E bo; have E := E2; clear E2; clear b5; have b5 := bn; clear bn hb) | ((first | ((with_reducible refine at_dst 4 ?_); go_simp; (generalize hXn : Array.size (World.heap _) = X4); refine new_block hXn ?_; intro wn bb hx; have b4 := Loc.new bb E hXn) | ((with_reducible refine at_dst 5 ?_); go_simp; (generalize hXn : Array.size (World.heap _) = X5); refine new_block hXn ?_; intro wn bb hx; (try have mhe_5 := he.notin (Nat.le_of_eq hXn)); have b5 := Loc.new bb E hXn)); (try have ⟨nn, nm⟩ := b4.ne hXn); have zz := Nat.le_trans E.size (Nat.le_of_eq hXn); (try have mm := he.notin (Nat.le_of_eq hXn)); clear bb hXn)); (try replace E := E.ext hx); (try replace b4 := b4.ext hx); (try replace bp := bp.ext hx); (try replace he := he.ext hx); (try replace c4 := b4.cf); (try replace c5 := b5.cf); (try replace cp := (bp).cf)))
   go_loopw [6] (fun v wr => ∃ (g : Nat) (e : Ex) (j : Nat), v = v ∧ Hid (plp ts g n e.bare j d = R) ∧ g ≤ f ∧ j ≤ ts.length ∧ Ex.okp p wr e ∧ e.fr w.heap.size ∧ e.away X4 ∧ e.away X5 ∧ Only [p] w wr ∧ Loc [p] w wr p 89 (parC a c ts j d) ∧ Loc [p] w wr X5 28 (exC e).toArray ∧ Loc [p] w wr X4 28 #[.int .i64 0, .int .i64 0, .int .i64 0, .int .i64 0, .slice none 0 0, .int .u64 0, .int .u64 0, .int .u64 0, .int .u64 0, .slice none 0 0]) (fun _ wr => parLeft p ts.length wr)
   case atStart => exact ⟨f, e, j, rfl, Lib.hid (by rw [heb]; exact HP.out), Nat.le_refl _, hj2, he, hf, mhe_4, mhe_5, E, bp, b5, b4⟩
   case round =>
    clear E b4 b5 bp c4 c5 cp he hf heb HR HP mhe_4 mhe_5 hj2
    (try clear hx)
    obtain ⟨g, e, j, -, HS, hg, hj2, he, hf, mhe_4, mhe_5, E, bp, b5, b4⟩ := hrel
    have cp := bp.cf
    have c4 := b4.cf
    have c5 := b5.cf
    have HL := Lib.hid (parLeft_eq (N := ts.length) bp.blk)
    obtain ⟨o, ho⟩ : ∃ o, opAt ts j n = o := ⟨_, rfl⟩
    have HO := Lib.hid ho
    obtain ⟨g', rfl⟩ : ∃ g', g = g' + 1 := by
     cases g with
     | zero => exact absurd (HS.out.symm.trans (by rw [plp])) HN.out
     | succ g' => exact ⟨g', rfl⟩
    have hS := HS.out
    rw [plp, ho] at hS
    clear HS
    by_cases ho0 : o = 0
    · obtain ⟨g1, g2⟩ := kd_t ho0
      rw [if_pos ho0] at hS
      rw [← hS]
      clear hS ho ho0
      go_upto_region 9999 with (first | ((first | ((with_reducible refine at_dst 17 ?_); go_simp; (have hc := bsought_eq (ht.only E) bp.blk h1 h4 HO.out); (first | with_reducible refine hc.mono ?_ | refine hc.mono ?_); clear hc; unfold IPost; rintro e wn ⟨rfl, hx⟩) | ((with_reducible refine at_store 4 ?_); have bo := b4; refine wp_put bo rfl rfl ?_ ?_ ?_ ?_; (· kernel_rfl); (· first | rfl | kernel_rfl); (· first | decide | exact Nat.le_refl _ | simp [Act.eval, Value.cells] | (simp [Act.eval, Act.put, Value.cells]; done)); intro wn bn hb; dsimp only [Act.put]; simp only [putA, Act.eval, Value.cells, Nat.reduceAdd, putL, exC_size] at bn; have E2 := E.put bo hb; (try replace b5 := b5.but hb (by assumption)); (first | (replace bp := bp.but hb (bp.blk.ne_ bo.blk (of_decide_eq_true rfl))) | (replace bp := bp.but0 hb (by assumption)) | skip); (first | (replace hy := hy.but hb bo.blk (of_decide_eq_true rfl)) | (replace hy := hy.but0 hb (by assumption)) | skip); (first | (replace he := he.but hb bo.blk (of_decide_eq_true rfl)) | (replace he := he.but0 hb (by assumption)) | skip); clear E bo; have E := E2; clear E2; clear b4; have b4 := bn; clear bn hb)); (try replace E := E.ext hx); (try replace b4 := b4.ext hx); (try replace b5 := b5.ext hx); (try replace bp := bp.ext hx); (try replace he := he.ext hx); (try replace c4 := b4.cf); (try replace c5 := b5.cf); (try replace cp := (bp).cf)) | ((with_reducible refine at_dst 20 ?_); (refine wp_all b5.blk rfl rfl ?_ ?_ ?_); (· kernel_rfl); (· kernel_rfl)))
      refine bodyPost_ret (v := .agg (exC e).toArray) (by simp [results, Try.f42, go_sem, c4]; rfl) rfl ⟨_, rfl, he.ok, hf, rfl, bp.blk, E⟩
    · obtain ⟨g1, g2⟩ := kd_f ho0
      have hjl : j < ts.length := opAt_lt (by rw [ho]; exact ho0)
      rw [if_neg ho0] at hS
      clear ho ho0
      obtain ⟨r, hr⟩ : ∃ r, prs ts g' (n + 1) (j + 1) d = r := ⟨_, rfl⟩
      have hrn : prs ts g' (n + 1) (j + 1) d ≠ .none := fun h => HN.out (by rw [← hS, h])
      have HRN := Lib.hid hrn
      rw [hr] at hS
      have HR := Lib.hid hr
      clear hrn
      have hj1 : j + 1 ≤ ts.length := hjl
      cases r with
      | none => exact absurd hS.symm HN.out
      | err k l =>
        dsimp only at hS
        rw [← hS]
        clear hS hr
        go_upto_region 9999 with (first | ((first | ((with_reducible refine at_dst 17 ?_); go_simp; (have hc := bsought_eq (ht.only E) bp.blk h1 h4 HO.out); (first | with_reducible refine hc.mono ?_ | refine hc.mono ?_); clear hc; unfold IPost; rintro e wn ⟨rfl, hx⟩) | ((with_reducible refine at_dst 33 ?_); go_simp; (have hc := bin_at IHg.out hg h4 (ht.only E) (show Blk _ p 89 (parC a c ts (j + 1) d) from bp.blk) hj1 hd12 HRN.out); (first | with_reducible refine hc.mono ?_ | refine hc.mono ?_); clear hc; unfold ParPost; rw [HR.out]; rintro e wn ⟨rfl, hx⟩; have hxo := hx; (try replace b4 := b4.onlyT bp.blk hx (of_decide_eq_true rfl)); (try replace b5 := b5.onlyT bp.blk hx (of_decide_eq_true rfl)); (try replace he := he.only hx); replace E := E.more hx (fun x hx => by rw [List.mem_singleton.1 hx]; exact bp.may); clear hx) | ((with_reducible refine at_reg 8 ?_); (refine Pn.wp_region_o (id := 8) [p] (fun ch ds w' => ds = [] ∧ ParPost p a c ts d (.err k l) w (.panicked ch) w') [0, 2, 0, 0, 0, 3, 0, 0, 0] [0, 1, 2, 3, 4, 5, 6, 7, 8] mixed ?_ ?_ ?_); (· decide +kernel); (· exact fun ch a w h => h); intro K hK wn hx; dsimp only [pickL, List.getElem?_cons_succ, List.getElem?_cons_zero]) | ((with_reducible refine at_store 27 ?_); have bo := bp; refine wp_put bo rfl rfl ?_ ?_ ?_ ?_; (· kernel_rfl); (· first | rfl | kernel_rfl); (· first | decide | exact Nat.le_refl _ | simp [Act.eval, Value.cells] | (simp [Act.eval, Act.put, Value.cells]; done)); intro wn bn hb; dsimp only [Act.put]; simp only [putA, Act.eval, Value.cells, Nat.reduceAdd, putL, exC_size] at bn; have E2 := E.put bo hb; (try replace b4 := b4.but hb (b4.blk.ne_ bo.blk (of_decide_eq_true rfl))); (try replace b5 := b5.but hb (b5.blk.ne_ bo.blk (of_decide_eq_true rfl))); (first | (replace hy := hy.but hb bo.blk (of_decide_eq_true rfl)) | (replace hy := hy.butB hb bo.blk) | (replace hy := hy.butb hb) | (replace hy := hy.but hb (hy.blk.ne_ bo.blk (of_decide_eq_true rfl))) | skip); (first | (replace he := he.but hb bo.blk (of_decide_eq_true rfl)) | (replace he := he.butB hb bo.blk) | (replace he := he.butb hb) | (replace he := he.but hb (he.blk.ne_ bo.blk (of_decide_eq_true rfl))) | skip); clear E bo; have E := E2; clear E2; clear bp; have bp := bn; clear bn hb)); (try replace E := E.ext hx); (try replace b4 := b4.ext hx); (try replace b5 := b5.ext hx); (try replace bp := bp.ext hx); (try replace he := he.ext hx); (try replace c4 := b4.cf); (try replace c5 := b5.cf); (try replace cp := (bp).cf)) | ((with_reducible refine Pn.at_tag 0 ?_); (first | ((with_reducible refine Pn.wpTag_q ?_ ?_ ?_); rfl; rfl; intro _ _) | ((with_reducible refine Pn.wpTag_w ?_ ?_ ?_); rfl; rfl; intro _ _) | ((with_reducible refine Pn.wpTag_no ?_ ?_); (· first | rfl | (go_simp; done))) | ((with_reducible refine Pn.wpTag_s ?_ ?_); rfl; intro _ _; go_simp))) | ((with_reducible refine Pn.at_tag 2 ?_); (first | ((with_reducible refine Pn.wpTag_no ?_ ?_); (· first | rfl | (go_simp; done))) | (apply Pn.wpTag_2; (· rfl); (· first | rfl | go_simp); (· intro wq hq; (try replace c4 := (b4.onlyT bp.blk hq (of_decide_eq_true rfl)).cf); (try replace c5 := (b5.onlyT bp.blk hq (of_decide_eq_true rfl)).cf); go_simp <;> rfl); (try simp only [Act.put, actL])))) | ((with_reducible refine Pn.at_tag 3 ?_); (first | ((with_reducible refine Pn.wpTag_no ?_ ?_); (· first | rfl | (go_simp; done))) | ((refine Pn.wpTag_3 ?_ ?_ (fun K2 hK2 => ?_)); (· rfl); (· first | rfl | go_simp)))))
        refine Pn.at_pan ?_
        exact ⟨rfl, rfl, E⟩
      | ok x l =>
        have hjl := (prs_in ts g').1 _ _ _ _ _ hr
        have hl1 := hjl.1
        have hl2 := hjl.2
        clear hr hjl
        dsimp only at hS
        have HS2 := Lib.hid hS
        clear hS
        go_upto_region 9999 with (first | ((first | ((with_reducible refine at_dst 17 ?_); go_simp; (have hc := bsought_eq (ht.only E) bp.blk h1 h4 HO.out); (first | with_reducible refine hc.mono ?_ | refine hc.mono ?_); clear hc; unfold IPost; rintro e wn ⟨rfl, hx⟩) | ((with_reducible refine at_dst 33 ?_); go_simp; (have hc := bin_at IHg.out hg h4 (ht.only E) (show Blk _ p 89 (parC a c ts (j + 1) d) from bp.blk) hj1 hd12 HRN.out); (first | with_reducible refine hc.mono ?_ | refine hc.mono ?_); clear hc; unfold ParPost; rw [HR.out]; rintro e wn ⟨y, rfl, hy, hfy, hyb, bq, hx⟩; replace hy : Ex.okp p wn y := ⟨hy, hfy.away bp.lt⟩; have hf0 := hf; clear hf; have hf := hfy; clear hfy; (try have mhy_4 := hf.away b4.lt); (try have mhy_5 := hf.away b5.lt); replace hf := hf.mono E.size; have hxo := hx; (try replace b4 := b4.onlyT bp.blk hx (of_decide_eq_true rfl)); (try replace b5 := b5.onlyT bp.blk hx (of_decide_eq_true rfl)); (try replace he := he.only hx); replace E := E.more hx (fun x hx => by rw [List.mem_singleton.1 hx]; exact bp.may); (try (replace bp := Loc.rebl bp bq; clear bq)); clear hx) | ((with_reducible refine at_dst 34 ?_); (refine wp_rows2 2 ([e, y].flatMap exC).toArray 28 ?_ ?_); (· kernel_rfl); intro X34 wn hX34 bb hx; (try have ⟨n4_34, n34_4⟩ := b4.ne hX34); (try have ⟨n5_34, n34_5⟩ := b5.ne hX34); (try have z34 := Nat.le_trans E.size (Nat.le_of_eq hX34)); (try have mhy_34 := hy.notin (Nat.le_of_eq hX34)); (try have mhe_34 := he.notin (Nat.le_of_eq hX34)); have b34 := Loc.new bb E hX34; clear bb hX34) | ((with_reducible refine at_reg 8 ?_); (refine Pn.wp_region_o (id := 8) [p] (fun _ _ _ => False) [0, 2, 0, 0, 0, 3, 0, 0, 0] [0, 1, 2, 3, 4, 5, 6, 7, 8] mixed ?_ ?_ ?_); (· decide +kernel); (· exact fun _ _ _ h => h.elim); intro K hK wn hx; dsimp only [pickL, List.getElem?_cons_succ, List.getElem?_cons_zero]) | ((first | ((with_reducible refine at_store 5 ?_); have bo := b5; refine wp_put bo rfl rfl ?_ ?_ ?_ ?_) | ((with_reducible refine at_store 27 ?_); have bo := bp; refine wp_put bo rfl rfl ?_ ?_ ?_ ?_)); (· kernel_rfl); (· first | rfl | kernel_rfl); (· first | decide | exact Nat.le_refl _ | simp [Act.eval, Value.cells] | (simp [Act.eval, Act.put, Value.cells]; done)); intro wn bn hb; dsimp only [Act.put]; simp only [putA, Act.eval, Value.cells, Nat.reduceAdd, putL, exC_size] at bn; have E2 := E.put bo hb; (first | (replace b4 := b4.but hb (by assumption)) | (replace b4 := b4.but hb (b4.blk.ne_ bo.blk (of_decide_eq_true rfl))) | skip); (try replace b34 := b34.but hb (by assumption)); (first | (replace bp := bp.but hb (bp.blk.ne_ bo.blk (of_decide_eq_true rfl))) | (replace bp := bp.but0 hb (by assumption)) | skip); (try replace b5 := b5.but hb (b5.blk.ne_ bo.blk (of_decide_eq_true rfl))); (first | (replace hy := hy.but hb bo.blk (of_decide_eq_true rfl)) | (replace hy := hy.but0 hb (by assumption)) | (replace hy := hy.butB hb bo.blk) | (replace hy := hy.butb hb) | (replace hy := hy.but hb (hy.blk.ne_ bo.blk (of_decide_eq_true rfl))) | skip); (first | (replace he := he.but hb bo.blk (of_decide_eq_true rfl)) | (replace he := he.but0 hb (by assumption)) | (replace he := he.butB hb bo.blk) | (replace he := he.butb hb) | (replace he := he.but hb (he.blk.ne_ bo.blk (of_decide_eq_true rfl))) | skip); clear E bo; have E := E2; clear E2; (try replace b5 := b5.re bn); (try replace bp := bp.re bn); clear bn hb)); (try replace E := E.ext hx); (try replace b4 := b4.ext hx); (try replace b5 := b5.ext hx); (try replace bp := bp.ext hx); (try replace hy := hy.ext hx); (try replace he := he.ext hx); (try replace c4 := b4.cf); (try replace c5 := b5.cf); (try replace c34 := b34.cf); (try replace cp := (bp).cf)) | ((with_reducible refine Pn.at_tag 0 ?_); (first | ((with_reducible refine Pn.wpTag_q ?_ ?_ ?_); rfl; rfl; intro _ _) | ((with_reducible refine Pn.wpTag_w ?_ ?_ ?_); rfl; rfl; intro _ _) | ((with_reducible refine Pn.wpTag_no ?_ ?_); (· first | rfl | (go_simp; done))) | ((with_reducible refine Pn.wpTag_s ?_ ?_); rfl; intro _ _; go_simp))) | ((with_reducible refine Pn.at_tag 2 ?_); (first | ((with_reducible refine Pn.wpTag_no ?_ ?_); (· first | rfl | (go_simp; done))) | (apply Pn.wpTag_2; (· rfl); (· first | rfl | go_simp); (· intro wq hq; (try replace c4 := (b4.onlyT bp.blk hq (of_decide_eq_true rfl)).cf); (try replace c5 := (b5.onlyT bp.blk hq (of_decide_eq_true rfl)).cf); go_simp <;> rfl); (try simp only [Act.put, actL])))) | ((with_reducible refine Pn.at_tag 3 ?_); (first | ((with_reducible refine Pn.wpTag_no ?_ ?_); (· first | rfl | (go_simp; done))) | ((refine Pn.wpTag_3 ?_ ?_ (fun K2 hK2 => ?_)); (· rfl); (· first | rfl | go_simp)))) | ((with_reducible refine at_ando ?_ ?_); (· first | exact Only.of_but hbk (by simp) | exact hxo | exact Only.of_below hx | exact Only.refl _ _)) | ((with_reducible refine Pn.at_tagn ?_); (with_reducible refine Pn.wpTag_nil ?_)))
        go_roundw
        case rel => exact ⟨g', nodeX o (some ⟨X34, 0, none⟩) 2 [e, y], l, trivial, Lib.hid (by rw [nodeX_bare, List.map_cons, List.map_cons, List.map_nil, hyb]; exact HS2.out), by omega, hl2, ⟨nodeX_ok (RRow.blk (xs := [e, y]) exC_len b34.blk (by simp) (show 2 ≤ maxLen by decide)) (oks2 he.ok hy.ok), nodeX_away (op := 0) (b34.blk.ne_ bp.blk (of_decide_eq_true rfl)) (aways2 he.away hy.away)⟩, nodeX_fr z34 (frs2 hf0 hf), nodeX_away (op := 0) n34_4 (aways2 mhe_4 mhy_4), nodeX_away (op := 0) n34_5 (aways2 mhe_5 mhy_5), E, bp, b5, b4⟩
        case measure => rw [parLeft_eq bp.blk, HL.out]; omega
theorem par_zero : NotOk 0 ∧ BinOk 0 := ⟨fun _ _ _ _ h => absurd (by rw [prs]) h, fun n h1 h5 _ _ _ _ h => absurd (by rw [prs]) h⟩
theorem par_all : ∀ f g : Nat, g ≤ f → NotOk g ∧ BinOk g
 | 0, g, hg => by
   have : g = 0 := by omega
   subst this
   exact par_zero
 | f + 1, g, hg => by
   rcases Nat.lt_or_ge f g with h | h
   · have : g = f + 1 := by omega
     subst this
     have hs : NotOk (f + 1) := not_step (par_all f f (Nat.le_refl _)).1 (par_all f f (Nat.le_refl _)).2
     refine ⟨hs, fun n h1 h5 ht hp hi hd hne => ?_⟩
     by_cases hn : n = 5
     · subst hn
       exact bin_five (Lib.hid hs) ht hp hi hd hne
     · exact bin_four (Lib.hid (par_all f f (Nat.le_refl _)).2) (Lib.hid fun g hg => (par_all f g hg).2) h1 (by omega) ht hp hi hd hne
   · exact par_all f g h
theorem bparse_any (f : Nat) : BinOk f := (par_all f f (Nat.le_refl _)).2
open Go.RowKit Tk
@[reducible] def exZ : Array Value := #[.int .i64 0, .int .i64 0, .int .i64 0, .int .i64 0, .slice none 0 0, .int .u64 0, .int .u64 0, .int .u64 0, .int .u64 0, .slice none 0 0]
def CaughtPost (x2 x3 x4 : Nat) (k : Int) (q : Int × Int) (w w' : World) : Prop :=
 Blk w' x2 28 exZ ∧ Blk w' x3 3 #[.int .i64 0] ∧ Blk w' x4 37 #[.int .i64 k, .int .i64 q.1, .int .i64 q.2, .string ⟨#[]⟩] ∧ Only [x2, x3, x4] w w'
theorem wpS_plain {P : Program} {Q : Exit → Act → List Frame → World → Prop} {a : Act} {cs : List Frame} {w : World} {c : Code} (h : ∀ Q9 : Exit → Act → World → Prop, (∀ e a w, Q e a cs w → Q9 e a w) → c.wp P Q9 a w) : c.wpS P Q a cs w :=
 wpS_of_wp (h _ fun _ _ _ h => h)
@[go_sem] theorem run_fail (x : TypeId) (v : Value) (w : World) : (Instr.typeAssert (.iface 85 v) x 85 true).run Try.prog w = .ok (.tuple #[v, .bool true]) w := by kernel_rfl
theorem not_in3 {a b c N X : Nat} (ha : a < N) (hb : b < N) (hc : c < N) (h : N ≤ X) : X ∉ [a, b, c] := by simp; omega
theorem tcatch_pan {w : World} {x2 x3 x4 : Nat} {y : Ex} (h2 : Blk w x2 28 (exC y).toArray) (h3 : Blk w x3 3 #[.int .i64 0]) (h4 : Blk w x4 37 #[.int .i64 0, .int .i64 0, .int .i64 0, .string ⟨#[]⟩]) (k : Int) (q : Int × Int) (older : List PanicEntry) :
    CallsD Try.prog 41 #[.pointer (some ⟨x2, 0, none⟩), .pointer (some ⟨x3, 0, none⟩), .pointer (some ⟨x4, 0, none⟩)] (.panicking ({ v := failV k q, recovered := false } :: older)) w fun e u' w' =>
     e = .returned (.tuple #[]) ∧ u' = .panicking ({ v := failV k q, recovered := true } :: older) ∧ CaughtPost x2 x3 x4 k q w w' := by
 have g2 : Loc [x2, x3, x4] w w x2 28 (exC y).toArray := ⟨h2, .inl (by simp)⟩
 have g3 : Loc [x2, x3, x4] w w x3 3 #[.int .i64 0] := ⟨h3, .inl (by simp)⟩
 have g4 : Loc [x2, x3, x4] w w x4 37 #[.int .i64 0, .int .i64 0, .int .i64 0, .string ⟨#[]⟩] := ⟨h4, .inl (by simp)⟩
 refine callsD_of_wpS Try.func41 rfl fun c₀ cs hu => ?_
 simp only [Try.ntmps41, List.size_toArray, List.length_cons, List.length_nil, Nat.reduceAdd, Nat.reduceSub, Array.replicate_succ, Array.replicate_zero, List.push_toArray, List.append_toArray, List.nil_append, List.cons_append]
 apply wpS_seq
 apply wpS_region
 simp [wpOpsS, go_sem, recoverD, hu, Exit.thenS]
 apply wpS_seq
 apply wpS_region
 simp [wpOpsS, go_sem, Exit.thenS, failV]
 refine wpS_cond (t := true) (by simp [Act.eval, Array.replicate]) ?_
 simp only [if_true]
 refine wpS_plain fun Q9 hQ9 => ?_
 have E := Only.refl [x2, x3, x4] w
 go_upto_region 9999 with (first | ((first | ((first | ((with_reducible refine at_store 4 ?_); have bo := b4; refine wp_put bo rfl rfl ?_ ?_ ?_ ?_) | ((with_reducible refine at_store 0 ?_); have bo := g2; refine wp_put bo rfl rfl ?_ ?_ ?_ ?_) | ((with_reducible refine at_store 1 ?_); have bo := g3; refine wp_put bo rfl rfl ?_ ?_ ?_ ?_) | ((with_reducible refine at_store 2 ?_); have bo := g4; refine wp_put bo rfl rfl ?_ ?_ ?_ ?_)); (· kernel_rfl); (· first | rfl | kernel_rfl); (· first | decide | exact Nat.le_refl _ | simp [Act.eval, Value.cells] | (simp [Act.eval, Act.put, Value.cells]; done)); intro wn bn hb; dsimp only [Act.put]; simp only [putA, Act.eval, Value.cells, Nat.reduceAdd, putL, exC_size] at bn; have hbk := hb; have E2 := E.put bo hb; (try replace b4 := b4.but hb (b4.blk.ne_ bo.blk (of_decide_eq_true rfl))); (first | (replace g2 := g2.but hb (g2.blk.ne_ bo.blk (of_decide_eq_true rfl))) | (replace g2 := g2.but0 hb (by assumption)) | (replace g2 := g2.but hb bo.blk (of_decide_eq_true rfl)) | (replace g2 := g2.butB hb bo.blk) | (replace g2 := g2.butb hb) | skip); (first | (replace g3 := g3.but hb (g3.blk.ne_ bo.blk (of_decide_eq_true rfl))) | (replace g3 := g3.but0 hb (by assumption)) | (replace g3 := g3.but hb bo.blk (of_decide_eq_true rfl)) | (replace g3 := g3.butB hb bo.blk) | (replace g3 := g3.butb hb) | skip); (first | (replace g4 := g4.but hb (g4.blk.ne_ bo.blk (of_decide_eq_true rfl))) | (replace g4 := g4.but0 hb (by assumption)) | (replace g4 := g4.but hb bo.blk (of_decide_eq_true rfl)) | (replace g4 := g4.butB hb bo.blk) | (replace g4 := g4.butb hb) | skip); clear E bo; have E := E2; clear E2; (try replace b4 := b4.re bn); (try replace g2 := g2.re bn); (try replace g3 := g3.re bn); (try replace g4 := g4.re bn); clear bn hb) | ((with_reducible refine at_dst 4 ?_); go_simp; (generalize hXn : Array.size (World.heap _) = X4); refine new_block hXn ?_; intro wn bb hx; (try have z4 := Nat.le_trans E.size (Nat.le_of_eq hXn)); have b4 := Loc.new bb E hXn; have zz := Nat.le_trans E.size (Nat.le_of_eq hXn); clear bb hXn)); (try replace E := E.ext hx); (try replace g2 := g2.ext hx); (try replace g3 := g3.ext hx); (try replace g4 := g4.ext hx); (try replace c4 := b4.cf); (try clear d2 d3 d4); (try (have d2 := (g2).cell; have d3 := (g3).cell; have d4 := (g4).cell)); (try clear e2 e3 e4); (try (have e2 := (g2).free; have e3 := (g3).free; have e4 := (g4).free))) | ((with_reducible refine at_reg 5 ?_); (refine Pn.wp_region_o (id := 5) [x2, x3, x4] (fun _ _ _ => False) [0, 2, 2, 3, 3, 0] [0, 1, 2, 3, 4, 5] mixed ?_ ?_ ?_); (· decide +kernel); (· exact fun _ _ _ h => h.elim); intro K hK wn hx; (try replace E := E.ext hx); (try replace b4 := b4.ext hx); (try replace g2 := g2.ext hx); (try replace g3 := g3.ext hx); (try replace g4 := g4.ext hx); (try replace c4 := b4.cf); (try clear d2 d3 d4); (try (have d2 := (g2).cell; have d3 := (g3).cell; have d4 := (g4).cell)); (try clear e2 e3 e4); (try (have e2 := (g2).free; have e3 := (g3).free; have e4 := (g4).free)); dsimp only [pickL, List.getElem?_cons_succ, List.getElem?_cons_zero]) | ((with_reducible refine Pn.at_tag 0 ?_); (first | ((with_reducible refine Pn.wpTag_q ?_ ?_ ?_); rfl; rfl; intro _ _) | ((with_reducible refine Pn.wpTag_w ?_ ?_ ?_); rfl; rfl; intro _ _) | ((with_reducible refine Pn.wpTag_no ?_ ?_); (· first | rfl | (go_simp; done))) | ((with_reducible refine Pn.wpTag_s ?_ ?_); rfl; intro _ _; go_simp))) | ((with_reducible refine Pn.at_tag 2 ?_); (first | ((with_reducible refine Pn.wpTag_no ?_ ?_); (· first | rfl | (go_simp; done))) | (apply Pn.wpTag_2; (· rfl); (· first | rfl | go_simp); (· intro wq hq; (try replace c4 := (b4.only hq (not_in3 h2.lt h3.lt h4.lt z4)).cf); go_simp <;> rfl); (try simp only [Act.put, actL])))) | ((with_reducible refine Pn.at_tag 3 ?_); (first | ((with_reducible refine Pn.wpTag_no ?_ ?_); (· first | rfl | (go_simp; done))) | ((refine Pn.wpTag_3 ?_ ?_ (fun K2 hK2 => ?_)); (· rfl); (· first | rfl | go_simp)))) | ((with_reducible refine at_ando ?_ ?_); (· first | exact Only.of_but hbk (by simp) | exact hxo | exact Only.of_below hx | exact Only.refl _ _)) | ((with_reducible refine Pn.at_tagn ?_); (with_reducible refine Pn.wpTag_nil ?_)))
 exact ⟨rfl, _, rfl, .tuple #[], by simp [results, Try.f41, go_sem], rfl, rfl, g2.blk, g3.blk, g4.blk, E⟩
theorem tcatch_idle (x2 x3 x4 : Nat) (w : World) :
    CallsD Try.prog 41 #[.pointer (some ⟨x2, 0, none⟩), .pointer (some ⟨x3, 0, none⟩), .pointer (some ⟨x4, 0, none⟩)] .returning w fun e u' w' => e = .returned (.tuple #[]) ∧ u' = .returning ∧ w' = w := by
 refine callsD_of_wpS Try.func41 rfl fun c₀ cs hu => ?_
 simp only [Try.ntmps41, List.size_toArray, List.length_cons, List.length_nil, Nat.reduceAdd, Nat.reduceSub, Array.replicate_succ, Array.replicate_zero, List.push_toArray, List.append_toArray, List.nil_append, List.cons_append]
 apply wpS_seq
 apply wpS_region
 simp [wpOpsS, go_sem, recoverD, hu, Exit.thenS]
 apply wpS_seq
 apply wpS_region
 simp [wpOpsS, go_sem, Exit.thenS]
 refine wpS_cond (t := false) (by simp [Act.eval, Array.replicate]) ?_
 simp only [Bool.false_eq_true, if_false]
 refine wpS_of_wp (wp_skip ?_)
 cases c₀
 simp_all [bodyPostS, results, Try.f41]
open Go.RowKit Tk
/-! ### what an expression without its heads tells -/
mutual
theorem levE_bare : ∀ x : Ex, levE x.bare = levE x
 | .mk h k => by rw [Ex.bare, levE, levE, levs_bare k 0]
theorem levs_bare : ∀ (k : List Ex) (n : Nat), levs (Ex.bares k) n = levs k n
 | [], n => by rw [Ex.bares]
 | e :: r, n => by rw [Ex.bares, levs, levs, levE_bare e, levs_bare r]
end
mutual
theorem sz_bare : ∀ x : Ex, x.bare.sz = x.sz
 | .mk h k => by rw [Ex.bare, Ex.sz, Ex.sz, szs_bare k]
theorem szs_bare : ∀ (k : List Ex), Ex.szs (Ex.bares k) = Ex.szs k
 | [] => by rw [Ex.bares]
 | e :: r => by rw [Ex.bares, Ex.szs, Ex.szs, sz_bare e, szs_bare r]
end
theorem opX_sz1 (k : Int) (x : Ex) : (opX k [x]).sz = 1 + x.sz := by unfold opX; rw [Ex.sz, Ex.szs, Ex.szs]; rfl
theorem opX_sz2 (k : Int) (x y : Ex) : (opX k [x, y]).sz = 1 + (x.sz + y.sz) := by unfold opX; rw [Ex.sz, Ex.szs, Ex.szs, Ex.szs]; rfl
theorem nmX_sz (s : ByteArray) : (nmX s).sz = 1 := by unfold nmX; rw [Ex.sz, Ex.szs]
/-- each node has a token of its own -/
theorem prs_sz (ts : List Tok) : ∀ f : Nat,
    (∀ n i d x j, prs ts f n i d = .ok x j → i + x.sz ≤ j) ∧
    (∀ n x i d y j, plp ts f n x i d = .ok y j → i + y.sz ≤ j + x.sz)
 | 0 => ⟨fun n i d x j h => (by rw [prs] at h; cases h), fun n x i d y j h => (by rw [plp] at h; cases h)⟩
 | f + 1 => by
   obtain ⟨ihp, ihl⟩ := prs_sz ts f
   refine ⟨fun n i d y k h => ?_, fun n x i d y k h => ?_⟩
   · rw [prs] at h
     by_cases hn : n = 5
     · subst hn
       rw [if_pos rfl] at h
       cases hnm : nameAt ts i with
       | some s =>
         rw [hnm] at h
         injection h with h1 h; subst h; subst h1; rw [nmX_sz]; exact Nat.le_refl _
       | none =>
         rw [hnm] at h
         dsimp only at h
         by_cases hb : isM ts i ⟨#[33]⟩ = true
         · rw [if_pos hb] at h
           by_cases hd : 12 ≤ d
           · rw [if_pos hd] at h; cases h
           · rw [if_neg hd] at h
             cases hr : prs ts f 5 (i + 1) (d + 1) with
             | none => rw [hr] at h; cases h
             | err c j => rw [hr] at h; cases h
             | ok x j =>
               rw [hr] at h
               have := ihp _ _ _ _ _ hr
               injection h with h1 h; subst h; subst h1; rw [opX_sz1]; omega
         · rw [if_neg hb] at h
           by_cases hp : isM ts i ⟨#[40]⟩ = true
           · rw [if_pos hp] at h
             by_cases hd : 12 ≤ d
             · rw [if_pos hd] at h; cases h
             · rw [if_neg hd] at h
               cases hr : prs ts f 1 (i + 1) (d + 1) with
               | none => rw [hr] at h; cases h
               | err c j => rw [hr] at h; cases h
               | ok x j =>
                 rw [hr] at h
                 have := ihp _ _ _ _ _ hr
                 dsimp only at h
                 by_cases hc : isM ts j ⟨#[41]⟩ = true
                 · rw [if_pos hc] at h
                   injection h with h1 h; subst h; subst h1; omega
                 · rw [if_neg hc] at h; cases h
           · rw [if_neg hp] at h; cases h
     · rw [if_neg hn] at h
       cases hr : prs ts f (n + 1) i d with
       | none => rw [hr] at h; cases h
       | err c j => rw [hr] at h; cases h
       | ok x j =>
         rw [hr] at h
         have := ihp _ _ _ _ _ hr
         have := ihl _ _ _ _ _ _ h
         omega
   · rw [plp] at h
     by_cases ho : opAt ts i n = 0
     · rw [if_pos ho] at h
       injection h with h1 h; subst h; subst h1; omega
     · rw [if_neg ho] at h
       cases hr : prs ts f (n + 1) (i + 1) d with
       | none => rw [hr] at h; cases h
       | err c j => rw [hr] at h; cases h
       | ok y j =>
         rw [hr] at h
         have := ihp _ _ _ _ _ hr
         have := ihl _ _ _ _ _ _ h
         rw [opX_sz2] at this
         omega
/-! ### Tokens -/
theorem prs_some (ts : List Tok) : prs ts (fuelP ts) 1 0 0 ≠ .none := ((prs_fuel ts (fuelP ts)).1 1 0 0 (by decide) (by decide) (by unfold fuelP; omega)).1
def fltV (c : Int) (q : Int × Int) : Value := .agg #[.int .i64 c, .int .i64 q.1, .int .i64 q.2, .string ⟨#[]⟩]
def TkPost (r : PT) (w : World) (e : Ending) (w' : World) : Prop :=
 match r with
 | .err c q => e = .returned (.tuple #[.agg exZ, .int .i64 0, fltV c q]) ∧ Ext w w'
 | .ok x n => ∃ y, e = .returned (.tuple #[.agg (exC y).toArray, .int .i64 n, fltV 0 (0, 0)]) ∧ y.ok w' ∧ y.fr w.heap.size ∧ y.bare = x ∧ Ext w w'
theorem tk_new {p : Nat} {w w1 : World} {a : Option Addr} {c : Nat} {ts : List Tok} (h : RRow w 4 Tok.cells (.slice a ts.length c) ts) (hs : ∀ t ∈ ts, t.text.size ≤ maxLen) (hx : Ext w w1) (hp : w.heap.size ≤ p) : TkAt p w1 a c ts :=
 ⟨h.ext hx, h.lt.imp_right fun hl => not_lt_in hl hp, hs⟩
theorem bin_start {p : Nat} {a : Option Addr} {c : Nat} {ts : List Tok} {w : World} {r : PR} (hr : prs ts (fuelP ts) 1 0 0 = r) (ht : TkAt p w a c ts) (hp : Blk w p 89 #[.slice a ts.length c, .int .i64 0, .int .i64 0]) :
    Calls Try.prog 42 #[.pointer (some ⟨p, 0, none⟩), .int .i64 1] w (ParPost p a c ts 0 r w) := by
 have := bin_one (bparse_any (fuelP ts)) ht (show Blk w p 89 (parC a c ts 0 0) from hp) (Nat.zero_le _) (Nat.zero_le _) (prs_some ts)
 rwa [hr] at this
theorem not_in2 {a b X : Nat} (h : X ≠ a) (k : X ≠ b) : X ∉ [a, b] := by simp [h, k]
theorem btokens_any {w : World} {a : Option Addr} {c : Nat} {ts : List Tok} (hts : RRow w 4 Tok.cells (.slice a ts.length c) ts) (hsm : ∀ t ∈ ts, t.text.size ≤ maxLen) (hlen : ts.length ≤ 1000000000000) :
    Calls Try.prog 23 #[.slice a ts.length c] w (TkPost (toksR ts) w) := by
 have hmf : ∀ (fn : Fn) (first cap : Array Value) (w : World), (Instr.makeFunc fn first cap).run Try.prog w = .ok (.func fn first cap) w := fun _ _ _ _ => rfl
 obtain ⟨r, hr⟩ : ∃ r, prs ts (fuelP ts) 1 0 0 = r := ⟨_, rfl⟩
 have HR := Lib.hid hr
 unfold toksR
 rw [hr]
 cases r with
 | none => exact absurd hr (prs_some ts)
 | err k j =>
   clear hr
   dsimp only
   go_enter_defers Try.func23, Try.ntmps23
   have E := Only.refl [] w
   go_upto_region 9999 with (first | ((first | ((with_reducible refine at_dst 11 ?_); go_simp; (have hc := bin_start HR.out (tk_new hts hsm E.low z9) b9.blk); (first | with_reducible refine hc.mono ?_ | refine hc.mono ?_); clear hc; unfold ParPost; rintro e wn ⟨rfl, hx⟩; have hxo := hx; (try replace b2 := b2.onlyT b9.blk hx (of_decide_eq_true rfl)); (try replace b3 := b3.onlyT b9.blk hx (of_decide_eq_true rfl)); (try replace b4 := b4.onlyT b9.blk hx (of_decide_eq_true rfl)); replace E := E.more hx (fun x hx => by rw [List.mem_singleton.1 hx]; exact b9.may); clear hx) | ((first | ((with_reducible refine at_dst 2 ?_); go_simp; (generalize hXn : Array.size (World.heap _) = X2); refine new_block hXn ?_; intro wn bb hx; have b2 := Loc.new bb E hXn) | ((with_reducible refine at_dst 3 ?_); go_simp; (generalize hXn : Array.size (World.heap _) = X3); refine new_block hXn ?_; intro wn bb hx; have b3 := Loc.new bb E hXn) | ((with_reducible refine at_dst 4 ?_); go_simp; (generalize hXn : Array.size (World.heap _) = X4); refine new_block hXn ?_; intro wn bb hx; (try have ⟨n2_4, n4_2⟩ := b2.ne hXn); (try have ⟨n3_4, n4_3⟩ := b3.ne hXn); have b4 := Loc.new bb E hXn) | ((with_reducible refine at_dst 9 ?_); go_simp; (generalize hXn : Array.size (World.heap _) = X9); refine new_block hXn ?_; intro wn bb hx; (try have ⟨n2_9, n9_2⟩ := b2.ne hXn); (try have ⟨n3_9, n9_3⟩ := b3.ne hXn); (try have z9 := Nat.le_trans E.size (Nat.le_of_eq hXn)); have b9 := Loc.new bb E hXn)); (try have ⟨nn, nm⟩ := b2.ne hXn); (try have ⟨nn, nm⟩ := b3.ne hXn); (try have ⟨nn, nm⟩ := b4.ne hXn); have zz := Nat.le_trans E.size (Nat.le_of_eq hXn); clear bb hXn)); (try replace E := E.ext hx); (try replace b2 := b2.ext hx); (try replace b3 := b3.ext hx); (try replace b4 := b4.ext hx); (try replace hcE := bcell E.low); (try replace c2 := b2.cf); (try replace c3 := b3.cf); (try replace c4 := b4.cf); (try replace c9 := b9.cf); (try replace cp := b9.cf)))
   refine leaves_cons (f := 41) (args := #[.pointer (some ⟨X2, 0, none⟩), .pointer (some ⟨X3, 0, none⟩), .pointer (some ⟨X4, 0, none⟩)]) (by simp) (by simp [go_sem]) ?_
   refine (tcatch_pan (y := zX) b2.blk b3.blk b4.blk k (posAt ts j) []).mono ?_
   rintro e u' w9 ⟨rfl, rfl, q2, q3, q4, hq⟩
   have r2 := q2.cell
   have r3 := q3.cell
   have r4 := q4.cell
   have E9 : Only [] w w9 := E.more hq (fun x hx => .inr (by simp only [List.mem_cons, List.not_mem_nil, or_false] at hx; rcases hx with rfl | rfl | rfl <;> assumption))
   simp [Leaves, settle, results, Try.f23, go_sem, r2, r3, r4]
   exact ⟨rfl, E9.low⟩
 | ok x j =>
   have hsz := ((prs_sz ts (fuelP ts)).1 _ _ _ _ _ hr)
   have hjl := ((prs_in ts (fuelP ts)).1 _ _ _ _ _ hr).2
   clear hr
   dsimp only
   obtain ⟨m, hm⟩ : ∃ m, levE x = m := ⟨_, rfl⟩
   have hmz : m ≤ 1000000000000 := by have := levE_sz x; omega
   rw [hm]
   by_cases h12 : 12 < m
   · rw [if_pos h12]
     go_enter_defers Try.func23, Try.ntmps23
     have E := Only.refl [] w
     go_upto_region 9999 with (first | ((first | ((with_reducible refine at_dst 11 ?_); go_simp; (have hc := bin_start HR.out (tk_new hts hsm E.low z9) b9.blk); (first | with_reducible refine hc.mono ?_ | refine hc.mono ?_); clear hc; unfold ParPost; rintro e wn ⟨y, rfl, hy, hf, hyb, bq, hx⟩; replace hy : Ex.okp X9 wn y := ⟨hy, hf.away b9.lt⟩; have HY : Hid (levE y = m) := Lib.hid (by rw [← levE_bare, hyb]; exact hm); have hyz : y.sz ≤ 1000000000000 := (by rw [← sz_bare, hyb]; omega); (try have mhy_2 := hf.away b2.lt); (try have mhy_3 := hf.away b3.lt); (try have mhy_4 := hf.away b4.lt); (try have mhy_9 := hf.away b9.lt); replace hf := hf.mono E.size; have hxo := hx; (try replace b2 := b2.onlyT b9.blk hx (of_decide_eq_true rfl)); (try replace b3 := b3.onlyT b9.blk hx (of_decide_eq_true rfl)); (try replace b4 := b4.onlyT b9.blk hx (of_decide_eq_true rfl)); replace E := E.more hx (fun x hx => by rw [List.mem_singleton.1 hx]; exact b9.may); (try (replace b9 := Loc.rebl b9 bq; clear bq)); clear hx) | ((with_reducible refine at_dst 13 ?_); go_simp; (have hc := levels_any (y.sz + 1) y hy.ok hyz (Nat.lt_succ_self _)); (first | with_reducible refine hc.mono ?_ | refine hc.mono ?_); clear hc; unfold IPost; rw [HY.out]; rintro e wn ⟨rfl, hx⟩) | ((with_reducible refine at_dst 19 ?_); go_simp; (have hc := bfail_any (tk_new hts hsm E.low z9) (show Blk _ X9 89 (parC a c ts 0 0) from b9.blk) 4); (first | with_reducible refine hc.mono ?_ | refine hc.mono ?_); clear hc; unfold FailPost; rintro e wn ⟨rfl, hx⟩) | ((first | ((with_reducible refine at_store 2 ?_); have bo := b2; refine wp_put bo rfl rfl ?_ ?_ ?_ ?_) | ((with_reducible refine at_store 17 ?_); have bo := b9; refine wp_put bo rfl rfl ?_ ?_ ?_ ?_)); (· kernel_rfl); (· first | rfl | kernel_rfl); (· first | decide | exact Nat.le_refl _ | simp [Act.eval, Value.cells] | (simp [Act.eval, Act.put, Value.cells]; done)); intro wn bn hb; dsimp only [Act.put]; simp only [putA, Act.eval, Value.cells, Nat.reduceAdd, putL, exC_size] at bn; have hbk := hb; have E2 := E.put bo hb; (try replace b2 := b2.but hb (b2.blk.ne_ bo.blk (of_decide_eq_true rfl))); (first | (replace b3 := b3.but hb (by assumption)) | (replace b3 := b3.but hb (b3.blk.ne_ bo.blk (of_decide_eq_true rfl))) | skip); (first | (replace b4 := b4.but hb (by assumption)) | (replace b4 := b4.but hb (b4.blk.ne_ bo.blk (of_decide_eq_true rfl))) | skip); (try replace b9 := b9.but hb (by assumption)); (first | (replace hy := hy.but hb bo.blk (of_decide_eq_true rfl)) | (replace hy := hy.but0 hb (by assumption)) | (replace hy := hy.butB hb bo.blk) | (replace hy := hy.butb hb) | (replace hy := hy.but hb (hy.blk.ne_ bo.blk (of_decide_eq_true rfl))) | skip); clear E bo; have E := E2; clear E2; (try replace b2 := b2.re bn); (try replace b9 := b9.re bn); clear bn hb) | ((first | ((with_reducible refine at_dst 2 ?_); go_simp; (generalize hXn : Array.size (World.heap _) = X2); refine new_block hXn ?_; intro wn bb hx; have b2 := Loc.new bb E hXn) | ((with_reducible refine at_dst 3 ?_); go_simp; (generalize hXn : Array.size (World.heap _) = X3); refine new_block hXn ?_; intro wn bb hx; have b3 := Loc.new bb E hXn) | ((with_reducible refine at_dst 4 ?_); go_simp; (generalize hXn : Array.size (World.heap _) = X4); refine new_block hXn ?_; intro wn bb hx; (try have ⟨n2_4, n4_2⟩ := b2.ne hXn); (try have ⟨n3_4, n4_3⟩ := b3.ne hXn); have b4 := Loc.new bb E hXn) | ((with_reducible refine at_dst 9 ?_); go_simp; (generalize hXn : Array.size (World.heap _) = X9); refine new_block hXn ?_; intro wn bb hx; (try have ⟨n2_9, n9_2⟩ := b2.ne hXn); (try have ⟨n3_9, n9_3⟩ := b3.ne hXn); (try have z9 := Nat.le_trans E.size (Nat.le_of_eq hXn)); have b9 := Loc.new bb E hXn)); (try have ⟨nn, nm⟩ := b2.ne hXn); (try have ⟨nn, nm⟩ := b3.ne hXn); (try have ⟨nn, nm⟩ := b4.ne hXn); have zz := Nat.le_trans E.size (Nat.le_of_eq hXn); clear bb hXn)); (try replace E := E.ext hx); (try replace b2 := b2.ext hx); (try replace b3 := b3.ext hx); (try replace b4 := b4.ext hx); (try replace b9 := b9.ext hx); (try replace hy := hy.ext hx); (try replace hcE := bcell E.low); (try replace c2 := b2.cf); (try replace c3 := b3.cf); (try replace c4 := b4.cf); (try replace c9 := b9.cf); (try replace cp := b9.cf)) | ((with_reducible refine at_dst 12 ?_); (refine wp_all b2.blk rfl rfl ?_ ?_ ?_); (· kernel_rfl); (· kernel_rfl)))
     refine leaves_cons (f := 41) (args := #[.pointer (some ⟨X2, 0, none⟩), .pointer (some ⟨X3, 0, none⟩), .pointer (some ⟨X4, 0, none⟩)]) (by simp) (by simp [go_sem]) ?_
     refine (tcatch_pan (y := y) b2.blk b3.blk b4.blk 4 (posAt ts 0) []).mono ?_
     rintro e u' w9 ⟨rfl, rfl, q2, q3, q4, hq⟩
     have r2 := q2.cell
     have r3 := q3.cell
     have r4 := q4.cell
     have E9 : Only [] w w9 := E.more hq (fun x hx => .inr (by simp only [List.mem_cons, List.not_mem_nil, or_false] at hx; rcases hx with rfl | rfl | rfl <;> assumption))
     simp [Leaves, settle, results, Try.f23, go_sem, r2, r3, r4]
     exact ⟨rfl, E9.low⟩
   · rw [if_neg h12]
     go_enter_defers Try.func23, Try.ntmps23
     have E := Only.refl [] w
     go_upto_region 9999 with (first | ((first | ((with_reducible refine at_dst 11 ?_); go_simp; (have hc := bin_start HR.out (tk_new hts hsm E.low z9) b9.blk); (first | with_reducible refine hc.mono ?_ | refine hc.mono ?_); clear hc; unfold ParPost; rintro e wn ⟨y, rfl, hy, hf, hyb, bq, hx⟩; replace hy : Ex.okp X9 wn y := ⟨hy, hf.away b9.lt⟩; have HY : Hid (levE y = m) := Lib.hid (by rw [← levE_bare, hyb]; exact hm); have hyz : y.sz ≤ 1000000000000 := (by rw [← sz_bare, hyb]; omega); (try have mhy_2 := hf.away b2.lt); (try have mhy_3 := hf.away b3.lt); (try have mhy_4 := hf.away b4.lt); (try have mhy_9 := hf.away b9.lt); replace hf := hf.mono E.size; have hxo := hx; (try replace b2 := b2.onlyT b9.blk hx (of_decide_eq_true rfl)); (try replace b3 := b3.onlyT b9.blk hx (of_decide_eq_true rfl)); (try replace b4 := b4.onlyT b9.blk hx (of_decide_eq_true rfl)); replace E := E.more hx (fun x hx => by rw [List.mem_singleton.1 hx]; exact b9.may); (try (replace b9 := Loc.rebl b9 bq; clear bq)); clear hx) | ((with_reducible refine at_dst 13 ?_); go_simp; (have hc := levels_any (y.sz + 1) y hy.ok hyz (Nat.lt_succ_self _)); (first | with_reducible refine hc.mono ?_ | refine hc.mono ?_); clear hc; unfold IPost; rw [HY.out]; rintro e wn ⟨rfl, hx⟩) | ((with_reducible refine at_reg 7 ?_); (refine Pn.wp_region_o (id := 7) [X2, X3] (fun _ _ _ => False) [0, 0, 0, 2, 2, 2, 3, 3, 0] [0, 1, 2, 3, 4, 5, 6, 7, 8] mixed ?_ ?_ ?_); (· decide +kernel); (· exact fun _ _ _ h => h.elim); intro K hK wn hx; dsimp only [pickL, List.getElem?_cons_succ, List.getElem?_cons_zero]) | ((first | ((with_reducible refine at_store 2 ?_); have bo := b2; refine wp_put bo rfl rfl ?_ ?_ ?_ ?_) | ((with_reducible refine at_store 3 ?_); have bo := b3; refine wp_put bo rfl rfl ?_ ?_ ?_ ?_) | ((with_reducible refine at_store 4 ?_); have bo := b4; refine wp_put bo rfl rfl ?_ ?_ ?_ ?_)); (· kernel_rfl); (· first | rfl | kernel_rfl); (· first | decide | exact Nat.le_refl _ | simp [Act.eval, Value.cells] | (simp [Act.eval, Act.put, Value.cells]; done)); intro wn bn hb; dsimp only [Act.put]; simp only [putA, Act.eval, Value.cells, Nat.reduceAdd, putL, exC_size] at bn; have hbk := hb; have E2 := E.put bo hb; (try replace b2 := b2.but hb (by assumption)); (try replace b3 := b3.but hb (by assumption)); (try replace b4 := b4.but hb (by assumption)); (try replace b9 := b9.but hb (by assumption)); (first | (replace hy := hy.but hb bo.blk (of_decide_eq_true rfl)) | (replace hy := hy.but0 hb (by assumption)) | skip); clear E bo; have E := E2; clear E2; (try replace b2 := b2.re bn); (try replace b3 := b3.re bn); (try replace b4 := b4.re bn); clear bn hb) | ((first | ((with_reducible refine at_dst 2 ?_); go_simp; (generalize hXn : Array.size (World.heap _) = X2); refine new_block hXn ?_; intro wn bb hx; have b2 := Loc.new bb E hXn) | ((with_reducible refine at_dst 3 ?_); go_simp; (generalize hXn : Array.size (World.heap _) = X3); refine new_block hXn ?_; intro wn bb hx; have b3 := Loc.new bb E hXn) | ((with_reducible refine at_dst 4 ?_); go_simp; (generalize hXn : Array.size (World.heap _) = X4); refine new_block hXn ?_; intro wn bb hx; (try have ⟨n2_4, n4_2⟩ := b2.ne hXn); (try have ⟨n3_4, n4_3⟩ := b3.ne hXn); have b4 := Loc.new bb E hXn) | ((with_reducible refine at_dst 9 ?_); go_simp; (generalize hXn : Array.size (World.heap _) = X9); refine new_block hXn ?_; intro wn bb hx; (try have ⟨n2_9, n9_2⟩ := b2.ne hXn); (try have ⟨n3_9, n9_3⟩ := b3.ne hXn); (try have z9 := Nat.le_trans E.size (Nat.le_of_eq hXn)); have b9 := Loc.new bb E hXn)); (try have ⟨nn, nm⟩ := b2.ne hXn); (try have ⟨nn, nm⟩ := b3.ne hXn); (try have ⟨nn, nm⟩ := b4.ne hXn); have zz := Nat.le_trans E.size (Nat.le_of_eq hXn); clear bb hXn)); (try replace E := E.ext hx); (try replace b2 := b2.ext hx); (try replace b3 := b3.ext hx); (try replace b4 := b4.ext hx); (try replace b9 := b9.ext hx); (try replace hy := hy.ext hx); (try replace hcE := bcell E.low); (try replace c2 := b2.cf); (try replace c3 := b3.cf); (try replace c4 := b4.cf); (try replace c9 := b9.cf); (try replace cp := b9.cf)) | ((with_reducible refine at_dsts [12, 20] ?_ ?_); (· rfl); (refine wp_all (Loc.blk (by assumption)) rfl rfl ?_ ?_ ?_); (· kernel_rfl); (· kernel_rfl)) | ((with_reducible refine Pn.at_tag 0 ?_); (first | ((with_reducible refine Pn.wpTag_q ?_ ?_ ?_); rfl; rfl; intro _ _) | ((with_reducible refine Pn.wpTag_w ?_ ?_ ?_); rfl; rfl; intro _ _) | ((with_reducible refine Pn.wpTag_no ?_ ?_); (· first | rfl | (go_simp; done))) | ((with_reducible refine Pn.wpTag_s ?_ ?_); rfl; intro _ _; go_simp))) | ((with_reducible refine Pn.at_tag 2 ?_); (first | ((with_reducible refine Pn.wpTag_no ?_ ?_); (· first | rfl | (go_simp; done))) | (apply Pn.wpTag_2; (· rfl); (· first | rfl | go_simp); (· intro wq hq; (try replace c4 := (b4.only hq (not_in2 n4_2 n4_3)).cf); (try replace c9 := (b9.only hq (not_in2 n9_2 n9_3)).cf); go_simp <;> rfl); (try simp only [Act.put, actL])))) | ((with_reducible refine Pn.at_tag 3 ?_); (first | ((with_reducible refine Pn.wpTag_no ?_ ?_); (· first | rfl | (go_simp; done))) | ((refine Pn.wpTag_3 ?_ ?_ (fun K2 hK2 => ?_)); (· rfl); (· first | rfl | go_simp)))) | ((with_reducible refine at_ando ?_ ?_); (· first | exact Only.of_but hbk (by simp) | exact hxo | exact Only.of_below hx | exact Only.refl _ _)) | ((with_reducible refine Pn.at_tagn ?_); (with_reducible refine Pn.wpTag_nil ?_)))
     refine leaves_cons (f := 41) (args := #[.pointer (some ⟨X2, 0, none⟩), .pointer (some ⟨X3, 0, none⟩), .pointer (some ⟨X4, 0, none⟩)]) (by simp) (by simp [go_sem]) ?_
     refine (tcatch_idle X2 X3 X4 _).mono ?_
     rintro e u' w9 ⟨rfl, rfl, rfl⟩
     simp [Leaves, settle, results, Try.f23, go_sem, c2, c3, c4]
     exact ⟨y, rfl, hy.ok, hf, hyb, E.low⟩
open Go.RowKit Tk
mutual
/-- a condition but for its levels -/
def Ex.good : Ex → Prop
 | .mk h k => (opn h.op = (k.length : Int) ∧ h.a = 0 ∧ h.b = 0 ∧ h.rel = 0 ∧ h.s0 = 0 ∧ h.s1 = 0 ∧ h.s2 = 0 ∧ h.s3 = 0 ∧ (h.names.length : Int) = namedE h.op ∧ (opn h.op = 0 → identB (firstN h.names) = true)) ∧ Ex.goods k
def Ex.goods : List Ex → Prop
 | [] => True
 | e :: l => e.good ∧ Ex.goods l
end
theorem Ex.goods.mem : ∀ {l : List Ex}, Ex.goods l → ∀ {x : Ex}, x ∈ l → x.good
 | y :: l, h, x, hm => by
   unfold Ex.goods at h
   rcases List.mem_cons.1 hm with rfl | hm
   · exact h.1
   · exact Ex.goods.mem h.2 hm
theorem node_good {h : ExH} {k : List Ex} (hg : (Ex.mk h k).good) (l : Int) : nodeE (.mk h k) l = if 12 < l then 4 else 0 := by
 unfold Ex.good at hg
 obtain ⟨⟨h1, h2, h3, h4, h5, h6, h7, h8, h9, h10⟩, -⟩ := hg
 unfold nodeE
 show (if 12 < l then (4 : Int) else if opn h.op < 0 ∨ h.a ≠ 0 ∨ h.b ≠ 0 ∨ h.rel ≠ 0 ∨ h.s0 ≠ 0 ∨ h.s1 ≠ 0 ∨ h.s2 ≠ 0 ∨ h.s3 ≠ 0 ∨ (k.length : Int) ≠ opn h.op ∨ (h.names.length : Int) ≠ namedE h.op then 2 else if opn h.op = 0 ∧ identB (firstN h.names) = false then 10 else 0) = _
 split
 · rfl
 · rw [if_neg (by omega), if_neg (by rintro ⟨ha, hb⟩; rw [h10 ha] at hb; cases hb)]
theorem good_node {h : ExH} {k : List Ex} {l : Int} (hn : nodeE (.mk h k) l = 0) (hk : Ex.goods k) : (Ex.mk h k).good ∧ l ≤ 12 := by
 unfold nodeE at hn
 have hn' : (if 12 < l then (4 : Int) else if opn h.op < 0 ∨ h.a ≠ 0 ∨ h.b ≠ 0 ∨ h.rel ≠ 0 ∨ h.s0 ≠ 0 ∨ h.s1 ≠ 0 ∨ h.s2 ≠ 0 ∨ h.s3 ≠ 0 ∨ (k.length : Int) ≠ opn h.op ∨ (h.names.length : Int) ≠ namedE h.op then 2 else if opn h.op = 0 ∧ identB (firstN h.names) = false then 10 else 0) = 0 := hn
 clear hn
 split at hn'
 · cases hn'
 split at hn'
 · cases hn'
 split at hn'
 · cases hn'
 rename_i a b c
 unfold Ex.good
 refine ⟨⟨⟨by omega, by omega, by omega, by omega, by omega, by omega, by omega, by omega, by omega, fun ho => ?_⟩, hk⟩, by omega⟩
 cases hi : identB (firstN h.names) with
 | true => rfl
 | false => exact absurd ⟨ho, hi⟩ c
theorem levs_max (k : List Ex) (n : Nat) : levs k n = max n (levs k 0) := by
 induction k generalizing n with
 | nil => rw [levs, levs]; omega
 | cons e r ih => rw [levs, levs, ih, ih (max 0 (levE e))]; omega
mutual
theorem chk_good : ∀ (x : Ex) (l : Int), x.good → chk x l = if 12 < l - 1 + levE x then 4 else 0
 | .mk h k, l, hg => by
   have hk : Ex.goods k := by unfold Ex.good at hg; exact hg.2
   rw [chk, node_good hg, levE]
   by_cases h12 : 12 < l
   · rw [if_pos h12, if_pos (by decide), if_pos (by omega)]
   · rw [if_neg h12, if_neg (by decide), chks_good k (l + 1) hk (by omega)]
     have e : l + 1 - 1 + (levs k 0 : Int) = l - 1 + ((levs k 0 + 1 : Nat) : Int) := by omega
     rw [e]
theorem chks_good : ∀ (k : List Ex) (l : Int), Ex.goods k → l ≤ 13 → chks k l = if 12 < l - 1 + levs k 0 then 4 else 0
 | [], l, _, hl => by rw [chks, levs, if_neg (by omega)]
 | e :: r, l, hg, hl => by
   unfold Ex.goods at hg
   rw [chks, chk_good e l hg.1, levs, levs_max]
   by_cases h : 12 < l - 1 + (levE e : Int)
   · rw [if_pos h, if_pos (by decide), if_pos (by omega)]
   · rw [if_neg h, if_neg (by decide), chks_good r l hg.2 hl]
     by_cases h2 : 12 < l - 1 + (levs r 0 : Int)
     · rw [if_pos h2, if_pos (by omega)]
     · rw [if_neg h2, if_neg (by omega)]
end
mutual
theorem good_chk : ∀ (x : Ex) (l : Int), chk x l = 0 → x.good
 | .mk h k, l, hc => by
   rw [chk] at hc
   by_cases hn : nodeE (.mk h k) l = 0
   · rw [if_neg (by simpa using hn)] at hc
     exact (good_node hn (goods_chk k (l + 1) hc)).1
   · rw [if_pos hn] at hc; exact absurd hc hn
theorem goods_chk : ∀ (k : List Ex) (l : Int), chks k l = 0 → Ex.goods k
 | [], _, _ => by unfold Ex.goods; trivial
 | e :: r, l, hc => by
   rw [chks] at hc
   by_cases hn : chk e l = 0
   · rw [if_neg (by simpa using hn)] at hc
     unfold Ex.goods
     exact ⟨good_chk e l hn, goods_chk r l hc⟩
   · rw [if_pos hn] at hc; exact absurd hc hn
end
/-- what Check says at the first level -/
theorem chk_iff (x : Ex) : chk x 1 = 0 ↔ x.good ∧ levE x ≤ 12 := by
 constructor
 · intro h
   have hg := good_chk x 1 h
   refine ⟨hg, ?_⟩
   rw [chk_good x 1 hg] at h
   split at h
   · cases h
   · omega
 · rintro ⟨hg, hl⟩
   rw [chk_good x 1 hg, if_neg (by omega)]
theorem identB_size {s : ByteArray} (h : identB s = true) : s.size ≤ 32 := by
 unfold identB nameB at h
 simp only [Bool.and_eq_true, decide_eq_true_eq] at h
 have := h.1.1.1.2
 simpa using this
mutual
theorem small_good : ∀ x : Ex, x.good → x.small
 | .mk h k, hg => by
   unfold Ex.good at hg
   unfold Ex.small
   refine ⟨fun n hn => ?_, smalls_good k hg.2⟩
   obtain ⟨⟨h1, -, -, -, -, -, -, -, h9, h10⟩, -⟩ := hg
   unfold namedE at h9
   split at h9
   · rename_i ho
     have hi := h10 ho
     match hq : h.names, h9, hn with
     | [m], _, hn =>
       rw [hq] at hi
       rw [List.mem_singleton.1 hn]
       have := identB_size (show identB m = true from hi)
       unfold maxLen
       omega
     | m :: m2 :: r, h9, _ => simp at h9; omega
   · rename_i ho
     match hq : h.names, h9, hn with
     | m :: r, h9, _ => simp at h9; omega
theorem smalls_good : ∀ k : List Ex, Ex.goods k → Ex.smalls k
 | [], _ => by unfold Ex.smalls; trivial
 | e :: r, hg => by
   unfold Ex.goods at hg
   unfold Ex.smalls
   exact ⟨small_good e hg.1, smalls_good r hg.2⟩
end
mutual
theorem wf_good : ∀ x : Ex, x.good → x.wf
 | .mk h k, hg => by
   unfold Ex.good at hg
   unfold Ex.wf
   exact ⟨hg.1.1, hg.1.2.2.2.2.2.2.2.2.1, wfs_good k hg.2⟩
theorem wfs_good : ∀ k : List Ex, Ex.goods k → Ex.wfs k
 | [], _ => by unfold Ex.wfs; trivial
 | e :: r, hg => by
   unfold Ex.goods at hg
   unfold Ex.wfs
   exact ⟨wf_good e hg.1, wfs_good r hg.2⟩
end
mutual
theorem good_bare : ∀ x : Ex, x.bare.good ↔ x.good
 | .mk h k => by
   rw [Ex.bare]
   unfold Ex.good
   rw [goods_bare k, Ex.bares_map, List.length_map]
theorem goods_bare : ∀ k : List Ex, Ex.goods (Ex.bares k) ↔ Ex.goods k
 | [] => by rw [Ex.bares]
 | e :: r => by
   rw [Ex.bares]
   unfold Ex.goods
   rw [good_bare e, goods_bare r]
end
theorem nmX_good {s : ByteArray} (h : identB s = true) : (nmX s).good := by
 unfold nmX Ex.good
 exact ⟨⟨rfl, rfl, rfl, rfl, rfl, rfl, rfl, rfl, rfl, fun _ => h⟩, by unfold Ex.goods; trivial⟩
theorem opX_good1 {x : Ex} (h : x.good) : (opX 2 [x]).good := by
 unfold opX Ex.good
 exact ⟨⟨rfl, rfl, rfl, rfl, rfl, rfl, rfl, rfl, rfl, fun h => absurd (show opn 2 = 0 from h) (by decide)⟩, by unfold Ex.goods; exact ⟨h, by unfold Ex.goods; trivial⟩⟩
theorem opX_good2 {o : Int} (ho : o = 3 ∨ o = 4 ∨ o = 5 ∨ o = 6 ∨ o = 7) {x y : Ex} (h : x.good) (k : y.good) : (opX o [x, y]).good := by
 unfold opX Ex.good
 have h2 : opn o = 2 := by rcases ho with rfl | rfl | rfl | rfl | rfl <;> rfl
 refine ⟨⟨h2, rfl, rfl, rfl, rfl, rfl, rfl, rfl, ?_, fun h => ?_⟩, by unfold Ex.goods; exact ⟨h, by unfold Ex.goods; exact ⟨k, by unfold Ex.goods; trivial⟩⟩⟩
 · show ((([] : List ByteArray).length : Nat) : Int) = namedE o
   unfold namedE
   rw [if_neg (by omega)]; rfl
 · have h' : opn o = 0 := h
   omega
theorem opAt_vals (ts : List Tok) (i n : Nat) (h : ¬ opAt ts i n = 0) : opAt ts i n = 3 ∨ opAt ts i n = 4 ∨ opAt ts i n = 5 ∨ opAt ts i n = 6 ∨ opAt ts i n = 7 := by
 unfold opAt at *
 repeat' split at h
 all_goals (first | (exfalso; exact h rfl) | simp [*])
theorem nameAt_ident {ts : List Tok} {i : Nat} {s : ByteArray} (h : nameAt ts i = some s) : identB s = true := by
 unfold nameAt at h
 split at h
 · split at h
   · rename_i hc
     injection h with h
     subst h
     exact hc.2
   · cases h
 · cases h
theorem prs_good (ts : List Tok) : ∀ f : Nat,
    (∀ n i d x j, prs ts f n i d = .ok x j → x.good) ∧
    (∀ n x i d y j, x.good → plp ts f n x i d = .ok y j → y.good)
 | 0 => ⟨fun n i d x j h => (by rw [prs] at h; cases h), fun n x i d y j hx h => (by rw [plp] at h; cases h)⟩
 | f + 1 => by
   obtain ⟨ihp, ihl⟩ := prs_good ts f
   refine ⟨fun n i d y k h => ?_, fun n x i d y k hx h => ?_⟩
   · rw [prs] at h
     by_cases hn : n = 5
     · subst hn
       rw [if_pos rfl] at h
       cases hnm : nameAt ts i with
       | some s =>
         rw [hnm] at h
         injection h with h1 _; subst h1; exact nmX_good (nameAt_ident hnm)
       | none =>
         rw [hnm] at h
         dsimp only at h
         by_cases hb : isM ts i ⟨#[33]⟩ = true
         · rw [if_pos hb] at h
           by_cases hd : 12 ≤ d
           · rw [if_pos hd] at h; cases h
           · rw [if_neg hd] at h
             cases hr : prs ts f 5 (i + 1) (d + 1) with
             | none => rw [hr] at h; cases h
             | err c j => rw [hr] at h; cases h
             | ok x j =>
               rw [hr] at h
               injection h with h1 _; subst h1; exact opX_good1 (ihp _ _ _ _ _ hr)
         · rw [if_neg hb] at h
           by_cases hp : isM ts i ⟨#[40]⟩ = true
           · rw [if_pos hp] at h
             by_cases hd : 12 ≤ d
             · rw [if_pos hd] at h; cases h
             · rw [if_neg hd] at h
               cases hr : prs ts f 1 (i + 1) (d + 1) with
               | none => rw [hr] at h; cases h
               | err c j => rw [hr] at h; cases h
               | ok x j =>
                 rw [hr] at h
                 dsimp only at h
                 by_cases hc : isM ts j ⟨#[41]⟩ = true
                 · rw [if_pos hc] at h
                   injection h with h1 _; subst h1; exact ihp _ _ _ _ _ hr
                 · rw [if_neg hc] at h; cases h
           · rw [if_neg hp] at h; cases h
     · rw [if_neg hn] at h
       cases hr : prs ts f (n + 1) i d with
       | none => rw [hr] at h; cases h
       | err c j => rw [hr] at h; cases h
       | ok x j =>
         rw [hr] at h
         exact ihl _ _ _ _ _ _ (ihp _ _ _ _ _ hr) h
   · rw [plp] at h
     by_cases ho : opAt ts i n = 0
     · rw [if_pos ho] at h
       injection h with h1 _; subst h1; exact hx
     · rw [if_neg ho] at h
       cases hr : prs ts f (n + 1) (i + 1) d with
       | none => rw [hr] at h; cases h
       | err c j => rw [hr] at h; cases h
       | ok y j =>
         rw [hr] at h
         exact ihl _ _ _ _ _ _ (opX_good2 (opAt_vals ts i n ho) hx (ihp _ _ _ _ _ hr)) h
open Go.RowKit Tk
/-! ### gather -/
def RPost (w : World) (xs : List ByteArray) (e : Ending) (w' : World) : Prop := ∃ a c, e = .returned (.slice a xs.length c) ∧ Reads w' (.slice a xs.length c) xs ∧ Ext w w'
theorem namess_at {l : List Ex} {i : Nat} {y : Ex} (h : l[i]? = some y) : (namesE y).length + (namesEs (l.drop (i + 1))).length ≤ (namesEs (l.drop i)).length := by
 rw [drop_at h, namesEs, List.length_append]; exact Nat.le_refl _
/-! ### Names -/
def namesR (x : Ex) : List ByteArray := if chk x 1 ≠ 0 then [] else namesS x
open Go.RowKit Tk
@[reducible] def BchkOk (N : Nat) : Prop := ∀ (x : Ex) (l : Int) {w : World}, x.ok w → x.small → x.sz < N → 0 ≤ l ∧ l + N ≤ 9000000000000000000 → Calls Try.prog 33 #[.agg (exC x).toArray, .int .i64 l] w (IPost (chk x l) w)
theorem bcheck_step {N : Nat} (IH : Hid (BchkOk N)) : BchkOk (N + 1) := by
 intro x l w hxo hs hz hl
 obtain ⟨hl0, hl1⟩ := hl
 have hl2 : 0 ≤ l + 1 ∧ l + 1 + N ≤ 9000000000000000000 := ⟨by omega, by omega⟩
 rw [Ex.sz_kids] at hz
 have n2 := (RRow.lens hxo.kids).2
 obtain ⟨V, hV⟩ : ∃ V, chk x l = V := ⟨_, rfl⟩
 rw [hV]
 rw [chk_eq] at hV
 obtain ⟨nd, hnd⟩ : ∃ nd, nodeE x l = nd := ⟨_, rfl⟩
 rw [hnd] at hV
 have HND := Lib.hid hnd
 clear hnd
 go_enter Try.func33, Try.ntmps33
 have E := Only.refl [] w
 by_cases h0 : nd = 0
 · rw [if_neg (by simpa using h0)] at hV
   obtain ⟨g1, g2⟩ := kd_t h0
   have HV := Lib.hid hV
   have H0 := Lib.hid h0
   clear hV h0
   go_upto_region 5 with (first | ((first | ((with_reducible refine at_dst 11 ?_); go_simp; (have hc := bnode_any (hxo.ext E.low) hs l); (first | with_reducible refine hc.mono ?_ | refine hc.mono ?_); clear hc; unfold IPost; rw [HND.out]; rintro e wn ⟨rfl, hx⟩) | ((with_reducible refine at_dst 2 ?_); go_simp; (generalize hXn : Array.size (World.heap _) = X2); refine new_block hXn ?_; intro wn bb hx; have b2 := Loc.new bb E hXn; have zz := Nat.le_trans E.size (Nat.le_of_eq hXn); clear bb hXn)); (try replace E := E.ext hx); (try replace b2 := b2.ext hx); (try replace hcE := bcell E.low); (try replace c2 := b2.cf)) | ((with_reducible refine at_dst 9 ?_); (refine wp_all b2.blk rfl rfl ?_ ?_ ?_); (· kernel_rfl); (· kernel_rfl)))
   go_loopw [18] (fun i wr => ∃ j : Nat, i = .int .i64 j ∧ j ≤ x.kids.length ∧ Hid (chks (x.kids.drop j) (l + 1) = V) ∧ Only [] w wr ∧ Loc [] w wr X2 28 (exC x).toArray) (fun i _ => x.kids.length - (intOf i).toNat)
   case atStart => exact ⟨0, rfl, Nat.zero_le _, HV, E, b2⟩
   case round =>
    clear E b2 c2 hcE HV
    obtain ⟨j, rfl, hj, HV, E, b2⟩ := hrel
    have c2 := b2.cf
    have hcE := bcell E.low
    by_cases hlt : j < x.kids.length
    · obtain ⟨y, hy⟩ := at_some hlt
      have hym := List.mem_of_getElem? hy
      have hyo := hxo.subs.mem hym
      have hys := hs.kids.mem hym
      have hsz : y.sz < N := by have := Ex.sz_at hy; omega
      have HY := Lib.hid hy
      obtain ⟨g, o, hgo, hg, -⟩ := RRow.cells hxo.kids hlt
      have hkc : RRow w 10 exC (.slice (some ⟨g, o, none⟩) x.kids.length x.h.hk.c) x.kids := hgo ▸ hxo.kids
      have hst := chks_at HV hy
      obtain ⟨cy, hcy⟩ : ∃ cy, chk y (l + 1) = cy := ⟨_, rfl⟩
      rw [hcy] at hst
      have HCY := Lib.hid hcy
      clear hy hcy HV
      by_cases h1 : cy = 0
      · rw [if_neg (by simpa using h1)] at hst
        obtain ⟨g3, g4⟩ := kd_t h1
        have HS := Lib.hid hst
        have H1 := Lib.hid h1
        clear hst h1
        go_upto_region 9999 with (first | ((first | ((with_reducible refine at_dst 25 ?_); go_simp; (have hc := IH.out y (l + 1) (hyo.ext E.low) hys hsz hl2); (first | with_reducible refine hc.mono ?_ | refine hc.mono ?_); clear hc; unfold IPost; rw [HCY.out]; rintro e wn ⟨rfl, hx⟩) | ((with_reducible refine at_store 7 ?_); have bo := b7; refine wp_put bo rfl rfl ?_ ?_ ?_ ?_; (· kernel_rfl); (· first | rfl | kernel_rfl); (· first | decide | exact Nat.le_refl _ | simp [Act.eval, Value.cells] | (simp [Act.eval, Act.put, Value.cells]; done)); intro wn bn hb; dsimp only [Act.put]; simp only [putA, Act.eval, Value.cells, Nat.reduceAdd, putL, exC_size] at bn; have E2 := E.put bo hb; (try replace b2 := b2.but hb (by assumption)); clear E bo; have E := E2; clear E2; clear b7; have b7 := bn; clear bn hb) | ((with_reducible refine at_dst 7 ?_); go_simp; (generalize hXn : Array.size (World.heap _) = X7); refine new_block hXn ?_; intro wn bb hx; have b7 := Loc.new bb E hXn; (try have ⟨nn, nm⟩ := b2.ne hXn); have zz := Nat.le_trans E.size (Nat.le_of_eq hXn); clear bb hXn)); (try replace E := E.ext hx); (try replace b2 := b2.ext hx); (try replace b7 := b7.ext hx); (try replace hcE := bcell E.low); (try replace c2 := b2.cf); (try replace c7 := b7.cf)) | ((with_reducible refine at_dst 21 ?_); (refine wp_rec2 ((RRow.ext hkc E.low)) (HY.out) exC_len rfl rfl ?_ ?_ ?_); (· kernel_rfl); (· kernel_rfl)) | ((with_reducible refine at_dst 22 ?_); (refine wp_all b7.blk rfl rfl ?_ ?_ ?_); (· kernel_rfl); (· kernel_rfl)))
        try simp only [← hgo]
        clear hgo
        go_roundw
        case rel => exact ⟨j + 1, by go_num, by omega, HS, E, b2⟩
        case measure => simp [intOf]; omega
      · rw [if_pos h1] at hst
        obtain ⟨g3, g4⟩ := kd_f h1
        have HS := Lib.hid hst
        have H1 := Lib.hid h1
        clear hst h1
        go_upto_region 9999 with (first | ((first | ((with_reducible refine at_dst 25 ?_); go_simp; (have hc := IH.out y (l + 1) (hyo.ext E.low) hys hsz hl2); (first | with_reducible refine hc.mono ?_ | refine hc.mono ?_); clear hc; unfold IPost; rw [HCY.out]; rintro e wn ⟨rfl, hx⟩) | ((with_reducible refine at_store 7 ?_); have bo := b7; refine wp_put bo rfl rfl ?_ ?_ ?_ ?_; (· kernel_rfl); (· first | rfl | kernel_rfl); (· first | decide | exact Nat.le_refl _ | simp [Act.eval, Value.cells] | (simp [Act.eval, Act.put, Value.cells]; done)); intro wn bn hb; dsimp only [Act.put]; simp only [putA, Act.eval, Value.cells, Nat.reduceAdd, putL, exC_size] at bn; have E2 := E.put bo hb; (try replace b2 := b2.but hb (by assumption)); clear E bo; have E := E2; clear E2; clear b7; have b7 := bn; clear bn hb) | ((with_reducible refine at_dst 7 ?_); go_simp; (generalize hXn : Array.size (World.heap _) = X7); refine new_block hXn ?_; intro wn bb hx; have b7 := Loc.new bb E hXn; (try have ⟨nn, nm⟩ := b2.ne hXn); have zz := Nat.le_trans E.size (Nat.le_of_eq hXn); clear bb hXn)); (try replace E := E.ext hx); (try replace b2 := b2.ext hx); (try replace b7 := b7.ext hx); (try replace hcE := bcell E.low); (try replace c2 := b2.cf); (try replace c7 := b7.cf)) | ((with_reducible refine at_dst 21 ?_); (refine wp_rec2 ((RRow.ext hkc E.low)) (HY.out) exC_len rfl rfl ?_ ?_ ?_); (· kernel_rfl); (· kernel_rfl)) | ((with_reducible refine at_dst 22 ?_); (refine wp_all b7.blk rfl rfl ?_ ?_ ?_); (· kernel_rfl); (· kernel_rfl)))
        go_ret
        exact ipost HS.out E.low
    · have hz2 : 0 = V := by
        have := HV.out
        rw [List.drop_of_length_le (by omega), chks] at this
        exact this
      have HZ := Lib.hid hz2
      clear hz2
      go_upto_region 9999 with (first | fail)
      go_ret
      exact ipost HZ.out E.low
 · rw [if_pos h0] at hV
   obtain ⟨g1, g2⟩ := kd_f h0
   have HV := Lib.hid hV
   have H0 := Lib.hid h0
   clear hV h0
   go_upto_region 9999 with (first | ((first | ((with_reducible refine at_dst 11 ?_); go_simp; (have hc := bnode_any (hxo.ext E.low) hs l); (first | with_reducible refine hc.mono ?_ | refine hc.mono ?_); clear hc; unfold IPost; rw [HND.out]; rintro e wn ⟨rfl, hx⟩) | ((with_reducible refine at_dst 2 ?_); go_simp; (generalize hXn : Array.size (World.heap _) = X2); refine new_block hXn ?_; intro wn bb hx; have b2 := Loc.new bb E hXn; have zz := Nat.le_trans E.size (Nat.le_of_eq hXn); clear bb hXn)); (try replace E := E.ext hx); (try replace b2 := b2.ext hx); (try replace hcE := bcell E.low); (try replace c2 := b2.cf)) | ((with_reducible refine at_dst 9 ?_); (refine wp_all b2.blk rfl rfl ?_ ?_ ?_); (· kernel_rfl); (· kernel_rfl)))
   go_ret
   exact ipost HV.out E.low
theorem bcheck_any : ∀ N : Nat, BchkOk N
 | 0 => fun _ _ _ _ _ hz _ => absurd hz (Nat.not_lt_zero _)
 | N + 1 => bcheck_step (Lib.hid (bcheck_any N))
theorem bCheck_any {w : World} {x : Ex} (hxo : x.ok w) (hs : x.small) (hz : x.sz ≤ 1000000000000) : Calls Try.prog 16 #[.agg (exC x).toArray] w (IPost (chk x 1) w) := by
 have hl2 : (0 : Int) ≤ 1 ∧ (1 : Int) + ((x.sz + 1 : Nat) : Int) ≤ 9000000000000000000 := ⟨by omega, by omega⟩
 go_enter Try.func16, Try.ntmps16
 have E := Only.refl [] w
 go_upto_region 9999 with (first | ((first | ((with_reducible refine at_dst 4 ?_); go_simp; (have hc := bcheck_any (x.sz + 1) x 1 (hxo.ext E.low) hs (Nat.lt_succ_self _) hl2); (first | with_reducible refine hc.mono ?_ | refine hc.mono ?_); clear hc; unfold IPost; rintro e wn ⟨rfl, hx⟩) | ((with_reducible refine at_dst 1 ?_); go_simp; (generalize hXn : Array.size (World.heap _) = X1); refine new_block hXn ?_; intro wn bb hx; have b1 := Loc.new bb E hXn; have zz := Nat.le_trans E.size (Nat.le_of_eq hXn); clear bb hXn)); (try replace E := E.ext hx); (try replace b1 := b1.ext hx); (try replace hcE := bcell E.low); (try replace c1 := b1.cf)) | ((with_reducible refine at_dst 3 ?_); (refine wp_all b1.blk rfl rfl ?_ ?_ ?_); (· kernel_rfl); (· kernel_rfl)))
 go_ret
 exact ⟨rfl, E.low⟩
end Go.Proofs.Ytbobbbhgdfapjaa
