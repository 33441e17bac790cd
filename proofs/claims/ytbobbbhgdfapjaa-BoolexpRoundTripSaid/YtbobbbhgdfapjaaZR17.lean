/- Hm, Hn -/
import Derived.WalkLawsBesides
import Derived.Test.YtbobbbhgdfapjaaZR1
import Derived.Test.YtbobbbhgdfapjaaZR2
import Derived.Test.YtbobbbhgdfapjaaZR3
import Derived.Test.YtbobbbhgdfapjaaZR4
import Derived.Test.YtbobbbhgdfapjaaZR5
import Derived.Test.YtbobbbhgdfapjaaZR6
import Derived.Test.YtbobbbhgdfapjaaZR7
import Derived.Test.YtbobbbhgdfapjaaZR9
import Derived.Test.YtbobbbhgdfapjaaZR10
import Derived.Test.YtbobbbhgdfapjaaZR11
import Derived.Test.YtbobbbhgdfapjaaZR12
import Derived.Test.YtbobbbhgdfapjaaZR13
import Derived.Test.YtbobbbhgdfapjaaZR14
import Derived.Test.YtbobbbhgdfapjaaZR15
import Derived.Test.YtbobbbhgdfapjaaZR16
set_option linter.unusedSimpArgs false
set_option linter.unusedVariables false
namespace Go.Proofs.Ytbobbbhgdfapjaa
set_option maxHeartbeats 8000000
set_option maxRecDepth 100000
open Go.RowKit Tk
theorem Tok.len (t : Tok) : t.cells.length = 4 := rfl
/-- the tokens that the parser in block p reads -/
structure TkAt (p : Nat) (w : World) (a : Option Addr) (c : Nat) (ts : List Tok) : Prop where
 row : RRow w 4 Tok.cells (.slice a ts.length c) ts
 ne : ts.length = 0 ∨ p ∉ ownB (.slice a ts.length c)
 sm : ∀ t ∈ ts, t.text.size ≤ maxLen
theorem TkAt.ext {p : Nat} {w w' : World} {a : Option Addr} {c : Nat} {ts : List Tok} (h : TkAt p w a c ts) (hx : Ext w w') : TkAt p w' a c ts := ⟨h.row.low hx, h.ne, h.sm⟩
theorem TkAt.only {p : Nat} {w w' : World} {a : Option Addr} {c : Nat} {ts : List Tok} (h : TkAt p w a c ts) (hx : Only [p] w w') : TkAt p w' a c ts :=
 ⟨h.row.only hx (h.ne.imp_right fun hn x hx hm => hn (List.mem_singleton.1 hm ▸ hx)), h.ne, h.sm⟩
theorem TkAt.butb {p : Nat} {w w' : World} {a : Option Addr} {c : Nat} {ts : List Tok} (h : TkAt p w a c ts) (hb : But p w w') : TkAt p w' a c ts := h.only (Only.of_but hb (List.mem_singleton.2 rfl))
theorem TkAt.get {p : Nat} {w : World} {a : Option Addr} {c : Nat} {ts : List Tok} (h : TkAt p w a c ts) {i : Nat} {t : Tok} (ht : ts[i]? = some t) : ∃ g o, a = some ⟨g, o, none⟩ ∧ g < w.heap.size ∧
    w.cell? ⟨g, o + i * 4, none⟩ = some (.int .i64 t.kind) ∧ w.cell? ⟨g, o + i * 4 + 1, none⟩ = some (.string t.text) ∧ w.cell? ⟨g, o + i * 4 + 2, none⟩ = some (.int .i64 t.pos.1) ∧ w.cell? ⟨g, o + i * 4 + 3, none⟩ = some (.int .i64 t.pos.2) := by
 obtain ⟨hi, e⟩ := List.getElem?_eq_some_iff.1 ht
 obtain ⟨g, o, ha, hg, hc⟩ := RRow.cells h.row hi
 rw [e] at hc
 exact ⟨g, o, ha, hg, hc 0 (by omega), hc 1 (by omega), hc 2 (by omega), hc 3 (by omega)⟩
@[reducible] def parC (a : Option Addr) (c : Nat) (ts : List Tok) (i d : Nat) : Array Value := #[.slice a ts.length c, .int .i64 i, .int .i64 d]
theorem isM_out {ts : List Tok} {i : Nat} {m : ByteArray} (h : ts.length ≤ i) : isM ts i m = false := by unfold isM; rw [List.getElem?_eq_none h]
theorem isM_at {ts : List Tok} {i : Nat} {m : ByteArray} {t : Tok} (h : ts[i]? = some t) : isM ts i m = (decide (t.kind = 4) && decide (t.text = m)) := by unfold isM; rw [h]
theorem Tk.lens {p : Nat} {w : World} {a : Option Addr} {c : Nat} {ts : List Tok} (h : TkAt p w a c ts) : ts.length ≤ 9223372036854775807 := (RRow.lens h.row).2
theorem TkAt.gne {p : Nat} {w : World} {a : Option Addr} {c : Nat} {ts : List Tok} (h : TkAt p w a c ts) {i : Nat} (hi : i < ts.length) {g o : Nat} (ha : a = some ⟨g, o, none⟩) : g ≠ p := fun e => by
 rcases h.ne with hn | hn
 · omega
 · exact hn (by rw [ha, e]; simp [ownB, Value.ownBlock])
/-- cells of the blocks that lay there, but the parser's -/
theorem pcell {p : Nat} {w w1 : World} (h : Only [p] w w1) : (∀ g o, g < w.heap.size → g ≠ p → w1.cell? ⟨g, o, none⟩ = w.cell? ⟨g, o, none⟩) ∧ (∀ g o, g < w.heap.size → g ≠ p → w1.frozen? ⟨g, o, none⟩ = w.frozen? ⟨g, o, none⟩) :=
 ⟨fun g o hg hn => World.cell?_of_block (w := w) (a := ⟨g, o, none⟩) (h.block g hg (by simpa using hn)), fun g o hg hn => World.frozen?_of_block (w := w) (a := ⟨g, o, none⟩) (h.block g hg (by simpa using hn))⟩
theorem Loc.onlyT {F : List Nat} {w0 w w1 : World} {X p : Nat} {t t' : TypeId} {cs cp : Array Value} (b : Loc F w0 w X t cs) (bp : Blk w p t' cp) (hx : Only [p] w w1) (hne : t ≠ t') : Loc F w0 w1 X t cs :=
 b.only hx (by rw [List.mem_singleton]; exact b.blk.ne_ bp hne)
theorem bis_any {w : World} {p i d : Nat} {a : Option Addr} {c : Nat} {ts : List Tok} (ht : TkAt p w a c ts) (hp : Blk w p 89 (parC a c ts i d)) (m : ByteArray) :
    Calls Try.prog 88 #[.pointer (some ⟨p, 0, none⟩), .string m] w (BPost (isM ts i m) w) := by
 obtain ⟨-, n2⟩ := RRow.lens ht.row
 have bp : Loc [p] w w p 89 (parC a c ts i d) := ⟨hp, .inl (by simp)⟩
 have cp := hp.cell
 have fp := hp.free
 by_cases hlt : i < ts.length
 · obtain ⟨t, hti⟩ := at_some hlt
   have hv := isM_at (m := m) hti
   obtain ⟨g, o, hgo, hg, k0, k1, -, -⟩ := ht.get hti
   rw [hv]
   clear hv hti
   by_cases hk : t.kind = 4
   · obtain ⟨g1, g2⟩ := kd_t hk
     by_cases hm : t.text = m
     · have g3 := txt_t hm
       rw [decide_eq_true hk, decide_eq_true hm]
       have HK := Lib.hid hk
       have HM := Lib.hid hm
       clear hk hm
       go_enter Try.func88, Try.ntmps88
       have E := Only.refl [] w
       go_upto_region 9999 with (first | ((with_reducible refine at_reg 1 ?_); (refine wp_region_x (id := 1) (spOf []) [0, 1, 2, 3, 4, 5, 6, 7, 8, 9, 10, 11, 12, 13, 14, 15, 16, 17, 18, 19, 20, 21, 22, 23, 24, 25, 26, 27, 28, 29, 30, 31, 32, 33, 34, 35, 36, 37, 38, 39] [] [] mixed ?_ ?_); (· decide +kernel); intro K ws hx hK; (try replace E := E.ext hx); (try replace bp := bp.ext hx); (try replace hcE := bcell E.low); (try replace cp := (bp).cf); dsimp only [pickE, pickL, List.getElem?_cons_succ, List.getElem?_cons_zero] at hK ⊢) | ((with_reducible refine wpE_q ?_ ?_ ?_); rfl; rfl; intro wq hq _ _; (try replace hcE := bcell (E.ext hq).low); (try replace cp := ((bp.ext hq)).cf)) | ((with_reducible refine wpE_s ?_ ?_); rfl; intro wq hq _ _; (try replace hcE := bcell (E.ext hq).low); (try replace cp := ((bp.ext hq)).cf); go_simp) | ((with_reducible refine at_nil 0 ?_); refine wpE_nil (fun wn hx hΦ hfp hdis => ?_); (try replace E := E.ext hx); (try replace bp := bp.ext hx); (try replace hcE := bcell E.low); (try replace cp := (bp).cf); clear hΦ hfp hdis; refine hK _ _ ?_; clear hK) | (with_reducible refine wpTxt_nil ?_))
       go_ret
       exact ⟨rfl, E.low⟩
     · have g3 := txt_f hm
       rw [decide_eq_true hk, decide_eq_false hm]
       have HK := Lib.hid hk
       have HM := Lib.hid hm
       clear hk hm
       go_enter Try.func88, Try.ntmps88
       have E := Only.refl [] w
       go_upto_region 9999 with (first | ((with_reducible refine at_reg 1 ?_); (refine wp_region_x (id := 1) (spOf []) [0, 1, 2, 3, 4, 5, 6, 7, 8, 9, 10, 11, 12, 13, 14, 15, 16, 17, 18, 19, 20, 21, 22, 23, 24, 25, 26, 27, 28, 29, 30, 31, 32, 33, 34, 35, 36, 37, 38, 39] [] [] mixed ?_ ?_); (· decide +kernel); intro K ws hx hK; (try replace E := E.ext hx); (try replace bp := bp.ext hx); (try replace hcE := bcell E.low); (try replace cp := (bp).cf); dsimp only [pickE, pickL, List.getElem?_cons_succ, List.getElem?_cons_zero] at hK ⊢) | ((with_reducible refine wpE_q ?_ ?_ ?_); rfl; rfl; intro wq hq _ _; (try replace hcE := bcell (E.ext hq).low); (try replace cp := ((bp.ext hq)).cf)) | ((with_reducible refine wpE_s ?_ ?_); rfl; intro wq hq _ _; (try replace hcE := bcell (E.ext hq).low); (try replace cp := ((bp.ext hq)).cf); go_simp) | ((with_reducible refine at_nil 0 ?_); refine wpE_nil (fun wn hx hΦ hfp hdis => ?_); (try replace E := E.ext hx); (try replace bp := bp.ext hx); (try replace hcE := bcell E.low); (try replace cp := (bp).cf); clear hΦ hfp hdis; refine hK _ _ ?_; clear hK) | (with_reducible refine wpTxt_nil ?_))
       go_ret
       exact ⟨rfl, E.low⟩
   · obtain ⟨g1, g2⟩ := kd_f hk
     rw [decide_eq_false hk]
     have HK := Lib.hid hk
     clear hk
     go_enter Try.func88, Try.ntmps88
     have E := Only.refl [] w
     go_upto_region 9999 with (first | ((with_reducible refine at_reg 1 ?_); (refine wp_region_x (id := 1) (spOf []) [0, 1, 2, 3, 4, 5, 6, 7, 8, 9, 10, 11, 12, 13, 14, 15, 16, 17, 18, 19, 20, 21, 22, 23, 24, 25, 26, 27, 28, 29, 30, 31, 32, 33, 34, 35, 36, 37, 38, 39] [] [] mixed ?_ ?_); (· decide +kernel); intro K ws hx hK; (try replace E := E.ext hx); (try replace bp := bp.ext hx); (try replace hcE := bcell E.low); (try replace cp := (bp).cf); dsimp only [pickE, pickL, List.getElem?_cons_succ, List.getElem?_cons_zero] at hK ⊢) | ((with_reducible refine wpE_q ?_ ?_ ?_); rfl; rfl; intro wq hq _ _; (try replace hcE := bcell (E.ext hq).low); (try replace cp := ((bp.ext hq)).cf)) | ((with_reducible refine wpE_s ?_ ?_); rfl; intro wq hq _ _; (try replace hcE := bcell (E.ext hq).low); (try replace cp := ((bp.ext hq)).cf); go_simp) | ((with_reducible refine at_nil 0 ?_); refine wpE_nil (fun wn hx hΦ hfp hdis => ?_); (try replace E := E.ext hx); (try replace bp := bp.ext hx); (try replace hcE := bcell E.low); (try replace cp := (bp).cf); clear hΦ hfp hdis; refine hK _ _ ?_; clear hK) | (with_reducible refine wpTxt_nil ?_))
     go_ret
     exact ⟨rfl, E.low⟩
 · rw [isM_out (by omega)]
   go_enter Try.func88, Try.ntmps88
   have E := Only.refl [] w
   go_upto_region 9999 with (first | ((with_reducible refine at_reg 1 ?_); (refine wp_region_x (id := 1) (spOf []) [0, 1, 2, 3, 4, 5, 6, 7, 8, 9, 10, 11, 12, 13, 14, 15, 16, 17, 18, 19, 20, 21, 22, 23, 24, 25, 26, 27, 28, 29, 30, 31, 32, 33, 34, 35, 36, 37, 38, 39] [] [] mixed ?_ ?_); (· decide +kernel); intro K ws hx hK; (try replace E := E.ext hx); (try replace bp := bp.ext hx); (try replace hcE := bcell E.low); (try replace cp := (bp).cf); dsimp only [pickE, pickL, List.getElem?_cons_succ, List.getElem?_cons_zero] at hK ⊢) | ((with_reducible refine wpE_q ?_ ?_ ?_); rfl; rfl; intro wq hq _ _; (try replace hcE := bcell (E.ext hq).low); (try replace cp := ((bp.ext hq)).cf)) | ((with_reducible refine wpE_s ?_ ?_); rfl; intro wq hq _ _; (try replace hcE := bcell (E.ext hq).low); (try replace cp := ((bp.ext hq)).cf); go_simp) | ((with_reducible refine at_nil 0 ?_); refine wpE_nil (fun wn hx hΦ hfp hdis => ?_); (try replace E := E.ext hx); (try replace bp := bp.ext hx); (try replace hcE := bcell E.low); (try replace cp := (bp).cf); clear hΦ hfp hdis; refine hK _ _ ?_; clear hK) | (with_reducible refine wpTxt_nil ?_))
   go_ret
   exact ⟨rfl, E.low⟩
/-! ### fail and enter -/
def failV (c : Int) (q : Int × Int) : Value := .iface 85 (.agg #[.int .i64 c, .int .i64 q.1, .int .i64 q.2, .string ⟨#[]⟩])
def FailPost (c : Int) (q : Int × Int) (w : World) (e : Ending) (w' : World) : Prop := e = .panicked [{ v := failV c q, recovered := false }] ∧ Ext w w'
theorem bfail_any {w : World} {p i d : Nat} {a : Option Addr} {c : Nat} {ts : List Tok} (ht : TkAt p w a c ts) (hp : Blk w p 89 (parC a c ts i d)) (k : Int) :
    Calls Try.prog 44 #[.pointer (some ⟨p, 0, none⟩), .int .i64 k] w (FailPost k (posAt ts i) w) := by
 obtain ⟨-, n2⟩ := RRow.lens ht.row
 by_cases hlt : i < ts.length
 · obtain ⟨t, hti⟩ := at_some hlt
   have hv : posAt ts i = t.pos := by unfold posAt; rw [hti]
   obtain ⟨g, o, hgo, hg, -, -, k2, k3⟩ := ht.get hti
   rw [hv]
   clear hv hti
   have bp : Loc [p] w w p 89 (parC a c ts i d) := ⟨hp, .inl (by simp)⟩
   have cp := hp.cell
   have fp := hp.free
   go_enter Try.func44, Try.ntmps44
   have E := Only.refl [] w
   go_upto_region 9999 with (first | ((first | ((with_reducible refine at_reg 1 ?_); (refine wp_region_x (id := 1) (spOf []) [0, 1, 2, 3, 4, 5, 6, 7, 8, 9] [] [] mixed ?_ ?_); (· decide +kernel); intro K ws hx hK; dsimp only [pickE, pickL, List.getElem?_cons_succ, List.getElem?_cons_zero] at hK ⊢) | ((with_reducible refine at_reg 2 ?_); (refine wp_region_x (id := 2) (spOf []) [0, 1, 2, 3, 4, 5, 6, 7, 8, 9, 10, 11] [] [12] mixed ?_ ?_); (· decide +kernel); intro K ws hx hK; dsimp only [pickE, pickL, List.getElem?_cons_succ, List.getElem?_cons_zero] at hK ⊢) | ((first | (with_reducible refine at_store 4 ?_) | (with_reducible refine at_store 28 ?_)); have bo := b4; refine wp_put bo rfl rfl ?_ ?_ ?_ ?_; (· kernel_rfl); (· first | rfl | kernel_rfl); (· first | decide | exact Nat.le_refl _ | simp [Act.eval, Value.cells] | (simp [Act.eval, Act.put, Value.cells]; done)); intro wn bn hb; dsimp only [Act.put]; simp only [putA, Act.eval, Value.cells, Nat.reduceAdd, putL, exC_size] at bn; have E2 := E.put bo hb; (first | (replace bp := bp.but hb (bp.blk.ne_ bo.blk (of_decide_eq_true rfl))) | (replace bp := bp.but0 hb (by assumption)) | skip); clear E bo; have E := E2; clear E2; clear b4; have b4 := bn; clear bn hb) | ((with_reducible refine at_dst 4 ?_); go_simp; (generalize hXn : Array.size (World.heap _) = X4); refine new_block hXn ?_; intro wn bb hx; have b4 := Loc.new bb E hXn; have zz := Nat.le_trans E.size (Nat.le_of_eq hXn); clear bb hXn)); (try replace E := E.ext hx); (try replace b4 := b4.ext hx); (try replace bp := bp.ext hx); (try replace hcE := bcell E.low); (try replace c4 := b4.cf); (try replace cp := (bp).cf)) | ((with_reducible refine at_dst 29 ?_); (refine wp_all b4.blk rfl rfl ?_ ?_ ?_); (· kernel_rfl); (· kernel_rfl)) | ((with_reducible refine wpE_q ?_ ?_ ?_); rfl; rfl; intro wq hq _ _; (try replace hcE := bcell (E.ext hq).low); (try replace c4 := (b4.ext hq).cf); (try replace cp := ((bp.ext hq)).cf)) | ((with_reducible refine at_nil 0 ?_); refine wpE_nil (fun wn hx hΦ hfp hdis => ?_); (try replace E := E.ext hx); (try replace b4 := b4.ext hx); (try replace bp := bp.ext hx); (try replace hcE := bcell E.low); (try replace c4 := b4.cf); (try replace cp := (bp).cf); clear hΦ hfp hdis; refine hK _ _ ?_; clear hK) | ((with_reducible refine wpTxt_w0 ?_ ?_ ?_); rfl; rfl; intro _ _) | (with_reducible refine wpTxt_nil ?_))
   exact ⟨rfl, rfl, E.low⟩
 · have hv : posAt ts i = (0, 0) := by unfold posAt; rw [List.getElem?_eq_none (by omega)]
   rw [hv]
   clear hv
   have bp : Loc [p] w w p 89 (parC a c ts i d) := ⟨hp, .inl (by simp)⟩
   have cp := hp.cell
   have fp := hp.free
   go_enter Try.func44, Try.ntmps44
   have E := Only.refl [] w
   go_upto_region 9999 with (first | ((first | ((with_reducible refine at_reg 1 ?_); (refine wp_region_x (id := 1) (spOf []) [0, 1, 2, 3, 4, 5, 6, 7, 8, 9] [] [] mixed ?_ ?_); (· decide +kernel); intro K ws hx hK; dsimp only [pickE, pickL, List.getElem?_cons_succ, List.getElem?_cons_zero] at hK ⊢) | ((with_reducible refine at_store 4 ?_); have bo := b4; refine wp_put bo rfl rfl ?_ ?_ ?_ ?_; (· kernel_rfl); (· first | rfl | kernel_rfl); (· first | decide | exact Nat.le_refl _ | simp [Act.eval, Value.cells] | (simp [Act.eval, Act.put, Value.cells]; done)); intro wn bn hb; dsimp only [Act.put]; simp only [putA, Act.eval, Value.cells, Nat.reduceAdd, putL, exC_size] at bn; have E2 := E.put bo hb; (first | (replace bp := bp.but hb (bp.blk.ne_ bo.blk (of_decide_eq_true rfl))) | (replace bp := bp.but0 hb (by assumption)) | skip); clear E bo; have E := E2; clear E2; clear b4; have b4 := bn; clear bn hb) | ((with_reducible refine at_dst 4 ?_); go_simp; (generalize hXn : Array.size (World.heap _) = X4); refine new_block hXn ?_; intro wn bb hx; have b4 := Loc.new bb E hXn; have zz := Nat.le_trans E.size (Nat.le_of_eq hXn); clear bb hXn)); (try replace E := E.ext hx); (try replace b4 := b4.ext hx); (try replace bp := bp.ext hx); (try replace hcE := bcell E.low); (try replace c4 := b4.cf); (try replace cp := (bp).cf)) | ((with_reducible refine at_dst 29 ?_); (refine wp_all b4.blk rfl rfl ?_ ?_ ?_); (· kernel_rfl); (· kernel_rfl)) | ((with_reducible refine wpE_q ?_ ?_ ?_); rfl; rfl; intro wq hq _ _; (try replace hcE := bcell (E.ext hq).low); (try replace c4 := (b4.ext hq).cf); (try replace cp := ((bp.ext hq)).cf)) | ((with_reducible refine at_nil 0 ?_); refine wpE_nil (fun wn hx hΦ hfp hdis => ?_); (try replace E := E.ext hx); (try replace b4 := b4.ext hx); (try replace bp := bp.ext hx); (try replace hcE := bcell E.low); (try replace c4 := b4.cf); (try replace cp := (bp).cf); clear hΦ hfp hdis; refine hK _ _ ?_; clear hK) | (with_reducible refine wpTxt_nil ?_))
   exact ⟨rfl, rfl, E.low⟩
def EnterPost (p : Nat) (a : Option Addr) (c : Nat) (ts : List Tok) (i d : Nat) (w : World) (e : Ending) (w' : World) : Prop :=
 e = .returned (.tuple #[]) ∧ Blk w' p 89 (parC a c ts (i + 1) (d + 1)) ∧ Only [p] w w'
theorem benter_bad {w : World} {p i d : Nat} {a : Option Addr} {c : Nat} {ts : List Tok} (ht : TkAt p w a c ts) (hp : Blk w p 89 (parC a c ts i d)) (hd : 12 ≤ d) :
    Calls Try.prog 89 #[.pointer (some ⟨p, 0, none⟩)] w (FailPost 4 (posAt ts i) w) := by
 have bp : Loc [p] w w p 89 (parC a c ts i d) := ⟨hp, .inl (by simp)⟩
 have cp := hp.cell
 have fp := hp.free
 go_enter Try.func89, Try.ntmps89
 have E := Only.refl [] w
 go_upto_region 9999 with (first | ((with_reducible refine at_dst 8 ?_); go_simp; (have hc := bfail_any (ht.ext E.low) bp.blk 4); (first | with_reducible refine hc.mono ?_ | refine hc.mono ?_); clear hc; unfold FailPost; rintro e wn ⟨rfl, hx⟩; (try replace E := E.ext hx); (try replace bp := bp.ext hx); (try replace hcE := bcell E.low); (try replace cp := (bp).cf)))
 exact ⟨rfl, rfl, E.low⟩
theorem benter_ok {w : World} {p i d : Nat} {a : Option Addr} {c : Nat} {ts : List Tok} (hp : Blk w p 89 (parC a c ts i d)) (hd : d < 12) (hi : i < 9223372036854775807) :
    Calls Try.prog 89 #[.pointer (some ⟨p, 0, none⟩)] w (EnterPost p a c ts i d w) := by
 have bp : Loc [p] w w p 89 (parC a c ts i d) := ⟨hp, .inl (by simp)⟩
 have cp := hp.cell
 have fp := hp.free
 go_enter Try.func89, Try.ntmps89
 have E := Only.refl [p] w
 go_upto_region 9999 with (first | ((first | ((first | (with_reducible refine at_store 15 ?_) | (with_reducible refine at_store 22 ?_)); have bo := bp; refine wp_put bo rfl rfl ?_ ?_ ?_ ?_; (· kernel_rfl); (· first | rfl | kernel_rfl); (· first | decide | exact Nat.le_refl _ | simp [Act.eval, Value.cells] | (simp [Act.eval, Act.put, Value.cells]; done)); intro wn bn hb; dsimp only [Act.put]; simp only [putA, Act.eval, Value.cells, Nat.reduceAdd, putL, exC_size] at bn; have E2 := E.put bo hb; clear E bo; have E := E2; clear E2; clear bp; have bp := bn; clear bn hb)); (try replace cp := (bp).cf)))
 first | go_end0 | go_ret
 exact ⟨rfl, bp.blk, E⟩
/-! ### the operator that is sought -/
def ops5 : List Int := [6, 7, 3, 5, 4]
def opsAt (ts : List Tok) (i : Nat) (n : Int) : List Int → Int
 | [] => 0
 | k :: l => if signN k = n ∧ isM ts i (signM k) = true then k else opsAt ts i n l
theorem opsAt_eq (ts : List Tok) (i n : Nat) (h1 : 1 ≤ n) (h4 : n ≤ 4) : opsAt ts i n ops5 = opAt ts i n := by
 have : n = 1 ∨ n = 2 ∨ n = 3 ∨ n = 4 := by omega
 rcases this with rfl | rfl | rfl | rfl <;> simp [opsAt, ops5, opAt, signN, signM]
theorem opsAt_at {ts : List Tok} {i : Nat} {n : Int} {l : List Int} {j : Nat} {k R : Int} (h : Hid (opsAt ts i n (l.drop j) = R)) (hk : l[j]? = some k) : (if signN k = n ∧ isM ts i (signM k) = true then k else opsAt ts i n (l.drop (j + 1))) = R := by
 have := h.out
 rw [drop_at hk, opsAt] at this
 exact this
theorem bsought_any {w : World} {p i d : Nat} {a : Option Addr} {c : Nat} {ts : List Tok} (ht : TkAt p w a c ts) (hp : Blk w p 89 (parC a c ts i d)) (n : Nat) :
    Calls Try.prog 64 #[.pointer (some ⟨p, 0, none⟩), .int .i64 n] w (IPost (opsAt ts i n ops5) w) := by
 have bp : Loc [p] w w p 89 (parC a c ts i d) := ⟨hp, .inl (by simp)⟩
 have cp := hp.cell
 have fp := hp.free
 obtain ⟨V, hV⟩ : ∃ V, opsAt ts i n ops5 = V := ⟨_, rfl⟩
 rw [hV]
 have HV : Hid (opsAt ts i n (ops5.drop 0) = V) := Lib.hid hV
 clear hV
 go_enter Try.func64, Try.ntmps64
 have E := Only.refl [] w
 go_upto_region 2 with (first | ((with_reducible refine at_dst 9 ?_); go_simp; (generalize hX9 : Array.size (World.heap _) = X9); refine new_block hX9 ?_; intro wn bb hx; (try have z9 := Nat.le_trans E.size (Nat.le_of_eq hX9)); have b9 := bb; have g9 := Loc.new bb E hX9; clear bb hX9; (try replace E := E.ext hx); (try replace bp := bp.ext hx); (try replace hcE := bcell E.low); (try replace cp := (bp).cf)))
 go_loopw [11] (fun v wr => ∃ j : Nat, v = .int .i64 j ∧ j ≤ 5 ∧ Hid (opsAt ts i n (ops5.drop j) = V) ∧ Only [] w wr ∧ Loc [] w wr X9 3 #[.int .i64 6, .int .i64 7, .int .i64 3, .int .i64 5, .int .i64 4] ∧ Loc [p] w wr p 89 (parC a c ts i d)) (fun v _ => 5 - (intOf v).toNat)
 case atStart => exact ⟨0, rfl, by omega, HV, E, g9, bp⟩
 case round =>
  (try clear c9); clear E b9 g9 bp cp HV
  (try clear hcE)
  obtain ⟨j, rfl, hj, HS, E, g9, bp⟩ := hrel
  have cp := bp.cf
  have c9 := g9.cell
  have f9 := g9.free
  have hcE := bcell E.low
  by_cases hlt : j < 5
  · obtain ⟨k, hk⟩ : ∃ k, ops5[j]? = some k := ⟨_, List.getElem?_eq_getElem (show j < ops5.length from hlt)⟩
    have q9 : wr.cell? ⟨X9, j, none⟩ = some (.int .i64 k) := by
     rw [c9]
     have : j = 0 ∨ j = 1 ∨ j = 2 ∨ j = 3 ∨ j = 4 := by omega
     rcases this with rfl | rfl | rfl | rfl | rfl <;> (simp [ops5] at hk; subst hk; rfl)
    have hst := opsAt_at HS hk
    clear hk c9
    obtain ⟨b, hb⟩ : ∃ b, isM ts i (signM k) = b := ⟨_, rfl⟩
    have HB := Lib.hid hb
    rw [hb] at hst
    clear hb HS
    by_cases hs : signN k = n
    · obtain ⟨s1, s2⟩ := kd_t hs
      cases b with
      | true =>
        have hVk : k = V := by rw [← hst, if_pos ⟨hs, rfl⟩]
        subst hVk
        have HS2 := Lib.hid hs
        clear hs hst
        go_upto_region 9999 with (first | ((with_reducible refine at_dst 17 ?_); go_simp; ((with_reducible refine (bsign_any k _).mono ?_)); unfold TIPost; rintro e wn ⟨rfl, hx⟩; (try replace E := E.ext hx); (try replace bp := bp.ext hx); (try replace g9 := g9.ext hx); (try replace hcE := bcell E.low); (try replace cp := (bp).cf)) | (go_at_call 88; ((refine (bis_any (ht.ext E.low) bp.blk (signM k)).mono ?_)); unfold BPost; rw [HB.out]; rintro e wn ⟨rfl, hx⟩; (try replace E := E.ext hx); (try replace bp := bp.ext hx); (try replace g9 := g9.ext hx); (try replace hcE := bcell E.low); (try replace cp := (bp).cf)))
        go_ret
        exact ⟨rfl, E.low⟩
      | false =>
        have HT : Hid (opsAt ts i n (ops5.drop (j + 1)) = V) := Lib.hid (by rw [← hst, if_neg (by simp)])
        have HS2 := Lib.hid hs
        clear hs hst
        go_upto_region 9999 with (first | ((with_reducible refine at_dst 17 ?_); go_simp; ((with_reducible refine (bsign_any k _).mono ?_)); unfold TIPost; rintro e wn ⟨rfl, hx⟩; (try replace E := E.ext hx); (try replace bp := bp.ext hx); (try replace g9 := g9.ext hx); (try replace hcE := bcell E.low); (try replace cp := (bp).cf)) | (go_at_call 88; ((refine (bis_any (ht.ext E.low) bp.blk (signM k)).mono ?_)); unfold BPost; rw [HB.out]; rintro e wn ⟨rfl, hx⟩; (try replace E := E.ext hx); (try replace bp := bp.ext hx); (try replace g9 := g9.ext hx); (try replace hcE := bcell E.low); (try replace cp := (bp).cf)))
        go_roundw
        case rel => exact ⟨j + 1, by go_num, by omega, HT, E, g9, bp⟩
        case measure => simp [intOf]; omega
    · obtain ⟨s1, s2⟩ := kd_f hs
      have HT : Hid (opsAt ts i n (ops5.drop (j + 1)) = V) := Lib.hid (by rw [← hst, if_neg (fun h => hs h.1)])
      have HS2 := Lib.hid hs
      clear hs hst
      go_upto_region 9999 with (first | ((with_reducible refine at_dst 17 ?_); go_simp; ((with_reducible refine (bsign_any k _).mono ?_)); unfold TIPost; rintro e wn ⟨rfl, hx⟩; (try replace E := E.ext hx); (try replace bp := bp.ext hx); (try replace g9 := g9.ext hx); (try replace hcE := bcell E.low); (try replace cp := (bp).cf)))
      go_roundw
      case rel => exact ⟨j + 1, by go_num, by omega, HT, E, g9, bp⟩
      case measure => simp [intOf]; omega
  · have hV0 : V = 0 := by
      have := HS.out
      rw [List.drop_of_length_le (show ops5.length ≤ j from by show 5 ≤ j; omega), opsAt] at this
      exact this.symm
    subst hV0
    go_upto_region 9999 with (first | fail)
    go_ret
    exact ⟨rfl, E.low⟩
open Go.RowKit Tk
/-! ### what an expression reads lies apart from a block -/
mutual
def Ex.away (p : Nat) : Ex → Prop
 | .mk h k => (h.names.length = 0 ∨ p ∉ ownB (h.hn.v h.names.length)) ∧ (k.length = 0 ∨ p ∉ ownB (h.hk.v k.length)) ∧ Ex.aways p k
def Ex.aways (p : Nat) : List Ex → Prop
 | [] => True
 | e :: l => e.away p ∧ Ex.aways p l
end
theorem not_one {p : Nat} {l : List Nat} (h : p ∉ l) : ∀ x ∈ l, x ∉ [p] := fun x hx hm => h (List.mem_singleton.1 hm ▸ hx)
mutual
theorem Ex.ok.only {w w1 : World} {p : Nat} (hx : Only [p] w w1) : ∀ {x : Ex}, x.ok w → x.away p → x.ok w1
 | .mk _ kids, h, ha => by
   unfold Ex.ok at h ⊢
   unfold Ex.away at ha
   exact ⟨RRow.only h.1 hx (ha.1.imp_right not_one), h.2.1.only hx (ha.2.1.imp_right not_one), Ex.oks.only hx (l := kids) h.2.2 ha.2.2⟩
theorem Ex.oks.only {w w1 : World} {p : Nat} (hx : Only [p] w w1) : ∀ {l : List Ex}, Ex.oks w l → Ex.aways p l → Ex.oks w1 l
 | [], _, _ => trivial
 | e :: l, h, ha => by
   unfold Ex.oks at h ⊢
   unfold Ex.aways at ha
   exact ⟨Ex.ok.only hx (x := e) h.1 ha.1, Ex.oks.only hx (l := l) h.2 ha.2⟩
end
theorem not_lt_in {N X : Nat} {l : List Nat} (h : ∀ x ∈ l, x < N) (hX : N ≤ X) : X ∉ l := fun hm => by have := h X hm; omega
mutual
theorem Ex.ok.notin {w : World} {X : Nat} (hX : w.heap.size ≤ X) : ∀ {x : Ex}, x.ok w → x.away X
 | .mk _ kids, h => by
   unfold Ex.ok at h
   unfold Ex.away
   exact ⟨(RRow.lt h.1).imp_right fun hl => not_lt_in hl hX, h.2.1.lt.imp_right fun hl => not_lt_in hl hX, Ex.oks.notin hX (l := kids) h.2.2⟩
theorem Ex.oks.notin {w : World} {X : Nat} (hX : w.heap.size ≤ X) : ∀ {l : List Ex}, Ex.oks w l → Ex.aways X l
 | [], _ => by unfold Ex.aways; trivial
 | e :: l, h => by
   unfold Ex.oks at h
   unfold Ex.aways
   exact ⟨Ex.ok.notin hX (x := e) h.1, Ex.oks.notin hX (l := l) h.2⟩
end
structure Ex.okp (p : Nat) (w : World) (x : Ex) : Prop where
 ok : x.ok w
 away : x.away p
section
variable {p X : Nat} {w w1 : World} {x : Ex}
theorem Ex.okp.ext (h : Ex.okp p w x) (hx : Ext w w1) : Ex.okp p w1 x := ⟨h.ok.ext hx, h.away⟩
theorem Ex.okp.only (h : Ex.okp p w x) (hx : Only [p] w w1) : Ex.okp p w1 x := ⟨h.ok.only hx h.away, h.away⟩
theorem Ex.okp.butb (h : Ex.okp p w x) (hb : But p w w1) : Ex.okp p w1 x := h.only (Only.of_but hb (List.mem_singleton.2 rfl))
theorem Ex.okp.notin (h : Ex.okp p w x) (hX : w.heap.size ≤ X) : x.away X := h.ok.notin hX
theorem Ex.okp.but0 (h : Ex.okp p w x) (hb : But X w w1) (hm : x.away X) : Ex.okp p w1 x := ⟨h.ok.only (Only.of_but hb (List.mem_singleton.2 rfl)) hm, h.away⟩
end
/-! ### an expression in blocks that are new from block N on -/
mutual
def Ex.fr (N : Nat) : Ex → Prop
 | .mk h k => (h.names.length = 0 ∨ ∀ b ∈ ownB (h.hn.v h.names.length), N ≤ b) ∧ (k.length = 0 ∨ ∀ b ∈ ownB (h.hk.v k.length), N ≤ b) ∧ Ex.frs N k
def Ex.frs (N : Nat) : List Ex → Prop
 | [] => True
 | e :: l => e.fr N ∧ Ex.frs N l
end
mutual
theorem Ex.fr.away {N X : Nat} (hX : X < N) : ∀ {x : Ex}, x.fr N → x.away X
 | .mk _ k, h => by
   unfold Ex.fr at h
   unfold Ex.away
   exact ⟨h.1.imp_right fun hl hm => by have := hl X hm; omega, h.2.1.imp_right fun hl hm => by have := hl X hm; omega, Ex.frs.away hX (l := k) h.2.2⟩
theorem Ex.frs.away {N X : Nat} (hX : X < N) : ∀ {l : List Ex}, Ex.frs N l → Ex.aways X l
 | [], _ => by unfold Ex.aways; trivial
 | e :: l, h => by
   unfold Ex.frs at h
   unfold Ex.aways
   exact ⟨Ex.fr.away hX (x := e) h.1, Ex.frs.away hX (l := l) h.2⟩
end
mutual
theorem Ex.fr.mono {N M : Nat} (hM : M ≤ N) : ∀ {x : Ex}, x.fr N → x.fr M
 | .mk _ k, h => by
   unfold Ex.fr at h ⊢
   exact ⟨h.1.imp_right fun hl b hm => Nat.le_trans hM (hl b hm), h.2.1.imp_right fun hl b hm => Nat.le_trans hM (hl b hm), Ex.frs.mono hM (l := k) h.2.2⟩
theorem Ex.frs.mono {N M : Nat} (hM : M ≤ N) : ∀ {l : List Ex}, Ex.frs N l → Ex.frs M l
 | [], _ => by unfold Ex.frs; trivial
 | e :: l, h => by
   unfold Ex.frs at h ⊢
   exact ⟨Ex.fr.mono hM (x := e) h.1, Ex.frs.mono hM (l := l) h.2⟩
end
theorem frs1 {N : Nat} {y : Ex} (h : y.fr N) : Ex.frs N [y] := by unfold Ex.frs; exact ⟨h, by unfold Ex.frs; trivial⟩
theorem frs2 {N : Nat} {y z : Ex} (h : y.fr N) (k : z.fr N) : Ex.frs N [y, z] := by unfold Ex.frs; exact ⟨h, frs1 k⟩
theorem own_blk {X n c : Nat} : ∀ b ∈ ownB (.slice (some ⟨X, 0, none⟩) n c), b = X := fun b hb => by simpa [ownB, Value.ownBlock] using hb
theorem nodeX_fr {N : Nat} {k : Int} {X c : Nat} {kids : List Ex} (hX : N ≤ X) (h : Ex.frs N kids) : (nodeX k (some ⟨X, 0, none⟩) c kids).fr N := by
 unfold nodeX Ex.fr
 exact ⟨.inl rfl, .inr fun b hb => by rw [own_blk b hb]; exact hX, h⟩
theorem nameX_fr {N X : Nat} {s : ByteArray} (hX : N ≤ X) : (nameX X s).fr N := by
 unfold nameX Ex.fr
 exact ⟨.inr fun b hb => by rw [own_blk b hb]; exact hX, .inl rfl, by unfold Ex.frs; trivial⟩
theorem nodeX_away {p op : Nat} {k : Int} {X c : Nat} {kids : List Ex} (hX : X ≠ p) (h : Ex.aways p kids) : (nodeX k (some ⟨X, 0, none⟩) c kids).away p := by
 unfold nodeX Ex.away
 refine ⟨.inl rfl, .inr ?_, h⟩
 simp [ownB, Hd.v, Value.ownBlock, Ne.symm hX]
theorem nodeX_bare (k : Int) (a : Option Addr) (c : Nat) (kids : List Ex) : (nodeX k a c kids).bare = opX k (kids.map Ex.bare) := by
 unfold nodeX opX; rw [Ex.bare, Ex.bares_map]; rfl
theorem nameX_bare (X : Nat) (s : ByteArray) : (nameX X s).bare = nmX s := by unfold nameX nmX; rw [Ex.bare, Ex.bares]; rfl
theorem nameX_ok {w : World} {X : Nat} {s : ByteArray} (b : Blk w X 9 #[.string s]) : (nameX X s).ok w := by
 unfold nameX Ex.ok
 exact ⟨RRow.blk (xs := [s]) strC_l b rfl (show 1 ≤ maxLen by decide), RRow.nil _ _ _, by unfold Ex.oks; trivial⟩
theorem oks1 {w : World} {y : Ex} (h : y.ok w) : Ex.oks w [y] := by unfold Ex.oks; exact ⟨h, trivial⟩
theorem oks2 {w : World} {y z : Ex} (h : y.ok w) (k : z.ok w) : Ex.oks w [y, z] := by unfold Ex.oks; exact ⟨h, oks1 k⟩
theorem aways1 {p : Nat} {y : Ex} (h : y.away p) : Ex.aways p [y] := by unfold Ex.aways; exact ⟨h, by unfold Ex.aways; trivial⟩
theorem aways2 {p : Nat} {y z : Ex} (h : y.away p) (k : z.away p) : Ex.aways p [y, z] := by unfold Ex.aways; exact ⟨h, aways1 k⟩
def ParPost (p : Nat) (a : Option Addr) (c : Nat) (ts : List Tok) (d : Nat) (r : PR) (w : World) (e : Ending) (w' : World) : Prop :=
 match r with
 | .none => False
 | .err k j => e = .panicked [{ v := failV k (posAt ts j), recovered := false }] ∧ Only [p] w w'
 | .ok x j => ∃ y, e = .returned (.agg (exC y).toArray) ∧ y.ok w' ∧ y.fr w.heap.size ∧ y.bare = x ∧ Blk w' p 89 (parC a c ts j d) ∧ Only [p] w w'
@[reducible] def NotOk (f : Nat) : Prop := ∀ {p i d : Nat} {a : Option Addr} {c : Nat} {ts : List Tok} {w : World}, TkAt p w a c ts → Blk w p 89 (parC a c ts i d) → i ≤ ts.length → d ≤ 12 → prs ts f 5 i d ≠ .none →
 Calls Try.prog 63 #[.pointer (some ⟨p, 0, none⟩)] w (ParPost p a c ts d (prs ts f 5 i d) w)
@[reducible] def BinOk (f : Nat) : Prop := ∀ {p i d : Nat} {a : Option Addr} {c : Nat} {ts : List Tok} {w : World} (n : Nat), 1 ≤ n → n ≤ 5 → TkAt p w a c ts → Blk w p 89 (parC a c ts i d) → i ≤ ts.length → d ≤ 12 → prs ts f n i d ≠ .none →
 Calls Try.prog 42 #[.pointer (some ⟨p, 0, none⟩), .int .i64 n] w (ParPost p a c ts d (prs ts f n i d) w)
theorem prs_in (ts : List Tok) : ∀ f : Nat,
    (∀ n i d x j, prs ts f n i d = .ok x j → i < j ∧ j ≤ ts.length) ∧
    (∀ n x i d y j, i ≤ ts.length → plp ts f n x i d = .ok y j → i ≤ j ∧ j ≤ ts.length)
 | 0 => ⟨fun n i d x j h => (by rw [prs] at h; cases h), fun n x i d y j hi h => (by rw [plp] at h; cases h)⟩
 | f + 1 => by
   obtain ⟨ihp, ihl⟩ := prs_in ts f
   refine ⟨fun n i d y k h => ?_, fun n x i d y k hi h => ?_⟩
   · rw [prs] at h
     by_cases hn : n = 5
     · subst hn
       rw [if_pos rfl] at h
       cases hnm : nameAt ts i with
       | some s =>
         rw [hnm] at h
         have := nameAt_lt hnm
         injection h with _ h; subst h; omega
       | none =>
         rw [hnm] at h
         dsimp only at h
         by_cases hb : isM ts i ⟨#[33]⟩ = true
         · have hl := isM_lt hb
           rw [if_pos hb] at h
           by_cases hd : 12 ≤ d
           · rw [if_pos hd] at h; cases h
           · rw [if_neg hd] at h
             cases hr : prs ts f 5 (i + 1) (d + 1) with
             | none => rw [hr] at h; cases h
             | err c j => rw [hr] at h; cases h
             | ok x j =>
               rw [hr] at h
               have := ihp _ _ _ _ _ hr
               injection h with _ h; subst h; omega
         · rw [if_neg hb] at h
           by_cases hp : isM ts i ⟨#[40]⟩ = true
           · have hl := isM_lt hp
             rw [if_pos hp] at h
             by_cases hd : 12 ≤ d
             · rw [if_pos hd] at h; cases h
             · rw [if_neg hd] at h
               cases hr : prs ts f 1 (i + 1) (d + 1) with
               | none => rw [hr] at h; cases h
               | err c j => rw [hr] at h; cases h
               | ok x j =>
                 rw [hr] at h
                 have := ihp _ _ _ _ _ hr
                 dsimp only at h
                 by_cases hc : isM ts j ⟨#[41]⟩ = true
                 · have hl2 := isM_lt hc
                   rw [if_pos hc] at h
                   injection h with _ h; subst h; omega
                 · rw [if_neg hc] at h; cases h
           · rw [if_neg hp] at h; cases h
     · rw [if_neg hn] at h
       cases hr : prs ts f (n + 1) i d with
       | none => rw [hr] at h; cases h
       | err c j => rw [hr] at h; cases h
       | ok x j =>
         rw [hr] at h
         have := ihp _ _ _ _ _ hr
         have := ihl _ _ _ _ _ _ this.2 h
         omega
   · rw [plp] at h
     by_cases ho : opAt ts i n = 0
     · rw [if_pos ho] at h
       injection h with _ h; subst h; omega
     · have hl := opAt_lt ho
       rw [if_neg ho] at h
       cases hr : prs ts f (n + 1) (i + 1) d with
       | none => rw [hr] at h; cases h
       | err c j => rw [hr] at h; cases h
       | ok y j =>
         rw [hr] at h
         have := ihp _ _ _ _ _ hr
         have := ihl _ _ _ _ _ _ this.2 h
         omega
theorem isM_name {ts : List Tok} {i : Nat} {m : ByteArray} (h : isM ts i m = true) : nameAt ts i = none := by
 unfold isM at h
 unfold nameAt
 split at h
 · rename_i t ht
   simp only [Bool.and_eq_true, decide_eq_true_eq] at h
   rw [if_neg (by omega)]
 · cases h
theorem isM_two {ts : List Tok} {i : Nat} {m n : ByteArray} (h : isM ts i m = true) (hn : m ≠ n) : isM ts i n = false := by
 unfold isM at h ⊢
 split at h
 · rename_i t ht
   simp only [Bool.and_eq_true, decide_eq_true_eq] at h
   have h2 : decide (t.text = n) = false := decide_eq_false (by rw [h.2]; exact hn)
   rw [h2, Bool.and_false]
 · cases h
end Go.Proofs.Ytbobbbhgdfapjaa
