/- M2, Ob -/
import Derived.Test.YtbobbbhgdfapjaaGreatZB1
import Derived.Test.YtbobbbhgdfapjaaGreatZB2
import Derived.Test.YtbobbbhgdfapjaaGreatZB3
import Derived.Test.YtbobbbhgdfapjaaGreatZB4
import Derived.Test.YtbobbbhgdfapjaaGreatZB5
import Derived.Test.YtbobbbhgdfapjaaGreatZB6
import Derived.Test.YtbobbbhgdfapjaaGreatZB7
import Derived.Test.YtbobbbhgdfapjaaGreatZBkt1
import Derived.Test.YtbobbbhgdfapjaaGreatZB8
import Derived.Test.YtbobbbhgdfapjaaGreatZB9
import Derived.Test.YtbobbbhgdfapjaaGreatZB10
import Derived.Test.YtbobbbhgdfapjaaGreatZB11
import Derived.Test.YtbobbbhgdfapjaaGreatZB12
import Derived.Test.YtbobbbhgdfapjaaGreatZB13
import Derived.Test.YtbobbbhgdfapjaaGreatZB14
import Derived.Test.YtbobbbhgdfapjaaGreatZB15
import Derived.Test.YtbobbbhgdfapjaaGreatZB16
import Derived.Test.YtbobbbhgdfapjaaGreatZB17
import Derived.Test.YtbobbbhgdfapjaaGreatZB18
import Derived.Test.YtbobbbhgdfapjaaGreatZB19
import Derived.Test.YtbobbbhgdfapjaaGreatZB20
import Derived.Test.YtbobbbhgdfapjaaGreatZBikst1
import Derived.Test.YtbobbbhgdfapjaaGreatZB21
import Derived.Test.YtbobbbhgdfapjaaGreatZBkt2
import Derived.Test.YtbobbbhgdfapjaaGreatZB22
import Derived.Test.YtbobbbhgdfapjaaGreatZB23
import Derived.Test.YtbobbbhgdfapjaaGreatZB24
import Derived.Test.YtbobbbhgdfapjaaGreatZB25
import Derived.Test.YtbobbbhgdfapjaaGreatZBncv1
import Derived.Test.YtbobbbhgdfapjaaGreatZB26
import Derived.Test.YtbobbbhgdfapjaaGreatZB27
import Derived.Test.YtbobbbhgdfapjaaGreatZB28
import Derived.Test.YtbobbbhgdfapjaaGreatZB29
import Derived.Test.YtbobbbhgdfapjaaGreatZB30
import Derived.Test.YtbobbbhgdfapjaaGreatZB31
import Derived.Test.YtbobbbhgdfapjaaGreatZBkt3
import Derived.Test.YtbobbbhgdfapjaaGreatZB32
import Derived.Test.YtbobbbhgdfapjaaGreatZBkt4
import Derived.Test.YtbobbbhgdfapjaaGreatZB33
import Derived.Test.YtbobbbhgdfapjaaGreatZB34
import Derived.Test.YtbobbbhgdfapjaaGreatZB35
import Derived.Test.YtbobbbhgdfapjaaGreatRows
import Derived.Test.YtbobbbhgdfapjaaGreatZB36
import Derived.Test.YtbobbbhgdfapjaaGreatZBkv1
set_option linter.unusedSimpArgs false
set_option linter.unusedVariables false
namespace Go.Proofs.YtbobbbhgdfapjaaGreat
set_option maxHeartbeats 8000000
set_option maxRecDepth 100000
open Go.RowKit Tk
theorem lawTokens {a : Option Addr} {c : Nat} {ts : List Tok} {w : World} (hts : RRow w 4 Tok.cells (.slice a ts.length c) ts) (hsm : ∀ t ∈ ts, t.text.size ≤ maxLen) : Calls Tryz.prog 6 #[.slice a ts.length c] w (BPost true w) := by
 have n2 := (RRow.lens hts).2
 by_cases h2 : 200 < ts.length
 · have hlen := h2
   clear hsm
   go_enter Tryz.func6, Tryz.ntmps6
   have E := Only.refl [] w
   go_upto_region 9999 with (first | ((with_reducible refine at_dst 12 ?_); go_simp; ((with_reducible refine (awake_any _).mono ?_)); unfold BPost; rintro e wn ⟨rfl, hx⟩; (try replace E := E.ext hx); (try replace hcE := bcell E.low)))
   go_ret
   exact ⟨rfl, E.low⟩
 · have hlen : ts.length ≤ 1000000000000 := by omega
   obtain ⟨r, hr⟩ : ∃ r, toksR ts = r := ⟨_, rfl⟩
   have HT := Lib.hid hr
   clear hr
   cases r with
   | err k q =>
     go_enter Tryz.func6, Tryz.ntmps6
     have E := Only.refl [] w
     go_upto_region 9999 with (first | ((first | ((with_reducible refine at_dst 15 ?_); go_simp; (have hc := btokens_any (hts.ext E.low) hsm hlen); (first | with_reducible refine hc.mono ?_ | refine hc.mono ?_); clear hc; unfold TkPost; rw [HT.out]; dsimp only [fltV]; rintro e wn ⟨rfl, hx⟩) | ((with_reducible refine at_dst 21 ?_); go_simp; (have hc := qtokens_any (hts.ext E.low) hsm hlen); (first | with_reducible refine hc.mono ?_ | refine hc.mono ?_); clear hc; unfold TkPost; rw [HT.out]; dsimp only [fltV]; rintro e wn ⟨rfl, hx⟩) | ((with_reducible refine at_dst 27 ?_); go_simp; (have hc := qsame_true (u := zX) (v := zX) (zX_ok wn) (zX_ok wn) rfl); (first | with_reducible refine hc.mono ?_ | refine hc.mono ?_); clear hc; unfold BPost; rintro e wn ⟨rfl, hx⟩) | ((with_reducible refine at_dst 39 ?_); go_simp; ((with_reducible refine (awake_any _).mono ?_)); unfold BPost; rintro e wn ⟨rfl, hx⟩) | ((first | ((with_reducible refine at_store 3 ?_); have bo := b3; refine wp_put bo rfl rfl ?_ ?_ ?_ ?_) | ((with_reducible refine at_store 5 ?_); have bo := b5; refine wp_put bo rfl rfl ?_ ?_ ?_ ?_) | ((with_reducible refine at_store 6 ?_); have bo := b6; refine wp_put bo rfl rfl ?_ ?_ ?_ ?_) | ((with_reducible refine at_store 8 ?_); have bo := b8; refine wp_put bo rfl rfl ?_ ?_ ?_ ?_)); (· kernel_rfl); (· first | rfl | kernel_rfl); (· first | decide | exact Nat.le_refl _ | simp [Act.eval, Value.cells] | (simp [Act.eval, Act.put, Value.cells]; done)); intro wn bn hb; dsimp only [Act.put]; simp only [putA, Act.eval, Value.cells, Nat.reduceAdd, putL, exC_size] at bn; have E2 := E.put bo hb; (try replace b3 := b3.but hb (by assumption)); (try replace b5 := b5.but hb (by assumption)); (try replace b8 := b8.but hb (by assumption)); (try replace b6 := b6.but hb (by assumption)); (first | (replace hu := hu.but hb bo.blk (of_decide_eq_true rfl)) | (replace hu := hu.but0 hb (by assumption)) | skip); (first | (replace hv := hv.but hb bo.blk (of_decide_eq_true rfl)) | (replace hv := hv.but0 hb (by assumption)) | skip); clear E bo; have E := E2; clear E2; (try replace b3 := b3.re bn); (try replace b5 := b5.re bn); (try replace b6 := b6.re bn); (try replace b8 := b8.re bn); clear bn hb) | ((first | ((with_reducible refine at_dst 3 ?_); go_simp; (generalize hXn : Array.size (World.heap _) = X3); refine new_block hXn ?_; intro wn bb hx; have b3 := Loc.new bb E hXn) | ((with_reducible refine at_dst 5 ?_); go_simp; (generalize hXn : Array.size (World.heap _) = X5); refine new_block hXn ?_; intro wn bb hx; have b5 := Loc.new bb E hXn) | ((with_reducible refine at_dst 6 ?_); go_simp; (generalize hXn : Array.size (World.heap _) = X6); refine new_block hXn ?_; intro wn bb hx; have b6 := Loc.new bb E hXn) | ((with_reducible refine at_dst 8 ?_); go_simp; (generalize hXn : Array.size (World.heap _) = X8); refine new_block hXn ?_; intro wn bb hx; have b8 := Loc.new bb E hXn)); (try have ⟨nn, nm⟩ := b3.ne hXn); (try have ⟨nn, nm⟩ := b5.ne hXn); (try have ⟨nn, nm⟩ := b6.ne hXn); have zz := Nat.le_trans E.size (Nat.le_of_eq hXn); clear bb hXn)); (try replace E := E.ext hx); (try replace b3 := b3.ext hx); (try replace b5 := b5.ext hx); (try replace b6 := b6.ext hx); (try replace b8 := b8.ext hx); (try replace hcE := bcell E.low); (try replace c3 := b3.cf); (try replace c5 := b5.cf); (try replace c6 := b6.cf); (try replace c8 := b8.cf)) | ((with_reducible refine at_dsts [25, 26, 34] ?_ ?_); (· rfl); (refine wp_all (Loc.blk (by assumption)) rfl rfl ?_ ?_ ?_); (· kernel_rfl); (· kernel_rfl)))
     go_ret
     exact ⟨rfl, E.low⟩
   | ok x n =>
     go_enter Tryz.func6, Tryz.ntmps6
     have E := Only.refl [] w
     go_upto_region 9999 with (first | ((first | ((with_reducible refine at_dst 15 ?_); go_simp; (have hc := btokens_any (hts.ext E.low) hsm hlen); (first | with_reducible refine hc.mono ?_ | refine hc.mono ?_); clear hc; unfold TkPost; rw [HT.out]; dsimp only [fltV]; rintro e wn ⟨u, rfl, hu, hf, hub, hx⟩; (try replace hf := hf.mono E.size)) | ((with_reducible refine at_dst 21 ?_); go_simp; (have hc := qtokens_any (hts.ext E.low) hsm hlen); (first | with_reducible refine hc.mono ?_ | refine hc.mono ?_); clear hc; unfold TkPost; rw [HT.out]; dsimp only [fltV]; rintro e wn ⟨v, rfl, hv, hf, hvb, hx⟩; (try have mhv_3 := hf.away b3.lt); (try have mhv_5 := hf.away b5.lt); (try replace hf := hf.mono E.size)) | ((with_reducible refine at_dst 27 ?_); go_simp; (have hc := qsame_true hu hv (hub.trans hvb.symm)); (first | with_reducible refine hc.mono ?_ | refine hc.mono ?_); clear hc; unfold BPost; rintro e wn ⟨rfl, hx⟩) | ((with_reducible refine at_dst 39 ?_); go_simp; ((with_reducible refine (awake_any _).mono ?_)); unfold BPost; rintro e wn ⟨rfl, hx⟩) | ((first | ((with_reducible refine at_store 3 ?_); have bo := b3; refine wp_put bo rfl rfl ?_ ?_ ?_ ?_) | ((with_reducible refine at_store 5 ?_); have bo := b5; refine wp_put bo rfl rfl ?_ ?_ ?_ ?_) | ((with_reducible refine at_store 6 ?_); have bo := b6; refine wp_put bo rfl rfl ?_ ?_ ?_ ?_) | ((with_reducible refine at_store 8 ?_); have bo := b8; refine wp_put bo rfl rfl ?_ ?_ ?_ ?_)); (· kernel_rfl); (· first | rfl | kernel_rfl); (· first | decide | exact Nat.le_refl _ | simp [Act.eval, Value.cells] | (simp [Act.eval, Act.put, Value.cells]; done)); intro wn bn hb; dsimp only [Act.put]; simp only [putA, Act.eval, Value.cells, Nat.reduceAdd, putL, exC_size] at bn; have E2 := E.put bo hb; (try replace b3 := b3.but hb (by assumption)); (try replace b5 := b5.but hb (by assumption)); (try replace b8 := b8.but hb (by assumption)); (try replace b6 := b6.but hb (by assumption)); (first | (replace hu := hu.but hb bo.blk (of_decide_eq_true rfl)) | (replace hu := hu.but0 hb (by assumption)) | skip); (first | (replace hv := hv.but hb bo.blk (of_decide_eq_true rfl)) | (replace hv := hv.but0 hb (by assumption)) | skip); clear E bo; have E := E2; clear E2; (try replace b3 := b3.re bn); (try replace b5 := b5.re bn); (try replace b6 := b6.re bn); (try replace b8 := b8.re bn); clear bn hb) | ((first | ((with_reducible refine at_dst 3 ?_); go_simp; (generalize hXn : Array.size (World.heap _) = X3); refine new_block hXn ?_; intro wn bb hx; have b3 := Loc.new bb E hXn) | ((with_reducible refine at_dst 5 ?_); go_simp; (generalize hXn : Array.size (World.heap _) = X5); refine new_block hXn ?_; intro wn bb hx; have b5 := Loc.new bb E hXn) | ((with_reducible refine at_dst 6 ?_); go_simp; (generalize hXn : Array.size (World.heap _) = X6); refine new_block hXn ?_; intro wn bb hx; have b6 := Loc.new bb E hXn) | ((with_reducible refine at_dst 8 ?_); go_simp; (generalize hXn : Array.size (World.heap _) = X8); refine new_block hXn ?_; intro wn bb hx; have b8 := Loc.new bb E hXn)); (try have ⟨nn, nm⟩ := b3.ne hXn); (try have ⟨nn, nm⟩ := b5.ne hXn); (try have ⟨nn, nm⟩ := b6.ne hXn); have zz := Nat.le_trans E.size (Nat.le_of_eq hXn); (try have mm := hu.notin (Nat.le_of_eq hXn)); (try have mm := hv.notin (Nat.le_of_eq hXn)); clear bb hXn)); (try replace E := E.ext hx); (try replace b3 := b3.ext hx); (try replace b5 := b5.ext hx); (try replace b6 := b6.ext hx); (try replace b8 := b8.ext hx); (try replace hu := hu.ext hx); (try replace hv := hv.ext hx); (try replace hcE := bcell E.low); (try replace c3 := b3.cf); (try replace c5 := b5.cf); (try replace c6 := b6.cf); (try replace c8 := b8.cf)) | ((with_reducible refine at_dsts [25, 26, 34] ?_ ?_); (· rfl); (refine wp_all (Loc.blk (by assumption)) rfl rfl ?_ ?_ ?_); (· kernel_rfl); (· kernel_rfl)))
     go_ret
     exact ⟨rfl, E.low⟩
open Go.ChangeShapes Go.WideShapes Go.ChangeAt Go.RowKit Tk
section
variable {W : World}
end
section
variable {H : Type} {enc : TypeId × Value → H} {W : World}
theorem undf_pos : ∃ fs, Tryz.prog.underlying 44 = some (.struct fs) ∧ fs.toList.map (fun f => (f.type, f.offset)) = [(3, 0), (3, 1)] := ⟨_, Tryz.underlying44, by kernel_rfl⟩
theorem pos_open {fuel : Nat} {base : Nat} {sp : Nat → Bool} {held : Bool} {cs : List Value} {x : DataW H × List MemPlace} (h : DataW.trod enc Tryz.prog W base sp held fuel 44 cs = some x) : ∃ a b : Int, cs = [.int .i64 a, .int .i64 b]  := by
 obtain ⟨fs, hu, hf⟩ := undf_pos
 obtain ⟨xs, n, hn, hx, hl, hxl, hat⟩ := DataW.trod_struct hu h
 rw [one_pos] at hl
 have hsz : fs.size = 2 := by have := congrArg List.length hf; simpa using this
 rw [hsz] at hxl
 obtain ⟨f0, e0, t0, o0⟩ := field_at hf 0 _ rfl
 obtain ⟨x0, g0⟩ := some_len hxl (i := 0) (by omega)
 have h0 := (hat 0 f0 e0).trans g0
 rw [t0, o0] at h0
 dsimp only at h0
 rw [one_int] at h0
 obtain ⟨m0, c0, d0, r0⟩ := DataW.trod_int Tryz.underlying3 h0
 have p0 := chunk c0
 have b0 := one_le x0.1
 obtain ⟨f1, e1, t1, o1⟩ := field_at hf 1 _ rfl
 obtain ⟨x1, g1⟩ := some_len hxl (i := 1) (by omega)
 have h1 := (hat 1 f1 e1).trans g1
 rw [t1, o1] at h1
 dsimp only at h1
 rw [one_int] at h1
 obtain ⟨m1, c1, d1, r1⟩ := DataW.trod_int Tryz.underlying3 h1
 have p1 := chunk c1
 have b1 := one_le x1.1
 have hend : cs.drop 2 = [] := List.drop_of_length_le (by omega)
 have hend2 : xs.drop 2 = [] := List.drop_of_length_le (by omega)
 have hxs : xs = [x0, x1] := by
  rw [show xs = xs.drop 0 from rfl, drop_at g0, drop_at g1, hend2]
 have hb : Rows.uptoBulk x.1 = Rows.uptoBulk x0.1 + Rows.uptoBulk x1.1 + 1 := by
  rw [hx, Rows.uptoBulk, bulk_all, hxs]
  simp only [List.map_cons, List.map_nil, List.sum_cons, List.sum_nil]; omega
 refine ⟨m0, m1, ?_⟩
 rw [show cs = cs.drop 0 from rfl, p0, p1, show cs.drop (0 + 1 + 1) = [] from hend]
 rfl
theorem one_tok : Tryz.prog.cellsOf 80 = 4 := by kernel_rfl
theorem und_tokl : Tryz.prog.underlying 50 = some (.slice 80) := by kernel_rfl
theorem undf_tok : ∃ fs, Tryz.prog.underlying 80 = some (.struct fs) ∧ fs.toList.map (fun f => (f.type, f.offset)) = [(3, 0), (9, 1), (44, 2)] := ⟨_, Tryz.underlying80, by kernel_rfl⟩
theorem tok_open {fuel : Nat} {base : Nat} {sp : Nat → Bool} {held : Bool} {cs : List Value} {x : DataW H × List MemPlace} (h : DataW.trod enc Tryz.prog W base sp held fuel 80 cs = some x) : ∃ t : Tok, cs = Tok.cells t ∧ t.text.size ≤ maxLen ∧ (Tok.cells t).length = 4 := by
 obtain ⟨fs, hu, hf⟩ := undf_tok
 obtain ⟨xs, n, hn, hx, hl, hxl, hat⟩ := DataW.trod_struct hu h
 rw [one_tok] at hl
 have hsz : fs.size = 3 := by have := congrArg List.length hf; simpa using this
 rw [hsz] at hxl
 obtain ⟨f0, e0, t0, o0⟩ := field_at hf 0 _ rfl
 obtain ⟨x0, g0⟩ := some_len hxl (i := 0) (by omega)
 have h0 := (hat 0 f0 e0).trans g0
 rw [t0, o0] at h0
 dsimp only at h0
 rw [one_int] at h0
 obtain ⟨m0, c0, d0, r0⟩ := DataW.trod_int Tryz.underlying3 h0
 have p0 := chunk c0
 obtain ⟨f1, e1, t1, o1⟩ := field_at hf 1 _ rfl
 obtain ⟨x1, g1⟩ := some_len hxl (i := 1) (by omega)
 have h1 := (hat 1 f1 e1).trans g1
 rw [t1, o1] at h1
 dsimp only at h1
 rw [one_string] at h1
 obtain ⟨m1, c1, r1, b1⟩ := string_open h1
 have p1 := chunk c1
 obtain ⟨f2, e2, t2, o2⟩ := field_at hf 2 _ rfl
 obtain ⟨x2, g2⟩ := some_len hxl (i := 2) (by omega)
 have h2 := (hat 2 f2 e2).trans g2
 rw [t2, o2] at h2
 dsimp only at h2
 rw [one_pos] at h2
 obtain ⟨m2, n2, c2⟩ := pos_open h2
 have p2 := chunk c2
 have hend : cs.drop 4 = [] := List.drop_of_length_le (by omega)
 refine ⟨⟨m0, m1, (m2, n2)⟩, ?_, r1, rfl⟩
 rw [show cs = cs.drop 0 from rfl, p0, p1, show cs.drop (0 + 1 + 1) = cs.drop 2 from rfl, p2, show cs.drop (2 + 2) = [] from hend]
 rfl
theorem open_toks {sp : Nat → Bool} {held : Bool} {base : Nat} {r : Reach} {b0 : Nat} {v : Value} {d : DataW H} {ps : List MemPlace} (hval : Value.okWide Tryz.prog W r b0 50 v) (h : DataW.Trod enc Tryz.prog W base sp held 50 v d ps) :
    ∃ l, RRow W 4 Tok.cells v l ∧ ∀ t ∈ l, t.text.size ≤ maxLen := by
 obtain ⟨l, h1, h2, _⟩ := open_rrow (f := Tok.cells) (ok := fun t => t.text.size ≤ maxLen) und_tokl one_tok (by omega) ⟨0, ⟨#[]⟩, (0, 0)⟩ tok_open hval h
 exact ⟨l, h1, h2⟩
end
end Go.Proofs.YtbobbbhgdfapjaaGreat
