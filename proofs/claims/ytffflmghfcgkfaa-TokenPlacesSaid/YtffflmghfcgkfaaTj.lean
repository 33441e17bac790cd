/- The walk of Scan: what it returns is scanS. -/
import Derived.Test.YtffflmghfcgkfaaTs
import Derived.OwnWalk
set_option linter.unusedSimpArgs false
set_option linter.unusedVariables false
namespace Go.Proofs.Ytffflmghfcgkfaa
open Go.RowKit Tk

theorem own_below {w w' : World} {base : Nat} {e : TypeId} {size : Nat} {v : Value} {n : Nat} {xs : List Value} (h : w.ownsRow base e size v n xs) (hb : Below w.heap.size w w') : w'.ownsRow base e size v n xs :=
  h.kept (row := none) ⟨hb.os, hb.tape, hb.output, hb.size, fun k hk _ => hb.block k hk⟩ (by cases hv : v.ownBlock <;> simp)
theorem own_but {w w' : World} {b base : Nat} {e : TypeId} {size : Nat} {v : Value} {n : Nat} {xs : List Value} (h : w.ownsRow base e size v n xs) (hb : But b w w') (hlt : b < base) : w'.ownsRow base e size v n xs :=
  h.kept (row := some b) ⟨hb.os, hb.tape, hb.output, hb.size, fun k hk hn => hb.block k hk (fun e => hn (by rw [e]))⟩ (by
    cases hv : v.ownBlock with
    | none => exact .inl rfl
    | some g => right; intro e'; injection e' with e'; have := (h.lt g hv).1; omega)
theorem below_grown {w w' : World} {B base : Nat} {e : TypeId} {size : Nat} {v : Value} {n : Nat} {xs : List Value} (h : w.ownsRow base e size v n xs) (hg : w.grownBy w' v.ownBlock) (hB : B ≤ base) (hw : B ≤ w.heap.size) : Below B w w' :=
  ⟨hg.os, hg.tape, hg.output, hg.size, fun k hk => hg.block k (by omega) (fun e' => by have := (h.lt k e'.symm).1; omega)⟩
theorem own_base {w : World} {base base' : Nat} {e : TypeId} {size : Nat} {v : Value} {n : Nat} {xs : List Value} (h : w.ownsRow base e size v n xs) (hb : base' ≤ base) : w.ownsRow base' e size v n xs := by
  refine ⟨h.1, ?_⟩
  rcases h.2 with h2 | ⟨g, cap, cur, h1, h2, h3⟩
  · exact .inl h2
  · exact .inr ⟨g, cap, cur, h1, by omega, h3⟩
theorem own_ne {w : World} {base : Nat} {e : TypeId} {size : Nat} {v : Value} {n : Nat} {xs : List Value} (h : w.ownsRow base e size v n xs) {g : Nat} (hg : g < base) : some g ≠ v.ownBlock := fun e' => by
  have := (h.lt g e'.symm).1
  omega
theorem Blk.four {w : World} {g : Nat} {t : TypeId} {a b c d : Value} (h : Blk w g t #[a, b, c, d]) :
    w.cell? ⟨g, 0, none⟩ = some a ∧ w.cell? ⟨g, 1, none⟩ = some b ∧ w.cell? ⟨g, 2, none⟩ = some c ∧ w.cell? ⟨g, 3, none⟩ = some d ∧
    w.frozen? ⟨g, 0, none⟩ = false ∧ w.frozen? ⟨g, 1, none⟩ = false ∧ w.frozen? ⟨g, 2, none⟩ = false ∧ w.frozen? ⟨g, 3, none⟩ = false :=
  ⟨h.cell 0, h.cell 1, h.cell 2, h.cell 3, h.free 0, h.free 1, h.free 2, h.free 3⟩
theorem skipL_le (c : Bool) (l : List UInt8) : skipL c l ≤ l.length := by
  induction l generalizing c with
  | nil => simp [skipL]
  | cons x l ih =>
    unfold skipL
    have h1 := ih false
    have h2 := ih true
    have h3 := ih c
    simp only [List.length_cons]
    split
    · omega
    · split
      · omega
      · split <;> omega
theorem scanF_end {src : ByteArray} {f k k1 : Nat} (h : k1 = k + skipL false (src.data.toList.drop k)) (hl : src.size ≤ k1) : scanF src (f + 1) k = .ok [⟨0, ⟨#[]⟩, loc src.data.toList src.size⟩] := by
  rw [scanF, ← h, if_pos hl]
theorem scanF_err {src : ByteArray} {f k k1 off : Nat} {c : Int} (h : k1 = k + skipL false (src.data.toList.drop k)) (hl : ¬ src.size ≤ k1) (ho : oneR (src.data.toList.drop k1) = .err c off) : scanF src (f + 1) k = .err c (loc src.data.toList (k1 + off)) := by
  rw [scanF, ← h, if_neg hl, ho]
theorem scanF_ok {src : ByteArray} {f k k1 n : Nat} {kd : Int} (h : k1 = k + skipL false (src.data.toList.drop k)) (hl : ¬ src.size ≤ k1) (ho : oneR (src.data.toList.drop k1) = .ok kd n) : scanF src (f + 1) k = SR.add [⟨kd, tokT src k1 kd n, loc src.data.toList k1⟩] (scanF src f (k1 + n)) := by
  rw [scanF, ← h, if_neg hl, ho]
theorem oneR_err (l : List UInt8) (c : Int) (off : Nat) (h : oneR l = .err c off) : (c == 0) = false := by
  unfold oneR nameR numR textR markR at h
  split at h
  · split at h
    · injection h with h1 h2; subst h1; rfl
    · cases h
  · split at h
    · split at h
      · injection h with h1 h2; subst h1; rfl
      · split at h
        · injection h with h1 h2; subst h1; rfl
        · cases h
    · split at h
      · split at h
        · injection h with h1 h2; subst h1; rfl
        · split at h
          · injection h with h1 h2; subst h1; rfl
          · split at h
            · injection h with h1 h2; subst h1; rfl
            · cases h
      · split at h
        · injection h with h1 h2; subst h1; rfl
        · cases h

theorem info_tok : (Try.prog.info? 34).map (fun i => (i.zero, i.size, i.bytes)) = some (some (.agg #[.int .i64 0, .string ⟨#[]⟩, .int .i64 0, .int .i64 0]), 4, 40) := by kernel_rfl
theorem und_toks : Try.prog.underlying 23 = some (.slice 34) := by kernel_rfl

theorem fresh_cells (w : World) (cs : Array Value) (t : TypeId) (j : Nat) (u : Value) (h : cs.toList[j]? = some u) : (w.alloc (.cells cs t)).cell? ((⟨w.heap.size, 0, none⟩ : Addr).add j) = some u := by
  have e : (⟨w.heap.size, 0, none⟩ : Addr).add j = ⟨w.heap.size, j, none⟩ := by unfold Addr.add; split <;> simp_all
  rw [e, Blk.cell (Blk.fresh w t cs) j, ← Array.getElem?_toList]; exact h

theorem fresh_at (w : World) (cs : Array Value) (t : TypeId) (g : Nat) (hg : g = w.heap.size) (j : Nat) (u : Value) (h : cs.toList[j]? = some u) : (w.alloc (.cells cs t)).cell? ((⟨g, 0, none⟩ : Addr).add j) = some u := by
  subst hg; exact fresh_cells w cs t j u h

def ScanPost (src : ByteArray) (w : World) (e : Ending) (w' : World) : Prop :=
  match scanS src with
  | .ok ts => ∃ v, e = .returned (.tuple #[v, flt 0 0 0]) ∧ w'.ownsRow w.heap.size 34 4 v ts.length (cellsT ts) ∧ Below w.heap.size w w'
  | .err c p => e = .returned (.tuple #[.slice none 0 0, flt c p.1 p.2]) ∧ Below w.heap.size w w'

/-- what holds ahead of a round -/
def ScanRel (src : ByteArray) (w : World) (v : Value) (wr : World) : Prop :=
  ∃ (k f : Nat) (acc : List Tok), k ≤ src.size ∧ Hid (src.size < k + f) ∧ Hid (acc.length ≤ k) ∧ Hid (SR.add acc (scanF src f k) = scanF src (src.size + 1) 0) ∧
    Hid (wr.ownsRow (w.heap.size + 2) 34 4 v acc.length (cellsT acc)) ∧ Hid (Scn wr (w.heap.size + 1) src k) ∧
    Hid (Blk wr w.heap.size 28 #[.int .i64 0, .int .i64 0, .int .i64 0, .string ⟨#[]⟩]) ∧ Hid (Below w.heap.size w wr)

set_option maxHeartbeats 1000000 in
theorem tScan_any (src : ByteArray) (w : World) : Calls Try.prog 14 #[.string src] w (ScanPost src w) := by
  by_cases hs : 65536 < src.size
  · have e0 : scanS src = .err 4 (0, 0) := by unfold scanS; rw [if_pos hs]
    have E0 := Lib.hid e0
    clear e0
    go_enter Try.func14, Try.ntmps14
    go_wp2_with (first | ((with_reducible refine wpTxt_q ?_ ?_ ?_); rfl; rfl; intro _ _) | ((with_reducible refine wpTxt_w0 ?_ ?_ ?_); rfl; rfl; intro _ _) | ((with_reducible refine wpTxt_s ?_ ?_); rfl; intro _ _; go_simp) | ((with_reducible refine wpTxt_sw ?_ ?_); rfl; intro _ _; go_simp) | (with_reducible refine wpTxt_nil ?_) | ((with_reducible refine wp_region_t mixed ?_ ?_); decide +kernel; intro _ _))
    refine bodyPost_ret (v := .tuple #[.slice none 0 0, flt 4 0 0]) (by simp [results, Try.f14, go_sem]) rfl ?_
    unfold ScanPost
    rw [E0.out]
    refine ⟨rfl, ?_⟩
    (repeat (first | with_reducible assumption | with_reducible exact Below.refl _ _ | ((with_reducible refine Below.setCell ?_ ?_ _); rotate_left; (· first | omega | (simp only [World.size_alloc, World.size_drew, World.size_setCell]; omega))) | ((with_reducible refine Below.alloc ?_ ?_ _); rotate_left; (· first | omega | (simp only [World.size_alloc, World.size_drew, World.size_setCell]; omega))) | ((with_reducible refine Below.drewN' ?_ _)) | ((with_reducible refine Below.drew ?_))))
  · have hs : src.size ≤ 65536 := by omega
    obtain ⟨i0, hi, iz0, iz1, iz2⟩ := info_parts info_tok
    go_enter Try.func14, Try.ntmps14
    go_wp2_with (first | ((with_reducible refine wpTxt_q ?_ ?_ ?_); rfl; rfl; intro _ _) | ((with_reducible refine wpTxt_w0 ?_ ?_ ?_); rfl; rfl; intro _ _) | ((with_reducible refine wpTxt_s ?_ ?_); rfl; intro _ _; go_simp) | ((with_reducible refine wpTxt_sw ?_ ?_); rfl; intro _ _; go_simp) | (with_reducible refine wpTxt_nil ?_) | ((with_reducible refine wp_region_t mixed ?_ ?_); decide +kernel; intro _ _))
    go_loopw [5] (fun i wr => ScanRel src w i wr) (fun _ wr => src.size - (match wr.cell? ⟨w.heap.size + 1, 1, none⟩ with | some v => (intOf v).toNat | none => 0))
    case atStart =>
      have hN := (Blk.fresh w 28 #[.int .i64 0, .int .i64 0, .int .i64 0, .string ⟨#[]⟩]).alloc (.cells #[.string src, .int .i64 0, .int .i64 1, .int .i64 1] 48)
      have hM := Blk.fresh (w.alloc (.cells #[.int .i64 0, .int .i64 0, .int .i64 0, .string ⟨#[]⟩] 28)) 48 #[.string src, .int .i64 0, .int .i64 1, .int .i64 1]
      rw [World.size_alloc] at hM
      refine ⟨0, src.size + 1, [], by omega, ?_, Nat.le_refl _, SR.add_nil _, World.ownsRow_nil _ _ _ _, hM, hN, ?_⟩
      · show src.size < 0 + (src.size + 1); omega
      · show Below _ _ _; (repeat (first | with_reducible assumption | with_reducible exact Below.refl _ _ | ((with_reducible refine Below.setCell ?_ ?_ _); rotate_left; (· first | omega | (simp only [World.size_alloc, World.size_drew, World.size_setCell]; omega))) | ((with_reducible refine Below.alloc ?_ ?_ _); rotate_left; (· first | omega | (simp only [World.size_alloc, World.size_drew, World.size_setCell]; omega))) | ((with_reducible refine Below.drewN' ?_ _)) | ((with_reducible refine Below.drew ?_))))
    case round =>
      obtain ⟨k, f, acc, hk, hf, ha, hR, hO, hS, hF, hL⟩ := hrel
      obtain ⟨f, rfl⟩ : ∃ f', f = f' + 1 := ⟨f - 1, by have := hf.out; omega⟩
      obtain ⟨k1, HK⟩ : ∃ k1, Hid (k1 = k + skipL false (src.data.toList.drop k)) := ⟨_, rfl⟩
      by_cases hle : src.size ≤ k1
      · go_wp2_with (first | (at_builtin; refine wpList_append_own _ rfl _ _ 23 rfl (w.heap.size + 2) 34 i0 _ 4 40 und_toks hi iz0 iz1 iz2 rfl (by decide) u5 acc.length (cellsT acc) rfl ?c0 _ 1 1 [.int .i64 0, .string ⟨#[]⟩, .int .i64 (loc src.data.toList k1).1, .int .i64 (loc src.data.toList k1).2] rfl rfl ?c1 ?c2 ?c3 ?c4 ?c5 ?_) | ((with_reducible refine wpTxt_q ?_ ?_ ?_); rfl; rfl; intro _ _) | ((with_reducible refine wpTxt_w0 ?_ ?_ ?_); rfl; rfl; intro _ _) | ((with_reducible refine wpTxt_s ?_ ?_); rfl; intro _ _; go_simp) | ((with_reducible refine wpTxt_sw ?_ ?_); rfl; intro _ _; go_simp) | (with_reducible refine wpTxt_nil ?_) | ((with_reducible refine wp_region_t mixed ?_ ?_); decide +kernel; intro _ _) | (go_at_call 33; ((with_reducible refine (sblanks_any (w.heap.size + 1) src k _ hS.out hs hk).mono ?_); rintro e w1 ⟨rfl, hS1, hB1⟩; rw [← HK.out] at hS1; have g2 := hS1.c2; have g3 := hS1.c3)) | (go_at_call 34; ((with_reducible refine (sended_any (w.heap.size + 1) src k1 _ hS1).mono ?_); rintro e w' ⟨rfl, rfl⟩)))
        case c0 => exact own_below (own_but hO.out hB1 (by omega)) (by (repeat (first | with_reducible assumption | with_reducible exact Below.refl _ _ | ((with_reducible refine Below.setCell ?_ ?_ _); rotate_left; (· first | omega | (simp only [World.size_alloc, World.size_drew, World.size_setCell]; omega))) | ((with_reducible refine Below.alloc ?_ ?_ _); rotate_left; (· first | omega | (simp only [World.size_alloc, World.size_drew, World.size_setCell]; omega))) | ((with_reducible refine Below.drewN' ?_ _)) | ((with_reducible refine Below.drew ?_)))))
        case c1 => intro j u hj; exact fresh_cells _ _ _ j u hj
        case c2 => intro u hu; simp at hu; rcases hu with rfl | rfl | rfl | rfl <;> rfl
        case c3 => have := ha.out; unfold maxLen; omega
        case c4 => have := ha.out; omega
        case c5 => have := Blk.lt hS1; simp; omega
        · intro v' w3 hown hgrow _
          have hF3 : Blk w3 _ _ _ := Blk.grown (Blk.low (hF.out.but hB1 (by omega)) (by (repeat (first | with_reducible assumption | with_reducible exact Below.refl _ _ | ((with_reducible refine Below.setCell ?_ ?_ _); rotate_left; (· first | omega | (simp only [World.size_alloc, World.size_drew, World.size_setCell]; omega))) | ((with_reducible refine Below.alloc ?_ ?_ _); rotate_left; (· first | omega | (simp only [World.size_alloc, World.size_drew, World.size_setCell]; omega))) | ((with_reducible refine Below.drewN' ?_ _)) | ((with_reducible refine Below.drew ?_)))))) hgrow (own_ne hO.out (by omega))
          obtain ⟨c0, c1, c2, c3, f0, f1, f2, f3⟩ := hF3.four
          have hz := hF3.lt
          go_wp2_with (first | ((with_reducible refine wpTxt_q ?_ ?_ ?_); rfl; rfl; intro _ _) | ((with_reducible refine wpTxt_w0 ?_ ?_ ?_); rfl; rfl; intro _ _) | ((with_reducible refine wpTxt_s ?_ ?_); rfl; intro _ _; go_simp) | ((with_reducible refine wpTxt_sw ?_ ?_); rfl; intro _ _; go_simp) | (with_reducible refine wpTxt_nil ?_) | ((with_reducible refine wp_region_t mixed ?_ ?_); decide +kernel; intro _ _))
          refine bodyPost_ret (v := .tuple #[v', flt 0 0 0]) (by simp [results, Try.f14, go_sem, c0, c1, c2, c3]) rfl ?_
          have e1 : k1 = src.size := by
            have := skipL_le false (src.data.toList.drop k)
            rw [List.length_drop, sz] at this
            have := HK.out
            omega
          unfold ScanPost scanS
          rw [if_neg (by omega), ← hR.out, scanF_end HK.out hle]
          refine ⟨v', rfl, ?_, ?_⟩
          · rw [e1] at hown
            simp only [List.length_append, List.length_cons, List.length_nil, Nat.zero_add]
            rw [cellsT_snoc]
            exact own_base (own_but hown (b := w.heap.size) (by (repeat (first | with_reducible assumption | with_reducible exact But.refl _ _ | ((with_reducible refine But.set ?_ ?_ _); rotate_left; (· first | exact Or.inl rfl | exact Or.inr (by first | omega | (simp only [World.size_alloc, World.size_drew, World.size_setCell]; omega)))) | ((with_reducible refine But.alloc ?_ _)) | ((with_reducible refine But.drewN ?_ _)) | ((with_reducible refine But.drew ?_))))) (by omega)) (by omega)
          · have hb1 : Below w.heap.size w w1 := hL.out.trans (hB1.below (by omega) hL.out.size)
            have hsz := hb1.size
            have hb3 : Below w.heap.size w w3 := Below.grown (by (repeat (first | with_reducible assumption | with_reducible exact Below.refl _ _ | ((with_reducible refine Below.setCell ?_ ?_ _); rotate_left; (· first | omega | (simp only [World.size_alloc, World.size_drew, World.size_setCell]; omega))) | ((with_reducible refine Below.alloc ?_ ?_ _); rotate_left; (· first | omega | (simp only [World.size_alloc, World.size_drew, World.size_setCell]; omega))) | ((with_reducible refine Below.drewN' ?_ _)) | ((with_reducible refine Below.drew ?_))))) hgrow (by have := Blk.lt hS1; simp; omega) (fun g hg => by have := (hO.out.lt g hg).1; omega)
            (repeat (first | with_reducible assumption | with_reducible exact Below.refl _ _ | ((with_reducible refine Below.setCell ?_ ?_ _); rotate_left; (· first | omega | (simp only [World.size_alloc, World.size_drew, World.size_setCell]; omega))) | ((with_reducible refine Below.alloc ?_ ?_ _); rotate_left; (· first | omega | (simp only [World.size_alloc, World.size_drew, World.size_setCell]; omega))) | ((with_reducible refine Below.drewN' ?_ _)) | ((with_reducible refine Below.drew ?_))))
      · have hlt : k1 < src.size := by omega
        cases ho : oneR (src.data.toList.drop k1) with
        | err c off =>
          have hc := oneR_err _ _ _ ho
          have HO := Lib.hid ho
          clear ho
          go_wp2_with (first | ((with_reducible refine wpTxt_q ?_ ?_ ?_); rfl; rfl; intro _ _) | ((with_reducible refine wpTxt_w0 ?_ ?_ ?_); rfl; rfl; intro _ _) | ((with_reducible refine wpTxt_s ?_ ?_); rfl; intro _ _; go_simp) | ((with_reducible refine wpTxt_sw ?_ ?_); rfl; intro _ _; go_simp) | (with_reducible refine wpTxt_nil ?_) | ((with_reducible refine wp_region_t mixed ?_ ?_); decide +kernel; intro _ _) | (go_at_call 33; ((with_reducible refine (sblanks_any (w.heap.size + 1) src k _ hS.out hs hk).mono ?_); rintro e w1 ⟨rfl, hS1, hB1⟩; rw [← HK.out] at hS1; have g2 := hS1.c2; have g3 := hS1.c3)) | (go_at_call 34; ((with_reducible refine (sended_any (w.heap.size + 1) src k1 _ hS1).mono ?_); rintro e w' ⟨rfl, rfl⟩)) | (go_at_call 35; ((with_reducible refine (stoken_err (w.heap.size + 1) src k1 _ c off hS1.drew hs hlt HO.out).mono ?_); rintro e w2 ⟨kd, tx, l1, c1, rfl, hB2, j1, hj1, hS2⟩; have hF2 := (hF.out.but hB1 (by omega)).drew.but hB2 (by omega); obtain ⟨c0, c1, c2, c3, f0, f1, f2, f3⟩ := hF2.four; have hz2 := hF2.lt)))
          refine bodyPost_ret (v := .tuple #[.slice none 0 0, flt c (loc src.data.toList (k1 + off)).1 (loc src.data.toList (k1 + off)).2]) (by simp [results, Try.f14, go_sem, c0, c1, c2, c3, hz2, Nat.lt_succ_of_lt hz2]) rfl ?_
          unfold ScanPost scanS
          rw [if_neg (by omega), ← hR.out, scanF_err HK.out hle HO.out]
          refine ⟨rfl, ?_⟩
          have hb1 : Below w.heap.size w w1 := hL.out.trans (hB1.below (by omega) hL.out.size)
          have hsz := hb1.size
          have hb2 : Below w.heap.size w w2 := hb1.drew.trans (hB2.below (by omega) hsz)
          have hsz2 := hb2.size
          (repeat (first | with_reducible assumption | with_reducible exact Below.refl _ _ | ((with_reducible refine Below.setCell ?_ ?_ _); rotate_left; (· first | omega | (simp only [World.size_alloc, World.size_drew, World.size_setCell]; omega))) | ((with_reducible refine Below.alloc ?_ ?_ _); rotate_left; (· first | omega | (simp only [World.size_alloc, World.size_drew, World.size_setCell]; omega))) | ((with_reducible refine Below.drewN' ?_ _)) | ((with_reducible refine Below.drew ?_))))
        | ok kd n =>
          obtain ⟨hn0, hn1⟩ := oneR_ok _ _ _ (by rw [List.length_drop, sz]; omega) ho
          rw [List.length_drop, sz] at hn1
          have HO := Lib.hid ho
          clear ho
          go_wp2_with (first | (at_builtin; refine wpList_append_own _ rfl _ _ 23 rfl (w.heap.size + 2) 34 i0 _ 4 40 und_toks hi iz0 iz1 iz2 rfl (by decide) u5 acc.length (cellsT acc) rfl ?c0 _ 1 1 [.int .i64 kd, .string (tokT src k1 kd n), .int .i64 (loc src.data.toList k1).1, .int .i64 (loc src.data.toList k1).2] rfl rfl ?c1 ?c2 ?c3 ?c4 ?c5 ?_) | ((with_reducible refine wpTxt_q ?_ ?_ ?_); rfl; rfl; intro _ _) | ((with_reducible refine wpTxt_w0 ?_ ?_ ?_); rfl; rfl; intro _ _) | ((with_reducible refine wpTxt_s ?_ ?_); rfl; intro _ _; go_simp) | ((with_reducible refine wpTxt_sw ?_ ?_); rfl; intro _ _; go_simp) | (with_reducible refine wpTxt_nil ?_) | ((with_reducible refine wp_region_t mixed ?_ ?_); decide +kernel; intro _ _) | (go_at_call 33; ((with_reducible refine (sblanks_any (w.heap.size + 1) src k _ hS.out hs hk).mono ?_); rintro e w1 ⟨rfl, hS1, hB1⟩; rw [← HK.out] at hS1; have g2 := hS1.c2; have g3 := hS1.c3)) | (go_at_call 34; ((with_reducible refine (sended_any (w.heap.size + 1) src k1 _ hS1).mono ?_); rintro e w' ⟨rfl, rfl⟩)) | (go_at_call 35; ((with_reducible refine (stoken_ok (w.heap.size + 1) src k1 _ kd n hS1.drew hs hlt HO.out).mono ?_); rintro e w2 ⟨rfl, hB2, hS2⟩; have hF2 := (hF.out.but hB1 (by omega)).drew.but hB2 (by omega); have hz2 := hF2.lt)))
          case c0 => exact own_below (own_but (own_but hO.out hB1.drew (by omega)) hB2 (by omega)) (by (repeat (first | with_reducible assumption | with_reducible exact Below.refl _ _ | ((with_reducible refine Below.setCell ?_ ?_ _); rotate_left; (· first | omega | (simp only [World.size_alloc, World.size_drew, World.size_setCell]; omega))) | ((with_reducible refine Below.alloc ?_ ?_ _); rotate_left; (· first | omega | (simp only [World.size_alloc, World.size_drew, World.size_setCell]; omega))) | ((with_reducible refine Below.drewN' ?_ _)) | ((with_reducible refine Below.drew ?_)))))
          case c1 => intro j u hj; exact fresh_at _ _ _ _ (by simp) j u hj
          case c2 => intro u hu; simp at hu; rcases hu with rfl | rfl | rfl | rfl <;> rfl
          case c3 => have := ha.out; unfold maxLen; omega
          case c4 => have := ha.out; omega
          case c5 => have := Blk.lt hS2; simp; omega
          · intro v' w3 hown hgrow _
            go_wp2_with (first | ((with_reducible refine wpTxt_q ?_ ?_ ?_); rfl; rfl; intro _ _) | ((with_reducible refine wpTxt_w0 ?_ ?_ ?_); rfl; rfl; intro _ _) | ((with_reducible refine wpTxt_s ?_ ?_); rfl; intro _ _; go_simp) | ((with_reducible refine wpTxt_sw ?_ ?_); rfl; intro _ _; go_simp) | (with_reducible refine wpTxt_nil ?_) | ((with_reducible refine wp_region_t mixed ?_ ?_); decide +kernel; intro _ _))
            go_roundw
            case rel =>
              refine ⟨k1 + n, f, acc ++ [⟨kd, tokT src k1 kd n, loc src.data.toList k1⟩], by omega, ?_, ?_, ?_, ?_, ?_, ?_, ?_⟩
              · have := hf.out; have := HK.out; show src.size < k1 + n + f; omega
              · have := ha.out; have := HK.out; show (acc ++ [_]).length ≤ k1 + n; rw [List.length_append]; simp only [List.length_cons, List.length_nil]; omega
              · show SR.add _ _ = _
                rw [← SR.add_add, ← scanF_ok HK.out hle HO.out]; exact hR.out
              · show w3.ownsRow _ _ _ _ _ _
                rw [List.length_append, cellsT_snoc]; exact hown
              · exact Blk.grown (show Scn _ (w.heap.size + 1) src (k1 + n) by (repeat (first | with_reducible assumption | ((with_reducible refine Scn.alloc ?_ _)) | ((with_reducible refine Scn.drewN ?_ _)) | ((with_reducible refine Scn.drew ?_)) | ((with_reducible refine Scn.far ?_ ?_ _); rotate_left; (· simp only [ne_eq]; omega))))) hgrow (own_ne hO.out (by omega))
              · exact Blk.grown (Blk.low hF2 (by (repeat (first | with_reducible assumption | with_reducible exact Below.refl _ _ | ((with_reducible refine Below.setCell ?_ ?_ _); rotate_left; (· first | omega | (simp only [World.size_alloc, World.size_drew, World.size_setCell]; omega))) | ((with_reducible refine Below.alloc ?_ ?_ _); rotate_left; (· first | omega | (simp only [World.size_alloc, World.size_drew, World.size_setCell]; omega))) | ((with_reducible refine Below.drewN' ?_ _)) | ((with_reducible refine Below.drew ?_)))))) hgrow (own_ne hO.out (by omega))
              · have hb1 : Below w.heap.size w w1 := hL.out.trans (hB1.below (by omega) hL.out.size)
                have hsz := hb1.size
                have hb2 : Below w.heap.size w w2 := hb1.drew.trans (hB2.below (by omega) hsz)
                have hsz2 := hb2.size
                exact Below.grown (by (repeat (first | with_reducible assumption | with_reducible exact Below.refl _ _ | ((with_reducible refine Below.setCell ?_ ?_ _); rotate_left; (· first | omega | (simp only [World.size_alloc, World.size_drew, World.size_setCell]; omega))) | ((with_reducible refine Below.alloc ?_ ?_ _); rotate_left; (· first | omega | (simp only [World.size_alloc, World.size_drew, World.size_setCell]; omega))) | ((with_reducible refine Below.drewN' ?_ _)) | ((with_reducible refine Below.drew ?_))))) hgrow (by simp; omega) (fun g hg => by have := (hO.out.lt g hg).1; omega)
            case measure =>
              have hS3 : Scn w3 (w.heap.size + 1) src (k1 + n) := Blk.grown (show Scn _ (w.heap.size + 1) src (k1 + n) by (repeat (first | with_reducible assumption | ((with_reducible refine Scn.alloc ?_ _)) | ((with_reducible refine Scn.drewN ?_ _)) | ((with_reducible refine Scn.drew ?_)) | ((with_reducible refine Scn.far ?_ ?_ _); rotate_left; (· simp only [ne_eq]; omega))))) hgrow (own_ne hO.out (by omega))
              rw [hS3.c1, hS.out.c1]
              have := HK.out
              simp only [intOf]
              omega
end Go.Proofs.Ytffflmghfcgkfaa
