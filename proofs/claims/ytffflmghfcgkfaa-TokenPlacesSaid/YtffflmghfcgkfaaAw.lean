/- The walk of the examples that every law ends with. -/
import Derived.Test.YtffflmghfcgkfaaTx
set_option linter.unusedSimpArgs false
set_option linter.unusedVariables false
namespace Go.Proofs.Ytffflmghfcgkfaa
open Go.RowKit Tk

def awT1 : List Tok := [⟨1, ⟨#[97, 108, 108, 111, 119]⟩, (1, 1)⟩, ⟨1, ⟨#[97, 95, 116]⟩, (1, 7)⟩, ⟨1, ⟨#[115, 101, 108, 102]⟩, (1, 11)⟩, ⟨4, ⟨#[59]⟩, (1, 15)⟩, ⟨0, ⟨#[]⟩, (1, 16)⟩]
def awT3 : List Tok := [⟨1, ⟨#[97]⟩, (0, 0)⟩, ⟨4, ⟨#[123]⟩, (0, 0)⟩, ⟨3, ⟨#[120, 32, 121]⟩, (0, 0)⟩]
theorem aw_scan1 : scanS ⟨#[97, 108, 108, 111, 119, 32, 97, 95, 116, 32, 115, 101, 108, 102, 59]⟩ = .ok awT1 := by kernel_rfl
theorem aw_scan2 : scanS ⟨#[97, 32, 61, 98]⟩ = .err 9 (1, 3) := by kernel_rfl
theorem aw_text : textS awT3 = ((⟨#[97, 32, 123, 32, 34, 120, 32, 121, 34]⟩ : ByteArray).data.toList, 0) := by kernel_rfl
theorem aw_small : Small awT3 := ⟨by decide, fun j hj => by
  match j, hj with
  | 0, _ => show 1 ≤ 70000; decide
  | 1, _ => show 1 ≤ 70000; decide
  | 2, _ => show 3 ≤ 70000; decide⟩
theorem aw_kw : kwB (⟨#[115, 101, 108, 102]⟩ : ByteArray).data.toList = true := by kernel_rfl
theorem aw_id1 : (nameB (⟨#[115, 101, 108, 102]⟩ : ByteArray).data.toList && !kwB (⟨#[115, 101, 108, 102]⟩ : ByteArray).data.toList) = false := by kernel_rfl
theorem aw_id2 : (nameB (⟨#[108, 105, 110, 107]⟩ : ByteArray).data.toList && !kwB (⟨#[108, 105, 110, 107]⟩ : ByteArray).data.toList) = true := by kernel_rfl
theorem aw_loc : locI ⟨#[97, 10, 98]⟩ 2 = (2, 1) := by kernel_rfl

theorem scan_lit1 (w : World) : Calls Try.prog 14 #[.string ⟨#[97, 108, 108, 111, 119, 32, 97, 95, 116, 32, 115, 101, 108, 102, 59]⟩] w fun e w' => ∃ v, e = .returned (.tuple #[v, flt 0 0 0]) ∧ Toks w' v awT1 ∧ Below w.heap.size w w' := by
  refine (tScan_any _ w).mono fun e w' h => ?_
  unfold ScanPost at h
  rw [aw_scan1] at h
  obtain ⟨v, h1, h2, h3⟩ := h
  exact ⟨v, h1, Toks.of_own h2, h3⟩
theorem scan_lit2 (w : World) : Calls Try.prog 14 #[.string ⟨#[97, 32, 61, 98]⟩] w fun e w' => e = .returned (.tuple #[.slice none 0 0, flt 9 1 3]) ∧ Below w.heap.size w w' := by
  refine (tScan_any _ w).mono fun e w' h => ?_
  unfold ScanPost at h
  rw [aw_scan2] at h
  exact h
theorem text_lit (v : Value) (w : World) (h : Toks w v awT3) : Calls Try.prog 24 #[v] w fun e w' => e = .returned (.tuple #[.string ⟨#[97, 32, 123, 32, 34, 120, 32, 121, 34]⟩, .int .i64 0]) ∧ Below w.heap.size w w' := by
  refine (tText_any awT3 v w h aw_small).mono fun e w' h => ?_
  unfold TPost at h
  rw [aw_text] at h
  exact h
theorem kw_lit (w : World) : Calls Try.prog 17 #[.string ⟨#[115, 101, 108, 102]⟩] w fun e w' => e = .returned (.bool true) ∧ w = w' :=
  (tKeyword_any _ w).mono fun e w' ⟨h1, h2⟩ => ⟨by rw [h1, aw_kw], h2⟩
theorem id_lit1 (w : World) : Calls Try.prog 19 #[.string ⟨#[115, 101, 108, 102]⟩] w fun e w' => e = .returned (.bool false) ∧ w = w' :=
  (tIdentifier_any _ (by decide +kernel) w).mono fun e w' ⟨h1, h2⟩ => ⟨by rw [h1, aw_id1], h2⟩
theorem id_lit2 (w : World) : Calls Try.prog 19 #[.string ⟨#[108, 105, 110, 107]⟩] w fun e w' => e = .returned (.bool true) ∧ w = w' :=
  (tIdentifier_any _ (by decide +kernel) w).mono fun e w' ⟨h1, h2⟩ => ⟨by rw [h1, aw_id2], h2⟩
theorem loc_lit (w : World) : Calls Try.prog 26 #[.string ⟨#[97, 10, 98]⟩, .int .i64 2] w fun e w' => e = .returned (.agg #[.int .i64 2, .int .i64 1]) ∧ Below w.heap.size w w' := by
  refine (tLocate_any _ 2 w (by decide +kernel) (by decide)).mono fun e w' h => ?_
  unfold LocPost at h
  rw [aw_loc] at h
  exact h
theorem Blk.at_ (w : World) (t : TypeId) (cs : Array Value) (g : Nat) (hg : g = w.heap.size) : Blk (w.alloc (.cells cs t)) g t cs := by subst hg; exact Blk.fresh w t cs
theorem Toks.of_blk {w : World} {g : Nat} {t : TypeId} {cs : Array Value} {ts : List Tok} (h : Blk w g t cs) (hc : cs.toList = cellsT ts) (hl : ts.length ≤ maxLen) : Toks w (.slice (some ⟨g, 0, none⟩) ts.length ts.length) ts := by
  refine ⟨_, _, rfl, Nat.le_refl _, hl, .inr ⟨g, 0, rfl, h.lt, fun i hi => ?_⟩⟩
  have hk := cellsT_get ts i hi
  refine ⟨?_, ?_, ?_, ?_⟩ <;> (rw [h.cell, Nat.zero_add, ← Array.getElem?_toList, hc]; first | exact hk.1 | exact hk.2.1 | exact hk.2.2.1 | exact hk.2.2.2)

set_option maxHeartbeats 2000000 in
theorem awake_any (w : World) : Calls Try.prog 13 #[] w (BPost true w) := by
  go_enter Try.func13, Try.ntmps13
  go_upto_region 4 with (first | ((with_reducible refine wpTxt_q ?_ ?_ ?_); rfl; rfl; intro _ _) | ((with_reducible refine wpTxt_w0 ?_ ?_ ?_); rfl; rfl; intro _ _) | ((with_reducible refine wpTxt_s ?_ ?_); rfl; intro _ _; go_simp) | ((with_reducible refine wpTxt_sw ?_ ?_); rfl; intro _ _; go_simp) | (with_reducible refine wpTxt_nil ?_) | ((with_reducible refine wp_region_t mixed ?_ ?_); decide +kernel; intro _ _) | (go_at_call 14; ((with_reducible refine (scan_lit1 _).mono ?_); rintro e w1 ⟨v1, rfl, hT1, hb1⟩; have HT1 := Lib.hid hT1; clear hT1; have hz1 := hb1.size)) | (go_at_call 14; ((with_reducible refine (scan_lit2 _).mono ?_); rintro e w2 ⟨rfl, hb2⟩; have hz2 := hb2.size; have HF2 := Lib.hid ((Blk.fresh w1 28 #[.int .i64 0, .int .i64 0, .int .i64 0, .string ⟨#[]⟩]).low hb2); have hx2 : Below w1.heap.size w1 w2 := ((Below.refl _ _).alloc (Nat.le_refl _) _).trans (hb2.mono (by simp)))) | (go_at_call 24; ((with_reducible refine (text_lit _ _ ?_).mono ?_); (· exact Toks.of_blk (ts := awT3) (Blk.at_ _ _ _ _ (by simp)) rfl (by decide)); rintro e w3 ⟨rfl, hb3⟩; have hz3 := hb3.size; have HF3 := Lib.hid (((HF2.out.alloc _).alloc _).low hb3); have HG3 := Lib.hid (((Blk.fresh w2 28 #[.int .i64 9, .int .i64 1, .int .i64 3, .string ⟨#[]⟩]).alloc _).low hb3); have hx3 : Below w1.heap.size w1 w3 := (((hx2.alloc hx2.size _).alloc (by have := hx2.size; simp; omega) _)).trans (hb3.mono (by have := hx2.size; simp; omega)))))
  have hT3 := HT1.out.below hx3
  have hall := Lib.hid (hb1.trans (hx3.mono hz1))
  obtain ⟨ao, ca, hv, a1, a2, a3⟩ := hT3
  have hv5 : v1 = .slice ao 5 ca := hv
  clear hv
  subst hv5
  rcases a3 with h0' | ⟨g, o, rfl, hg, hc⟩
  · exact absurd h0' (by decide)
  have p0 : w3.cell? ⟨g, o + 4, none⟩ = some (.int .i64 1) := (hc 1 (by decide)).1
  have p1 : w3.cell? ⟨g, o + 4 + 1, none⟩ = some (.string ⟨#[97, 95, 116]⟩) := (hc 1 (by decide)).2.1
  have p2 : w3.cell? ⟨g, o + 4 + 2, none⟩ = some (.int .i64 1) := (hc 1 (by decide)).2.2.1
  have p3 : w3.cell? ⟨g, o + 4 + 3, none⟩ = some (.int .i64 7) := (hc 1 (by decide)).2.2.2
  have q0 : w3.cell? ⟨g, o + 16, none⟩ = some (.int .i64 0) := (hc 4 (by decide)).1
  have q1 : w3.cell? ⟨g, o + 16 + 1, none⟩ = some (.string ⟨#[]⟩) := (hc 4 (by decide)).2.1
  have q2 : w3.cell? ⟨g, o + 16 + 2, none⟩ = some (.int .i64 1) := (hc 4 (by decide)).2.2.1
  have q3 : w3.cell? ⟨g, o + 16 + 3, none⟩ = some (.int .i64 16) := (hc 4 (by decide)).2.2.2
  have a1' : 5 ≤ ca := a1
  obtain ⟨c0, c1, c2, c3, -, -, -, -⟩ := HF3.out.four
  obtain ⟨d0, d1, d2, d3, -, -, -, -⟩ := HG3.out.four
  clear hc hx2 hx3 a1
  unfold maxLen at a2
  go_wp2_with (first | ((with_reducible refine wpTxt_q ?_ ?_ ?_); rfl; rfl; intro _ _) | ((with_reducible refine wpTxt_w0 ?_ ?_ ?_); rfl; rfl; intro _ _) | ((with_reducible refine wpTxt_s ?_ ?_); rfl; intro _ _; go_simp) | ((with_reducible refine wpTxt_sw ?_ ?_); rfl; intro _ _; go_simp) | (with_reducible refine wpTxt_nil ?_) | ((with_reducible refine wp_region_t mixed ?_ ?_); decide +kernel; intro _ _) | (go_at_call 17; ((with_reducible refine (kw_lit _).mono ?_); rintro e w' ⟨rfl, rfl⟩)) | (go_at_call 19; ((with_reducible refine (id_lit1 _).mono ?_); rintro e w' ⟨rfl, rfl⟩)) | (go_at_call 19; ((with_reducible refine (id_lit2 _).mono ?_); rintro e w' ⟨rfl, rfl⟩)) | (go_at_call 26; ((with_reducible refine (loc_lit _).mono ?_); rintro e w7 ⟨rfl, hb7⟩)))
  go_ret
  exact bpost rfl (hall.out.trans (hb7.mono (by have := hall.out.size; omega)))
end Go.Proofs.Ytffflmghfcgkfaa
