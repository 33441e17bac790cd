/- Vy, Vs -/
import Derived.Test.YtnifgkgdphlleaaS23
import Derived.Test.YtnifgkgdphlleaaS10
set_option linter.unusedSimpArgs false
set_option linter.unusedVariables false
namespace Go.Proofs.Ytnifgkgdphlleaa
open Go.RowKit Tk
/-- some integer -/
def NPost (w : World) (e : Ending) (w' : World) : Prop := ∃ i : Int, e = .returned (.int .i64 i) ∧ Ext w w'
theorem Ex.oks.mem {w : World} {l : List Ex} (h : Ex.oks w l) {x : Ex} (hx : x ∈ l) : x.ok w := by
  obtain ⟨i, hi, rfl⟩ := List.getElem_of_mem hx
  exact h.at hi
@[reducible] def PartsOk (N : Nat) : Prop := ∀ (x : Ex) (i : Int) {w : World}, x.ok w → x.sz < N → Calls Try.prog 20 #[.agg (exC x).toArray, .int .i64 i] w (NPost w)
set_option maxHeartbeats 4000000 in
set_option maxRecDepth 100000 in
theorem parts_step {N : Nat} (IH : Hid (PartsOk N)) : PartsOk (N + 1) := by
  intro x mo w hxo hz
  rw [Ex.sz_kids] at hz
  have n2 := (RRow.lens hxo.kids).2
  have n3 := (Reads.lens hxo.names).2
  go_enter Try.func20, Try.ntmps20
  have E := Only.refl [] w
  go_upto_region 3 with (first | ((with_reducible refine at_dst 2 ?_); go_simp; (generalize hX2 : Array.size (World.heap _) = X2); refine new_block hX2 ?_; intro wn bb hx; (try (have z2 := Nat.le_trans E.size (Nat.le_of_eq hX2))); have b2 := Loc.new bb E hX2; clear bb hX2; (try replace E := E.ext hx); (try (clear hcE hfE)); (try (have hcf := bcell E.low; obtain ⟨hcE, hfE⟩ := hcf)); (try (clear c2 f2)); (try (have c2 := b2.cell; have f2 := b2.free))))
  go_loopw [5, 6] (fun v i wr => ∃ (j : Nat) (n : Int), i = .int .i64 j ∧ j ≤ x.kids.length ∧ v = .int .i64 n ∧ Only [] w wr ∧ Loc [] w wr X2 42 (exC x).toArray) (fun _ i _ => x.kids.length - (intOf i).toNat)
  case atStart => exact ⟨0, _, rfl, Nat.zero_le _, rfl, E, b2⟩
  case round =>
    clear E b2 c2 f2 hcE hfE
    obtain ⟨j, n, rfl, hj, rfl, E, b2⟩ := hrel
    have c2 := b2.cell
    have f2 := b2.free
    obtain ⟨hcE, hfE⟩ := bcell E.low
    by_cases hlt : j < x.kids.length
    · by_cases hn : n < mo
      · obtain ⟨y, hy⟩ := at_some hlt
        have hyo := hxo.subs.mem (List.mem_of_getElem? hy)
        have hsz : y.sz < N := by have := Ex.sz_at hy; omega
        have HY := Lib.hid hy
        obtain ⟨g, o, hgo, hg, -⟩ := RRow.cells hxo.kids hlt
        have hkc : RRow w 10 exC (.slice (some ⟨g, o, none⟩) x.kids.length x.h.hk.c) x.kids := hgo ▸ hxo.kids
        clear hy
        go_upto_region 9999 with (first | ((with_reducible refine at_dst 28 ?_); (refine wp_rec2 ((RRow.ext hkc E.low)) (HY.out) exC_len rfl rfl ?_ ?_ ?_); (· kernel_rfl); (· kernel_rfl)) | ((with_reducible refine at_dst 32 ?_); go_simp; ((refine (IH.out y _ (hyo.ext E.low) hsz).mono ?_)); unfold NPost; rintro e wn ⟨r, rfl, hx⟩; (try replace E := E.ext hx); (try replace b2 := b2.ext hx); (try (clear hcE hfE)); (try (have hcf := bcell E.low; obtain ⟨hcE, hfE⟩ := hcf)); (try (clear c2 f2)); (try (have c2 := b2.cell; have f2 := b2.free))))
        try simp only [← hgo]
        clear hgo
        go_roundw
        case rel => exact ⟨j + 1, _, by go_num, by omega, rfl, E, b2⟩
        case measure => simp [intOf]; omega
      · go_upto_region 9999 with (first | fail)
        go_ret
        exact ⟨_, rfl, E.low⟩
    · go_upto_region 9999 with (first | fail)
      go_ret
      exact ⟨_, rfl, E.low⟩
theorem parts_any : ∀ N : Nat, PartsOk N
  | 0 => fun _ _ _ _ hz => absurd hz (Nat.not_lt_zero _)
  | N + 1 => parts_step (Lib.hid (parts_any N))
@[reducible] def SizeOk (N : Nat) : Prop := ∀ (l : List St) (i : Int) {w : World} {a : Option Addr} {n c : Nat}, RRow w 55 stC (.slice a n c) l → St.oks w l → St.szs l < N → Calls Try.prog 12 #[.slice a n c, .int .i64 i] w (NPost w)
theorem St.sz_kid {s : St} {l : List St} {N : Nat} (h : s ∈ l) (hz : St.szs l < N + 1) : St.szs s.thn < N ∧ St.szs s.els < N := by
  obtain ⟨i, hi, rfl⟩ := List.getElem_of_mem h
  have h1 := St.sz_at (List.getElem?_eq_getElem hi)
  rw [St.sz_kids] at h1
  omega
set_option maxHeartbeats 8000000 in
set_option maxRecDepth 100000 in
theorem size_step {N : Nat} (IH : Hid (SizeOk N)) : SizeOk (N + 1) := by
  intro l mo w a n c hl hok hz
  obtain ⟨rfl, n2⟩ := RRow.lens hl
  go_enter Try.func12, Try.ntmps12
  have E := Only.refl [] w
  go_upto_region 3 with (first | fail)
  go_loopw [5, 6] (fun v i wr => ∃ (j : Nat) (n : Int), i = .int .i64 j ∧ j ≤ l.length ∧ v = .int .i64 n ∧ Only [] w wr) (fun _ i _ => l.length - (intOf i).toNat)
  case atStart => exact ⟨0, _, rfl, Nat.zero_le _, rfl, E⟩
  case round =>
    clear E
    obtain ⟨j, n, rfl, hj, rfl, E⟩ := hrel
    obtain ⟨hcE, hfE⟩ := bcell E.low
    by_cases hlt : j < l.length
    · by_cases hn : n < mo
      · obtain ⟨y, hy⟩ := at_some hlt
        have hym := List.mem_of_getElem? hy
        have hyo := hok.mem hym
        obtain ⟨hz1, hz2⟩ := St.sz_kid hym hz
        have HY := Lib.hid hy
        obtain ⟨g, o, rfl, hg, -⟩ := RRow.cells hl hlt
        clear hy
        go_upto_region 9999 with (first | ((with_reducible refine at_dst 22 ?_); (refine wp_rec2 ((RRow.ext hl E.low)) (HY.out) stC_len rfl rfl ?_ ?_ ?_); (· kernel_rfl); (· kernel_rfl)) | ((with_reducible refine at_dst 7 ?_); go_simp; (generalize hX7 : Array.size (World.heap _) = X7); refine new_block hX7 ?_; intro wn bb hx; (try (have z7 := Nat.le_trans E.size (Nat.le_of_eq hX7))); have b7 := Loc.new bb E hX7; clear bb hX7; (try replace E := E.ext hx); (try (clear hcE hfE)); (try (have hcf := bcell E.low; obtain ⟨hcE, hfE⟩ := hcf)); (try (clear c7 f7)); (try (have c7 := b7.cell; have f7 := b7.free))) | ((with_reducible refine at_dst 107 ?_); go_simp; ((refine (parts_any _ y.h.cond _ (Ex.ok.ext E.low hyo.hd.cond) (Nat.lt_succ_self _)).mono ?_)); unfold NPost; rintro e wn ⟨r1, rfl, hx⟩; (try replace E := E.ext hx); (try replace b7 := b7.ext hx); (try (clear hcE hfE)); (try (have hcf := bcell E.low; obtain ⟨hcE, hfE⟩ := hcf)); (try (clear c7 f7)); (try (have c7 := b7.cell; have f7 := b7.free))) | ((with_reducible refine at_dst 115 ?_); go_simp; ((refine (IH.out y.thn _ (hyo.thn.ext E.low) (hyo.thns.ext E.low) hz1).mono ?_)); unfold NPost; rintro e wn ⟨r2, rfl, hx⟩; (try replace E := E.ext hx); (try replace b7 := b7.ext hx); (try (clear hcE hfE)); (try (have hcf := bcell E.low; obtain ⟨hcE, hfE⟩ := hcf)); (try (clear c7 f7)); (try (have c7 := b7.cell; have f7 := b7.free))) | ((with_reducible refine at_dst 122 ?_); go_simp; ((refine (IH.out y.els _ (hyo.els.ext E.low) (hyo.elss.ext E.low) hz2).mono ?_)); unfold NPost; rintro e wn ⟨r3, rfl, hx⟩; (try replace E := E.ext hx); (try replace b7 := b7.ext hx); (try (clear hcE hfE)); (try (have hcf := bcell E.low; obtain ⟨hcE, hfE⟩ := hcf)); (try (clear c7 f7)); (try (have c7 := b7.cell; have f7 := b7.free))) | ((with_reducible refine at_store 7 ?_); (refine wp_put b7 rfl rfl ?_ ?_ ?_ ?_; (· kernel_rfl); (· first | rfl | kernel_rfl); (· first | decide | exact Nat.le_refl _ | simp [Act.eval, Value.cells] | (simp [Act.eval, Act.put, Value.cells]; done)); intro wn bn hb; have E2 := E.put b7 hb; skip; clear E b7; have E := E2; clear E2; have b7 := bn; clear bn hb; dsimp only [Act.put]; simp only [putA, Act.eval, Value.cells, Nat.reduceAdd, putL, sizL] at b7; (try (clear hcE hfE)); (try (have hcf := bcell E.low; obtain ⟨hcE, hfE⟩ := hcf)); (try (clear c7 f7)); (try (have c7 := b7.cell; have f7 := b7.free)))) | ((with_reducible refine at_reg 7 ?_); (refine wp_region_s (id := 7) [0, 2, 2, 2, 2, 2, 2, 2, 2, 2, 2, 2, 2, 2, 2, 2, 2, 2, 2, 2, 2, 2, 2, 2, 2, 2, 2, 2, 2, 2, 2, 2, 2, 2, 3, 2, 0] [0, 1, 2, 3, 4, 5, 6, 7, 8, 9, 10, 11, 12, 13, 14, 15, 16, 17, 18, 19, 20, 21, 22, 23, 24, 25, 26, 27, 28, 29, 30, 31, 32, 33, 34, 35, 36] mixed ?_ ?_); (· decide +kernel); intro K hK wn hx; (try replace E := E.ext hx); (try replace b7 := b7.ext hx); (try (clear hcE hfE)); (try (have hcf := bcell E.low; obtain ⟨hcE, hfE⟩ := hcf)); (try (clear c7 f7)); (try (have c7 := b7.cell; have f7 := b7.free)); dsimp only [pickL, List.getElem?_cons_succ, List.getElem?_cons_zero]) | ((with_reducible refine at_tag 0 ?_); (first | ((with_reducible refine wpTag_q ?_ ?_ ?_); rfl; rfl; intro _ _) | ((with_reducible refine wpTag_w ?_ ?_ ?_); rfl; rfl; intro _ _) | ((with_reducible refine wpTag_no ?_ ?_); (· first | rfl | (go_simp; done))) | ((with_reducible refine wpTag_s ?_ ?_); rfl; intro _ _; go_simp))) | ((with_reducible refine at_tag 2 ?_); (first | ((with_reducible refine wpTag_no ?_ ?_); (· first | rfl | (go_simp; done))) | (apply wpTag_2; (· rfl); (· first | rfl | go_simp); (· intro wq hq; (try (clear hcE hfE)); (try (have hcf := bcell (E.ext hq).low; obtain ⟨hcE, hfE⟩ := hcf)); (try (clear c7 f7)); (try (have c7 := (b7.ext hq).cell; have f7 := (b7.ext hq).free)); go_simp <;> rfl); (try simp only [Act.put, actL])))) | ((with_reducible refine at_tag 3 ?_); (first | ((with_reducible refine wpTag_no ?_ ?_); (· first | rfl | (go_simp; done))) | ((refine wpTag_3 ?_ ?_ (fun K2 hK2 => ?_)); (· rfl); (· first | rfl | go_simp)))) | ((with_reducible refine at_and ?_ ?_); (· first | exact hx | exact Ext.refl _)) | ((with_reducible refine at_tagn ?_); (with_reducible refine wpTag_nil ?_)) | ((with_reducible refine at_reg 8 ?_); (refine wp_region_s (id := 8) [0, 2, 2, 0, 0, 2, 2, 2, 0, 0, 2, 3, 2, 3, 2, 0] [0, 1, 2, 3, 4, 5, 8, 9, 10, 11, 12, 6, 7, 13, 14, 15] mixed ?_ ?_); (· decide +kernel); intro K hK wn hx; (try replace E := E.ext hx); (try replace b7 := b7.ext hx); (try (clear hcE hfE)); (try (have hcf := bcell E.low; obtain ⟨hcE, hfE⟩ := hcf)); (try (clear c7 f7)); (try (have c7 := b7.cell; have f7 := b7.free)); dsimp only [pickL, List.getElem?_cons_succ, List.getElem?_cons_zero]) | ((with_reducible refine at_tag 0 ?_); (first | ((with_reducible refine wpTag_q ?_ ?_ ?_); rfl; rfl; intro _ _) | ((with_reducible refine wpTag_w ?_ ?_ ?_); rfl; rfl; intro _ _) | ((with_reducible refine wpTag_no ?_ ?_); (· first | rfl | (go_simp; done))) | ((with_reducible refine wpTag_s ?_ ?_); rfl; intro _ _; go_simp))) | ((with_reducible refine at_tag 2 ?_); (first | ((with_reducible refine wpTag_no ?_ ?_); (· first | rfl | (go_simp; done))) | (apply wpTag_2; (· rfl); (· first | rfl | go_simp); (· intro wq hq; (try (clear hcE hfE)); (try (have hcf := bcell (E.ext hq).low; obtain ⟨hcE, hfE⟩ := hcf)); (try (clear c7 f7)); (try (have c7 := (b7.ext hq).cell; have f7 := (b7.ext hq).free)); go_simp <;> rfl); (try simp only [Act.put, actL])))) | ((with_reducible refine at_tag 3 ?_); (first | ((with_reducible refine wpTag_no ?_ ?_); (· first | rfl | (go_simp; done))) | ((refine wpTag_3 ?_ ?_ (fun K2 hK2 => ?_)); (· rfl); (· first | rfl | go_simp)))) | ((with_reducible refine at_and ?_ ?_); (· first | exact hx | exact Ext.refl _)) | ((with_reducible refine at_tagn ?_); (with_reducible refine wpTag_nil ?_)))
        go_roundw
        case rel => exact ⟨j + 1, _, by go_num, by omega, rfl, E⟩
        case measure => simp [intOf]; omega
      · go_upto_region 9999 with (first | fail)
        go_ret
        exact ⟨_, rfl, E.low⟩
    · go_upto_region 9999 with (first | fail)
      go_ret
      exact ⟨_, rfl, E.low⟩
theorem size_any : ∀ N : Nat, SizeOk N
  | 0 => fun _ _ _ _ _ _ _ _ hz => absurd hz (Nat.not_lt_zero _)
  | N + 1 => size_step (Lib.hid (size_any N))
/-- some truth value -/
def BSome (w : World) (e : Ending) (w' : World) : Prop := ∃ b : Bool, e = .returned (.bool b) ∧ Ext w w'
set_option maxRecDepth 100000 in
theorem large_any {w : World} {l : List St} {a : Option Addr} {n c : Nat} (hl : RRow w 55 stC (.slice a n c) l) (hok : St.oks w l) : Calls Try.prog 6 #[.slice a n c] w (BSome w) := by
  go_enter Try.func6, Try.ntmps6
  have E := Only.refl [] w
  go_upto_region 9999 with (first | ((with_reducible refine at_dst 4 ?_); go_simp; ((refine (size_any _ l _ (RRow.ext hl E.low) (hok.ext E.low) (Nat.lt_succ_self _)).mono ?_)); unfold NPost; rintro e wn ⟨r, rfl, hx⟩; (try replace E := E.ext hx); (try (clear hcE hfE)); (try (have hcf := bcell E.low; obtain ⟨hcE, hfE⟩ := hcf))))
  go_ret
  exact ⟨_, rfl, E.low⟩
end Go.Proofs.Ytnifgkgdphlleaa
set_option linter.unusedSimpArgs false
set_option linter.unusedVariables false
namespace Go.Proofs.Ytnifgkgdphlleaa
open Go.RowKit Tk
structure MS where
  found : Bool
  perms : List ByteArray
theorem OwnR.grow {α β : Type} {w0 w1 w w' : World} {t t2 : TypeId} {k k2 : Nat} {f : α → List Value} {f2 : β → List Value} {v v2 v' : Value} {xs : List α} {ys zs : List β} (h : OwnR w0 w t k f v xs) (r : OwnR w1 w t2 k2 f2 v2 ys) (hA : AppPost w w' t2 k2 f2 v2 v' zs) (hne : t ≠ t2) : OwnR w0 w' t k f v xs := ⟨h.row.grow r.row hA hne, h.new⟩
end Go.Proofs.Ytnifgkgdphlleaa
