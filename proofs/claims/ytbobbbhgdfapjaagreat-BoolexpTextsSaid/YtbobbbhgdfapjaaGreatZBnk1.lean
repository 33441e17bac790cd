/- H9, Ob -/
import Derived.Test.YtbobbbhgdfapjaaGreatZB1
import Derived.Test.YtbobbbhgdfapjaaGreatZB2
import Derived.Test.YtbobbbhgdfapjaaGreatZB3
import Derived.Test.YtbobbbhgdfapjaaGreatZB4
import Derived.Test.YtbobbbhgdfapjaaGreatZB5
import Derived.Test.YtbobbbhgdfapjaaGreatZB11
import Derived.Test.YtbobbbhgdfapjaaGreatZB21
import Derived.Test.YtbobbbhgdfapjaaGreatRows
import Derived.Test.YtbobbbhgdfapjaaGreatZB6
import Derived.Test.YtbobbbhgdfapjaaGreatZB12
import Derived.Test.YtbobbbhgdfapjaaGreatZB13
import Derived.Test.YtbobbbhgdfapjaaGreatZB14
import Derived.Test.YtbobbbhgdfapjaaGreatZB15
import Derived.Test.YtbobbbhgdfapjaaGreatZB16
import Derived.Test.YtbobbbhgdfapjaaGreatZB31
import Derived.Test.YtbobbbhgdfapjaaGreatZB36
set_option linter.unusedSimpArgs false
set_option linter.unusedVariables false
namespace Go.Proofs.YtbobbbhgdfapjaaGreat
set_option maxHeartbeats 8000000
set_option maxRecDepth 100000
open Go.RowKit Tk
mutual
def cntE : Ex → Int → Int
 | .mk h k, n => if n < 1 ∨ (4 : Int) < h.names.length then -1 else cnts k (n - 1)
def cnts : List Ex → Int → Int
 | [], n => n
 | e :: r, n => if cntE e n < 0 then -1 else cnts r (cntE e n)
end
theorem cntE_eq (x : Ex) (n : Int) : cntE x n = if n < 1 ∨ (4 : Int) < x.h.names.length then -1 else cnts x.kids (n - 1) := by cases x; rw [cntE]; rfl
theorem cnts_at {l : List Ex} {j : Nat} {y : Ex} {n R : Int} (h : Hid (cnts (l.drop j) n = R)) (hy : l[j]? = some y) : (if cntE y n < 0 then -1 else cnts (l.drop (j + 1)) (cntE y n)) = R := by
 have := h.out
 rw [drop_at hy, cnts] at this
 exact this
mutual
theorem cntE_le : ∀ (x : Ex) (n : Int), -1 ≤ cntE x n ∧ (0 ≤ cntE x n → cntE x n + x.sz ≤ n)
 | .mk h k, n => by
   rw [cntE, Ex.sz]
   split
   · exact ⟨by omega, fun h => by omega⟩
   · rename_i hn
     have := cnts_le k (n - 1) (by omega)
     exact ⟨this.1, fun h => by have := this.2 h; omega⟩
theorem cnts_le : ∀ (k : List Ex) (n : Int), -1 ≤ n → -1 ≤ cnts k n ∧ (0 ≤ cnts k n → cnts k n + Ex.szs k ≤ n)
 | [], n, hn => by rw [cnts, Ex.szs]; exact ⟨hn, fun _ => by omega⟩
 | e :: r, n, hn => by
   have h1 := cntE_le e n
   rw [cnts, Ex.szs]
   split
   · exact ⟨by omega, fun h => by omega⟩
   · have := cnts_le r (cntE e n) (by omega)
     exact ⟨this.1, fun h => by have := this.2 h; have := h1.2 (by omega); omega⟩
end
mutual
theorem cntE_four : ∀ (x : Ex) (n : Int), 0 ≤ cntE x n → x.four
 | .mk h k, n, hc => by
   rw [cntE] at hc
   unfold Ex.four
   split at hc
   · exact absurd hc (by decide)
   · rename_i hn
     exact ⟨by omega, cnts_four k _ hc⟩
theorem cnts_four : ∀ (k : List Ex) (n : Int), 0 ≤ cnts k n → Ex.fours k
 | [], n, _ => by unfold Ex.fours; trivial
 | e :: r, n, hc => by
   rw [cnts] at hc
   unfold Ex.fours
   split at hc
   · exact absurd hc (by decide)
   · exact ⟨cntE_four e n (by omega), cnts_four r _ hc⟩
end
@[reducible] def CountOk (N : Nat) : Prop := ∀ (x : Ex) (i : Int) {w : World}, x.ok w → x.sz < N → -9000000000000000000 ≤ i ∧ i ≤ 9000000000000000000 → Calls Tryz.prog 37 #[.agg (exC x).toArray, .int .i64 i] w (IPost (cntE x i) w)
theorem count_step {N : Nat} (IH : Hid (CountOk N)) : CountOk (N + 1) := by
 intro x m w hxo hz hm
 obtain ⟨hm0, hm1⟩ := hm
 rw [Ex.sz_kids] at hz
 have n2 := (RRow.lens hxo.kids).2
 have n3 := (Reads.lens hxo.names).2
 by_cases h1 : m < 1
 · rw [show cntE x m = -1 by rw [cntE_eq, if_pos (.inl h1)]]
   go_enter Tryz.func37, Tryz.ntmps37
   have E := Only.refl [] w
   go_upto_region 9999 with (first | ((with_reducible refine at_dst 2 ?_); go_simp; (generalize hX2 : Array.size (World.heap _) = X2); refine new_block hX2 ?_; intro wn bb hx; (try have z2 := Nat.le_trans E.size (Nat.le_of_eq hX2)); have b2 := Loc.new bb E hX2; clear bb hX2; (try replace E := E.ext hx); (try replace hcE := bcell E.low); (try replace c2 := b2.cf)))
   all_goals
    go_ret
    exact ⟨rfl, E.low⟩
 by_cases h2 : (4 : Int) < x.h.names.length
 · rw [show cntE x m = -1 by rw [cntE_eq, if_pos (.inr h2)]]
   go_enter Tryz.func37, Tryz.ntmps37
   have E := Only.refl [] w
   go_upto_region 9999 with (first | ((with_reducible refine at_dst 2 ?_); go_simp; (generalize hX2 : Array.size (World.heap _) = X2); refine new_block hX2 ?_; intro wn bb hx; (try have z2 := Nat.le_trans E.size (Nat.le_of_eq hX2)); have b2 := Loc.new bb E hX2; clear bb hX2; (try replace E := E.ext hx); (try replace hcE := bcell E.low); (try replace c2 := b2.cf)))
   all_goals
    go_ret
    exact ⟨rfl, E.low⟩
 · obtain ⟨V, hV⟩ : ∃ V, cntE x m = V := ⟨_, rfl⟩
   rw [hV]
   rw [cntE_eq, if_neg (by omega)] at hV
   have HV : Hid (cnts (x.kids.drop 0) (m - 1) = V) := Lib.hid hV
   clear hV
   go_enter Tryz.func37, Tryz.ntmps37
   have E := Only.refl [] w
   go_upto_region 5 with (first | ((with_reducible refine at_dst 2 ?_); go_simp; (generalize hX2 : Array.size (World.heap _) = X2); refine new_block hX2 ?_; intro wn bb hx; (try have z2 := Nat.le_trans E.size (Nat.le_of_eq hX2)); have b2 := Loc.new bb E hX2; clear bb hX2; (try replace E := E.ext hx); (try replace hcE := bcell E.low); (try replace c2 := b2.cf)))
   go_loopw [1, 19] (fun v i wr => ∃ (j : Nat) (n : Int), i = .int .i64 j ∧ j ≤ x.kids.length ∧ v = .int .i64 n ∧ Hid (cnts (x.kids.drop j) n = V) ∧ (-9000000000000000000 ≤ n ∧ n ≤ 9000000000000000000) ∧ Only [] w wr ∧ Loc [] w wr X2 28 (exC x).toArray) (fun _ i _ => x.kids.length - (intOf i).toNat)
   case atStart => exact ⟨0, _, rfl, Nat.zero_le _, rfl, HV, ⟨by omega, by omega⟩, E, b2⟩
   case round =>
    clear E b2 c2 HV
    (try clear hcE)
    obtain ⟨j, n, rfl, hj, rfl, HS, ⟨hn0, hn1⟩, E, b2⟩ := hrel
    have c2 := b2.cf
    have hcE := bcell E.low
    by_cases hlt : j < x.kids.length
    · obtain ⟨y, hy⟩ := at_some hlt
      have hyo := hxo.subs.mem (List.mem_of_getElem? hy)
      have hsz : y.sz < N := by have := Ex.sz_at hy; omega
      obtain ⟨r, hr⟩ : ∃ r, cntE y n = r := ⟨_, rfl⟩
      have hst := cnts_at HS hy
      have hrb : -1 ≤ r ∧ (0 ≤ r → r ≤ n) := by
       have := cntE_le y n
       rw [hr] at this
       exact ⟨this.1, fun h => by have := this.2 h; omega⟩
      obtain ⟨hr0, hr1⟩ := hrb
      rw [hr] at hst
      have HC := Lib.hid hr
      have HT := Lib.hid hst
      have HY := Lib.hid hy
      obtain ⟨g, o, hgo, hg, -⟩ := RRow.cells hxo.kids hlt
      have hkc : RRow w 10 exC (.slice (some ⟨g, o, none⟩) x.kids.length x.h.hk.c) x.kids := hgo ▸ hxo.kids
      clear hy hr hst HS
      go_upto_region 8 with (first | ((with_reducible refine at_dst 26 ?_); (refine wp_rec2 ((RRow.ext hkc E.low)) (HY.out) exC_len rfl rfl ?_ ?_ ?_); (· kernel_rfl); (· kernel_rfl)) | ((with_reducible refine at_dst 28 ?_); go_simp; (have hc := IH.out y n (hyo.ext E.low) hsz ⟨hn0, hn1⟩); ((with_reducible refine hc.mono ?_)); clear hc; unfold IPost; rw [HC.out]; rintro e wn ⟨rfl, hx⟩; (try replace E := E.ext hx); (try replace b2 := b2.ext hx); (try replace hcE := bcell E.low); (try replace c2 := b2.cf)))
      by_cases hrn : r < 0
      · have hVr : V = -1 := by rw [← HT.out, if_pos hrn]
        subst hVr
        go_upto_region 9999 with (first | fail)
        go_ret
        exact ⟨rfl, E.low⟩
      · have HT2 : Hid (cnts (x.kids.drop (j + 1)) r = V) := Lib.hid (by rw [← HT.out, if_neg hrn])
        clear HT
        go_upto_region 9999 with (first | fail)
        try simp only [← hgo]
        clear hgo
        go_roundw
        case rel => exact ⟨_, _, _, _, ⟨j + 1, by go_num, by omega, r, rfl, HT2, by omega, by omega⟩, rfl, rfl, rfl, rfl⟩
        case measure => simp [intOf]; omega
    · have hz2 : n = V := by
        have := HS.out
        rw [List.drop_of_length_le (by omega), cnts] at this
        exact this
      subst hz2
      go_upto_region 9999 with (first | fail)
      go_ret
      exact ⟨rfl, E.low⟩
theorem count_any : ∀ N : Nat, CountOk N
 | 0 => fun _ _ _ _ hz _ => absurd hz (Nat.not_lt_zero _)
 | N + 1 => count_step (Lib.hid (count_any N))
theorem few_any {w : World} {x : Ex} (hxo : x.ok w) (i : Int) (hi : -9000000000000000000 ≤ i ∧ i ≤ 9000000000000000000) : Calls Tryz.prog 10 #[.agg (exC x).toArray, .int .i64 i] w (BPost (decide (0 ≤ cntE x i)) w) := by
 go_enter Tryz.func10, Tryz.ntmps10
 have E := Only.refl [] w
 go_upto_region 9999 with (first | ((first | ((with_reducible refine at_dst 7 ?_); go_simp; (have hc := count_any (x.sz + 1) x i (hxo.ext E.low) (Nat.lt_succ_self _) hi); (first | with_reducible refine hc.mono ?_ | refine hc.mono ?_); clear hc; unfold IPost; rintro e wn ⟨rfl, hx⟩) | ((with_reducible refine at_dst 2 ?_); go_simp; (generalize hXn : Array.size (World.heap _) = X2); refine new_block hXn ?_; intro wn bb hx; have b2 := Loc.new bb E hXn; have zz := Nat.le_trans E.size (Nat.le_of_eq hXn); clear bb hXn)); (try replace E := E.ext hx); (try replace b2 := b2.ext hx); (try replace hcE := bcell E.low); (try replace c2 := b2.cf)) | ((with_reducible refine at_dst 5 ?_); (refine wp_all b2.blk rfl rfl ?_ ?_ ?_); (· kernel_rfl); (· kernel_rfl)))
 go_ret
 exact ⟨rfl, E.low⟩
open Go.ChangeShapes Go.WideShapes Go.ChangeAt Go.RowKit Tk
def nB (l : List ByteArray) : Nat := (l.map sB).sum + 1
mutual
def Ex.bk : Ex → Nat
 | .mk h kids => 6 + nB h.names + (Ex.bks kids + 1)
def Ex.bks : List Ex → Nat
 | [] => 0
 | e :: l => e.bk + Ex.bks l
end
theorem Ex.bks_sum : ∀ l : List Ex, Ex.bks l = (l.map Ex.bk).sum
 | [] => by rw [Ex.bks]; rfl
 | e :: l => by rw [Ex.bks, Ex.bks_sum l]; rfl
theorem Ex.smalls_of : ∀ {l : List Ex}, (∀ x ∈ l, x.small) → Ex.smalls l
 | [], _ => by unfold Ex.smalls; trivial
 | e :: l, h => by unfold Ex.smalls; exact ⟨h e (by simp), Ex.smalls_of fun x hx => h x (by simp [hx])⟩
section
variable {W : World}
theorem Ex.oks_of : ∀ {l : List Ex}, (∀ x ∈ l, x.ok W) → Ex.oks W l
 | [], _ => by unfold Ex.oks; trivial
 | e :: l, h => by unfold Ex.oks; exact ⟨h e (by simp), Ex.oks_of fun x hx => h x (by simp [hx])⟩
end
section
variable {H : Type} {enc : TypeId × Value → H} {W : World}
theorem sum_le {α β : Type} {b : α → Nat} {c : β → Nat} : ∀ {xs : List α} {ys : List β}, xs.length = ys.length → (∀ (i : Nat) (x : α) (y : β), xs[i]? = some x → ys[i]? = some y → b x ≤ c y) → (xs.map b).sum ≤ (ys.map c).sum
 | [], [], _, _ => Nat.le_refl _
 | x :: xs, y :: ys, hl, h => by
   have h0 := h 0 x y rfl rfl
   have ih := sum_le (b := b) (c := c) (xs := xs) (ys := ys) (by simpa using hl) (fun i x y h1 h2 => h (i + 1) x y (by simpa using h1) (by simpa using h2))
   simp only [List.map_cons, List.sum_cons]; omega
theorem choose_list {α : Type} {p : Nat → α → Prop} : ∀ (n : Nat), (∀ i, i < n → ∃ x, p i x) → ∃ xs : List α, xs.length = n ∧ ∀ i x, xs[i]? = some x → p i x
 | 0, _ => ⟨[], rfl, by simp⟩
 | n + 1, h => by
   obtain ⟨xs, h1, h2⟩ := choose_list n fun i hi => h i (by omega)
   obtain ⟨x, hx⟩ := h n (by omega)
   refine ⟨xs ++ [x], by simp [h1], fun i y hy => ?_⟩
   by_cases hi : i < n
   · rw [List.getElem?_append_left (by omega)] at hy
     exact h2 i y hy
   · have hlt := (List.getElem?_eq_some_iff.1 hy).1
     simp only [List.length_append, List.length_cons, List.length_nil] at hlt
     have : i = n := by omega
     subst this
     rw [List.getElem?_append_right (by omega), h1, Nat.sub_self] at hy
     injection hy with hy
     subst hy; exact hx
theorem slice_open {P : Program} {α : Type} {f : α → List Value} {ok : α → Prop} {B : α → Nat} {k : Nat} {T E : TypeId} (N : Nat) (und : P.underlying T = some (.slice E)) (hE : P.cellsOf E = k) (hk : 0 < k) (hf : ∀ x, (f x).length = k)
    (cells : ∀ {fuel : Nat} {base : Nat} {sp : Nat → Bool} {held : Bool} {cs : List Value} {x : DataW H × List MemPlace}, fuel < N → DataW.trod enc P W base sp held fuel E cs = some x → ∃ a : α, cs = f a ∧ ok a ∧ B a ≤ Rows.uptoBulk x.1)
    {sp : Nat → Bool} {held : Bool} {base fuel : Nat} {cs : List Value} {x : DataW H × List MemPlace} (hN : fuel ≤ N) (hh : DataW.trod enc P W base sp held fuel T cs = some x) :
    ∃ (h : Hd) (xs : List α), cs = [.slice h.a xs.length h.c] ∧ RRow W k f (h.v xs.length) xs ∧ (∀ x ∈ xs, ok x) ∧ (xs.map B).sum + 1 ≤ Rows.uptoBulk x.1 := by
 rcases DataW.trod_slice und hh with ⟨hc, hx⟩ | ⟨a, len, cap, elems, rest, n, hn, rfl, rfl, _, hle, hm, hlen, hat, _, _⟩
 · refine ⟨⟨none, 0⟩, [], hc, RRow.nil _ _ _, by simp, ?_⟩
   rw [hx]
   show 0 + 1 ≤ _
   rw [Rows.uptoBulk]
   exact Nat.le_refl _
 · have each : ∀ i, i < len → ∃ x : α, ok x ∧ (∃ y, elems[i]? = some y ∧ B x ≤ Rows.uptoBulk y.1) ∧ ∀ j, j < k → W.cell? ((a.add (i * k)).add j) = (f x)[j]? := by
     intro i hi
     have h1 := hat i hi
     obtain ⟨y, hy⟩ := some_len hlen hi
     rw [hy, Option.bind_eq_some_iff] at h1
     obtain ⟨cs', hcs, ht⟩ := h1
     obtain ⟨x, rfl, hox, hB⟩ := cells (by omega) ht
     rw [hE] at hcs
     obtain ⟨_, _, hcell⟩ := World.cells?_some hcs
     exact ⟨x, hox, ⟨y, hy, hB⟩, fun j hj => hcell j (by omega)⟩
   obtain ⟨xs, hxl, hxs⟩ := choose_list len each
   obtain ⟨b, o, sp'⟩ := a
   have first : ∀ (h0 : 0 < xs.length), W.cell? ((⟨b, o, sp'⟩ : Addr).add 0) = some ((f xs[0])[0]'(by rw [hf]; exact hk)) := fun h0 => by
    have h1 := (hxs 0 _ (List.getElem?_eq_getElem h0)).2.2 0 hk
    rw [Nat.zero_mul] at h1
    have e : ((⟨b, o, sp'⟩ : Addr).add 0).add 0 = (⟨b, o, sp'⟩ : Addr).add 0 := by cases sp' <;> rfl
    rw [e] at h1
    rw [h1]
    exact List.getElem?_eq_getElem _
   have hnone : 0 < xs.length → sp' = none := fun h0 => by
    cases sp' with
    | none => rfl
    | some q =>
      exfalso
      have h1 := first h0
      have e : (⟨b, o, some q⟩ : Addr).add 0 = ⟨b, o, some q⟩ := rfl
      rw [e] at h1
      unfold World.cell? at h1
      split at h1
      · simp at h1
      · cases h1
   refine ⟨⟨some ⟨b, o, sp'⟩, cap⟩, xs, by rw [hxl], ⟨some ⟨b, o, sp'⟩, cap, rfl, by omega, hm, ?_⟩, fun x hx => ?_, ?_⟩
   · by_cases h0 : xs.length = 0
     · exact .inl h0
     · right
       have hs := hnone (by omega)
       subst hs
       refine ⟨b, o, rfl, World.block_lt_of_cell? W _ (first (by omega)), fun i hi j hj => ?_⟩
       have := (hxs i _ (List.getElem?_eq_getElem hi)).2.2 j hj
       rw [add_add] at this
       exact this
   · obtain ⟨i, hi, rfl⟩ := List.getElem_of_mem hx
     exact (hxs i _ (List.getElem?_eq_getElem hi)).1
   · show _ ≤ Rows.uptoBulk (DataW.slice (elems.map (·.1)) (rest.map (·.1)))
     rw [Rows.uptoBulk, bulk_all, bulk_all, List.map_map]
     have := sum_le (b := B) (c := fun y : DataW H × List MemPlace => Rows.uptoBulk y.1) (xs := xs) (ys := elems) (by omega) (fun i x y h1 h2 => by
      obtain ⟨_, ⟨y', hy', hb⟩, _⟩ := hxs i x h1
      rw [hy'] at h2; injection h2 with h2; subst h2; exact hb)
     have e : (Rows.uptoBulk ∘ fun x : DataW H × List MemPlace => x.1) = fun y : DataW H × List MemPlace => Rows.uptoBulk y.1 := rfl
     rw [e]; omega

theorem one_u64 : Tryz.prog.cellsOf 23 = 1 := by kernel_rfl
theorem one_names : Tryz.prog.cellsOf 22 = 1 := by kernel_rfl
theorem one_ex : Tryz.prog.cellsOf 28 = 10 := by kernel_rfl
theorem one_set : Tryz.prog.cellsOf 25 = 4 := by kernel_rfl
theorem one_kids : Tryz.prog.cellsOf 26 = 1 := by kernel_rfl
theorem und_set : Tryz.prog.underlying 25 = some (.array 4 23) := by kernel_rfl
theorem names_open {fuel : Nat} {base : Nat} {sp : Nat → Bool} {held : Bool} {cs : List Value} {x : DataW H × List MemPlace} (h : DataW.trod enc Tryz.prog W base sp held fuel 22 cs = some x) : ∃ (h : Hd) (l : List ByteArray), cs = [.slice h.a l.length h.c] ∧ Reads W (h.v l.length) l ∧ (∀ s ∈ l, s.size ≤ maxLen) ∧ nB l ≤ Rows.uptoBulk x.1 :=
 slice_open (f := strC) (ok := fun s => s.size ≤ maxLen) (B := sB) fuel und_strs one_string (by omega) strC_l (fun _ h => string_open h) (Nat.le_refl _) h
theorem set_open {fuel : Nat} {base : Nat} {sp : Nat → Bool} {held : Bool} {cs : List Value} {x : DataW H × List MemPlace} (h : DataW.trod enc Tryz.prog W base sp held fuel 25 cs = some x) : ∃ a b c d : Int, cs = [.int .u64 a, .int .u64 b, .int .u64 c, .int .u64 d] := by
 obtain ⟨xs, n, _, _, hl, hxl, hat⟩ := DataW.trod_array und_set h
 rw [one_set] at hl
 obtain ⟨x0, g0⟩ := some_len hxl (i := 0) (by omega)
 have h0 := (hat 0 (by omega)).trans g0
 rw [one_u64] at h0
 obtain ⟨m0, c0, d0, r0⟩ := DataW.trod_int Tryz.underlying23 h0
 have p0 := chunk c0
 obtain ⟨x1, g1⟩ := some_len hxl (i := 1) (by omega)
 have h1 := (hat 1 (by omega)).trans g1
 rw [one_u64] at h1
 obtain ⟨m1, c1, d1, r1⟩ := DataW.trod_int Tryz.underlying23 h1
 have p1 := chunk c1
 obtain ⟨x2, g2⟩ := some_len hxl (i := 2) (by omega)
 have h2 := (hat 2 (by omega)).trans g2
 rw [one_u64] at h2
 obtain ⟨m2, c2, d2, r2⟩ := DataW.trod_int Tryz.underlying23 h2
 have p2 := chunk c2
 obtain ⟨x3, g3⟩ := some_len hxl (i := 3) (by omega)
 have h3 := (hat 3 (by omega)).trans g3
 rw [one_u64] at h3
 obtain ⟨m3, c3, d3, r3⟩ := DataW.trod_int Tryz.underlying23 h3
 have p3 := chunk c3
 have hend : cs.drop 4 = [] := List.drop_of_length_le (by omega)
 refine ⟨m0, m1, m2, m3, ?_⟩
 rw [show cs = cs.drop (0 * 1) from rfl, p0, show cs.drop (0 * 1 + 1) = cs.drop (1 * 1) from rfl, p1, show cs.drop (1 * 1 + 1) = cs.drop (2 * 1) from rfl, p2, show cs.drop (2 * 1 + 1) = cs.drop (3 * 1) from rfl, p3, show cs.drop (3 * 1 + 1) = [] from hend]
 rfl
theorem undf_ex : ∃ fs, Tryz.prog.underlying 28 = some (.struct fs) ∧ fs.toList.map (fun f => (f.type, f.offset)) = [(3, 0), (3, 1), (3, 2), (3, 3), (22, 4), (25, 5), (26, 9)] := ⟨_, Tryz.underlying28, by kernel_rfl⟩
theorem ex_open0 (N : Nat) (ih : ∀ {fuel : Nat} {base : Nat} {sp : Nat → Bool} {held : Bool} {cs : List Value} {x : DataW H × List MemPlace}, fuel < N → DataW.trod enc Tryz.prog W base sp held fuel 28 cs = some x → ∃ a : Ex, cs = exC a ∧ (a.ok W ∧ a.small) ∧ a.bk ≤ Rows.uptoBulk x.1) {fuel : Nat} {base : Nat} {sp : Nat → Bool} {held : Bool} {cs : List Value} {x : DataW H × List MemPlace} (hN : fuel ≤ N) (h : DataW.trod enc Tryz.prog W base sp held fuel 28 cs = some x) : ∃ a : Ex, cs = exC a ∧ (a.ok W ∧ a.small) ∧ a.bk ≤ Rows.uptoBulk x.1 := by
 obtain ⟨fs, hu, hf⟩ := undf_ex
 obtain ⟨xs, n, hn, hx, hl, hxl, hat⟩ := DataW.trod_struct hu h
 rw [one_ex] at hl
 have hsz : fs.size = 7 := by have := congrArg List.length hf; simpa using this
 rw [hsz] at hxl
 obtain ⟨f0, e0, t0, o0⟩ := field_at hf 0 _ rfl
 obtain ⟨x0, g0⟩ := some_len hxl (i := 0) (by omega)
 have h0 := (hat 0 f0 e0).trans g0
 rw [t0, o0] at h0
 dsimp only at h0
 rw [one_int] at h0
 obtain ⟨m0, c0, d0, r0⟩ := DataW.trod_int Tryz.underlying3 h0
 have p0 := chunk c0
 have b0 := one_le x0.1
 obtain ⟨f1, e1, t1, o1⟩ := field_at hf 1 _ rfl
 obtain ⟨x1, g1⟩ := some_len hxl (i := 1) (by omega)
 have h1 := (hat 1 f1 e1).trans g1
 rw [t1, o1] at h1
 dsimp only at h1
 rw [one_int] at h1
 obtain ⟨m1, c1, d1, r1⟩ := DataW.trod_int Tryz.underlying3 h1
 have p1 := chunk c1
 have b1 := one_le x1.1
 obtain ⟨f2, e2, t2, o2⟩ := field_at hf 2 _ rfl
 obtain ⟨x2, g2⟩ := some_len hxl (i := 2) (by omega)
 have h2 := (hat 2 f2 e2).trans g2
 rw [t2, o2] at h2
 dsimp only at h2
 rw [one_int] at h2
 obtain ⟨m2, c2, d2, r2⟩ := DataW.trod_int Tryz.underlying3 h2
 have p2 := chunk c2
 have b2 := one_le x2.1
 obtain ⟨f3, e3, t3, o3⟩ := field_at hf 3 _ rfl
 obtain ⟨x3, g3⟩ := some_len hxl (i := 3) (by omega)
 have h3 := (hat 3 f3 e3).trans g3
 rw [t3, o3] at h3
 dsimp only at h3
 rw [one_int] at h3
 obtain ⟨m3, c3, d3, r3⟩ := DataW.trod_int Tryz.underlying3 h3
 have p3 := chunk c3
 have b3 := one_le x3.1
 obtain ⟨f4, e4, t4, o4⟩ := field_at hf 4 _ rfl
 obtain ⟨x4, g4⟩ := some_len hxl (i := 4) (by omega)
 have h4 := (hat 4 f4 e4).trans g4
 rw [t4, o4] at h4
 dsimp only at h4
 rw [one_names] at h4
 obtain ⟨q4, m4, c4, k4, r4, b4⟩ := names_open h4
 have p4 := chunk c4
 obtain ⟨f5, e5, t5, o5⟩ := field_at hf 5 _ rfl
 obtain ⟨x5, g5⟩ := some_len hxl (i := 5) (by omega)
 have h5 := (hat 5 f5 e5).trans g5
 rw [t5, o5] at h5
 dsimp only at h5
 rw [one_set] at h5
 obtain ⟨u0, u1, u2, u3, c5⟩ := set_open h5
 have p5 := chunk c5
 have b5 := one_le x5.1
 obtain ⟨f6, e6, t6, o6⟩ := field_at hf 6 _ rfl
 obtain ⟨x6, g6⟩ := some_len hxl (i := 6) (by omega)
 have h6 := (hat 6 f6 e6).trans g6
 rw [t6, o6] at h6
 dsimp only at h6
 rw [one_kids] at h6
 obtain ⟨q6, m6, c6, k6, r6, b6⟩ := slice_open (f := exC) (ok := fun e => e.ok W ∧ e.small) (B := Ex.bk) N und_kids one_ex (by omega) exC_len (fun hlt hh => ih hlt hh) (by omega) h6
 have p6 := chunk c6
 have hend : cs.drop 10 = [] := List.drop_of_length_le (by omega)
 have hend2 : xs.drop 7 = [] := List.drop_of_length_le (by omega)
 have hxs : xs = [x0, x1, x2, x3, x4, x5, x6] := by
  rw [show xs = xs.drop 0 from rfl, drop_at g0, drop_at g1, drop_at g2, drop_at g3, drop_at g4, drop_at g5, drop_at g6, hend2]
 have hb : Rows.uptoBulk x.1 = Rows.uptoBulk x0.1 + Rows.uptoBulk x1.1 + Rows.uptoBulk x2.1 + Rows.uptoBulk x3.1 + Rows.uptoBulk x4.1 + Rows.uptoBulk x5.1 + Rows.uptoBulk x6.1 + 1 := by
  rw [hx, Rows.uptoBulk, bulk_all, hxs]
  simp only [List.map_cons, List.map_nil, List.sum_cons, List.sum_nil]; omega
 refine ⟨.mk ⟨m0, m1, m2, m3, q4, m4, u0, u1, u2, u3, q6⟩ m6, ?_, ⟨?_, ?_⟩, ?_⟩
 · rw [show cs = cs.drop 0 from rfl, p0, show cs.drop (0 + 1) = cs.drop 1 from rfl, p1, show cs.drop (1 + 1) = cs.drop 2 from rfl, p2, show cs.drop (2 + 1) = cs.drop 3 from rfl, p3, show cs.drop (3 + 1) = cs.drop 4 from rfl, p4, show cs.drop (4 + 1) = cs.drop 5 from rfl, p5, show cs.drop (5 + 4) = cs.drop 9 from rfl, p6, show cs.drop (9 + 1) = [] from hend]
   rfl
 · unfold Ex.ok; exact ⟨k4, k6, Ex.oks_of fun x hx => (r6 x hx).1⟩
 · unfold Ex.small; exact ⟨r4, Ex.smalls_of fun x hx => (r6 x hx).2⟩
 · rw [hb]
   rw [Ex.bk, Ex.bks_sum]
   show 6 + nB m4 + _ ≤ _
   omega
theorem ex_open1 : ∀ (N : Nat) {fuel : Nat} {base : Nat} {sp : Nat → Bool} {held : Bool} {cs : List Value} {x : DataW H × List MemPlace}, fuel < N → DataW.trod enc Tryz.prog W base sp held fuel 28 cs = some x → ∃ a : Ex, cs = exC a ∧ (a.ok W ∧ a.small) ∧ a.bk ≤ Rows.uptoBulk x.1
 | 0, _, _, _, _, _, _, h, _ => absurd h (Nat.not_lt_zero _)
 | N + 1, _, _, _, _, _, _, hl, h => ex_open0 N (fun h1 h2 => ex_open1 N h1 h2) (by omega) h
theorem ex_open {fuel : Nat} {base : Nat} {sp : Nat → Bool} {held : Bool} {cs : List Value} {x : DataW H × List MemPlace} (h : DataW.trod enc Tryz.prog W base sp held fuel 28 cs = some x) : ∃ a : Ex, cs = exC a ∧ (a.ok W ∧ a.small) ∧ a.bk ≤ Rows.uptoBulk x.1 := ex_open1 (fuel + 1) (Nat.lt_succ_self _) h
theorem open_ex {sp : Nat → Bool} {held : Bool} {base : Nat} {r : Reach} {b0 : Nat} {v : Value} {d : DataW H} {ps : List MemPlace} (hval : Value.okWide Tryz.prog W r b0 28 v) (h : DataW.Trod enc Tryz.prog W base sp held 28 v d ps) :
    ∃ x : Ex, v = .agg (exC x).toArray ∧ x.ok W ∧ x.small := by
 obtain ⟨fs, hu, -⟩ := undf_ex
 obtain ⟨cs, rfl, _⟩ := okWide_struct hu hval
 obtain ⟨fuel, hf⟩ := h
 obtain ⟨x, hc, ho, -⟩ := ex_open hf
 refine ⟨x, ?_, ho.1, ho.2⟩
 have : cs.toList = exC x := by simpa [Value.cells] using hc
 rw [← Array.toArray_toList (xs := cs), this]
end
end Go.Proofs.YtbobbbhgdfapjaaGreat
