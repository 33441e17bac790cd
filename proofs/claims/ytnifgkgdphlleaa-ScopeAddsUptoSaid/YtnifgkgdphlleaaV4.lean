/- Lists of names that a call makes: distinct, joined, copied. -/
import Derived.Test.YtnifgkgdphlleaaV3
set_option linter.unusedSimpArgs false
set_option linter.unusedVariables false
namespace Go.Proofs.Ytnifgkgdphlleaa
open Go.RowKit Tk
theorem mem_dt {x : ByteArray} {l : List ByteArray} (h : x ∈ l) : decide (x ∈ l) = true := decide_eq_true h
theorem mem_df {x : ByteArray} {l : List ByteArray} (h : ¬ x ∈ l) : decide (x ∈ l) = false := decide_eq_false h
theorem addN_in {x : ByteArray} {l : List ByteArray} (h : x ∈ l) : addN l x = l := if_pos h
theorem addN_out {x : ByteArray} {l : List ByteArray} (h : ¬ x ∈ l) : addN l x = l ++ [x] := if_neg h
/-- all lists of names are shorter -/
def few (n : Nat) : Prop := n ≤ 4000000000000
theorem spost {w w' : World} {a : Option Addr} {c n : Nat} {xs ys : List ByteArray} (h : OwnR w w' 9 1 strC (.slice a n c) xs) (hn : n = xs.length) (e : xs = ys) (hx : Ext w w') : SPost w ys (.returned (.slice a n c)) w' := by
  subst hn e; exact ⟨a, c, rfl, h, hx⟩
set_option maxHeartbeats 2000000 in
theorem distinct_any {w : World} {a : Option Addr} {n c : Nat} {xs : List ByteArray} (h : Reads w (.slice a n c) xs) (hf : few xs.length) :
    Calls Try.prog 23 #[.slice a n c] w (SPost w (dedupN xs)) := by
  obtain ⟨rfl, n2⟩ := h.lens
  unfold few at hf
  go_enter Try.func23, Try.ntmps23
  have E := Only.refl [] w
  have r0 := OwnR.nil w w 9 1 strC
  go_upto_region 3 with (first | fail)
  obtain ⟨wh, hwh⟩ : ∃ wh, wh = w := ⟨_, rfl⟩
  go_loopw [3, 8] (fun v i wr => ∃ (j : Nat) (L : List ByteArray) (so : Option Addr) (sc : Nat), i = .int .i64 j ∧ j ≤ xs.length ∧ v = .slice so L.length sc ∧ Hid (joinN [] (xs.take j) = L) ∧ OwnR w wr 9 1 strC (.slice so L.length sc) L ∧ Only [] w wr ∧ L.length ≤ j) (fun _ i _ => xs.length - (intOf i).toNat)
  case atStart => exact ⟨0, [], none, 0, rfl, Nat.zero_le _, rfl, rfl, r0, E, Nat.zero_le _⟩
  case round =>
    clear r0 E
    obtain ⟨j, L, so, sc, rfl, hj, rfl, hL, r0, E, hLj⟩ := hrel
    obtain ⟨hcE, hfE⟩ := bcell E.low
    by_cases hlt : j < xs.length
    · obtain ⟨g, o, rfl, hg, k0⟩ := h.cells hlt
      have hs := joinN_snoc (l := []) hlt
      rw [hL.out] at hs
      by_cases hm : xs[j] ∈ L
      · rw [addN_in hm] at hs
        have HS := Lib.hid hs
        have g1 := mem_dt hm
        clear hm hs
        go_upto_region 9999 with (first | ((with_reducible refine at_dst 14 ?_); go_simp; ((with_reducible refine (contains_any r0.reads _).mono ?_)); unfold BPost; rintro e wn ⟨rfl, hx⟩; (try replace E := E.ext hx); (try replace r0 := r0.ext hx); (try (clear hcE hfE)); (try (have hcf := bcell E.low; obtain ⟨hcE, hfE⟩ := hcf))))
        go_roundw
        case rel => exact ⟨j + 1, L, so, sc, by go_num, by omega, rfl, HS.out, r0, E, by omega⟩
        case measure => simp [intOf]; omega
      · rw [addN_out hm] at hs
        have HS := Lib.hid hs
        have g1 := mem_df hm
        clear hm hs
        go_upto_region 9999 with (first | ((with_reducible refine at_dst 14 ?_); go_simp; ((with_reducible refine (contains_any r0.reads _).mono ?_)); unfold BPost; rintro e wn ⟨rfl, hx⟩; (try replace E := E.ext hx); (try replace r0 := r0.ext hx); (try (clear hcE hfE)); (try (have hcf := bcell E.low; obtain ⟨hcE, hfE⟩ := hcf))) | ((with_reducible refine at_dst 18 ?_); go_simp; (generalize hX18 : Array.size (World.heap _) = X18); refine new_block hX18 ?_; intro wn bb hx; (try (have z18 := Nat.le_trans E.size (Nat.le_of_eq hX18))); (try (have mr0_18 := r0.notin (Nat.le_of_eq hX18))); have b18 := bb; have g18 := Loc.new bb E hX18; clear bb hX18; (try replace E := E.ext hx); (try replace r0 := r0.ext hx); (try (clear hcE hfE)); (try (have hcf := bcell E.low; obtain ⟨hcE, hfE⟩ := hcf))) | ((with_reducible refine at_dst 19 ?_); refine wp_own (.tmp 16) (.tmp 18) rfl info_str und_strs rfl (by decide) strC_l strC_one r0 E (RRow.blk (xs := [xs[j]]) strC_l b18 rfl (show 1 ≤ maxLen by decide)) rfl rfl ?_ ?_ ?_; (· (simp only [List.length_cons, List.length_nil]; (try unfold maxLen); omega)); (· (simp only [List.length_cons, List.length_nil]; (try unfold maxLen); omega)); intro L19 hL19 s19 v19 wn r1 E2 hA; replace hL19 := Lib.hid hL19; skip; clear E; have E := E2; clear E2; obtain ⟨o19, k19, rfl, l19, m19⟩ := ORow.len r1.row; (try (clear hcE hfE)); (try (have hcf := bcell E.low; obtain ⟨hcE, hfE⟩ := hcf)); (try simp only [Act.put, List.setIfInBounds_toArray, List.set_cons_zero, List.set_cons_succ])))
        have hl19 : (L ++ [xs[j]]).length = L.length + 1 := by simp
        go_roundw
        case rel => exact ⟨j + 1, _, _, _, by go_num, by omega, rfl, HS.out.trans hL19.out, r1, E, by rw [← hL19.out]; omega⟩
        case measure => simp [intOf]; omega
    · go_upto_region 9999 with (first | fail)
      have hjl : xs.take j = xs := List.take_of_length_le (by omega)
      go_ret
      exact spost r0 rfl (by rw [← hL.out, hjl]; rfl) E.low
set_option maxHeartbeats 2000000 in
theorem qjoined_any {w : World} {a a' : Option Addr} {n c n' c' : Nat} {xs ys : List ByteArray} (h1 : Reads w (.slice a n c) xs) (h2 : Reads w (.slice a' n' c') ys) (hf : few xs.length) (hf2 : few ys.length) :
    Calls Try.prog 40 #[.slice a n c, .slice a' n' c'] w (SPost w (joinN xs ys)) := by
  obtain ⟨rfl, n2⟩ := h1.lens
  obtain ⟨rfl, n3⟩ := h2.lens
  unfold few at hf hf2
  go_enter Try.func40, Try.ntmps40
  have E := Only.refl [] w
  have r0 := OwnR.nil w w 9 1 strC
  go_upto_region 4 with (first | ((with_reducible refine at_dst 9 ?_); refine wp_own (.tmp 7) (.tmp 8) rfl info_str und_strs rfl (by decide) strC_l strC_one r0 E h1 rfl rfl ?_ ?_ ?_; (· (simp only [List.length_nil]; (try unfold maxLen); omega)); (· (simp only [List.length_nil]; (try unfold maxLen); omega)); intro L9 hL9 s9 v9 wn r1 E2 hA; replace hL9 := Lib.hid hL9; skip; clear E; have E := E2; clear E2; have hz := hL9.out; rw [List.nil_append] at hz; rw [← hz] at r1; clear hz; obtain ⟨o9, k9, rfl, l9, m9⟩ := ORow.len r1.row; (try (clear hcE hfE)); (try (have hcf := bcell E.low; obtain ⟨hcE, hfE⟩ := hcf)); (try simp only [Act.put, List.setIfInBounds_toArray, List.set_cons_zero, List.set_cons_succ])))
  obtain ⟨wh, hwh⟩ : ∃ wh, wh = wn := ⟨_, rfl⟩
  subst hwh
  go_loopw [5, 6] (fun v i wr => ∃ (j : Nat) (L : List ByteArray) (so : Option Addr) (sc : Nat), i = .int .i64 j ∧ j ≤ ys.length ∧ v = .slice so L.length sc ∧ Hid (joinN xs (ys.take j) = L) ∧ OwnR w wr 9 1 strC (.slice so L.length sc) L ∧ Only [] w wr ∧ L.length ≤ xs.length + j) (fun _ i _ => ys.length - (intOf i).toNat)
  case atStart => exact ⟨0, xs, o9, k9, rfl, Nat.zero_le _, rfl, rfl, r1, E, by omega⟩
  case round =>
    clear r1 E hcE hfE
    obtain ⟨j, L, so, sc, rfl, hj, rfl, hL, r1, E, hLj⟩ := hrel
    obtain ⟨hcE, hfE⟩ := bcell E.low
    by_cases hlt : j < ys.length
    · obtain ⟨g, o, rfl, hg, k0⟩ := h2.cells hlt
      have hs := joinN_snoc (l := xs) hlt
      rw [hL.out] at hs
      by_cases hm : ys[j] ∈ L
      · rw [addN_in hm] at hs
        have HS := Lib.hid hs
        have g1 := mem_dt hm
        clear hm hs
        go_upto_region 9999 with (first | ((with_reducible refine at_dst 21 ?_); go_simp; ((with_reducible refine (qhas_any r1.reads _).mono ?_)); unfold BPost; rintro e wn ⟨rfl, hx⟩; (try replace E := E.ext hx); (try replace r1 := r1.ext hx); (try (clear hcE hfE)); (try (have hcf := bcell E.low; obtain ⟨hcE, hfE⟩ := hcf))))
        go_roundw
        case rel => exact ⟨j + 1, L, so, sc, by go_num, by omega, rfl, HS.out, r1, E, by omega⟩
        case measure => simp [intOf]; omega
      · rw [addN_out hm] at hs
        have HS := Lib.hid hs
        have g1 := mem_df hm
        clear hm hs
        go_upto_region 9999 with (first | ((with_reducible refine at_dst 21 ?_); go_simp; ((with_reducible refine (qhas_any r1.reads _).mono ?_)); unfold BPost; rintro e wn ⟨rfl, hx⟩; (try replace E := E.ext hx); (try replace r1 := r1.ext hx); (try (clear hcE hfE)); (try (have hcf := bcell E.low; obtain ⟨hcE, hfE⟩ := hcf))) | ((with_reducible refine at_dst 28 ?_); go_simp; (generalize hX28 : Array.size (World.heap _) = X28); refine new_block hX28 ?_; intro wn bb hx; (try (have z28 := Nat.le_trans E.size (Nat.le_of_eq hX28))); (try (have mr1_28 := r1.notin (Nat.le_of_eq hX28))); have b28 := bb; have g28 := Loc.new bb E hX28; clear bb hX28; (try replace E := E.ext hx); (try replace r1 := r1.ext hx); (try (clear hcE hfE)); (try (have hcf := bcell E.low; obtain ⟨hcE, hfE⟩ := hcf))) | ((with_reducible refine at_dst 29 ?_); refine wp_own (.tmp 23) (.tmp 28) rfl info_str und_strs rfl (by decide) strC_l strC_one r1 E (RRow.blk (xs := [ys[j]]) strC_l b28 rfl (show 1 ≤ maxLen by decide)) rfl rfl ?_ ?_ ?_; (· (simp only [List.length_cons, List.length_nil]; (try unfold maxLen); omega)); (· (simp only [List.length_cons, List.length_nil]; (try unfold maxLen); omega)); intro L29 hL29 s29 v29 wn r2 E2 hA; replace hL29 := Lib.hid hL29; skip; clear E; have E := E2; clear E2; obtain ⟨o29, k29, rfl, l29, m29⟩ := ORow.len r2.row; (try (clear hcE hfE)); (try (have hcf := bcell E.low; obtain ⟨hcE, hfE⟩ := hcf)); (try simp only [Act.put, List.setIfInBounds_toArray, List.set_cons_zero, List.set_cons_succ])))
        have hl19 : (L ++ [ys[j]]).length = L.length + 1 := by simp
        go_roundw
        case rel => exact ⟨j + 1, _, _, _, by go_num, by omega, rfl, HS.out.trans hL29.out, r2, E, by rw [← hL29.out]; omega⟩
        case measure => simp [intOf]; omega
    · go_upto_region 9999 with (first | fail)
      have hjl : ys.take j = ys := List.take_of_length_le (by omega)
      go_ret
      exact spost r1 rfl (by rw [← hL.out, hjl]) E.low
theorem Reads.none {w : World} {n c : Nat} {xs : List ByteArray} (h : Reads w (.slice none n c) xs) : xs = [] ∧ n = 0 := by
  obtain ⟨rfl, -⟩ := h.lens
  rcases Nat.eq_zero_or_pos xs.length with h0 | h0
  · exact ⟨List.length_eq_zero_iff.1 h0, h0⟩
  · obtain ⟨g, o, e, -⟩ := h.cells h0
    cases e
theorem equalIn_nil {P : Program} (w : World) (d : Nat) {t e : TypeId} (a : Option Addr) (n c : Nat) (h : P.underlying t = some (.slice e)) : (Op.equalIn (d + 1) t (.slice a n c) (.slice none 0 0)).run P w = .ok a.isNone w := by
  cases a <;> simp [Op.equalIn, run_underlying h]
theorem eql_nil {P : Program} (w : World) {t e : TypeId} (a : Option Addr) (n c : Nat) (h : P.underlying t = some (.slice e)) : (binOp .eql t (.slice a n c) (.slice none 0 0)).run P w = .ok (.bool a.isNone) w := by
  simp only [binOp]
  simp [Op.equal, Op.maxDepth, equalIn_nil w 9999 a n c h]
@[go_sem] theorem nil_strs (a : Option Addr) (n c : Nat) (w : World) : (binOp BinOp.eql 34 (.slice a n c) (.slice none 0 0)).run Try.prog w = .ok (.bool a.isNone) w := eql_nil w a n c und_strs
set_option maxRecDepth 100000 in
theorem clone_any {w : World} {a : Option Addr} {n c : Nat} {xs : List ByteArray} (h : Reads w (.slice a n c) xs) (hf : few xs.length) :
    Calls Try.prog 24 #[.slice a n c] w (SPost w xs) := by
  unfold few at hf
  rcases a with _ | p
  · obtain ⟨rfl, rfl⟩ := h.none
    go_enter Try.func24, Try.ntmps24
    have E := Only.refl [] w
    go_upto_region 9999 with (first | fail)
    go_ret
    exact ⟨none, 0, rfl, OwnR.nil w w 9 1 strC, E.low⟩
  · obtain ⟨rfl, n2⟩ := h.lens
    go_enter Try.func24, Try.ntmps24
    have E := Only.refl [] w
    go_upto_region 9999 with (first | ((with_reducible refine at_dst 5 ?_); go_simp; (generalize hX5 : Array.size (World.heap _) = X5); refine new_block hX5 ?_; intro wn bb hx; (try (have z5 := Nat.le_trans E.size (Nat.le_of_eq hX5))); have b5 := bb; have g5 := Loc.new bb E hX5; clear bb hX5; (try replace E := E.ext hx); (try (clear hcE hfE)); (try (have hcf := bcell E.low; obtain ⟨hcE, hfE⟩ := hcf))) | ((with_reducible refine at_dst 7 ?_); refine wp_own (.tmp 5) (.tmp 6) rfl info_str und_strs rfl (by decide) strC_l strC_one (OwnR.ofBlk (xs := ([] : List ByteArray)) g5 rfl strC_l rfl (by decide)) E (h.ext E.low) rfl rfl ?_ ?_ ?_; (· (simp only [List.length_nil]; (try unfold maxLen); omega)); (· (simp only [List.length_nil]; (try unfold maxLen); omega)); intro L7 hL7 s7 v7 wn r7 E2 hA; replace hL7 := Lib.hid hL7; skip; clear E; have E := E2; clear E2; have hz := hL7.out; rw [List.nil_append] at hz; rw [← hz] at r7; clear hz; obtain ⟨o7, k7, rfl, l7, m7⟩ := ORow.len r7.row; (try (clear hcE hfE)); (try (have hcf := bcell E.low; obtain ⟨hcE, hfE⟩ := hcf)); (try simp only [Act.put, List.setIfInBounds_toArray, List.set_cons_zero, List.set_cons_succ])))
    go_ret
    exact spost r7 rfl rfl E.low
end Go.Proofs.Ytnifgkgdphlleaa
