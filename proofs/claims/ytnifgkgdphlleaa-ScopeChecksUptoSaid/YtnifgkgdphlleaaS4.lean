/- V2, V3, V4, V5, V6, V7, V8, V9 -/
import Derived.Test.YtnifgkgdphlleaaS3
import Derived.Deep.Cut
import Derived.Outline
import Derived.Laws.StructEq
import Derived.DeepKeys3
import Derived.WalkKit
import Derived.Laws.NewBlocks
import Derived.MapKept
set_option linter.unusedSimpArgs false
set_option linter.unusedVariables false
namespace Go.Proofs.Ytnifgkgdphlleaa
open Go.RowKit Tk
def IPost (n : Int) (w : World) (e : Ending) (w' : World) : Prop := e = .returned (.int .i64 n) ∧ Below w.heap.size w w'
def spC (k : Int) : Int := if k = 3 ∨ k = 0 then 2 else k
def spR (k : Int) : Int := if k = 3 then 2 else k
def objT : List UInt8 := [111, 98, 106, 101, 99, 116, 95, 114]
def isObj (k : Int) (n : ByteArray) : Bool := (k == 4) && (n.toList == objT)
def kindP (k : Int) : Int := if k = 1 then 1 else if k = 2 then 2 else if k = 3 then 3 else if k = 5 then 4 else if k = 8 then 5 else if k = 9 then 6 else if k = 10 then 7 else if k = 11 then 8 else 0
theorem space_any (k : Int) (w : World) : Calls Try.prog 34 #[.int .i64 k] w (IPost (spC k) w) := by
  unfold spC
  by_cases h1 : k = 3
  · obtain ⟨g1, g2⟩ := kd_t h1
    have H1 := Lib.hid h1
    rw [if_pos (.inl h1)]
    clear h1
    go_enter Try.func34, Try.ntmps34
    have E := Only.refl [] w
    go_upto_region 9999 with (first | fail)
    go_ret
    exact ⟨rfl, E.low⟩
  · obtain ⟨g1, g2⟩ := kd_f h1
    by_cases h2 : k = 0
    · obtain ⟨g3, g4⟩ := kd_t h2
      rw [if_pos (.inr h2)]
      have H1 := Lib.hid h1
      have H2 := Lib.hid h2
      clear h1 h2
      go_enter Try.func34, Try.ntmps34
      have E := Only.refl [] w
      go_upto_region 9999 with (first | fail)
      go_ret
      exact ⟨rfl, E.low⟩
    · obtain ⟨g3, g4⟩ := kd_f h2
      rw [if_neg (by omega)]
      have H1 := Lib.hid h1
      have H2 := Lib.hid h2
      clear h1 h2
      go_enter Try.func34, Try.ntmps34
      have E := Only.refl [] w
      go_upto_region 9999 with (first | fail)
      go_ret
      exact ⟨rfl, E.low⟩
theorem objRole_any (k : Int) (n : ByteArray) (w : World) : Calls Try.prog 18 #[.int .i64 k, .string n] w (BPost (isObj k n) w) := by
  unfold isObj objT
  by_cases h1 : k = 4
  · obtain ⟨g1, g2⟩ := kd_t h1
    have H1 := Lib.hid h1
    clear h1
    rw [g1, Bool.true_and]
    go_enter Try.func18, Try.ntmps18
    have E := Only.refl [] w
    go_upto_region 9999 with (first | fail)
    go_ret
    exact ⟨rfl, E.low⟩
  · obtain ⟨g1, g2⟩ := kd_f h1
    have H1 := Lib.hid h1
    clear h1
    rw [g1, Bool.false_and]
    go_enter Try.func18, Try.ntmps18
    have E := Only.refl [] w
    go_upto_region 9999 with (first | fail)
    go_ret
    exact ⟨rfl, E.low⟩
set_option maxHeartbeats 1000000 in
theorem declares_any (s : St) (w : World) : Calls Try.prog 44 #[.agg (stC s).toArray] w (IPost (kindP s.h.kind) w) := by
  unfold kindP
  obtain ⟨k, hk⟩ : ∃ k, s.h.kind = k := ⟨_, rfl⟩
  by_cases hin : k = 1 ∨ k = 2 ∨ k = 3 ∨ k = 5 ∨ k = 8 ∨ k = 9 ∨ k = 10 ∨ k = 11
  · rcases hin with rfl | rfl | rfl | rfl | rfl | rfl | rfl | rfl
    all_goals
      go_enter Try.func44, Try.ntmps44
      have E := Only.refl [] w
      go_upto_region 9999 with (first | ((with_reducible refine at_dst 1 ?_); go_simp; (generalize hX1 : Array.size (World.heap _) = X1); refine new_block hX1 ?_; intro wn bb hx; (try (have z1 := Nat.le_trans E.size (Nat.le_of_eq hX1))); have b1 := Loc.new bb E hX1; clear bb hX1; (try replace E := E.ext hx); (try (clear hcE hfE)); (try (have hcf := bcell E.low; obtain ⟨hcE, hfE⟩ := hcf)); (try (clear c1 f1)); (try (have c1 := b1.cell; have f1 := b1.free))))
      go_ret
      exact ⟨rfl, E.low⟩
  · simp only [not_or] at hin
    obtain ⟨n1, n2, n3, n4, n5, n6, n7, n8⟩ := hin
    obtain ⟨g1, -⟩ := kd_f n1
    obtain ⟨g2, -⟩ := kd_f n2
    obtain ⟨g3, -⟩ := kd_f n3
    obtain ⟨g4, -⟩ := kd_f n4
    obtain ⟨g5, -⟩ := kd_f n5
    obtain ⟨g6, -⟩ := kd_f n6
    obtain ⟨g7, -⟩ := kd_f n7
    obtain ⟨g8, -⟩ := kd_f n8
    go_enter Try.func44, Try.ntmps44
    have E := Only.refl [] w
    go_upto_region 9999 with (first | ((with_reducible refine at_dst 1 ?_); go_simp; (generalize hX1 : Array.size (World.heap _) = X1); refine new_block hX1 ?_; intro wn bb hx; (try (have z1 := Nat.le_trans E.size (Nat.le_of_eq hX1))); have b1 := Loc.new bb E hX1; clear bb hX1; (try replace E := E.ext hx); (try (clear hcE hfE)); (try (have hcf := bcell E.low; obtain ⟨hcE, hfE⟩ := hcf)); (try (clear c1 f1)); (try (have c1 := b1.cell; have f1 := b1.free))))
    go_ret
    exact ⟨by simp only [n1, n2, n3, n4, n5, n6, n7, n8, if_false]; rfl, E.low⟩
end Go.Proofs.Ytnifgkgdphlleaa
set_option linter.unusedSimpArgs false
set_option linter.unusedVariables false
namespace Go.Proofs.Ytnifgkgdphlleaa
open Go.RowKit Tk
instance memBA (x : ByteArray) (l : List ByteArray) : Decidable (x ∈ l) := decidable_of_iff (∃ y ∈ l, y = x) ⟨fun ⟨_, hy, e⟩ => e ▸ hy, fun h => ⟨x, h, rfl⟩⟩
def addN (l : List ByteArray) (x : ByteArray) : List ByteArray := if x ∈ l then l else l ++ [x]
def joinN (l more : List ByteArray) : List ByteArray := more.foldl addN l
def dedupN (l : List ByteArray) : List ByteArray := joinN [] l
theorem joinN_app (l a b : List ByteArray) : joinN l (a ++ b) = joinN (joinN l a) b := List.foldl_append ..
theorem joinN_snoc {l a : List ByteArray} {j : Nat} (h : j < a.length) : joinN l (a.take (j + 1)) = addN (joinN l (a.take j)) a[j] := by
  rw [List.take_succ_eq_append_getElem h, joinN_app]; rfl
theorem joinN_len (l a : List ByteArray) : (joinN l a).length ≤ l.length + a.length := by
  induction a generalizing l with
  | nil => exact Nat.le_refl _
  | cons x a ih =>
    have := ih (addN l x)
    have h2 : (addN l x).length ≤ l.length + 1 := by unfold addN; split <;> simp
    show (joinN (addN l x) a).length ≤ _
    rw [List.length_cons]; omega
theorem joinN_mem {l a : List ByteArray} {y : ByteArray} : y ∈ joinN l a ↔ y ∈ l ∨ y ∈ a := by
  induction a generalizing l with
  | nil => simp [joinN]
  | cons x a ih =>
    show y ∈ joinN (addN l x) a ↔ _
    rw [ih]
    unfold addN
    split
    · rename_i h
      simp only [List.mem_cons]
      constructor
      · rintro (h1 | h1) <;> simp [h1]
      · rintro (h1 | rfl | h1) <;> simp_all
    · simp [or_assoc]
theorem addN_nodup {l : List ByteArray} (h : l.Nodup) (x : ByteArray) : (addN l x).Nodup := by
  unfold addN
  split
  · exact h
  · rename_i hx
    rw [List.nodup_append]
    exact ⟨h, by simp, fun a ha b hb => by rw [List.mem_singleton.1 hb]; rintro rfl; exact hx ha⟩
theorem joinN_nodup {l : List ByteArray} (h : l.Nodup) (a : List ByteArray) : (joinN l a).Nodup := by
  induction a generalizing l with
  | nil => exact h
  | cons x a ih => exact ih (addN_nodup h x)
theorem dedup_nodup (l : List ByteArray) : (dedupN l).Nodup := joinN_nodup List.nodup_nil l
theorem join_nodup : ∀ {l : List ByteArray} (a : List ByteArray), (a ++ l).Nodup → joinN a l = a ++ l
  | [], a, _ => by simp [joinN]
  | x :: l, a, h => by
    have h2 : ¬ x ∈ a := fun hm => by
      rw [List.nodup_append] at h
      exact h.2.2 x hm x (.head _) rfl
    show joinN (addN a x) l = _
    unfold addN
    rw [if_neg h2, join_nodup (l := l) (a ++ [x]) (by simpa using h)]
    simp
theorem dedup_id {l : List ByteArray} (h : l.Nodup) : dedupN l = l := join_nodup [] (by simpa using h)
theorem dedup_app {l : List ByteArray} (h : l.Nodup) (a : List ByteArray) : dedupN (l ++ a) = joinN l a := by
  unfold dedupN; rw [joinN_app]
  have := dedup_id h
  unfold dedupN at this
  rw [this]
/-- joining with a joined list -/
theorem join_join (l a b : List ByteArray) : joinN l (joinN a b) = joinN l (a ++ b) := by
  induction b generalizing a with
  | nil => simp [joinN]
  | cons x b ih =>
    show joinN l (joinN (addN a x) b) = _
    rw [ih]
    unfold addN
    split
    · rename_i h
      rw [joinN_app, joinN_app]
      show _ = joinN (addN (joinN l a) x) b
      unfold addN
      rw [if_pos (joinN_mem.2 (.inr h))]
    · simp
theorem Reads.cells {w : World} {a : Option Addr} {n c : Nat} {xs : List ByteArray} (h : Reads w (.slice a n c) xs) {i : Nat} (hi : i < xs.length) : ∃ g o, a = some ⟨g, o, none⟩ ∧ g < w.heap.size ∧ w.cell? ⟨g, o + i, none⟩ = some (.string xs[i]) := by
  obtain ⟨g, o, e, hg, hc⟩ := RRow.cells h hi
  have := hc 0 (by omega)
  rw [Nat.mul_one, Nat.add_zero] at this
  exact ⟨g, o, e, hg, this⟩
/-- the slice value of a result that the call has made -/
def SPost (w : World) (xs : List ByteArray) (e : Ending) (w' : World) : Prop := ∃ a c, e = .returned (.slice a xs.length c) ∧ OwnR w w' 9 1 strC (.slice a xs.length c) xs ∧ Ext w w'
theorem OwnR.reads {w w' : World} {v : Value} {xs : List ByteArray} (h : OwnR w w' 9 1 strC v xs) : Reads w' v xs := h.row.reads strC_l
theorem Reads.lens {w : World} {a : Option Addr} {n c : Nat} {xs : List ByteArray} (h : Reads w (.slice a n c) xs) : n = xs.length ∧ xs.length ≤ 9223372036854775807 := by
  obtain ⟨ao, cap, e, h1, h2⟩ := RRow.len h
  injection e with e1 e2 e3
  unfold maxLen at h2
  exact ⟨e2, by omega⟩
set_option maxHeartbeats 1000000 in
theorem index_any {w : World} {a : Option Addr} {n c : Nat} {xs : List ByteArray} (h : Reads w (.slice a n c) xs) (s : ByteArray) :
    Calls Try.prog 31 #[.slice a n c, .string s] w fun e w' => ∃ i : Int, e = .returned (.int .i64 i) ∧ ((s ∈ xs ∧ 0 ≤ i) ∨ (¬ s ∈ xs ∧ i = -1)) ∧ w' = w := by
  obtain ⟨rfl, n2⟩ := h.lens
  go_enter Try.func31, Try.ntmps31
  go_upto_region 2 with (first | fail)
  go_loop [8] (fun i => ∃ j : Nat, i = .int .i64 j ∧ j ≤ xs.length ∧ Hid (∀ k (_ : k < j) (hk : k < xs.length), ¬ xs[k] = s)) (fun i => xs.length - (intOf i).toNat)
  case atStart => exact ⟨0, rfl, Nat.zero_le _, fun k hk => by omega⟩
  case round =>
    obtain ⟨j, rfl, hj, hA⟩ := hrel
    by_cases hlt : j < xs.length
    · obtain ⟨g, o, rfl, hg, k0⟩ := h.cells hlt
      by_cases he : s = xs[j]
      · have g1 := txt_t he
        have HE := Lib.hid he
        clear he
        go_upto_region 9999 with (first | fail)
        go_ret
        exact ⟨_, rfl, .inl ⟨by rw [HE.out]; exact List.getElem_mem _, by omega⟩, rfl⟩
      · have g1 := txt_f he
        have HE := Lib.hid he
        clear he
        go_upto_region 9999 with (first | fail)
        go_round
        case rel => exact ⟨j + 1, by go_num, by omega, none_snoc (p := fun x => x = s) hA.out hlt (fun e => HE.out e.symm)⟩
        case measure => simp [intOf]; omega
    · go_upto_region 9999 with (first | fail)
      go_ret
      refine ⟨_, rfl, .inr ⟨fun hm => ?_, rfl⟩, rfl⟩
      obtain ⟨k, hk, e⟩ := List.getElem_of_mem hm
      exact hA k (by omega) hk e
theorem contains_any {w : World} {a : Option Addr} {n c : Nat} {xs : List ByteArray} (h : Reads w (.slice a n c) xs) (s : ByteArray) :
    Calls Try.prog 19 #[.slice a n c, .string s] w (BPost (decide (s ∈ xs)) w) := by
  go_enter Try.func19, Try.ntmps19
  go_upto_region 9999 with (first | ((with_reducible refine at_dst 7 ?_); go_simp; ((with_reducible refine (index_any h s).mono ?_)); rintro e wq ⟨i, rfl, hi, rfl⟩))
  go_ret
  refine ⟨ret_bool ?_, Ext.refl _⟩
  rcases hi with ⟨h1, h2⟩ | ⟨h1, h2⟩
  · simp [h1, h2]
  · simp [h1, h2]
set_option maxHeartbeats 1000000 in
theorem qhas_any {w : World} {a : Option Addr} {n c : Nat} {xs : List ByteArray} (h : Reads w (.slice a n c) xs) (s : ByteArray) :
    Calls Try.prog 43 #[.slice a n c, .string s] w (BPost (decide (s ∈ xs)) w) := by
  obtain ⟨rfl, n2⟩ := h.lens
  go_enter Try.func43, Try.ntmps43
  go_upto_region 2 with (first | fail)
  go_loop [5] (fun i => ∃ j : Nat, i = .int .i64 j ∧ j ≤ xs.length ∧ Hid (∀ k (_ : k < j) (hk : k < xs.length), ¬ xs[k] = s)) (fun i => xs.length - (intOf i).toNat)
  case atStart => exact ⟨0, rfl, Nat.zero_le _, fun k hk => by omega⟩
  case round =>
    obtain ⟨j, rfl, hj, hA⟩ := hrel
    by_cases hlt : j < xs.length
    · obtain ⟨g, o, rfl, hg, k0⟩ := h.cells hlt
      by_cases he : xs[j] = s
      · have g1 := txt_t he
        have HE := Lib.hid he
        clear he
        go_upto_region 9999 with (first | fail)
        go_ret
        refine ⟨ret_bool ?_, Ext.refl _⟩
        rw [← HE.out]; simp
      · have g1 := txt_f he
        have HE := Lib.hid he
        clear he
        go_upto_region 9999 with (first | fail)
        go_round
        case rel => exact ⟨j + 1, by go_num, by omega, none_snoc (p := fun x => x = s) hA.out hlt HE.out⟩
        case measure => simp [intOf]; omega
    · go_upto_region 9999 with (first | fail)
      go_ret
      refine ⟨ret_bool ?_, Ext.refl _⟩
      have : ¬ s ∈ xs := fun hm => by
        obtain ⟨k, hk, e⟩ := List.getElem_of_mem hm
        exact hA k (by omega) hk e
      simp [this]
end Go.Proofs.Ytnifgkgdphlleaa
set_option linter.unusedSimpArgs false
set_option linter.unusedVariables false
namespace Go.Proofs.Ytnifgkgdphlleaa
open Go.RowKit Tk
theorem mem_dt {x : ByteArray} {l : List ByteArray} (h : x ∈ l) : decide (x ∈ l) = true := decide_eq_true h
theorem mem_df {x : ByteArray} {l : List ByteArray} (h : ¬ x ∈ l) : decide (x ∈ l) = false := decide_eq_false h
theorem addN_in {x : ByteArray} {l : List ByteArray} (h : x ∈ l) : addN l x = l := if_pos h
theorem addN_out {x : ByteArray} {l : List ByteArray} (h : ¬ x ∈ l) : addN l x = l ++ [x] := if_neg h
/-- all lists of names are shorter -/
def few (n : Nat) : Prop := n ≤ 4000000000000
theorem spost {w w' : World} {a : Option Addr} {c n : Nat} {xs ys : List ByteArray} (h : OwnR w w' 9 1 strC (.slice a n c) xs) (hn : n = xs.length) (e : xs = ys) (hx : Ext w w') : SPost w ys (.returned (.slice a n c)) w' := by
  subst hn e; exact ⟨a, c, rfl, h, hx⟩
set_option maxHeartbeats 2000000 in
theorem distinct_any {w : World} {a : Option Addr} {n c : Nat} {xs : List ByteArray} (h : Reads w (.slice a n c) xs) (hf : few xs.length) :
    Calls Try.prog 23 #[.slice a n c] w (SPost w (dedupN xs)) := by
  obtain ⟨rfl, n2⟩ := h.lens
  unfold few at hf
  go_enter Try.func23, Try.ntmps23
  have E := Only.refl [] w
  have r0 := OwnR.nil w w 9 1 strC
  go_upto_region 3 with (first | fail)
  obtain ⟨wh, hwh⟩ : ∃ wh, wh = w := ⟨_, rfl⟩
  go_loopw [3, 8] (fun v i wr => ∃ (j : Nat) (L : List ByteArray) (so : Option Addr) (sc : Nat), i = .int .i64 j ∧ j ≤ xs.length ∧ v = .slice so L.length sc ∧ Hid (joinN [] (xs.take j) = L) ∧ OwnR w wr 9 1 strC (.slice so L.length sc) L ∧ Only [] w wr ∧ L.length ≤ j) (fun _ i _ => xs.length - (intOf i).toNat)
  case atStart => exact ⟨0, [], none, 0, rfl, Nat.zero_le _, rfl, rfl, r0, E, Nat.zero_le _⟩
  case round =>
    clear r0 E
    obtain ⟨j, L, so, sc, rfl, hj, rfl, hL, r0, E, hLj⟩ := hrel
    obtain ⟨hcE, hfE⟩ := bcell E.low
    by_cases hlt : j < xs.length
    · obtain ⟨g, o, rfl, hg, k0⟩ := h.cells hlt
      have hs := joinN_snoc (l := []) hlt
      rw [hL.out] at hs
      by_cases hm : xs[j] ∈ L
      · rw [addN_in hm] at hs
        have HS := Lib.hid hs
        have g1 := mem_dt hm
        clear hm hs
        go_upto_region 9999 with (first | ((with_reducible refine at_dst 14 ?_); go_simp; ((with_reducible refine (contains_any r0.reads _).mono ?_)); unfold BPost; rintro e wn ⟨rfl, hx⟩; (try replace E := E.ext hx); (try replace r0 := r0.ext hx); (try (clear hcE hfE)); (try (have hcf := bcell E.low; obtain ⟨hcE, hfE⟩ := hcf))))
        go_roundw
        case rel => exact ⟨j + 1, L, so, sc, by go_num, by omega, rfl, HS.out, r0, E, by omega⟩
        case measure => simp [intOf]; omega
      · rw [addN_out hm] at hs
        have HS := Lib.hid hs
        have g1 := mem_df hm
        clear hm hs
        go_upto_region 9999 with (first | ((with_reducible refine at_dst 14 ?_); go_simp; ((with_reducible refine (contains_any r0.reads _).mono ?_)); unfold BPost; rintro e wn ⟨rfl, hx⟩; (try replace E := E.ext hx); (try replace r0 := r0.ext hx); (try (clear hcE hfE)); (try (have hcf := bcell E.low; obtain ⟨hcE, hfE⟩ := hcf))) | ((with_reducible refine at_dst 18 ?_); go_simp; (generalize hX18 : Array.size (World.heap _) = X18); refine new_block hX18 ?_; intro wn bb hx; (try (have z18 := Nat.le_trans E.size (Nat.le_of_eq hX18))); (try (have mr0_18 := r0.notin (Nat.le_of_eq hX18))); have b18 := bb; have g18 := Loc.new bb E hX18; clear bb hX18; (try replace E := E.ext hx); (try replace r0 := r0.ext hx); (try (clear hcE hfE)); (try (have hcf := bcell E.low; obtain ⟨hcE, hfE⟩ := hcf))) | ((with_reducible refine at_dst 19 ?_); refine wp_own (.tmp 16) (.tmp 18) rfl info_str und_strs rfl (by decide) strC_l strC_one r0 E (RRow.blk (xs := [xs[j]]) strC_l b18 rfl (show 1 ≤ maxLen by decide)) rfl rfl ?_ ?_ ?_; (· (simp only [List.length_cons, List.length_nil]; (try unfold maxLen); omega)); (· (simp only [List.length_cons, List.length_nil]; (try unfold maxLen); omega)); intro L19 hL19 s19 v19 wn r1 E2 hA; replace hL19 := Lib.hid hL19; skip; clear E; have E := E2; clear E2; obtain ⟨o19, k19, rfl, l19, m19⟩ := ORow.len r1.row; (try (clear hcE hfE)); (try (have hcf := bcell E.low; obtain ⟨hcE, hfE⟩ := hcf)); (try simp only [Act.put, actL])))
        have hl19 : (L ++ [xs[j]]).length = L.length + 1 := by simp
        go_roundw
        case rel => exact ⟨j + 1, _, _, _, by go_num, by omega, rfl, HS.out.trans hL19.out, r1, E, by rw [← hL19.out]; omega⟩
        case measure => simp [intOf]; omega
    · go_upto_region 9999 with (first | fail)
      have hjl : xs.take j = xs := List.take_of_length_le (by omega)
      go_ret
      exact spost r0 rfl (by rw [← hL.out, hjl]; rfl) E.low
set_option maxHeartbeats 2000000 in
theorem qjoined_any {w : World} {a a' : Option Addr} {n c n' c' : Nat} {xs ys : List ByteArray} (h1 : Reads w (.slice a n c) xs) (h2 : Reads w (.slice a' n' c') ys) (hf : few xs.length) (hf2 : few ys.length) :
    Calls Try.prog 40 #[.slice a n c, .slice a' n' c'] w (SPost w (joinN xs ys)) := by
  obtain ⟨rfl, n2⟩ := h1.lens
  obtain ⟨rfl, n3⟩ := h2.lens
  unfold few at hf hf2
  go_enter Try.func40, Try.ntmps40
  have E := Only.refl [] w
  have r0 := OwnR.nil w w 9 1 strC
  go_upto_region 4 with (first | ((with_reducible refine at_dst 9 ?_); refine wp_own (.tmp 7) (.tmp 8) rfl info_str und_strs rfl (by decide) strC_l strC_one r0 E h1 rfl rfl ?_ ?_ ?_; (· (simp only [List.length_nil]; (try unfold maxLen); omega)); (· (simp only [List.length_nil]; (try unfold maxLen); omega)); intro L9 hL9 s9 v9 wn r1 E2 hA; replace hL9 := Lib.hid hL9; skip; clear E; have E := E2; clear E2; have hz := hL9.out; rw [List.nil_append] at hz; rw [← hz] at r1; clear hz; obtain ⟨o9, k9, rfl, l9, m9⟩ := ORow.len r1.row; (try (clear hcE hfE)); (try (have hcf := bcell E.low; obtain ⟨hcE, hfE⟩ := hcf)); (try simp only [Act.put, actL])))
  obtain ⟨wh, hwh⟩ : ∃ wh, wh = wn := ⟨_, rfl⟩
  subst hwh
  go_loopw [5, 6] (fun v i wr => ∃ (j : Nat) (L : List ByteArray) (so : Option Addr) (sc : Nat), i = .int .i64 j ∧ j ≤ ys.length ∧ v = .slice so L.length sc ∧ Hid (joinN xs (ys.take j) = L) ∧ OwnR w wr 9 1 strC (.slice so L.length sc) L ∧ Only [] w wr ∧ L.length ≤ xs.length + j) (fun _ i _ => ys.length - (intOf i).toNat)
  case atStart => exact ⟨0, xs, o9, k9, rfl, Nat.zero_le _, rfl, rfl, r1, E, by omega⟩
  case round =>
    clear r1 E hcE hfE
    obtain ⟨j, L, so, sc, rfl, hj, rfl, hL, r1, E, hLj⟩ := hrel
    obtain ⟨hcE, hfE⟩ := bcell E.low
    by_cases hlt : j < ys.length
    · obtain ⟨g, o, rfl, hg, k0⟩ := h2.cells hlt
      have hs := joinN_snoc (l := xs) hlt
      rw [hL.out] at hs
      by_cases hm : ys[j] ∈ L
      · rw [addN_in hm] at hs
        have HS := Lib.hid hs
        have g1 := mem_dt hm
        clear hm hs
        go_upto_region 9999 with (first | ((with_reducible refine at_dst 21 ?_); go_simp; ((with_reducible refine (qhas_any r1.reads _).mono ?_)); unfold BPost; rintro e wn ⟨rfl, hx⟩; (try replace E := E.ext hx); (try replace r1 := r1.ext hx); (try (clear hcE hfE)); (try (have hcf := bcell E.low; obtain ⟨hcE, hfE⟩ := hcf))))
        go_roundw
        case rel => exact ⟨j + 1, L, so, sc, by go_num, by omega, rfl, HS.out, r1, E, by omega⟩
        case measure => simp [intOf]; omega
      · rw [addN_out hm] at hs
        have HS := Lib.hid hs
        have g1 := mem_df hm
        clear hm hs
        go_upto_region 9999 with (first | ((with_reducible refine at_dst 21 ?_); go_simp; ((with_reducible refine (qhas_any r1.reads _).mono ?_)); unfold BPost; rintro e wn ⟨rfl, hx⟩; (try replace E := E.ext hx); (try replace r1 := r1.ext hx); (try (clear hcE hfE)); (try (have hcf := bcell E.low; obtain ⟨hcE, hfE⟩ := hcf))) | ((with_reducible refine at_dst 28 ?_); go_simp; (generalize hX28 : Array.size (World.heap _) = X28); refine new_block hX28 ?_; intro wn bb hx; (try (have z28 := Nat.le_trans E.size (Nat.le_of_eq hX28))); (try (have mr1_28 := r1.notin (Nat.le_of_eq hX28))); have b28 := bb; have g28 := Loc.new bb E hX28; clear bb hX28; (try replace E := E.ext hx); (try replace r1 := r1.ext hx); (try (clear hcE hfE)); (try (have hcf := bcell E.low; obtain ⟨hcE, hfE⟩ := hcf))) | ((with_reducible refine at_dst 29 ?_); refine wp_own (.tmp 23) (.tmp 28) rfl info_str und_strs rfl (by decide) strC_l strC_one r1 E (RRow.blk (xs := [ys[j]]) strC_l b28 rfl (show 1 ≤ maxLen by decide)) rfl rfl ?_ ?_ ?_; (· (simp only [List.length_cons, List.length_nil]; (try unfold maxLen); omega)); (· (simp only [List.length_cons, List.length_nil]; (try unfold maxLen); omega)); intro L29 hL29 s29 v29 wn r2 E2 hA; replace hL29 := Lib.hid hL29; skip; clear E; have E := E2; clear E2; obtain ⟨o29, k29, rfl, l29, m29⟩ := ORow.len r2.row; (try (clear hcE hfE)); (try (have hcf := bcell E.low; obtain ⟨hcE, hfE⟩ := hcf)); (try simp only [Act.put, actL])))
        have hl19 : (L ++ [ys[j]]).length = L.length + 1 := by simp
        go_roundw
        case rel => exact ⟨j + 1, _, _, _, by go_num, by omega, rfl, HS.out.trans hL29.out, r2, E, by rw [← hL29.out]; omega⟩
        case measure => simp [intOf]; omega
    · go_upto_region 9999 with (first | fail)
      have hjl : ys.take j = ys := List.take_of_length_le (by omega)
      go_ret
      exact spost r1 rfl (by rw [← hL.out, hjl]) E.low
theorem Reads.none {w : World} {n c : Nat} {xs : List ByteArray} (h : Reads w (.slice none n c) xs) : xs = [] ∧ n = 0 := by
  obtain ⟨rfl, -⟩ := h.lens
  rcases Nat.eq_zero_or_pos xs.length with h0 | h0
  · exact ⟨List.length_eq_zero_iff.1 h0, h0⟩
  · obtain ⟨g, o, e, -⟩ := h.cells h0
    cases e
theorem equalIn_nil {P : Program} (w : World) (d : Nat) {t e : TypeId} (a : Option Addr) (n c : Nat) (h : P.underlying t = some (.slice e)) : (Op.equalIn (d + 1) t (.slice a n c) (.slice none 0 0)).run P w = .ok a.isNone w := by
  cases a <;> simp [Op.equalIn, run_underlying h]
theorem eql_nil {P : Program} (w : World) {t e : TypeId} (a : Option Addr) (n c : Nat) (h : P.underlying t = some (.slice e)) : (binOp .eql t (.slice a n c) (.slice none 0 0)).run P w = .ok (.bool a.isNone) w := by
  simp only [binOp]
  simp [Op.equal, Op.maxDepth, equalIn_nil w 9999 a n c h]
@[go_sem] theorem nil_strs (a : Option Addr) (n c : Nat) (w : World) : (binOp BinOp.eql 34 (.slice a n c) (.slice none 0 0)).run Try.prog w = .ok (.bool a.isNone) w := eql_nil w a n c und_strs
set_option maxRecDepth 100000 in
theorem clone_any {w : World} {a : Option Addr} {n c : Nat} {xs : List ByteArray} (h : Reads w (.slice a n c) xs) (hf : few xs.length) :
    Calls Try.prog 24 #[.slice a n c] w (SPost w xs) := by
  unfold few at hf
  rcases a with _ | p
  · obtain ⟨rfl, rfl⟩ := h.none
    go_enter Try.func24, Try.ntmps24
    have E := Only.refl [] w
    go_upto_region 9999 with (first | fail)
    go_ret
    exact ⟨none, 0, rfl, OwnR.nil w w 9 1 strC, E.low⟩
  · obtain ⟨rfl, n2⟩ := h.lens
    go_enter Try.func24, Try.ntmps24
    have E := Only.refl [] w
    go_upto_region 9999 with (first | ((with_reducible refine at_dst 5 ?_); go_simp; (generalize hX5 : Array.size (World.heap _) = X5); refine new_block hX5 ?_; intro wn bb hx; (try (have z5 := Nat.le_trans E.size (Nat.le_of_eq hX5))); have b5 := bb; have g5 := Loc.new bb E hX5; clear bb hX5; (try replace E := E.ext hx); (try (clear hcE hfE)); (try (have hcf := bcell E.low; obtain ⟨hcE, hfE⟩ := hcf))) | ((with_reducible refine at_dst 7 ?_); refine wp_own (.tmp 5) (.tmp 6) rfl info_str und_strs rfl (by decide) strC_l strC_one (OwnR.ofBlk (xs := ([] : List ByteArray)) g5 rfl strC_l rfl (by decide)) E (h.ext E.low) rfl rfl ?_ ?_ ?_; (· (simp only [List.length_nil]; (try unfold maxLen); omega)); (· (simp only [List.length_nil]; (try unfold maxLen); omega)); intro L7 hL7 s7 v7 wn r7 E2 hA; replace hL7 := Lib.hid hL7; skip; clear E; have E := E2; clear E2; have hz := hL7.out; rw [List.nil_append] at hz; rw [← hz] at r7; clear hz; obtain ⟨o7, k7, rfl, l7, m7⟩ := ORow.len r7.row; (try (clear hcE hfE)); (try (have hcf := bcell E.low; obtain ⟨hcE, hfE⟩ := hcf)); (try simp only [Act.put, actL])))
    go_ret
    exact spost r7 rfl rfl E.low
end Go.Proofs.Ytnifgkgdphlleaa
set_option linter.unusedSimpArgs false
set_option linter.unusedVariables false
namespace Go.Proofs.Ytnifgkgdphlleaa
open Go.RowKit Tk
theorem info_sy : (Try.prog.info? 57).map (fun i => (i.zero, i.size, i.bytes)) = some (some (.agg #[.int .i64 0, .string ⟨#[]⟩, .bool false, .slice none 0 0, .int .i64 0, .int .i64 0]), 6, 72) := by kernel_rfl
theorem und_sys : Try.prog.underlying 54 = some (.slice 57) := by kernel_rfl
/-- a slice of symbols, as it is read -/
structure Syms (w : World) (v : Value) (xs : List Sy) : Prop where
  row : RRow w 6 syC v xs
  perms : ∀ x ∈ xs, Reads w (x.hp.v x.perms.length) x.perms
theorem Syms.ext {w w1 : World} {v : Value} {xs : List Sy} (h : Syms w v xs) (hx : Ext w w1) : Syms w1 v xs := ⟨h.row.ext hx, fun x hm => (h.perms x hm).ext hx⟩
theorem Syms.lens {w : World} {a : Option Addr} {n c : Nat} {xs : List Sy} (h : Syms w (.slice a n c) xs) : n = xs.length ∧ xs.length ≤ 9223372036854775807 := by
  obtain ⟨ao, cap, e, h1, h2⟩ := RRow.len h.row
  injection e with e1 e2 e3
  unfold maxLen at h2
  exact ⟨e2, by omega⟩
theorem Syms.at {w : World} {a : Option Addr} {n c : Nat} {xs : List Sy} (h : Syms w (.slice a n c) xs) {i : Nat} {y : Sy} (hy : xs[i]? = some y) : ∃ g o, a = some ⟨g, o, none⟩ ∧ g < w.heap.size ∧
    w.cell? ⟨g, o + i * 6, none⟩ = some (.int .i64 y.kind) ∧ w.cell? ⟨g, o + i * 6 + 1, none⟩ = some (.string y.name) ∧ w.cell? ⟨g, o + i * 6 + 2, none⟩ = some (.bool y.req) ∧
    w.cell? ⟨g, o + i * 6 + 3, none⟩ = some (.slice y.hp.a y.perms.length y.hp.c) ∧ w.cell? ⟨g, o + i * 6 + 4, none⟩ = some (.int .i64 y.line) ∧ w.cell? ⟨g, o + i * 6 + 5, none⟩ = some (.int .i64 y.col) := by
  obtain ⟨hi, e⟩ := List.getElem?_eq_some_iff.1 hy
  subst e
  obtain ⟨g, o, e, hg, hc⟩ := RRow.cells h.row hi
  exact ⟨g, o, e, hg, hc 0 (by omega), hc 1 (by omega), hc 2 (by omega), hc 3 (by omega), hc 4 (by omega), hc 5 (by omega)⟩
theorem at_some {α : Type} {xs : List α} {j : Nat} (h : j < xs.length) : ∃ y, xs[j]? = some y := ⟨_, List.getElem?_eq_getElem h⟩
theorem drop_at {α : Type} {xs : List α} {j : Nat} {y : α} (h : xs[j]? = some y) : xs.drop j = y :: xs.drop (j + 1) := by
  obtain ⟨hi, e⟩ := List.getElem?_eq_some_iff.1 h
  subst e; exact List.drop_eq_getElem_cons hi
theorem take_at {α : Type} {xs : List α} {j : Nat} {y : α} (h : xs[j]? = some y) : xs.take (j + 1) = xs.take j ++ [y] := by
  obtain ⟨hi, e⟩ := List.getElem?_eq_some_iff.1 h
  subst e; exact List.take_succ_eq_append_getElem hi
/-! ### a clash -/
def clashG (sp : Int → Int) (x : Sy) : List Sy → Bool → Int
  | [], t => if t then 12 else 0
  | y :: l, t => if sp y.kind ≠ sp x.kind ∨ y.name ≠ x.name then clashG sp x l t else if y.kind ≠ x.kind then 13 else clashG sp x l (t || (!x.req && !y.req))
def clashP (sp : Int → Int) (l : List Sy) (x : Sy) : Int := clashG sp x l (!x.req && isObj x.kind x.name)
theorem clash_end {sp : Int → Int} {x : Sy} {l : List Sy} {j : Nat} {t : Bool} {R : Int} (h : Hid (clashG sp x (l.drop j) t = R)) (hj : l.length ≤ j) : (if t then 12 else 0) = R := by
  have := h.out
  rw [List.drop_of_length_le hj] at this
  exact this
theorem clash_step {sp : Int → Int} {x y : Sy} {l : List Sy} {j : Nat} {t : Bool} {R : Int} (h : Hid (clashG sp x (l.drop j) t = R)) (hy : l[j]? = some y) :
    Hid ((if sp y.kind ≠ sp x.kind ∨ y.name ≠ x.name then clashG sp x (l.drop (j + 1)) t else if y.kind ≠ x.kind then 13 else clashG sp x (l.drop (j + 1)) (t || (!x.req && !y.req))) = R) := by
  have := h.out
  rw [drop_at hy] at this
  exact this
theorem ipost {n m : Int} {w w' : World} (h : n = m) (hx : Ext w w') : IPost m w (.returned (.int .i64 n)) w' := by subst h; exact ⟨rfl, hx⟩
set_option maxHeartbeats 4000000 in
set_option maxRecDepth 100000 in
theorem clash_any {w : World} {a : Option Addr} {n c : Nat} {l : List Sy} (hl : Syms w (.slice a n c) l) (x : Sy) :
    Calls Try.prog 22 #[.slice a n c, .agg (syC x).toArray] w (IPost (clashP spC l x) w) := by
  obtain ⟨rfl, n2⟩ := hl.lens
  obtain ⟨R, hR⟩ : ∃ R, clashP spC l x = R := ⟨_, rfl⟩
  rw [hR]
  unfold clashP at hR
  obtain ⟨t0, ht0⟩ : ∃ t, (!x.req && isObj x.kind x.name) = t := ⟨_, rfl⟩
  rw [ht0] at hR
  have HR := Lib.hid hR
  clear hR
  have hx0 : x.req = true ∨ x.req = false := by cases x.req <;> simp
  obtain ⟨io, hio⟩ : ∃ io, isObj x.kind x.name = io := ⟨_, rfl⟩
  rw [hio] at ht0
  go_enter Try.func22, Try.ntmps22
  have E := Only.refl [] w
  rcases hx0 with hx0 | hx0
  all_goals
    rw [hx0] at ht0
    simp only [Bool.not_true, Bool.not_false, Bool.false_and, Bool.true_and] at ht0
    subst ht0
    go_upto_region 3 with (first | ((with_reducible refine at_dst 3 ?_); go_simp; (generalize hX3 : Array.size (World.heap _) = X3); refine new_block hX3 ?_; intro wn bb hx; (try (have n7_3 := (b7.ne hX3).1; have n3_7 := (b7.ne hX3).2)); (try (have z3 := Nat.le_trans E.size (Nat.le_of_eq hX3))); have b3 := Loc.new bb E hX3; clear bb hX3; (try replace E := E.ext hx); (try replace b7 := b7.ext hx); (try (clear hcE hfE)); (try (have hcf := bcell E.low; obtain ⟨hcE, hfE⟩ := hcf)); (try (clear c3 f3)); (try (have c3 := b3.cell; have f3 := b3.free)); (try (clear c7 f7)); (try (have c7 := b7.cell; have f7 := b7.free))) | ((with_reducible refine at_dst 16 ?_); go_simp; ((with_reducible refine (objRole_any _ _ _).mono ?_)); unfold BPost; rintro e wn ⟨rfl, hx⟩; (try replace E := E.ext hx); (try replace b3 := b3.ext hx); (try replace b7 := b7.ext hx); (try (clear hcE hfE)); (try (have hcf := bcell E.low; obtain ⟨hcE, hfE⟩ := hcf)); (try (clear c3 f3)); (try (have c3 := b3.cell; have f3 := b3.free)); (try (clear c7 f7)); (try (have c7 := b7.cell; have f7 := b7.free))))
    go_loopw [5, 20] (fun v i wr => ∃ (j : Nat) (t : Bool), i = .int .i64 j ∧ j ≤ l.length ∧ v = .bool t ∧ Hid (clashG spC x (l.drop j) t = R) ∧ Only [] w wr ∧ Loc [] w wr X3 57 (syC x).toArray) (fun _ i _ => l.length - (intOf i).toNat)
    case atStart => exact ⟨0, _, rfl, Nat.zero_le _, rfl, HR, E, b3⟩
    case round =>
      clear HR E b3 c3 f3 hcE hfE
      obtain ⟨j, t, rfl, hj, rfl, HR, E, b3⟩ := hrel
      have c3 := b3.cell
      have f3 := b3.free
      obtain ⟨hcE, hfE⟩ := bcell E.low
      by_cases hlt : j < l.length
      · obtain ⟨y, hy⟩ := at_some hlt
        have HY := Lib.hid hy
        obtain ⟨g, o, rfl, hg, -⟩ := hl.at hy
        have HS := clash_step HR hy
        clear hy HR
        by_cases h1 : spC y.kind = spC x.kind
        · obtain ⟨g1, g2⟩ := kd_t h1
          have H1 := Lib.hid h1
          clear h1
          by_cases h2 : y.name = x.name
          · have g3 := txt_t h2
            have H2 := Lib.hid h2
            clear h2
            by_cases h3 : y.kind = x.kind
            · obtain ⟨g4, g5⟩ := kd_t h3
              have HS2 := HS.out
              rw [if_neg (by rintro (h | h); exact h H1.out; exact h H2.out), if_neg (by simp [h3])] at HS2
              have H3 := Lib.hid h3
              have hyr : y.req = true ∨ y.req = false := by cases y.req <;> simp
              have htb : t = true ∨ t = false := by cases t <;> simp
              have HQ := Lib.hid HS2
              clear h3 HS2
              go_upto_region 8 with (first | ((with_reducible refine at_dst 23 ?_); (refine wp_rec2 ((hl.row.ext E.low)) (HY.out) syC_len rfl rfl ?_ ?_ ?_); (· kernel_rfl); (· kernel_rfl)) | ((with_reducible refine at_dst 7 ?_); go_simp; (generalize hX7 : Array.size (World.heap _) = X7); refine new_block hX7 ?_; intro wn bb hx; (try (have n3_7 := (b3.ne hX7).1; have n7_3 := (b3.ne hX7).2)); (try (have z7 := Nat.le_trans E.size (Nat.le_of_eq hX7))); have b7 := Loc.new bb E hX7; clear bb hX7; (try replace E := E.ext hx); (try replace b3 := b3.ext hx); (try (clear hcE hfE)); (try (have hcf := bcell E.low; obtain ⟨hcE, hfE⟩ := hcf)); (try (clear c3 f3)); (try (have c3 := b3.cell; have f3 := b3.free)); (try (clear c7 f7)); (try (have c7 := b7.cell; have f7 := b7.free))) | ((with_reducible refine at_dst 26 ?_); go_simp; ((with_reducible refine (space_any _ _).mono ?_)); unfold IPost; rintro e wn ⟨rfl, hx⟩; (try replace E := E.ext hx); (try replace b3 := b3.ext hx); (try replace b7 := b7.ext hx); (try (clear hcE hfE)); (try (have hcf := bcell E.low; obtain ⟨hcE, hfE⟩ := hcf)); (try (clear c3 f3)); (try (have c3 := b3.cell; have f3 := b3.free)); (try (clear c7 f7)); (try (have c7 := b7.cell; have f7 := b7.free))) | ((with_reducible refine at_dst 29 ?_); go_simp; ((with_reducible refine (space_any _ _).mono ?_)); unfold IPost; rintro e wn ⟨rfl, hx⟩; (try replace E := E.ext hx); (try replace b3 := b3.ext hx); (try replace b7 := b7.ext hx); (try (clear hcE hfE)); (try (have hcf := bcell E.low; obtain ⟨hcE, hfE⟩ := hcf)); (try (clear c3 f3)); (try (have c3 := b3.cell; have f3 := b3.free)); (try (clear c7 f7)); (try (have c7 := b7.cell; have f7 := b7.free))) | ((with_reducible refine at_store 7 ?_); (refine wp_put b7 rfl rfl ?_ ?_ ?_ ?_; (· kernel_rfl); (· first | rfl | kernel_rfl); (· first | decide | exact Nat.le_refl _ | simp [Act.eval, Value.cells] | (simp [Act.eval, Act.put, Value.cells]; done)); intro wn bn hb; have E2 := E.put b7 hb; (try replace b3 := b3.but hb n3_7); clear E b7; have E := E2; clear E2; have b7 := bn; clear bn hb; dsimp only [Act.put]; simp only [putA, Act.eval, Value.cells, Nat.reduceAdd, putL, sizL] at b7; (try (clear hcE hfE)); (try (have hcf := bcell E.low; obtain ⟨hcE, hfE⟩ := hcf)); (try (clear c3 f3)); (try (have c3 := b3.cell; have f3 := b3.free)); (try (clear c7 f7)); (try (have c7 := b7.cell; have f7 := b7.free)))) | ((with_reducible refine at_reg 5 ?_); (refine wp_region_s (id := 5) [2, 2, 2, 2, 3, 3, 2, 0, 2, 2, 2, 2, 2, 2] [0, 1, 3, 4, 2, 5, 6, 7, 8, 9, 10, 11, 12, 13] mixed ?_ ?_); (· decide +kernel); intro K hK wn hx; (try replace E := E.ext hx); (try replace b3 := b3.ext hx); (try replace b7 := b7.ext hx); (try (clear hcE hfE)); (try (have hcf := bcell E.low; obtain ⟨hcE, hfE⟩ := hcf)); (try (clear c3 f3)); (try (have c3 := b3.cell; have f3 := b3.free)); (try (clear c7 f7)); (try (have c7 := b7.cell; have f7 := b7.free)); dsimp only [pickL, List.getElem?_cons_succ, List.getElem?_cons_zero]) | ((with_reducible refine at_tag 0 ?_); (first | ((with_reducible refine wpTag_q ?_ ?_ ?_); rfl; rfl; intro _ _) | ((with_reducible refine wpTag_w ?_ ?_ ?_); rfl; rfl; intro _ _) | ((with_reducible refine wpTag_no ?_ ?_); (· first | rfl | (go_simp; done))) | ((with_reducible refine wpTag_s ?_ ?_); rfl; intro _ _; go_simp))) | ((with_reducible refine at_tag 2 ?_); (first | ((with_reducible refine wpTag_no ?_ ?_); (· first | rfl | (go_simp; done))) | (apply wpTag_2; (· rfl); (· first | rfl | go_simp); (· intro wq hq; (try (clear hcE hfE)); (try (have hcf := bcell (E.ext hq).low; obtain ⟨hcE, hfE⟩ := hcf)); (try (clear c3 f3)); (try (have c3 := (b3.ext hq).cell; have f3 := (b3.ext hq).free)); (try (clear c7 f7)); (try (have c7 := (b7.ext hq).cell; have f7 := (b7.ext hq).free)); go_simp <;> rfl); (try simp only [Act.put, actL])))) | ((with_reducible refine at_tag 3 ?_); (first | ((with_reducible refine wpTag_no ?_ ?_); (· first | rfl | (go_simp; done))) | ((refine wpTag_3 ?_ ?_ (fun K2 hK2 => ?_)); (· rfl); (· first | rfl | go_simp)))) | ((with_reducible refine at_and ?_ ?_); (· first | exact hx | exact Ext.refl _)) | ((with_reducible refine at_tagn ?_); (with_reducible refine wpTag_nil ?_)))
              rcases hyr with hyr | hyr <;> rcases htb with rfl | rfl
              all_goals
                have HS2 := HQ.out
                rw [hx0, hyr] at HS2
                clear HQ
                have HQ := Lib.hid HS2
                clear HS2
                go_upto_region 9999 with (first | fail)
                go_roundw
                case rel => exact ⟨j + 1, _, by go_num, by omega, rfl, HQ, E, b3⟩
                case measure => simp [intOf]; omega
            · obtain ⟨g4, g5⟩ := kd_f h3
              have HS2 := HS.out
              rw [if_neg (by rintro (h | h); exact h H1.out; exact h H2.out), if_pos h3] at HS2
              have HQ := Lib.hid HS2
              have H3 := Lib.hid h3
              clear h3 HS2
              go_upto_region 9999 with (first | ((with_reducible refine at_dst 23 ?_); (refine wp_rec2 ((hl.row.ext E.low)) (HY.out) syC_len rfl rfl ?_ ?_ ?_); (· kernel_rfl); (· kernel_rfl)) | ((with_reducible refine at_dst 7 ?_); go_simp; (generalize hX7 : Array.size (World.heap _) = X7); refine new_block hX7 ?_; intro wn bb hx; (try (have n3_7 := (b3.ne hX7).1; have n7_3 := (b3.ne hX7).2)); (try (have z7 := Nat.le_trans E.size (Nat.le_of_eq hX7))); have b7 := Loc.new bb E hX7; clear bb hX7; (try replace E := E.ext hx); (try replace b3 := b3.ext hx); (try (clear hcE hfE)); (try (have hcf := bcell E.low; obtain ⟨hcE, hfE⟩ := hcf)); (try (clear c3 f3)); (try (have c3 := b3.cell; have f3 := b3.free)); (try (clear c7 f7)); (try (have c7 := b7.cell; have f7 := b7.free))) | ((with_reducible refine at_dst 26 ?_); go_simp; ((with_reducible refine (space_any _ _).mono ?_)); unfold IPost; rintro e wn ⟨rfl, hx⟩; (try replace E := E.ext hx); (try replace b3 := b3.ext hx); (try replace b7 := b7.ext hx); (try (clear hcE hfE)); (try (have hcf := bcell E.low; obtain ⟨hcE, hfE⟩ := hcf)); (try (clear c3 f3)); (try (have c3 := b3.cell; have f3 := b3.free)); (try (clear c7 f7)); (try (have c7 := b7.cell; have f7 := b7.free))) | ((with_reducible refine at_dst 29 ?_); go_simp; ((with_reducible refine (space_any _ _).mono ?_)); unfold IPost; rintro e wn ⟨rfl, hx⟩; (try replace E := E.ext hx); (try replace b3 := b3.ext hx); (try replace b7 := b7.ext hx); (try (clear hcE hfE)); (try (have hcf := bcell E.low; obtain ⟨hcE, hfE⟩ := hcf)); (try (clear c3 f3)); (try (have c3 := b3.cell; have f3 := b3.free)); (try (clear c7 f7)); (try (have c7 := b7.cell; have f7 := b7.free))) | ((with_reducible refine at_store 7 ?_); (refine wp_put b7 rfl rfl ?_ ?_ ?_ ?_; (· kernel_rfl); (· first | rfl | kernel_rfl); (· first | decide | exact Nat.le_refl _ | simp [Act.eval, Value.cells] | (simp [Act.eval, Act.put, Value.cells]; done)); intro wn bn hb; have E2 := E.put b7 hb; (try replace b3 := b3.but hb n3_7); clear E b7; have E := E2; clear E2; have b7 := bn; clear bn hb; dsimp only [Act.put]; simp only [putA, Act.eval, Value.cells, Nat.reduceAdd, putL, sizL] at b7; (try (clear hcE hfE)); (try (have hcf := bcell E.low; obtain ⟨hcE, hfE⟩ := hcf)); (try (clear c3 f3)); (try (have c3 := b3.cell; have f3 := b3.free)); (try (clear c7 f7)); (try (have c7 := b7.cell; have f7 := b7.free)))) | ((with_reducible refine at_reg 5 ?_); (refine wp_region_s (id := 5) [2, 2, 2, 2, 3, 3, 2, 0, 2, 2, 2, 2, 2, 2] [0, 1, 3, 4, 2, 5, 6, 7, 8, 9, 10, 11, 12, 13] mixed ?_ ?_); (· decide +kernel); intro K hK wn hx; (try replace E := E.ext hx); (try replace b3 := b3.ext hx); (try replace b7 := b7.ext hx); (try (clear hcE hfE)); (try (have hcf := bcell E.low; obtain ⟨hcE, hfE⟩ := hcf)); (try (clear c3 f3)); (try (have c3 := b3.cell; have f3 := b3.free)); (try (clear c7 f7)); (try (have c7 := b7.cell; have f7 := b7.free)); dsimp only [pickL, List.getElem?_cons_succ, List.getElem?_cons_zero]) | ((with_reducible refine at_tag 0 ?_); (first | ((with_reducible refine wpTag_q ?_ ?_ ?_); rfl; rfl; intro _ _) | ((with_reducible refine wpTag_w ?_ ?_ ?_); rfl; rfl; intro _ _) | ((with_reducible refine wpTag_no ?_ ?_); (· first | rfl | (go_simp; done))) | ((with_reducible refine wpTag_s ?_ ?_); rfl; intro _ _; go_simp))) | ((with_reducible refine at_tag 2 ?_); (first | ((with_reducible refine wpTag_no ?_ ?_); (· first | rfl | (go_simp; done))) | (apply wpTag_2; (· rfl); (· first | rfl | go_simp); (· intro wq hq; (try (clear hcE hfE)); (try (have hcf := bcell (E.ext hq).low; obtain ⟨hcE, hfE⟩ := hcf)); (try (clear c3 f3)); (try (have c3 := (b3.ext hq).cell; have f3 := (b3.ext hq).free)); (try (clear c7 f7)); (try (have c7 := (b7.ext hq).cell; have f7 := (b7.ext hq).free)); go_simp <;> rfl); (try simp only [Act.put, actL])))) | ((with_reducible refine at_tag 3 ?_); (first | ((with_reducible refine wpTag_no ?_ ?_); (· first | rfl | (go_simp; done))) | ((refine wpTag_3 ?_ ?_ (fun K2 hK2 => ?_)); (· rfl); (· first | rfl | go_simp)))) | ((with_reducible refine at_and ?_ ?_); (· first | exact hx | exact Ext.refl _)) | ((with_reducible refine at_tagn ?_); (with_reducible refine wpTag_nil ?_)))
              go_ret
              exact ipost HQ.out E.low
          · have g3 := txt_f h2
            have HQ := Lib.hid (show clashG spC x (l.drop (j + 1)) t = R by rw [← HS.out, if_pos (.inr h2)])
            clear h2
            go_upto_region 9999 with (first | ((with_reducible refine at_dst 23 ?_); (refine wp_rec2 ((hl.row.ext E.low)) (HY.out) syC_len rfl rfl ?_ ?_ ?_); (· kernel_rfl); (· kernel_rfl)) | ((with_reducible refine at_dst 7 ?_); go_simp; (generalize hX7 : Array.size (World.heap _) = X7); refine new_block hX7 ?_; intro wn bb hx; (try (have n3_7 := (b3.ne hX7).1; have n7_3 := (b3.ne hX7).2)); (try (have z7 := Nat.le_trans E.size (Nat.le_of_eq hX7))); have b7 := Loc.new bb E hX7; clear bb hX7; (try replace E := E.ext hx); (try replace b3 := b3.ext hx); (try (clear hcE hfE)); (try (have hcf := bcell E.low; obtain ⟨hcE, hfE⟩ := hcf)); (try (clear c3 f3)); (try (have c3 := b3.cell; have f3 := b3.free)); (try (clear c7 f7)); (try (have c7 := b7.cell; have f7 := b7.free))) | ((with_reducible refine at_dst 26 ?_); go_simp; ((with_reducible refine (space_any _ _).mono ?_)); unfold IPost; rintro e wn ⟨rfl, hx⟩; (try replace E := E.ext hx); (try replace b3 := b3.ext hx); (try replace b7 := b7.ext hx); (try (clear hcE hfE)); (try (have hcf := bcell E.low; obtain ⟨hcE, hfE⟩ := hcf)); (try (clear c3 f3)); (try (have c3 := b3.cell; have f3 := b3.free)); (try (clear c7 f7)); (try (have c7 := b7.cell; have f7 := b7.free))) | ((with_reducible refine at_dst 29 ?_); go_simp; ((with_reducible refine (space_any _ _).mono ?_)); unfold IPost; rintro e wn ⟨rfl, hx⟩; (try replace E := E.ext hx); (try replace b3 := b3.ext hx); (try replace b7 := b7.ext hx); (try (clear hcE hfE)); (try (have hcf := bcell E.low; obtain ⟨hcE, hfE⟩ := hcf)); (try (clear c3 f3)); (try (have c3 := b3.cell; have f3 := b3.free)); (try (clear c7 f7)); (try (have c7 := b7.cell; have f7 := b7.free))) | ((with_reducible refine at_store 7 ?_); (refine wp_put b7 rfl rfl ?_ ?_ ?_ ?_; (· kernel_rfl); (· first | rfl | kernel_rfl); (· first | decide | exact Nat.le_refl _ | simp [Act.eval, Value.cells] | (simp [Act.eval, Act.put, Value.cells]; done)); intro wn bn hb; have E2 := E.put b7 hb; (try replace b3 := b3.but hb n3_7); clear E b7; have E := E2; clear E2; have b7 := bn; clear bn hb; dsimp only [Act.put]; simp only [putA, Act.eval, Value.cells, Nat.reduceAdd, putL, sizL] at b7; (try (clear hcE hfE)); (try (have hcf := bcell E.low; obtain ⟨hcE, hfE⟩ := hcf)); (try (clear c3 f3)); (try (have c3 := b3.cell; have f3 := b3.free)); (try (clear c7 f7)); (try (have c7 := b7.cell; have f7 := b7.free)))) | ((with_reducible refine at_reg 5 ?_); (refine wp_region_s (id := 5) [2, 2, 2, 2, 3, 3, 2, 0, 2, 2, 2, 2, 2, 2] [0, 1, 3, 4, 2, 5, 6, 7, 8, 9, 10, 11, 12, 13] mixed ?_ ?_); (· decide +kernel); intro K hK wn hx; (try replace E := E.ext hx); (try replace b3 := b3.ext hx); (try replace b7 := b7.ext hx); (try (clear hcE hfE)); (try (have hcf := bcell E.low; obtain ⟨hcE, hfE⟩ := hcf)); (try (clear c3 f3)); (try (have c3 := b3.cell; have f3 := b3.free)); (try (clear c7 f7)); (try (have c7 := b7.cell; have f7 := b7.free)); dsimp only [pickL, List.getElem?_cons_succ, List.getElem?_cons_zero]) | ((with_reducible refine at_tag 0 ?_); (first | ((with_reducible refine wpTag_q ?_ ?_ ?_); rfl; rfl; intro _ _) | ((with_reducible refine wpTag_w ?_ ?_ ?_); rfl; rfl; intro _ _) | ((with_reducible refine wpTag_no ?_ ?_); (· first | rfl | (go_simp; done))) | ((with_reducible refine wpTag_s ?_ ?_); rfl; intro _ _; go_simp))) | ((with_reducible refine at_tag 2 ?_); (first | ((with_reducible refine wpTag_no ?_ ?_); (· first | rfl | (go_simp; done))) | (apply wpTag_2; (· rfl); (· first | rfl | go_simp); (· intro wq hq; (try (clear hcE hfE)); (try (have hcf := bcell (E.ext hq).low; obtain ⟨hcE, hfE⟩ := hcf)); (try (clear c3 f3)); (try (have c3 := (b3.ext hq).cell; have f3 := (b3.ext hq).free)); (try (clear c7 f7)); (try (have c7 := (b7.ext hq).cell; have f7 := (b7.ext hq).free)); go_simp <;> rfl); (try simp only [Act.put, actL])))) | ((with_reducible refine at_tag 3 ?_); (first | ((with_reducible refine wpTag_no ?_ ?_); (· first | rfl | (go_simp; done))) | ((refine wpTag_3 ?_ ?_ (fun K2 hK2 => ?_)); (· rfl); (· first | rfl | go_simp)))) | ((with_reducible refine at_and ?_ ?_); (· first | exact hx | exact Ext.refl _)) | ((with_reducible refine at_tagn ?_); (with_reducible refine wpTag_nil ?_)))
            go_roundw
            case rel => exact ⟨j + 1, t, by go_num, by omega, rfl, HQ, E, b3⟩
            case measure => simp [intOf]; omega
        · obtain ⟨g1, g2⟩ := kd_f h1
          have HQ := Lib.hid (show clashG spC x (l.drop (j + 1)) t = R by rw [← HS.out, if_pos (.inl h1)])
          clear h1
          go_upto_region 9999 with (first | ((with_reducible refine at_dst 23 ?_); (refine wp_rec2 ((hl.row.ext E.low)) (HY.out) syC_len rfl rfl ?_ ?_ ?_); (· kernel_rfl); (· kernel_rfl)) | ((with_reducible refine at_dst 7 ?_); go_simp; (generalize hX7 : Array.size (World.heap _) = X7); refine new_block hX7 ?_; intro wn bb hx; (try (have n3_7 := (b3.ne hX7).1; have n7_3 := (b3.ne hX7).2)); (try (have z7 := Nat.le_trans E.size (Nat.le_of_eq hX7))); have b7 := Loc.new bb E hX7; clear bb hX7; (try replace E := E.ext hx); (try replace b3 := b3.ext hx); (try (clear hcE hfE)); (try (have hcf := bcell E.low; obtain ⟨hcE, hfE⟩ := hcf)); (try (clear c3 f3)); (try (have c3 := b3.cell; have f3 := b3.free)); (try (clear c7 f7)); (try (have c7 := b7.cell; have f7 := b7.free))) | ((with_reducible refine at_dst 26 ?_); go_simp; ((with_reducible refine (space_any _ _).mono ?_)); unfold IPost; rintro e wn ⟨rfl, hx⟩; (try replace E := E.ext hx); (try replace b3 := b3.ext hx); (try replace b7 := b7.ext hx); (try (clear hcE hfE)); (try (have hcf := bcell E.low; obtain ⟨hcE, hfE⟩ := hcf)); (try (clear c3 f3)); (try (have c3 := b3.cell; have f3 := b3.free)); (try (clear c7 f7)); (try (have c7 := b7.cell; have f7 := b7.free))) | ((with_reducible refine at_dst 29 ?_); go_simp; ((with_reducible refine (space_any _ _).mono ?_)); unfold IPost; rintro e wn ⟨rfl, hx⟩; (try replace E := E.ext hx); (try replace b3 := b3.ext hx); (try replace b7 := b7.ext hx); (try (clear hcE hfE)); (try (have hcf := bcell E.low; obtain ⟨hcE, hfE⟩ := hcf)); (try (clear c3 f3)); (try (have c3 := b3.cell; have f3 := b3.free)); (try (clear c7 f7)); (try (have c7 := b7.cell; have f7 := b7.free))) | ((with_reducible refine at_store 7 ?_); (refine wp_put b7 rfl rfl ?_ ?_ ?_ ?_; (· kernel_rfl); (· first | rfl | kernel_rfl); (· first | decide | exact Nat.le_refl _ | simp [Act.eval, Value.cells] | (simp [Act.eval, Act.put, Value.cells]; done)); intro wn bn hb; have E2 := E.put b7 hb; (try replace b3 := b3.but hb n3_7); clear E b7; have E := E2; clear E2; have b7 := bn; clear bn hb; dsimp only [Act.put]; simp only [putA, Act.eval, Value.cells, Nat.reduceAdd, putL, sizL] at b7; (try (clear hcE hfE)); (try (have hcf := bcell E.low; obtain ⟨hcE, hfE⟩ := hcf)); (try (clear c3 f3)); (try (have c3 := b3.cell; have f3 := b3.free)); (try (clear c7 f7)); (try (have c7 := b7.cell; have f7 := b7.free)))) | ((with_reducible refine at_reg 5 ?_); (refine wp_region_s (id := 5) [2, 2, 2, 2, 3, 3, 2, 0, 2, 2, 2, 2, 2, 2] [0, 1, 3, 4, 2, 5, 6, 7, 8, 9, 10, 11, 12, 13] mixed ?_ ?_); (· decide +kernel); intro K hK wn hx; (try replace E := E.ext hx); (try replace b3 := b3.ext hx); (try replace b7 := b7.ext hx); (try (clear hcE hfE)); (try (have hcf := bcell E.low; obtain ⟨hcE, hfE⟩ := hcf)); (try (clear c3 f3)); (try (have c3 := b3.cell; have f3 := b3.free)); (try (clear c7 f7)); (try (have c7 := b7.cell; have f7 := b7.free)); dsimp only [pickL, List.getElem?_cons_succ, List.getElem?_cons_zero]) | ((with_reducible refine at_tag 0 ?_); (first | ((with_reducible refine wpTag_q ?_ ?_ ?_); rfl; rfl; intro _ _) | ((with_reducible refine wpTag_w ?_ ?_ ?_); rfl; rfl; intro _ _) | ((with_reducible refine wpTag_no ?_ ?_); (· first | rfl | (go_simp; done))) | ((with_reducible refine wpTag_s ?_ ?_); rfl; intro _ _; go_simp))) | ((with_reducible refine at_tag 2 ?_); (first | ((with_reducible refine wpTag_no ?_ ?_); (· first | rfl | (go_simp; done))) | (apply wpTag_2; (· rfl); (· first | rfl | go_simp); (· intro wq hq; (try (clear hcE hfE)); (try (have hcf := bcell (E.ext hq).low; obtain ⟨hcE, hfE⟩ := hcf)); (try (clear c3 f3)); (try (have c3 := (b3.ext hq).cell; have f3 := (b3.ext hq).free)); (try (clear c7 f7)); (try (have c7 := (b7.ext hq).cell; have f7 := (b7.ext hq).free)); go_simp <;> rfl); (try simp only [Act.put, actL])))) | ((with_reducible refine at_tag 3 ?_); (first | ((with_reducible refine wpTag_no ?_ ?_); (· first | rfl | (go_simp; done))) | ((refine wpTag_3 ?_ ?_ (fun K2 hK2 => ?_)); (· rfl); (· first | rfl | go_simp)))) | ((with_reducible refine at_and ?_ ?_); (· first | exact hx | exact Ext.refl _)) | ((with_reducible refine at_tagn ?_); (with_reducible refine wpTag_nil ?_)))
          go_roundw
          case rel => exact ⟨j + 1, t, by go_num, by omega, rfl, HQ, E, b3⟩
          case measure => simp [intOf]; omega
      · have HE := Lib.hid (clash_end HR (by omega))
        have htb : t = true ∨ t = false := by cases t <;> simp
        rcases htb with rfl | rfl
        all_goals
          go_upto_region 9999 with (first | fail)
          go_ret
          exact ipost HE.out E.low
end Go.Proofs.Ytnifgkgdphlleaa
set_option linter.unusedSimpArgs false
set_option linter.unusedVariables false
namespace Go.Proofs.Ytnifgkgdphlleaa
open Go.RowKit Tk
def encK (k : Int × ByteArray) : Value := .agg #[.int .i64 k.1, .string k.2]
theorem encK_inj {a b : Int × ByteArray} (h : encK a = encK b) : a = b := by
  unfold encK at h
  injection h with h
  injection h with h
  injection h with h1 h2
  injection h1 with _ h1
  injection h2 with h2 _
  injection h2 with h2
  exact Prod.ext h1 h2

/-- keys and values, in the order of the entries -/
def entsOfK (m : List ((Int × ByteArray) × Value)) (es : List MapEntry) : Prop := es.map (fun e => (e.key, e.val)) = m.map (fun p => (encK p.1, p.2))
def KMap (w : World) (r : Nat) (m : List ((Int × ByteArray) × Value)) : Prop :=
  ∃ es clock, w.heap[r]? = some (.map es clock) ∧ entsOfK m es.toList ∧ MapKept.Stamped es clock
/-- the first value of a key, and its index -/
def mfindK (k : Int × ByteArray) : List ((Int × ByteArray) × Value) → Nat → Option (Nat × Value)
  | [], _ => none
  | p :: m, i => if k = p.1 then some (i, p.2) else mfindK k m (i + 1)
def mgetK (k : Int × ByteArray) (m : List ((Int × ByteArray) × Value)) : Option Value := (m.find? fun p => decide (k = p.1)).map (·.2)
def mputK (k : Int × ByteArray) (v : Value) : List ((Int × ByteArray) × Value) → List ((Int × ByteArray) × Value)
  | [] => [(k, v)]
  | p :: m => if k = p.1 then (k, v) :: m else p :: mputK k v m
theorem mfind_getK (k : Int × ByteArray) : ∀ (m : List ((Int × ByteArray) × Value)) (i : Nat), (mfindK k m i).map (·.2) = mgetK k m
  | [], _ => rfl
  | p :: m, i => by
    unfold mfindK mgetK
    by_cases h : k = p.1
    · simp [h]
    · have := mfind_getK k m (i + 1)
      simp only [mgetK] at this
      simp [h, this]
theorem mget_putK (k k' : Int × ByteArray) (v : Value) : ∀ m : List ((Int × ByteArray) × Value), mgetK k' (mputK k v m) = if k' = k then some v else mgetK k' m
  | [] => by
    by_cases h : k' = k
    · simp [mputK, mgetK, h]
    · simp [mputK, mgetK, h]
  | p :: m => by
    have ih := mget_putK k k' v m
    unfold mgetK at ih ⊢
    unfold mputK
    by_cases h : k = p.1
    · rw [if_pos h]
      by_cases h2 : k' = k
      · simp [h2]
      · have h3 : ¬ k' = p.1 := fun h4 => h2 (h4.trans h.symm)
        simp [h2, h3]
    · rw [if_neg h]
      by_cases h2 : k' = p.1
      · have h3 : ¬ k' = k := fun h4 => h (h4.symm.trans h2)
        have h4 : ¬ p.1 = k := fun h5 => h h5.symm
        simp [h2, h4]
      · simp [h2, ih]
section
variable {et T : TypeId}
theorem und_key : ∃ fs, Try.prog.underlying 74 = some (.struct fs) := ⟨_, Try.underlying74⟩
theorem run_equal_key (w : World) (a b : Int × ByteArray) : (Op.equal 74 (encK a) (encK b)).run Try.prog w = .ok (decide (a = b)) w := by
  have e : decide (a = b) = ((a.1 == b.1) && (a.2.toList == b.2.toList)) := by
    by_cases h1 : a.1 = b.1
    · obtain ⟨g1, -⟩ := kd_t h1
      rw [g1, Bool.true_and]
      by_cases h2 : a.2 = b.2
      · rw [txt_t h2]; exact decide_eq_true (Prod.ext h1 h2)
      · rw [txt_f h2]; exact decide_eq_false (fun h => h2 (by rw [h]))
    · obtain ⟨g1, -⟩ := kd_f h1
      rw [g1, Bool.false_and]; exact decide_eq_false (fun h => h1 (by rw [h]))
  rw [e]
  unfold Op.equal Op.maxDepth encK
  by_cases h1 : a.1 = b.1
  · by_cases h2 : a.2.toList = b.2.toList
    · go_simp
    · go_simp
  · go_simp
theorem find_askK (w : World) (k : Int × ByteArray) : ∀ (m : List ((Int × ByteArray) × Value)) (es : List MapEntry) (i : Nat), entsOfK m es → (Instr.findAsking 74 (encK k) es i).run Try.prog w = .ok (mfindK k m i) w
  | [], [], _, _ => rfl
  | [], _ :: _, _, h => by simp [entsOfK] at h
  | _ :: _, [], _, h => by simp [entsOfK] at h
  | p :: m, e :: es, i, h => by
    simp only [entsOfK, List.map_cons, List.cons.injEq, Prod.mk.injEq] at h
    obtain ⟨⟨h1, h2⟩, h3⟩ := h
    have ih := find_askK w k m es (i + 1) h3
    unfold Instr.findAsking mfindK
    rw [h1, Sem.run_bind, run_equal_key, Result.andThen_ok]
    by_cases hk : k = p.1
    · rw [decide_eq_true hk, if_pos hk, h2]; rfl
    · rw [decide_eq_false hk, if_neg hk]
      exact ih
theorem run_findKeyK (w : World) (k : Int × ByteArray) {m : List ((Int × ByteArray) × Value)} {es : List MapEntry} (h : entsOfK m es) : (Instr.findKey 74 (encK k) es).run Try.prog w = .ok (mfindK k m 0) w := by
  unfold Instr.findKey
  obtain ⟨fs, hu⟩ := und_key
  rw [Sem.run_bind, run_underlying hu, Result.andThen_ok]
  cases es with
  | nil =>
    cases m with
    | nil => rfl
    | cons p m => simp [entsOfK] at h
  | cons e es =>
    have : Instr.findNow (.struct fs) (encK k) (e :: es) 0 = none := rfl
    rw [this]
    exact find_askK w k m _ 0 h
theorem run_checkKeyK (w : World) (em : Bool) (k : Int × ByteArray) : (Instr.checkKey em 10000 74 (encK k)).run Try.prog w = .ok () w := by
  unfold encK
  unfold Instr.checkKey
  rw [Sem.run_bind, run_underlying Try.underlying74, Result.andThen_ok]
  go_simp
  rw [show (Instr.checkKey em 9999 3 (.int .i64 k.1)).run Try.prog w = .ok () w from by unfold Instr.checkKey; rw [Sem.run_bind, run_underlying Try.underlying3, Result.andThen_ok]; rfl, Result.andThen_ok]
  unfold Instr.checkKey; rw [Sem.run_bind, run_underlying Try.underlying9, Result.andThen_ok]; rfl
theorem run_lookup_key (w : World) (hT : Try.prog.underlying T = some (.map 74 et)) {z : Value} (hz : (zeroValue et).run Try.prog w = .ok z w) {r : Nat} {m : List ((Int × ByteArray) × Value)} (h : KMap w r m) (k : Int × ByteArray) (ok : Bool) :
    (Instr.lookup T (.map (some r)) (encK k) ok).run Try.prog w = .ok (if ok = true then .tuple #[(mgetK k m).getD z, .bool (mgetK k m).isSome] else (mgetK k m).getD z) w := by
  obtain ⟨es, clock, h1, h2, _⟩ := h
  have h3 := mfind_getK k m 0
  unfold Instr.lookup
  rw [Sem.run_bind, run_underlying hT, Result.andThen_ok]
  simp only [Sem.run_bind, run_getObj_map w h1, Result.andThen_ok, Sem.run_pure, run_checkKeyK w, run_findKeyK w k h2]
  cases hf : mfindK k m 0 with
  | none =>
    rw [hf] at h3
    rw [← h3]
    simp only [Sem.run_bind, hz, Result.andThen_ok, Sem.run_pure]
    cases ok <;> rfl
  | some x =>
    obtain ⟨i, v⟩ := x
    rw [hf] at h3
    rw [← h3]
    cases ok <;> rfl
end
theorem mfind_atK (k : Int × ByteArray) (v v' : Value) : ∀ (m : List ((Int × ByteArray) × Value)) (i j : Nat), mfindK k m i = some (j, v') → i ≤ j ∧ (∃ p, m[j - i]? = some p ∧ p.1 = k) ∧ mputK k v m = m.set (j - i) (k, v)
  | [], _, _, h => by cases h
  | p :: m, i, j, h => by
    unfold mfindK at h
    unfold mputK
    by_cases hk : k = p.1
    · rw [if_pos hk] at h ⊢
      injection h with h
      injection h with h1 h2
      subst h1
      exact ⟨Nat.le_refl _, ⟨p, by simp, hk.symm⟩, by simp⟩
    · rw [if_neg hk] at h ⊢
      obtain ⟨h1, ⟨q, h2, h3⟩, h4⟩ := mfind_atK k v v' m (i + 1) j h
      refine ⟨by omega, ⟨q, ?_, h3⟩, ?_⟩
      · rw [show j - i = (j - (i + 1)) + 1 by omega, List.getElem?_cons_succ]; exact h2
      · rw [h4, show j - i = (j - (i + 1)) + 1 by omega, List.set_cons_succ]
theorem mfind_noneK (k : Int × ByteArray) (v : Value) : ∀ (m : List ((Int × ByteArray) × Value)) (i : Nat), mfindK k m i = none → mputK k v m = m ++ [(k, v)]
  | [], _, _ => rfl
  | p :: m, i, h => by
    unfold mfindK at h
    unfold mputK
    by_cases hk : k = p.1
    · rw [if_pos hk] at h; cases h
    · rw [if_neg hk] at h ⊢
      rw [mfind_noneK k v m (i + 1) h]
      rfl
theorem mfind_notK (k : Int × ByteArray) : ∀ (m : List ((Int × ByteArray) × Value)) (i : Nat), mfindK k m i = none → ∀ p ∈ m, ¬ k = p.1
  | [], _, _, p, hp => by cases hp
  | q :: m, i, h, p, hp => by
    unfold mfindK at h
    by_cases hk : k = q.1
    · rw [if_pos hk] at h; cases h
    · rw [if_neg hk] at h
      rcases List.mem_cons.1 hp with rfl | hp
      · exact hk
      · exact mfind_notK k m (i + 1) h p hp
theorem sameBits_strK (k : Int × ByteArray) : Instr.sameBits 10000 (encK k) (encK k) = true := by
  unfold encK
  unfold Instr.sameBits
  simp [Instr.sameBits, (MapKept.bytes_beq k.2 k.2).2 rfl]
section
variable {et T : TypeId}
set_option maxRecDepth 100000 in
theorem run_update_key (w : World) (hT : Try.prog.underlying T = some (.map 74 et)) {r : Nat} {m : List ((Int × ByteArray) × Value)} (h : KMap w r m) (k : Int × ByteArray) (v : Value) :
    ∃ w', (Instr.mapUpdate T (.map (some r)) (encK k) v).run Try.prog w = .ok () w' ∧ KMap w' r (mputK k v m) ∧ MapTurned r w w' := by
  obtain ⟨es, clock, h1, h2, h3⟩ := h
  have hr := heap_lt h1
  unfold Instr.mapUpdate
  simp only [Sem.run_bind, run_underlying hT, Result.andThen_ok, run_getObj_map w h1, run_checkKeyK w, run_findKeyK w k h2]
  cases hf : mfindK k m 0 with
  | none =>
    obtain ⟨t1, t2⟩ := turned_set w hr (.map (es.push { key := encK k, val := v, born := clock }) (clock + 1))
    refine ⟨_, run_setObj_map w h1 _, ⟨_, _, t2, ?_, MapKept.stamped_push h3 fun x hx => ?_⟩, t1⟩
    · rw [mfind_noneK k v m 0 hf]
      unfold entsOfK at h2 ⊢
      simp [h2]
    · intro he
      have hmem : (x.key, x.val) ∈ m.map (fun p => (encK p.1, p.2)) := by rw [← h2]; exact List.mem_map.2 ⟨x, hx, rfl⟩
      obtain ⟨p, hp, e1⟩ := List.mem_map.1 hmem
      injection e1 with e1 e2
      rw [he] at e1
      exact mfind_notK k m 0 hf p hp (encK_inj e1).symm
  | some x =>
    obtain ⟨i, v0⟩ := x
    obtain ⟨_, ⟨p, g2, g3⟩, g4⟩ := mfind_atK k v v0 m 0 i hf
    rw [Nat.sub_zero] at g2 g4
    have hlen : es.toList.length = m.length := by
      have := congrArg List.length h2
      simpa using this
    have hi : i < m.length := by
      rcases Nat.lt_or_ge i m.length with hlt | hge
      · exact hlt
      · rw [List.getElem?_eq_none hge] at g2; cases g2
    have hie : i < es.size := by rw [Array.length_toList] at hlen; omega
    have hkey : (es[i]'hie).key = encK k := by
      have := congrArg (fun l => l[i]?) h2
      simp only [List.getElem?_map, g2, Option.map_some] at this
      rw [Array.getElem?_toList, Array.getElem?_eq_getElem hie] at this
      simp only [Option.map_some, Option.some.injEq, Prod.mk.injEq] at this
      rw [this.1, g3]
    have hstay : (Instr.keyThatStays (((es[i]?).map (·.key)).getD (encK k)) (encK k)).run Try.prog w = .ok (encK k) w := by
      rw [Array.getElem?_eq_getElem hie]
      simp only [Option.map_some, Option.getD_some, hkey]
      unfold Instr.keyThatStays
      rw [if_pos (sameBits_strK k)]
      rfl
    simp only [Sem.run_bind, hstay, Result.andThen_ok]
    obtain ⟨t1, t2⟩ := turned_set w hr (.map (es.modify i fun e => { e with key := encK k, val := v }) clock)
    refine ⟨_, run_setObj_map w h1 _, ⟨_, _, t2, ?_, MapKept.stamped_modify h3 _ _ (fun e _ => rfl) fun e _ he => ?_⟩, t1⟩
    · rw [g4]
      unfold entsOfK at h2 ⊢
      apply List.ext_getElem?
      intro j
      have hj := congrArg (fun l => l[j]?) h2
      simp only [List.getElem?_map, Array.getElem?_toList, Array.getElem?_modify, List.getElem?_set] at hj ⊢
      by_cases hij : i = j
      · subst hij
        rw [if_pos rfl, if_pos rfl, if_pos hi, Array.getElem?_eq_getElem hie]
        rfl
      · rw [if_neg hij, if_neg hij]
        exact hj
    · rw [Array.getElem?_eq_getElem hie] at he
      injection he with he
      rw [← he, hkey]
end
theorem KMap.of {w w' : World} {r : Nat} {m : List ((Int × ByteArray) × Value)} (h : KMap w r m) (he : w'.heap[r]? = w.heap[r]?) : KMap w' r m := by
  obtain ⟨es, clock, h1, h2⟩ := h
  exact ⟨es, clock, he.trans h1, h2⟩
theorem KMap.lt {w : World} {r : Nat} {m : List ((Int × ByteArray) × Value)} (h : KMap w r m) : r < w.heap.size := by
  obtain ⟨es, clock, h1, _⟩ := h
  exact heap_lt h1
theorem KMap.low {w w' : World} {r : Nat} {m : List ((Int × ByteArray) × Value)} (h : KMap w r m) (hb : Below w.heap.size w w') : KMap w' r m := h.of (hb.block r h.lt)
theorem KMap.but {w w' : World} {r b : Nat} {m : List ((Int × ByteArray) × Value)} (h : KMap w r m) (hb : But b w w') (hn : r ≠ b) : KMap w' r m := h.of (hb.block r h.lt hn)
theorem KMap.made (w : World) : KMap (w.alloc (.map #[] 0)) w.heap.size [] :=
  ⟨#[], 0, (MapKept.heap_alloc w _).1, rfl, MapKept.stamped_empty 0⟩

end Go.Proofs.Ytnifgkgdphlleaa
set_option linter.unusedSimpArgs false
set_option linter.unusedVariables false
namespace Go.Proofs.Ytnifgkgdphlleaa
open Go.RowKit Tk
/-! ### a part of a record in an owned row -/
def spl {β : Type} (L : List β) (p : Nat) (V : List β) : List β := L.take p ++ V ++ L.drop (p + V.length)
theorem spl_len {β : Type} {L V : List β} {p : Nat} (h : p + V.length ≤ L.length) : (spl L p V).length = L.length := by
  unfold spl; simp only [List.length_append, List.length_take, List.length_drop]; omega
theorem spl_get {β : Type} {L V : List β} {p : Nat} (h : p + V.length ≤ L.length) (j : Nat) : (spl L p V)[j]? = if j < p then L[j]? else if j < p + V.length then V[j - p]? else L[j]? := by
  unfold spl
  have e1 : (L.take p).length = p := by rw [List.length_take]; omega
  rw [List.append_assoc, List.getElem?_append, e1]
  split
  · rename_i hj
    rw [List.getElem?_take, if_pos hj]
  · rename_i hj
    rw [List.getElem?_append]
    by_cases h2 : j < p + V.length
    · rw [if_pos h2, if_pos (by omega)]
    · rw [if_neg h2, if_neg (by omega), List.getElem?_drop]
      congr 1; omega
theorem spl_in {β : Type} {L V W : List β} {q o k : Nat} (hW : W.length = k) (hk : q + k ≤ L.length) (ho : o + V.length ≤ k) (hL : ∀ j, j < k → L[q + j]? = W[j]?) : spl L (q + o) V = spl L q (spl W o V) := by
  have h1 : (spl W o V).length = k := by rw [spl_len (by omega), hW]
  apply List.ext_getElem?
  intro j
  rw [spl_get (by omega), spl_get (by rw [h1]; omega), h1]
  by_cases a1 : j < q
  · rw [if_pos (by omega), if_pos a1]
  rw [if_neg a1]
  by_cases a2 : j < q + k
  · rw [if_pos a2, spl_get (by omega)]
    by_cases a3 : j < q + o
    · rw [if_pos a3, if_pos (by omega), ← hL (j - q) (by omega), show q + (j - q) = j by omega]
    · rw [if_neg a3, if_neg (show ¬ j - q < o by omega)]
      by_cases a4 : j < q + o + V.length
      · rw [if_pos a4, if_pos (by omega)]; congr 1; omega
      · rw [if_neg a4, if_neg (by omega), ← hL (j - q) (by omega), show q + (j - q) = j by omega]
  · rw [if_neg a2, if_neg (by omega), if_neg (by omega)]
section
variable {α : Type} {f : α → List Value} {k : Nat} {P : Program} {w0 w : World} {t e : TypeId} {xs : List α}
theorem wp_put_part {o : Oper} {a : Act} {K : Act → World → Prop} {Q : Exit → Act → World → Prop} {ty : TypeId} {x y : Operand} {g n c i : Nat} {off : Nat} {old : α} (z : α) (r : OwnR w0 w e k f (.slice (some ⟨g, 0, none⟩) n c) xs) (hf : ∀ x, (f x).length = k) (hi' : xs[i]? = some old)
    (ho : o.op = .store ty x y) (hx : a.eval x = .pointer (some ⟨g, i * k + off, none⟩)) (hz : spl (f old) off (a.eval y).cells.toList = f z) (hi : (P.info? ty).map (·.size) = some (a.eval y).cells.size) (h1 : (a.eval y).cells.all (·.oneCell') = true) (hle : off + (a.eval y).cells.size ≤ k)
    (h : ∀ w', OwnR w0 w' e k f (.slice (some ⟨g, 0, none⟩) n c) (xs.set i z) → But g w w' → K (a.put o.dst undef) w') : o.wp P a w K Q := by
  obtain ⟨hlt, hold⟩ := List.getElem?_eq_some_iff.1 hi'
  obtain ⟨hl, ⟨e1, e2⟩ | ⟨g', cap, cur, e1, hb, hg, h2, h3, h4, h5⟩⟩ := r.row
  · cases e1
  · injection e1 with e1 e2 e3
    injection e1 with e1
    injection e1 with e1
    subst e1 e2 e3
    have hle1 : i * k + k ≤ xs.length * k := by
      have := Nat.mul_le_mul_right k hlt
      rw [Nat.succ_mul] at this; omega
    have hle2 : xs.length * k ≤ c * k := Nat.mul_le_mul_right k h2
    have hcl : xs.length * k ≤ cur.toList.length := by simpa [h4] using hle2
    have hvl : (a.eval y).cells.toList.length = (a.eval y).cells.size := Array.length_toList
    have hcur : ∀ j, j < k → cur.toList[i * k + j]? = (f old)[j]? := fun j hj => by
      have := congrArg (fun l => l[i * k + j]?) h5
      rw [List.getElem?_take, if_pos (by omega), flat_get hf xs i j hlt hj, hold] at this
      exact this
    have hsp : spl cur.toList (i * k + off) (a.eval y).cells.toList = spl cur.toList (i * k) (f z) := by
      rw [spl_in (W := f old) (hf _) (by omega) (by omega) hcur, hz]
    refine wp_put (F := [g]) (w0 := w) (X := g) (cs := cur) (t := e) ⟨hg, .inl (by simp)⟩ ho hx hi h1 (by omega) fun w' hL hb' => h w' ⟨⟨?_, .inr ⟨g, c, putA cur (i * k + off) (a.eval y).cells, by rw [List.length_set], Nat.zero_le _, hL.blk, by rwa [List.length_set], h3, ?_, ?_⟩⟩, r.new⟩ hb'
    · rw [flat_len hf]
    · show (spl cur.toList (i * k + off) (a.eval y).cells.toList).toArray.size = _
      rw [List.size_toArray, spl_len (by omega), Array.length_toList, h4]
    · show (spl cur.toList (i * k + off) (a.eval y).cells.toList).toArray.toList.take _ = _
      rw [hsp, List.toList_toArray]
      have := take_put cur.toList (f z) (a := i * k) (N := xs.length * k) (by rw [hf]; exact hle1) hcl
      rw [h5, hf] at this
      simp only [spl, hf, List.length_set]
      rw [this, flat_put hf xs i z hlt]
end
/-! ### plain uses -/
structure PS where
  kind : Int
  name : ByteArray
  req : Bool
  perms : List ByteArray
  line : Int
  col : Int
def Sy.ps (x : Sy) : PS := ⟨x.kind, x.name, x.req, x.perms, x.line, x.col⟩
def PS.key (x : PS) : Int × ByteArray := (x.kind, x.name)
structure Ev where
  pos : Int × Int
  kind : Int
  name : ByteArray
  perms : List ByteArray
def idxP (k : Int × ByteArray) : List PS → Option Nat
  | [] => none
  | x :: l => if x.key = k then some 0 else (idxP k l).map (· + 1)
def PS.add (x : PS) (perms : List ByteArray) : PS := ⟨x.kind, x.name, x.req, joinN x.perms perms, x.line, x.col⟩
def addU (U : List PS) (v : Ev) : List PS :=
  if v.name = ⟨#[]⟩ ∨ isObj v.kind v.name = true then U
  else match idxP (v.kind, v.name) U with
    | some i => U.modify i (·.add v.perms)
    | none => U ++ [⟨v.kind, v.name, false, dedupN v.perms, v.pos.1, v.pos.2⟩]
def adds (U : List PS) (E : List Ev) : List PS := E.foldl addU U
def wtU (U : List PS) : Nat := (U.map fun x => 1 + x.perms.length).sum
def wtE (E : List Ev) : Nat := (E.map fun v => 1 + v.perms.length).sum
theorem adds_app (U : List PS) (A B : List Ev) : adds U (A ++ B) = adds (adds U A) B := List.foldl_append ..
theorem wtE_app (A B : List Ev) : wtE (A ++ B) = wtE A + wtE B := by simp [wtE]
theorem wtU_app (A B : List PS) : wtU (A ++ B) = wtU A + wtU B := by simp [wtU]
theorem wtU_len (U : List PS) : U.length ≤ wtU U := by
  induction U with
  | nil => exact Nat.le_refl _
  | cons x U ih => simp only [wtU, List.map_cons, List.sum_cons, List.length_cons] at ih ⊢; omega
theorem wtU_mem {U : List PS} {x : PS} (h : x ∈ U) : 1 + x.perms.length ≤ wtU U := by
  induction U with
  | nil => cases h
  | cons y U ih =>
    simp only [wtU, List.map_cons, List.sum_cons] at ih ⊢
    rcases List.mem_cons.1 h with rfl | h
    · omega
    · have := ih h; omega
theorem wtU_mod (perms : List ByteArray) : ∀ (U : List PS) (i : Nat), wtU (U.modify i (·.add perms)) ≤ wtU U + perms.length
  | [], i => by simp [wtU]
  | x :: U, 0 => by
    have := joinN_len x.perms perms
    simp only [List.modify_zero_cons, wtU, List.map_cons, List.sum_cons, PS.add]; omega
  | x :: U, i + 1 => by
    have := wtU_mod perms U i
    simp only [List.modify_succ_cons, wtU, List.map_cons, List.sum_cons] at this ⊢; omega
theorem addU_wt (U : List PS) (v : Ev) : wtU (addU U v) ≤ wtU U + (1 + v.perms.length) := by
  unfold addU
  split
  · omega
  · split
    · have := wtU_mod v.perms U ‹_›; omega
    · rw [wtU_app]
      have := joinN_len [] v.perms
      simp only [wtU, List.map_cons, List.sum_cons, List.map_nil, List.sum_nil, dedupN, List.length_nil] at this ⊢; omega
theorem adds_wt (E : List Ev) : ∀ U : List PS, wtU (adds U E) ≤ wtU U + wtE E := by
  induction E with
  | nil => intro U; exact Nat.le_refl _
  | cons v E ih =>
    intro U
    have h1 := ih (addU U v)
    have h2 := addU_wt U v
    have h3 : wtE (v :: E) = (1 + v.perms.length) + wtE E := by simp [wtE]
    have h4 : adds U (v :: E) = adds (addU U v) E := rfl
    rw [h3, h4]; omega
/-- what the map holds -/
def kidx : List PS → Nat → List ((Int × ByteArray) × Value)
  | [], _ => []
  | x :: l, i => (x.key, .int .i64 i) :: kidx l (i + 1)
theorem kidx_get (k : Int × ByteArray) : ∀ (U : List PS) (i : Nat), mgetK k (kidx U i) = (idxP k U).map fun j => Value.int .i64 ((i + j : Nat) : Int)
  | [], _ => rfl
  | x :: U, i => by
    have ih := kidx_get k U (i + 1)
    unfold mgetK at ih ⊢
    unfold kidx idxP
    by_cases h : x.key = k
    · rw [if_pos h, List.find?_cons_of_pos (by simp [h])]; simp
    · rw [if_neg h, List.find?_cons_of_neg (by simpa using fun e => h e.symm), ih, Option.map_map]
      congr 1
      funext j
      simp only [Function.comp]
      congr 2; omega
theorem kidx_snoc (x : PS) : ∀ (U : List PS) (i : Nat), kidx (U ++ [x]) i = kidx U i ++ [(x.key, .int .i64 ((i + U.length : Nat) : Int))]
  | [], i => by simp [kidx]
  | y :: U, i => by
    rw [List.cons_append, kidx, kidx_snoc x U (i + 1), kidx, List.cons_append, List.length_cons]
    congr 5; omega
theorem kidx_put {k : Int × ByteArray} (v : Value) : ∀ {U : List PS} (i : Nat), idxP k U = none → mputK k v (kidx U i) = kidx U i ++ [(k, v)]
  | [], _, _ => rfl
  | x :: U, i, h => by
    unfold idxP at h
    split at h
    · cases h
    · rename_i hk
      have h2 : idxP k U = none := by cases hq : idxP k U with
        | none => rfl
        | some j => rw [hq] at h; cases h
      unfold kidx mputK
      rw [if_neg (fun e => hk e.symm), kidx_put v (i + 1) h2]; rfl
theorem kidx_mod (perms : List ByteArray) : ∀ (U : List PS) (n i : Nat), kidx (U.modify n (·.add perms)) i = kidx U i
  | [], n, i => by simp
  | x :: U, 0, i => rfl
  | x :: U, n + 1, i => by rw [List.modify_succ_cons, kidx, kidx, kidx_mod perms U n (i + 1)]
theorem idx_some {k : Int × ByteArray} : ∀ {U : List PS} {i : Nat}, idxP k U = some i → ∃ x, U[i]? = some x ∧ x.key = k
  | x :: U, i, h => by
    unfold idxP at h
    split at h
    · rename_i hk
      injection h with h; subst h
      exact ⟨x, rfl, hk⟩
    · cases hq : idxP k U with
      | none => rw [hq] at h; cases h
      | some j =>
        rw [hq] at h
        injection h with h; subst h
        obtain ⟨y, h1, h2⟩ := idx_some hq
        exact ⟨y, by simpa using h1, h2⟩
/-- each list of permissions has each name once -/
def ndU (U : List PS) : Prop := ∀ x ∈ U, x.perms.Nodup
theorem ndU_add {U : List PS} (h : ndU U) (v : Ev) : ndU (addU U v) := by
  unfold addU
  split
  · exact h
  · split
    · rename_i i hi
      intro x hx
      obtain ⟨j, hj, e⟩ := List.getElem_of_mem hx
      rw [List.getElem_modify] at e
      subst e
      split
      · exact joinN_nodup (h _ (List.getElem_mem _)) _
      · exact h _ (List.getElem_mem _)
    · intro x hx
      rcases List.mem_append.1 hx with hx | hx
      · exact h x hx
      · rw [List.mem_singleton.1 hx]; exact dedup_nodup _
end Go.Proofs.Ytnifgkgdphlleaa
set_option linter.unusedSimpArgs false
set_option linter.unusedVariables false
namespace Go.Proofs.Ytnifgkgdphlleaa
open Go.RowKit Tk
/-- all blocks but rows of strings are as they were -/
structure KT (w w' : World) : Prop where
  size : w.heap.size ≤ w'.heap.size
  block : ∀ k, k < w.heap.size → (∀ cs f, w.heap[k]? ≠ some (.cells cs 9 f)) → w'.heap[k]? = w.heap[k]?
theorem KT.refl (w : World) : KT w w := ⟨Nat.le_refl _, fun _ _ _ => rfl⟩
theorem KT.trans {a b c : World} (h : KT a b) (k : KT b c) : KT a c := ⟨Nat.le_trans h.size k.size, fun i hi hn => by
  have e := h.block i hi hn
  exact (k.block i (Nat.lt_of_lt_of_le hi h.size) (by rw [e]; exact hn)).trans e⟩
theorem KT.of_ext {w w' : World} (h : Ext w w') : KT w w' := ⟨h.size, fun k hk _ => h.block k hk⟩
theorem Blk.kt {w w' : World} {X : Nat} {t : TypeId} {cs : Array Value} (h : Blk w X t cs) (k : KT w w') (ht : t ≠ 9) : Blk w' X t cs := h.of (k.block X h.lt fun cs' f e => by
  unfold Blk at h; rw [h] at e; injection e with e; injection e with _ e; exact ht e)
theorem Loc.kt {F : List Nat} {w0 w w' : World} {X : Nat} {t : TypeId} {cs : Array Value} (h : Loc F w0 w X t cs) (k : KT w w') (ht : t ≠ 9) : Loc F w0 w' X t cs := ⟨h.blk.kt k ht, h.may⟩
theorem ORow.kt {α : Type} {w w' : World} {t : TypeId} {k : Nat} {f : α → List Value} {v : Value} {xs : List α} (h : ORow w t k f v xs) (hk : KT w w') (ht : t ≠ 9) : ORow w' t k f v xs := by
  obtain ⟨hl, h1 | ⟨g, cap, cur, e1, hb, hg, h2⟩⟩ := h
  · exact ⟨hl, .inl h1⟩
  · exact ⟨hl, .inr ⟨g, cap, cur, e1, hb, (Blk.kt (show Blk w g t cur from hg) hk ht), h2⟩⟩
theorem OwnR.kt {α : Type} {w0 w w' : World} {t : TypeId} {k : Nat} {f : α → List Value} {v : Value} {xs : List α} (h : OwnR w0 w t k f v xs) (hk : KT w w') (ht : t ≠ 9) : OwnR w0 w' t k f v xs := ⟨h.row.kt hk ht, h.new⟩
theorem ORow.kta {w w' : World} {k : Nat} {α : Type} {f : α → List Value} {v v' : Value} {xs zs : List α} (h : ORow w 9 k f v xs) (hA : AppPost w w' 9 k f v v' zs) : KT w w' :=
  ⟨hA.grown.size, fun i hi hn => hA.grown.block i hi fun e => by
    obtain ⟨hl, ⟨e1, e2⟩ | ⟨g, cap, cur, e1, hb, hg, h2⟩⟩ := h
    · subst e1; simp [Value.ownBlock] at e
    · subst e1
      have : i = g := by simpa [Value.ownBlock] using e
      subst this
      exact hn _ _ hg⟩
theorem at_andk {w w' : World} {p : Prop} (h1 : KT w w') (h2 : p) : KT w w' ∧ p := ⟨h1, h2⟩
theorem wp_region_kt {P : Program} {Q : Exit → Act → World → Prop} {a : Act} {w : World} {id : Nat} {l : List Oper} (ts is : List Nat) (hm : P.follows .mixedOrders = true) (hB : (canB l.toArray (zipT ts is) && is.all fun i => decide (i < l.length)) = true)
    (h : ∀ K : Act → World → Prop, (∀ a w, Q .normal a w → K a w) → ∀ w', Ext w w' → wpTag P l.toArray KT K (LetsOut Q) ts (pickL l is) a w') : (Code.region id l.toArray true).wp P Q a w := by
  rw [Bool.and_eq_true] at hB
  refine wp_region_can KT KT.refl (fun _ _ _ => KT.trans) _ hm hB.1 fun K hK => ?_
  rw [pick_eq l is ts fun i hi => by simpa using List.all_eq_true.1 hB.2 i hi]
  exact h K hK _ (Ext.drew w)
/-- what calls that add uses may write -/
structure UFr (b m : Nat) (w w' : World) : Prop where
  os : w'.os = w.os
  tape : w'.tape = w.tape
  output : w'.output = w.output
  size : w.heap.size ≤ w'.heap.size
  block : ∀ k, k < w.heap.size → k ≠ b → k ≠ m → (∀ cs f, w.heap[k]? ≠ some (.cells cs 57 f)) → w'.heap[k]? = w.heap[k]?
section
variable {b m X : Nat} {w0 w w' w2 : World} {t : TypeId} {cs : Array Value} {F : List Nat}
theorem UFr.refl : UFr b m w w := ⟨rfl, rfl, rfl, Nat.le_refl _, fun _ _ _ _ _ => rfl⟩
theorem UFr.trans (h : UFr b m w w') (k : UFr b m w' w2) : UFr b m w w2 :=
  ⟨k.os.trans h.os, k.tape.trans h.tape, k.output.trans h.output, Nat.le_trans h.size k.size, fun i hi h1 h2 h3 => by
    have e := h.block i hi h1 h2 h3
    exact (k.block i (Nat.lt_of_lt_of_le hi h.size) h1 h2 (by rw [e]; exact h3)).trans e⟩
theorem UFr.of_ext (h : Ext w w') : UFr b m w w' := ⟨h.os, h.tape, h.output, h.size, fun k hk _ _ _ => h.block k hk⟩
theorem UFr.ext (h : UFr b m w w') (hx : Ext w' w2) : UFr b m w w2 := h.trans (.of_ext hx)
theorem UFr.notin (h : UFr b m w w') (hX : w'.heap.size ≤ X) : w.heap.size ≤ X := Nat.le_trans h.size hX
theorem UFr.but0 (h : UFr b m w w') (hb : But X w' w2) (hX : w.heap.size ≤ X) : UFr b m w w2 :=
  ⟨hb.os.trans h.os, hb.tape.trans h.tape, hb.output.trans h.output, Nat.le_trans h.size hb.size, fun i hi h1 h2 h3 => (hb.block i (Nat.lt_of_lt_of_le hi h.size) (by omega)).trans (h.block i hi h1 h2 h3)⟩
theorem UFr.butb (h : UFr b m w w') (hb : But b w' w2) : UFr b m w w2 :=
  ⟨hb.os.trans h.os, hb.tape.trans h.tape, hb.output.trans h.output, Nat.le_trans h.size hb.size, fun i hi h1 h2 h3 => (hb.block i (Nat.lt_of_lt_of_le hi h.size) h1).trans (h.block i hi h1 h2 h3)⟩
theorem UFr.turned (h : UFr b m w w') (ht : MapTurned m w' w2) : UFr b m w w2 :=
  ⟨ht.os.trans h.os, ht.tape.trans h.tape, ht.output.trans h.output, Nat.le_trans h.size (Nat.le_of_eq ht.size.symm), fun i hi h1 h2 h3 => (ht.block i h2).trans (h.block i hi h1 h2 h3)⟩
theorem Blk.ufr (h : Blk w X t cs) (k : UFr b m w w') (hb : X ≠ b) (hm : X ≠ m) (ht : t ≠ 57) : Blk w' X t cs := h.of (k.block X h.lt hb hm fun cs' f e => by
  unfold Blk at h; rw [h] at e; injection e with e; injection e with _ e; exact ht e)
theorem KMap.neB {ml : List ((Int × ByteArray) × Value)} (h : KMap w m ml) (k : Blk w X t cs) : m ≠ X := by
  rintro rfl
  obtain ⟨es, cl, h1, -⟩ := h
  unfold Blk at k
  rw [k] at h1; cases h1
theorem KMap.ext {ml : List ((Int × ByteArray) × Value)} (h : KMap w m ml) (hx : Ext w w') : KMap w' m ml := h.low hx
theorem KMap.butB {ml : List ((Int × ByteArray) × Value)} (h : KMap w m ml) (hb : But X w w') (k : Blk w X t cs) : KMap w' m ml := h.but hb (h.neB k)
theorem KMap.notin {ml : List ((Int × ByteArray) × Value)} (h : KMap w m ml) (hX : w.heap.size ≤ X) : m ≠ X := by have := h.lt; omega
theorem KMap.but0 {ml : List ((Int × ByteArray) × Value)} (h : KMap w m ml) (hb : But X w w') (k : m ≠ X) : KMap w' m ml := h.but hb k
theorem KMap.ownN {α : Type} {k : Nat} {f : α → List Value} {v : Value} {xs : List α} {ml : List ((Int × ByteArray) × Value)} (h : KMap w m ml) (r : ORow w t k f v xs) : m ∉ ownB v := by
  intro hm
  obtain ⟨hl, ⟨e1, e2⟩ | ⟨g, cap, cur, e1, hb, hg, h2⟩⟩ := r
  · subst e1; simp [ownB, Value.ownBlock] at hm
  · subst e1
    have : m = g := by simpa [ownB, Value.ownBlock] using hm
    subst this
    exact h.neB (show Blk w m t cur from hg) rfl
theorem KMap.grow {α : Type} {k : Nat} {f : α → List Value} {v v' : Value} {xs ys : List α} {ml : List ((Int × ByteArray) × Value)} (h : KMap w m ml) (r : OwnR w0 w t k f v xs) (hA : AppPost w w' t k f v v' ys) (_ : True) : KMap w' m ml :=
  h.of (hA.grown.block m h.lt fun e => h.ownN r.row (mem_ownB.2 e.symm))
/-- the permissions of symbols, each list in a row of its own -/
def PermsOk (w : World) (xs : List Sy) : Prop := ∀ x ∈ xs, ORow w 9 1 strC (x.hp.v x.perms.length) x.perms
theorem PermsOk.ext {xs : List Sy} (h : PermsOk w xs) (hx : Ext w w') : PermsOk w' xs := fun x hm => (h x hm).low hx
theorem PermsOk.but {xs : List Sy} (h : PermsOk w xs) (hb : But X w w') (k : Blk w X t cs) (ht : 9 ≠ t) : PermsOk w' xs := fun x hm => (h x hm).but hb k ht
theorem ORow.turned {α : Type} {k : Nat} {f : α → List Value} {v : Value} {xs : List α} {ml : List ((Int × ByteArray) × Value)} (h : ORow w t k f v xs) (hM : KMap w m ml) (ht : MapTurned m w w') : ORow w' t k f v xs :=
  h.kept fun x hx => ht.block x fun e => hM.ownN h (by rw [← e]; exact mem_ownB.2 hx)
theorem Blk.turned {ml : List ((Int × ByteArray) × Value)} (h : Blk w X t cs) (hM : KMap w m ml) (ht : MapTurned m w w') : Blk w' X t cs := h.of (ht.block X fun e => hM.neB h e.symm)
theorem Loc.turned {ml : List ((Int × ByteArray) × Value)} (h : Loc F w0 w X t cs) (hM : KMap w m ml) (ht : MapTurned m w w') : Loc F w0 w' X t cs := ⟨h.blk.turned hM ht, h.may⟩
theorem Only.turnedM (h : Only [] w0 w) (hm : w0.heap.size ≤ m) (ht : MapTurned m w w') : Only [] w0 w' :=
  h.trans (F' := [m]) ⟨ht.os, ht.tape, ht.output, Nat.le_of_eq ht.size.symm, fun k _ hk => ht.block k fun e => hk (by simp [e])⟩ fun x hx => .inr (by rw [List.mem_singleton.1 hx]; exact hm)
theorem PermsOk.turned {xs : List Sy} {ml : List ((Int × ByteArray) × Value)} (h : PermsOk w xs) (hM : KMap w m ml) (ht : MapTurned m w w') : PermsOk w' xs := fun x hx => (h x hx).turned hM ht
theorem ORow.grow {α β : Type} {k k2 : Nat} {f : α → List Value} {f2 : β → List Value} {v v2 v' : Value} {xs : List α} {ys zs : List β} {t2 : TypeId} (h : ORow w t k f v xs) (r : ORow w t2 k2 f2 v2 ys) (hA : AppPost w w' t2 k2 f2 v2 v' zs) (hne : t ≠ t2) : ORow w' t k f v xs :=
  h.kept fun x hx => hA.grown.block x (h.lt hx) fun e => by
    obtain ⟨hl, ⟨e1, e2⟩ | ⟨g, cap, cur, e1, hb, hg, h2⟩⟩ := r
    · subst e1; simp [Value.ownBlock] at e
    · subst e1
      have : x = g := by simpa [Value.ownBlock] using e
      subst this
      exact h.ne (show Blk w x t2 cur from hg) hne (mem_ownB.2 hx)
theorem PermsOk.grow {α : Type} {k : Nat} {f : α → List Value} {v v' : Value} {ys zs : List α} {xs : List Sy} (h : PermsOk w xs) (r : OwnR w0 w 57 k f v ys) (hA : AppPost w w' 57 k f v v' zs) : PermsOk w' xs :=
  fun x hx => (h x hx).grow r.row hA (of_decide_eq_true rfl)
theorem OwnR.old {α : Type} {k : Nat} {f : α → List Value} {v : Value} {xs : List α} (h : OwnR w w' t k f v xs) (E : Only [] w0 w) : OwnR w0 w' t k f v xs := ⟨h.row, fun x hx => Nat.le_trans E.size (h.new x hx)⟩
structure UAt (w0 w : World) (b m : Nat) (U : List PS) (p : Int × Int) : Prop where
  only : Only [] w0 w
  ex : ∃ (xs : List Sy) (a : Option Addr) (c : Nat), xs.map Sy.ps = U ∧ Loc [] w0 w b 96 #[.slice a xs.length c, .map (some m), .int .i64 p.1, .int .i64 p.2] ∧ OwnR w0 w 57 6 syC (.slice a xs.length c) xs ∧ PermsOk w xs
  map : KMap w m (kidx U 0)
  hm : w0.heap.size ≤ m
  nd : ndU U
theorem UAt.ext {U : List PS} {p : Int × Int} (h : UAt w0 w b m U p) (hx : Ext w w') : UAt w0 w' b m U p := by
  obtain ⟨h1, ⟨xs, a, c, e, h2, h3, h4⟩, h5, h6, h7⟩ := h
  exact ⟨h1.ext hx, ⟨xs, a, c, e, h2.ext hx, h3.ext hx, h4.ext hx⟩, h5.ext hx, h6, h7⟩
theorem UAt.but {U : List PS} {p : Int × Int} (h : UAt w0 w b m U p) (k : Loc [] w0 w X t cs) (hb : But X w w') (ht : t ≠ 96 ∧ t ≠ 9 ∧ t ≠ 57) : UAt w0 w' b m U p := by
  obtain ⟨h1, ⟨xs, a, c, e, h2, h3, h4⟩, h5, h6, h7⟩ := h
  exact ⟨h1.put k hb, ⟨xs, a, c, e, h2.but hb (h2.blk.ne_ k.blk ht.1.symm), h3.but hb k.blk ht.2.2.symm, h4.but hb k.blk ht.2.1.symm⟩, h5.butB hb k.blk, h6, h7⟩
/-- what a call that adds uses leaves -/
def UPost (w0 : World) (b m : Nat) (U : List PS) (p : Int × Int) (w : World) (e : Ending) (w' : World) : Prop := e = .returned (.tuple #[]) ∧ UAt w0 w' b m U p ∧ UFr b m w w'
end
theorem isz {s : ByteArray} (h : s = ⟨#[]⟩) : (s.toList == []) = true := by subst h; rw [ByteArray.toList_eq]; rfl
theorem isz_no {s : ByteArray} (h : ¬ s = ⟨#[]⟩) : (s.toList == []) = false := by
  have := txt_f (a := s) (b := ⟨#[]⟩) h
  rw [show (⟨#[]⟩ : ByteArray).toList = [] from by rw [ByteArray.toList_eq]] at this
  exact this
end Go.Proofs.Ytnifgkgdphlleaa
set_option linter.unusedSimpArgs false
set_option linter.unusedVariables false
namespace Go.Proofs.Ytnifgkgdphlleaa
open Go.RowKit Tk
/-- a list of names that a call is handed: it lay there at the beginning, or has a row of its own -/
def PR (w0 w : World) (v : Value) (xs : List ByteArray) : Prop := Reads w0 v xs ∨ ORow w 9 1 strC v xs
section
variable {w0 w w' : World} {v : Value} {xs : List ByteArray} {X b m : Nat} {t : TypeId} {cs : Array Value} {F : List Nat}
theorem PR.ext (h : PR w0 w v xs) (hx : Ext w w') : PR w0 w' v xs := h.imp_right fun h => h.low hx
theorem PR.reads (h : PR w0 w v xs) (E : Only [] w0 w) : Reads w v xs := by
  rcases h with h | h
  · exact h.ext E.low
  · exact h.reads strC_l
theorem PR.but (h : PR w0 w v xs) (hb : But X w w') (k : Blk w X t cs) (ht : 9 ≠ t) : PR w0 w' v xs := h.imp_right fun h => h.but hb k ht
theorem PR.turned {ml : List ((Int × ByteArray) × Value)} (h : PR w0 w v xs) (hM : KMap w m ml) (ht : MapTurned m w w') : PR w0 w' v xs := h.imp_right fun h => h.turned hM ht
theorem PR.grow {α : Type} {k : Nat} {f : α → List Value} {u v' : Value} {ys zs : List α} (h : PR w0 w v xs) (r : OwnR w0 w t k f u ys) (hA : AppPost w w' t k f u v' zs) (ht : 9 ≠ t) : PR w0 w' v xs := h.imp_right fun h => h.grow r.row hA ht
theorem PR.ufr (h : PR w0 w v xs) (k : UFr b m w w') (hb : ∀ x ∈ ownB v, x ≠ b ∧ x ≠ m) : PR w0 w' v xs := h.imp_right fun h => h.kept fun x hx => by
  have hxo := mem_ownB.2 hx
  refine k.block x (h.lt hx) (hb x hxo).1 (hb x hxo).2 fun cs' f e => ?_
  obtain ⟨hl, ⟨e1, e2⟩ | ⟨g, cap, cur, e1, hb, hg, h2⟩⟩ := h
  · subst e1; simp [Value.ownBlock] at hx
  · subst e1
    have : g = x := by simpa [Value.ownBlock] using hx
    subst this
    rw [e] at hg; injection hg with hg; injection hg with _ hg; cases hg
/-- a store into an owned row of records, and rows of strings -/
theorem ORow.put {α β : Type} {k k2 n c g : Nat} {f : α → List Value} {f2 : β → List Value} {ys : List β} {u : Value} {zs : List α} (h : ORow w 9 k f u zs) (r : OwnR w0 w 57 k2 f2 (.slice (some ⟨g, 0, none⟩) n c) ys) (hb : But g w w') : ORow w' 9 k f u zs := by
  obtain ⟨hl, ⟨e1, e2⟩ | ⟨g', cap, cur, e1, hb', hg, h2⟩⟩ := r.row
  · cases e1
  · injection e1 with e1 _ _
    injection e1 with e1
    injection e1 with e1 _ _
    subst e1
    exact h.but hb (show Blk w g _ cur from hg) (of_decide_eq_true rfl)
theorem PermsOk.put {α : Type} {k n c g : Nat} {f : α → List Value} {ys : List α} {xs : List Sy} (h : PermsOk w xs) (r : OwnR w0 w 57 k f (.slice (some ⟨g, 0, none⟩) n c) ys) (hb : But g w w') : PermsOk w' xs := fun x hx => (h x hx).put r hb
theorem KMap.put {α : Type} {k n c g : Nat} {f : α → List Value} {ys : List α} {ml : List ((Int × ByteArray) × Value)} (h : KMap w m ml) (r : OwnR w0 w t k f (.slice (some ⟨g, 0, none⟩) n c) ys) (hb : But g w w') : KMap w' m ml := h.but hb fun e => h.ownN r.row (by rw [e]; simp [ownB, Value.ownBlock])
theorem UFr.put {α : Type} {k n c g : Nat} {f : α → List Value} {ys : List α} {wa : World} (h : UFr b m wa w) (r : OwnR w0 w 57 k f (.slice (some ⟨g, 0, none⟩) n c) ys) (hb : But g w w') : UFr b m wa w' :=
  ⟨hb.os.trans h.os, hb.tape.trans h.tape, hb.output.trans h.output, Nat.le_trans h.size hb.size, fun i hi h1 h2 h3 => by
    have e := h.block i hi h1 h2 h3
    refine (hb.block i (Nat.lt_of_lt_of_le hi h.size) fun e2 => ?_).trans e
    subst e2
    obtain ⟨hl, ⟨e1, e2⟩ | ⟨g', cap, cur, e1, hb', hg, h2⟩⟩ := r.row
    · cases e1
    · injection e1 with e1 _ _
      injection e1 with e1
      injection e1 with e1 _ _
      subst e1
      exact h3 _ _ (e.symm.trans hg)⟩
theorem UFr.grow {α : Type} {k : Nat} {f : α → List Value} {u v' : Value} {ys zs : List α} {wa : World} (h : UFr b m wa w) (r : OwnR w0 w 57 k f u ys) (hA : AppPost w w' 57 k f u v' zs) : UFr b m wa w' :=
  ⟨hA.grown.os.trans h.os, hA.grown.tape.trans h.tape, hA.grown.output.trans h.output, Nat.le_trans h.size hA.grown.size, fun i hi h1 h2 h3 => by
    have e := h.block i hi h1 h2 h3
    refine (hA.grown.block i (Nat.lt_of_lt_of_le hi h.size) fun e2 => ?_).trans e
    obtain ⟨hl, ⟨e1, e2'⟩ | ⟨g', cap, cur, e1, hb', hg, h2⟩⟩ := r.row
    · subst e1; simp [Value.ownBlock] at e2
    · subst e1
      have : i = g' := by simpa [Value.ownBlock] using e2
      subst this
      exact h3 _ _ (e.symm.trans hg)⟩
/-- a new row of strings grows: nothing else is written -/
theorem UFr.growS {α : Type} {k : Nat} {f : α → List Value} {u v' : Value} {zs : List α} {wa : World} (h : UFr b m wa w) (hn : ∀ x ∈ ownB u, wa.heap.size ≤ x) (hA : AppPost w w' 9 k f u v' zs) : UFr b m wa w' :=
  ⟨hA.grown.os.trans h.os, hA.grown.tape.trans h.tape, hA.grown.output.trans h.output, Nat.le_trans h.size hA.grown.size, fun i hi h1 h2 h3 =>
    (hA.grown.block i (Nat.lt_of_lt_of_le hi h.size) fun e2 => by
      have := hn i (mem_ownB.2 e2.symm); omega).trans (h.block i hi h1 h2 h3)⟩
theorem PR.put {α : Type} {k n c g : Nat} {f : α → List Value} {ys : List α} (h : PR w0 w v xs) (r : OwnR w0 w 57 k f (.slice (some ⟨g, 0, none⟩) n c) ys) (hb : But g w w') : PR w0 w' v xs := h.imp_right fun h => h.put r hb
end
theorem OwnR.at3 {w0 w : World} {g n c i : Nat} {xs : List Sy} {y : Sy} (h : OwnR w0 w 57 6 syC (.slice (some ⟨g, 0, none⟩) n c) xs) (hy : xs[i]? = some y) : w.cell? ⟨g, i * 6 + 3, none⟩ = some (.slice y.hp.a y.perms.length y.hp.c) := by
  obtain ⟨hi, e⟩ := List.getElem?_eq_some_iff.1 hy
  subst e
  obtain ⟨g', cap, e, -, -, -, hc⟩ := ORow.at syC_len h.row (by omega)
  injection e with e1 _ _
  injection e1 with e1
  injection e1 with e1 _ _
  subst e1
  exact hc i hi 3 (by omega)
theorem OwnR.own_at {w0 w : World} {a : Option Addr} {n c i : Nat} {xs : List Sy} {y : Sy} (h : OwnR w0 w 57 6 syC (.slice a n c) xs) (hy : xs[i]? = some y) : ∃ g, a = some ⟨g, 0, none⟩ := by
  obtain ⟨hi, e⟩ := List.getElem?_eq_some_iff.1 hy
  obtain ⟨g', cap, e, -, -, -, hc⟩ := ORow.at syC_len h.row (by omega)
  injection e with e1 _ _
  exact ⟨g', e1⟩
theorem mod_set {α : Type} {U : List α} {i : Nat} {x : α} (f : α → α) (h : U[i]? = some x) : U.modify i f = U.set i (f x) := by
  obtain ⟨hi, e⟩ := List.getElem?_eq_some_iff.1 h
  subst e
  apply List.ext_getElem?
  intro j
  rw [List.getElem?_modify, List.getElem?_set]
  by_cases hj : i = j
  · subst hj; simp [hi]
  · simp [hj]
theorem und_umap : Try.prog.underlying 75 = some (.map 74 3) := by kernel_rfl
theorem zero_int (w : World) : (zeroValue 3).run Try.prog w = .ok (.int .i64 0) w := Try.zeroValue3 w
end Go.Proofs.Ytnifgkgdphlleaa
