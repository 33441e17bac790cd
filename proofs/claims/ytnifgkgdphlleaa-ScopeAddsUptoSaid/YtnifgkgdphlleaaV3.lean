/- Lists of names: what contains, joins and copies them, in the program and in the reference. -/
import Derived.Test.YtnifgkgdphlleaaV2
set_option linter.unusedSimpArgs false
set_option linter.unusedVariables false
namespace Go.Proofs.Ytnifgkgdphlleaa
open Go.RowKit Tk
instance memBA (x : ByteArray) (l : List ByteArray) : Decidable (x ∈ l) := decidable_of_iff (∃ y ∈ l, y = x) ⟨fun ⟨_, hy, e⟩ => e ▸ hy, fun h => ⟨x, h, rfl⟩⟩
def addN (l : List ByteArray) (x : ByteArray) : List ByteArray := if x ∈ l then l else l ++ [x]
def joinN (l more : List ByteArray) : List ByteArray := more.foldl addN l
def dedupN (l : List ByteArray) : List ByteArray := joinN [] l
theorem joinN_app (l a b : List ByteArray) : joinN l (a ++ b) = joinN (joinN l a) b := List.foldl_append ..
theorem joinN_snoc {l a : List ByteArray} {j : Nat} (h : j < a.length) : joinN l (a.take (j + 1)) = addN (joinN l (a.take j)) a[j] := by
  rw [List.take_succ_eq_append_getElem h, joinN_app]; rfl
theorem joinN_len (l a : List ByteArray) : (joinN l a).length ≤ l.length + a.length := by
  induction a generalizing l with
  | nil => exact Nat.le_refl _
  | cons x a ih =>
    have := ih (addN l x)
    have h2 : (addN l x).length ≤ l.length + 1 := by unfold addN; split <;> simp
    show (joinN (addN l x) a).length ≤ _
    rw [List.length_cons]; omega
theorem joinN_mem {l a : List ByteArray} {y : ByteArray} : y ∈ joinN l a ↔ y ∈ l ∨ y ∈ a := by
  induction a generalizing l with
  | nil => simp [joinN]
  | cons x a ih =>
    show y ∈ joinN (addN l x) a ↔ _
    rw [ih]
    unfold addN
    split
    · rename_i h
      simp only [List.mem_cons]
      constructor
      · rintro (h1 | h1) <;> simp [h1]
      · rintro (h1 | rfl | h1) <;> simp_all
    · simp [or_assoc]
theorem addN_nodup {l : List ByteArray} (h : l.Nodup) (x : ByteArray) : (addN l x).Nodup := by
  unfold addN
  split
  · exact h
  · rename_i hx
    rw [List.nodup_append]
    exact ⟨h, by simp, fun a ha b hb => by rw [List.mem_singleton.1 hb]; rintro rfl; exact hx ha⟩
theorem joinN_nodup {l : List ByteArray} (h : l.Nodup) (a : List ByteArray) : (joinN l a).Nodup := by
  induction a generalizing l with
  | nil => exact h
  | cons x a ih => exact ih (addN_nodup h x)
theorem dedup_nodup (l : List ByteArray) : (dedupN l).Nodup := joinN_nodup List.nodup_nil l
theorem join_nodup : ∀ {l : List ByteArray} (a : List ByteArray), (a ++ l).Nodup → joinN a l = a ++ l
  | [], a, _ => by simp [joinN]
  | x :: l, a, h => by
    have h2 : ¬ x ∈ a := fun hm => by
      rw [List.nodup_append] at h
      exact h.2.2 x hm x (.head _) rfl
    show joinN (addN a x) l = _
    unfold addN
    rw [if_neg h2, join_nodup (l := l) (a ++ [x]) (by simpa using h)]
    simp
theorem dedup_id {l : List ByteArray} (h : l.Nodup) : dedupN l = l := join_nodup [] (by simpa using h)
theorem dedup_app {l : List ByteArray} (h : l.Nodup) (a : List ByteArray) : dedupN (l ++ a) = joinN l a := by
  unfold dedupN; rw [joinN_app]
  have := dedup_id h
  unfold dedupN at this
  rw [this]
/-- joining with a joined list -/
theorem join_join (l a b : List ByteArray) : joinN l (joinN a b) = joinN l (a ++ b) := by
  induction b generalizing a with
  | nil => simp [joinN]
  | cons x b ih =>
    show joinN l (joinN (addN a x) b) = _
    rw [ih]
    unfold addN
    split
    · rename_i h
      rw [joinN_app, joinN_app]
      show _ = joinN (addN (joinN l a) x) b
      unfold addN
      rw [if_pos (joinN_mem.2 (.inr h))]
    · simp
theorem Reads.cells {w : World} {a : Option Addr} {n c : Nat} {xs : List ByteArray} (h : Reads w (.slice a n c) xs) {i : Nat} (hi : i < xs.length) : ∃ g o, a = some ⟨g, o, none⟩ ∧ g < w.heap.size ∧ w.cell? ⟨g, o + i, none⟩ = some (.string xs[i]) := by
  obtain ⟨g, o, e, hg, hc⟩ := RRow.cells h hi
  have := hc 0 (by omega)
  rw [Nat.mul_one, Nat.add_zero] at this
  exact ⟨g, o, e, hg, this⟩
/-- the slice value of a result that the call has made -/
def SPost (w : World) (xs : List ByteArray) (e : Ending) (w' : World) : Prop := ∃ a c, e = .returned (.slice a xs.length c) ∧ OwnR w w' 9 1 strC (.slice a xs.length c) xs ∧ Ext w w'
theorem OwnR.reads {w w' : World} {v : Value} {xs : List ByteArray} (h : OwnR w w' 9 1 strC v xs) : Reads w' v xs := h.row.reads strC_l
theorem Reads.lens {w : World} {a : Option Addr} {n c : Nat} {xs : List ByteArray} (h : Reads w (.slice a n c) xs) : n = xs.length ∧ xs.length ≤ 9223372036854775807 := by
  obtain ⟨ao, cap, e, h1, h2⟩ := RRow.len h
  injection e with e1 e2 e3
  unfold maxLen at h2
  exact ⟨e2, by omega⟩
theorem txt_ne {a b : ByteArray} (h : ¬ a = b) : (a.toList == b.toList) = false := txt_f h
set_option maxHeartbeats 1000000 in
theorem index_any {w : World} {a : Option Addr} {n c : Nat} {xs : List ByteArray} (h : Reads w (.slice a n c) xs) (s : ByteArray) :
    Calls Try.prog 31 #[.slice a n c, .string s] w fun e w' => ∃ i : Int, e = .returned (.int .i64 i) ∧ ((s ∈ xs ∧ 0 ≤ i) ∨ (¬ s ∈ xs ∧ i = -1)) ∧ w' = w := by
  obtain ⟨rfl, n2⟩ := h.lens
  go_enter Try.func31, Try.ntmps31
  go_upto_region 2 with (first | fail)
  go_loop [8] (fun i => ∃ j : Nat, i = .int .i64 j ∧ j ≤ xs.length ∧ Hid (∀ k (_ : k < j) (hk : k < xs.length), ¬ xs[k] = s)) (fun i => xs.length - (intOf i).toNat)
  case atStart => exact ⟨0, rfl, Nat.zero_le _, fun k hk => by omega⟩
  case round =>
    obtain ⟨j, rfl, hj, hA⟩ := hrel
    by_cases hlt : j < xs.length
    · obtain ⟨g, o, rfl, hg, k0⟩ := h.cells hlt
      by_cases he : s = xs[j]
      · have g1 := txt_t he
        have HE := Lib.hid he
        clear he
        go_upto_region 9999 with (first | fail)
        go_ret
        exact ⟨_, rfl, .inl ⟨by rw [HE.out]; exact List.getElem_mem _, by omega⟩, rfl⟩
      · have g1 := txt_f he
        have HE := Lib.hid he
        clear he
        go_upto_region 9999 with (first | fail)
        go_round
        case rel => exact ⟨j + 1, by go_num, by omega, none_snoc (p := fun x => x = s) hA.out hlt (fun e => HE.out e.symm)⟩
        case measure => simp [intOf]; omega
    · go_upto_region 9999 with (first | fail)
      go_ret
      refine ⟨_, rfl, .inr ⟨fun hm => ?_, rfl⟩, rfl⟩
      obtain ⟨k, hk, e⟩ := List.getElem_of_mem hm
      exact hA k (by omega) hk e
theorem contains_any {w : World} {a : Option Addr} {n c : Nat} {xs : List ByteArray} (h : Reads w (.slice a n c) xs) (s : ByteArray) :
    Calls Try.prog 19 #[.slice a n c, .string s] w (BPost (decide (s ∈ xs)) w) := by
  go_enter Try.func19, Try.ntmps19
  go_upto_region 9999 with (first | ((with_reducible refine at_dst 7 ?_); go_simp; ((with_reducible refine (index_any h s).mono ?_)); rintro e wq ⟨i, rfl, hi, rfl⟩))
  go_ret
  refine ⟨ret_bool ?_, Ext.refl _⟩
  rcases hi with ⟨h1, h2⟩ | ⟨h1, h2⟩
  · simp [h1, h2]
  · simp [h1, h2]
set_option maxHeartbeats 1000000 in
theorem qhas_any {w : World} {a : Option Addr} {n c : Nat} {xs : List ByteArray} (h : Reads w (.slice a n c) xs) (s : ByteArray) :
    Calls Try.prog 43 #[.slice a n c, .string s] w (BPost (decide (s ∈ xs)) w) := by
  obtain ⟨rfl, n2⟩ := h.lens
  go_enter Try.func43, Try.ntmps43
  go_upto_region 2 with (first | fail)
  go_loop [5] (fun i => ∃ j : Nat, i = .int .i64 j ∧ j ≤ xs.length ∧ Hid (∀ k (_ : k < j) (hk : k < xs.length), ¬ xs[k] = s)) (fun i => xs.length - (intOf i).toNat)
  case atStart => exact ⟨0, rfl, Nat.zero_le _, fun k hk => by omega⟩
  case round =>
    obtain ⟨j, rfl, hj, hA⟩ := hrel
    by_cases hlt : j < xs.length
    · obtain ⟨g, o, rfl, hg, k0⟩ := h.cells hlt
      by_cases he : xs[j] = s
      · have g1 := txt_t he
        have HE := Lib.hid he
        clear he
        go_upto_region 9999 with (first | fail)
        go_ret
        refine ⟨ret_bool ?_, Ext.refl _⟩
        rw [← HE.out]; simp
      · have g1 := txt_f he
        have HE := Lib.hid he
        clear he
        go_upto_region 9999 with (first | fail)
        go_round
        case rel => exact ⟨j + 1, by go_num, by omega, none_snoc (p := fun x => x = s) hA.out hlt HE.out⟩
        case measure => simp [intOf]; omega
    · go_upto_region 9999 with (first | fail)
      go_ret
      refine ⟨ret_bool ?_, Ext.refl _⟩
      have : ¬ s ∈ xs := fun hm => by
        obtain ⟨k, hk, e⟩ := List.getElem_of_mem hm
        exact hA k (by omega) hk e
      simp [this]
end Go.Proofs.Ytnifgkgdphlleaa
