/- The order of texts; lists in this order. No program in sight. -/
import Derived.Test.YtnifgkgdphlleaaUt
set_option linter.unusedSimpArgs false
set_option linter.unusedVariables false
namespace Go.Proofs.Ytnifgkgdphlleaa
open Go.RowKit Tk
def key (s : ByteArray) : List UInt8 := s.data.toList
def unkey (l : List UInt8) : ByteArray := ⟨l.toArray⟩
theorem unkey_key (s : ByteArray) : unkey (key s) = s := rfl
theorem key_unkey (l : List UInt8) : key (unkey l) = l := by simp [key, unkey]
theorem key_inj {a b : ByteArray} (h : key a = key b) : a = b := by rw [← unkey_key a, ← unkey_key b, h]
theorem bless_eq : ∀ (x y : List UInt8), Op.bytesLess x y = decide (x < y)
  | [], [] => by simp [Op.bytesLess]
  | _ :: _, [] => by simp [Op.bytesLess]
  | [], _ :: _ => by simp [Op.bytesLess]
  | a :: x, b :: y => by
    rw [Op.bytesLess, bless_eq x y]
    rw [Bool.eq_iff_iff]
    simp only [List.cons_lt_cons_iff, Bool.or_eq_true, Bool.and_eq_true, beq_iff_eq, decide_eq_true_eq]
theorem less_iff (a b : ByteArray) : Op.bytesLess a.toList b.toList = true ↔ key a < key b := by
  rw [bless_eq, bl, bl]; simp [key]
theorem less_t {a b : ByteArray} (h : key a < key b) : Op.bytesLess a.toList b.toList = true := (less_iff a b).2 h
theorem less_f {a b : ByteArray} (h : ¬ key a < key b) : Op.bytesLess a.toList b.toList = false := by
  cases hb : Op.bytesLess a.toList b.toList with
  | false => rfl
  | true => exact absurd ((less_iff a b).1 hb) h
def Asc (l : List ByteArray) : Prop := l.Pairwise fun a b => key a ≤ key b
theorem Asc.unique {l m : List ByteArray} (hl : Asc l) (hm : Asc m) (hp : l.Perm m) : l = m :=
  List.Perm.eq_of_pairwise (le := fun a b => key a ≤ key b) (fun a b _ _ h1 h2 => key_inj (List.le_antisymm h1 h2)) hl hm hp
/-- the list in the order of its bytes -/
def sortS (xs : List ByteArray) : List ByteArray := ((xs.map key).mergeSort fun x y => decide (x ≤ y)).map unkey
theorem sortS_len (xs : List ByteArray) : (sortS xs).length = xs.length := by simp [sortS]
theorem sortS_perm (xs : List ByteArray) : (sortS xs).Perm xs := by
  have h := (List.mergeSort_perm (xs.map key) fun x y => decide (x ≤ y)).map unkey
  rw [List.map_map] at h
  have e : (unkey ∘ key : ByteArray → ByteArray) = id := funext unkey_key
  rw [e, List.map_id] at h
  exact h
theorem sortS_asc (xs : List ByteArray) : Asc (sortS xs) := by
  unfold Asc sortS
  rw [List.pairwise_map]
  have h := List.pairwise_mergeSort (le := fun x y : List UInt8 => decide (x ≤ y)) (fun a b c h1 h2 => by
    simp only [decide_eq_true_eq] at *; exact List.le_trans h1 h2) (fun a b => by
    simp only [Bool.or_eq_true, decide_eq_true_eq]; exact List.le_total a b) (xs.map key)
  refine h.imp fun {a b} hab => ?_
  rw [key_unkey, key_unkey]
  simpa using hab
theorem Asc.sortS {l xs : List ByteArray} (h : Asc l) (hp : l.Perm xs) : l = sortS xs := h.unique (sortS_asc xs) (hp.trans (sortS_perm xs).symm)
/-- x goes in ahead of what is greater -/
theorem Asc.put {P S : List ByteArray} {x : ByteArray} (h : Asc (P ++ S)) (hS : ∀ y ∈ S, key x ≤ key y) (hP : ∀ y ∈ P.getLast?, key y ≤ key x) : Asc (P ++ x :: S) := by
  unfold Asc at *
  rw [List.pairwise_append] at h ⊢
  obtain ⟨h1, h2, h3⟩ := h
  refine ⟨h1, List.pairwise_cons.2 ⟨hS, h2⟩, fun a ha b hb => ?_⟩
  have hax : key a ≤ key x := by
    rcases List.eq_nil_or_concat P with rfl | ⟨P', z, rfl⟩
    · cases ha
    · have hz := hP z (by simp)
      rw [List.concat_eq_append, List.mem_append] at ha
      rcases ha with ha | ha
      · rw [List.concat_eq_append, List.pairwise_append] at h1
        exact List.le_trans (h1.2.2 a ha z (by simp)) hz
      · simp at ha; subst ha; exact hz
  rcases List.mem_cons.1 hb with rfl | hb
  · exact hax
  · exact h3 a ha b hb
end Go.Proofs.Ytnifgkgdphlleaa
