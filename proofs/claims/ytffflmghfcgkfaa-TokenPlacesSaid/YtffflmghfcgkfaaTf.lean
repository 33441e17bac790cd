/- The walks of mark and of the scanner's methods name, number and text. -/
import Derived.Test.YtffflmghfcgkfaaTe
import Derived.Test.YtffflmghfcgkfaaSh
import Derived.Lib.IndexAny
set_option linter.unusedSimpArgs false
set_option linter.unusedVariables false
namespace Go.Proofs.Ytffflmghfcgkfaa
open Go.RowKit Tk

theorem pre_ext (s : ByteArray) (n : Nat) : (s.extract 0 n).toList = s.data.toList.take n := by rw [ext_list]; simp
set_option maxHeartbeats 400000 in
theorem HasPrefix_any (s p : ByteArray) (w : World) : Calls Try.prog 65 #[.string s, .string p] w fun e w' => e = .returned (.bool (s.data.toList.take p.size == p.data.toList)) ∧ w = w' := by
  by_cases h : p.size ≤ s.size
  · go_enter Try.func65, Try.ntmps65
    go_wp2
    go_ret
    refine fin_bool ?_ rfl
    rw [pre_ext, bl]
  · go_enter Try.func65, Try.ntmps65
    go_wp2
    go_ret
    refine fin_bool ?_ rfl
    cases he : s.data.toList.take p.size == p.data.toList
    · rfl
    · rw [beq_iff_eq] at he
      have := congrArg List.length he
      simp at this
      omega

theorem mark_2 (l : List UInt8) (m : List UInt8) (hm : m ∈ marks2) (h : l.take 2 = m) : markN l = 2 := by
  unfold markN; rw [if_pos]; rw [h]; simpa using hm
theorem mark_n (l : List UInt8) (h0 : ¬ l.take 2 = [61, 61]) (h1 : ¬ l.take 2 = [33, 61]) (h2 : ¬ l.take 2 = [38, 38]) (h3 : ¬ l.take 2 = [124, 124]) : markN l = if (match l with | [] => false | c :: _ => marks1.contains c) then 1 else 0 := by
  unfold markN; rw [if_neg (by simp [marks2, h0, h1, h2, h3])]
  cases l <;> rfl
theorem mark_1 (l : List UInt8) (c : UInt8) (hl : 0 < l.length) (hc : l[0] = c) (h0 : ¬ l.take 2 = [61, 61]) (h1 : ¬ l.take 2 = [33, 61]) (h2 : ¬ l.take 2 = [38, 38]) (h3 : ¬ l.take 2 = [124, 124]) : markN l = if (0 : Int) ≤ Lib.indexByte marks1 c then 1 else 0 := by
  rw [mark_n l h0 h1 h2 h3]
  cases l with
  | nil => simp at hl
  | cons d l =>
    simp at hc
    subst hc
    simp only [Lib.contains_iff_indexByte, decide_eq_true_eq]
theorem byte_back (c : UInt8) : ((c.toNat : Int)).toNat.toUInt8 = c := by
  apply UInt8.toNat_inj.1; simp

def tk2 (l : List UInt8) (x y : UInt8) : Bool := l.take 2 == [x, y]
theorem tk2_of {l : List UInt8} {x y : UInt8} (h : tk2 l x y = true) : l.take 2 = [x, y] := by unfold tk2 at h; simpa using h
theorem tk2_no {l : List UInt8} {x y : UInt8} (h : tk2 l x y = false) : ¬ l.take 2 = [x, y] := by unfold tk2 at h; simpa using h
theorem HasPrefix_2 (s : ByteArray) (x y : UInt8) (w : World) : Calls Try.prog 65 #[.string s, .string ⟨#[x, y]⟩] w fun e w' => e = .returned (.bool (tk2 s.data.toList x y)) ∧ w = w' :=
  HasPrefix_any s ⟨#[x, y]⟩ w
theorem IndexByte_marks (c : UInt8) (w : World) : Calls Try.prog 66 #[.string ⟨#[123, 125, 40, 41, 59, 58, 44, 46, 45, 126, 42, 33, 94]⟩, .int .u8 c.toNat] w fun e w' => e = .returned (.int .i64 (Lib.indexByte marks1 c)) ∧ w = w' :=
  (Try.strings_IndexByte _ _ w).mono fun e w' ⟨he, hw⟩ => ⟨by rw [he, byte_back]; rfl, hw.symm⟩
/-- what mark hands back -/
def MarkPost (l : List UInt8) (e : Ending) : Prop := ∃ m : ByteArray, e = .returned (.string m) ∧ m.size = markN l ∧ m.data.toList = l.take (markN l)

set_option maxHeartbeats 1000000 in
theorem mark_any (s : ByteArray) (hs : s.size ≤ maxLen) (w : World) : Calls Try.prog 43 #[.string s] w fun e w' => MarkPost s.data.toList e ∧ Below w.heap.size w w' := by
  have two : ∀ (m : List UInt8), m ∈ marks2 → s.data.toList.take 2 = m → ∀ w1, Below w.heap.size w w1 → MarkPost s.data.toList (.returned (.string ⟨m.toArray⟩)) ∧ Below w.heap.size w w1 := by
    intro m hm he w1 hb
    refine ⟨⟨⟨m.toArray⟩, rfl, ?_, ?_⟩, hb⟩
    · rw [mark_2 _ m hm he]
      simp [marks2] at hm
      rcases hm with rfl | rfl | rfl | rfl <;> rfl
    · rw [mark_2 _ m hm he, he]
  have TWO := Lib.hid two
  clear two
  have hsz : s.size ≤ 9223372036854775807 := by unfold maxLen at hs; omega
  go_enter Try.func43, Try.ntmps43
  go_wp2_with fail
  go_loop [4, 7] (fun m i => ∃ j : Nat, j ≤ 4 ∧ i = .int .i64 j ∧ Hid ((0 < j → tk2 s.data.toList 61 61 = false) ∧ (1 < j → tk2 s.data.toList 33 61 = false) ∧ (2 < j → tk2 s.data.toList 38 38 = false) ∧ (3 < j → tk2 s.data.toList 124 124 = false))) (fun _ i => 4 - (intOf i).toNat)
  case atStart => exact ⟨0, by omega, rfl, by simp [Hid]⟩
  case round =>
    obtain ⟨j, hj, rfl, hall⟩ := hrel
    have hcase : j = 0 ∨ j = 1 ∨ j = 2 ∨ j = 3 ∨ j = 4 := by omega
    rcases hcase with rfl | rfl | rfl | rfl | rfl
    · cases hb : tk2 s.data.toList 61 61
      · have HB := Lib.hid hb
        go_wp2_with (first | (go_at_call 65; ((with_reducible refine (HasPrefix_2 s _ _ _).mono ?_); rintro e w' ⟨rfl, rfl⟩)))
        go_round
        case rel => exact ⟨1, by omega, rfl, (by first | exact fun _ => HB.out | exact fun _ => trivial), fun h => absurd h (by omega), fun h => absurd h (by omega), fun h => absurd h (by omega)⟩
        case measure => simp [intOf]
      · have HB := Lib.hid hb
        go_wp2_with (first | (go_at_call 65; ((with_reducible refine (HasPrefix_2 s _ _ _).mono ?_); rintro e w' ⟨rfl, rfl⟩)))
        go_ret
        exact TWO.out [61, 61] (by simp [marks2]) (tk2_of HB.out) _ ((Below.refl _ _).alloc (Nat.le_refl _) _)
    · cases hb : tk2 s.data.toList 33 61
      · have HB := Lib.hid hb
        go_wp2_with (first | (go_at_call 65; ((with_reducible refine (HasPrefix_2 s _ _ _).mono ?_); rintro e w' ⟨rfl, rfl⟩)))
        go_round
        case rel => exact ⟨2, by omega, rfl, fun _ => hall.out.1 (by omega), (by first | exact fun _ => HB.out | exact fun _ => trivial), fun h => absurd h (by omega), fun h => absurd h (by omega)⟩
        case measure => simp [intOf]
      · have HB := Lib.hid hb
        go_wp2_with (first | (go_at_call 65; ((with_reducible refine (HasPrefix_2 s _ _ _).mono ?_); rintro e w' ⟨rfl, rfl⟩)))
        go_ret
        exact TWO.out [33, 61] (by simp [marks2]) (tk2_of HB.out) _ ((Below.refl _ _).alloc (Nat.le_refl _) _)
    · cases hb : tk2 s.data.toList 38 38
      · have HB := Lib.hid hb
        go_wp2_with (first | (go_at_call 65; ((with_reducible refine (HasPrefix_2 s _ _ _).mono ?_); rintro e w' ⟨rfl, rfl⟩)))
        go_round
        case rel => exact ⟨3, by omega, rfl, fun _ => hall.out.1 (by omega), fun _ => hall.out.2.1 (by omega), (by first | exact fun _ => HB.out | exact fun _ => trivial), fun h => absurd h (by omega)⟩
        case measure => simp [intOf]
      · have HB := Lib.hid hb
        go_wp2_with (first | (go_at_call 65; ((with_reducible refine (HasPrefix_2 s _ _ _).mono ?_); rintro e w' ⟨rfl, rfl⟩)))
        go_ret
        exact TWO.out [38, 38] (by simp [marks2]) (tk2_of HB.out) _ ((Below.refl _ _).alloc (Nat.le_refl _) _)
    · cases hb : tk2 s.data.toList 124 124
      · have HB := Lib.hid hb
        go_wp2_with (first | (go_at_call 65; ((with_reducible refine (HasPrefix_2 s _ _ _).mono ?_); rintro e w' ⟨rfl, rfl⟩)))
        go_round
        case rel => exact ⟨4, by omega, rfl, fun _ => hall.out.1 (by omega), fun _ => hall.out.2.1 (by omega), fun _ => hall.out.2.2.1 (by omega), (by first | exact fun _ => HB.out | exact fun _ => trivial)⟩
        case measure => simp [intOf]
      · have HB := Lib.hid hb
        go_wp2_with (first | (go_at_call 65; ((with_reducible refine (HasPrefix_2 s _ _ _).mono ?_); rintro e w' ⟨rfl, rfl⟩)))
        go_ret
        exact TWO.out [124, 124] (by simp [marks2]) (tk2_of HB.out) _ ((Below.refl _ _).alloc (Nat.le_refl _) _)
    · obtain ⟨h0, h1, h2, h3⟩ := hall.out
      have n0 := tk2_no (h0 (by omega))
      have n1 := tk2_no (h1 (by omega))
      have n2 := tk2_no (h2 (by omega))
      have n3 := tk2_no (h3 (by omega))
      clear h0 h1 h2 h3
      by_cases hp : 0 < s.size
      · have M := Lib.hid (mark_1 s.data.toList s[0] (by rw [sz]; exact hp) (at_ s 0 hp) n0 n1 n2 n3)
        clear n0 n1 n2 n3
        obtain ⟨e1, e2⟩ := some_of hp
        by_cases hi : (0 : Int) ≤ Lib.indexByte marks1 s[0]
        · have hm : markN s.data.toList = 1 := by rw [M.out, if_pos hi]
          have HM := Lib.hid hm
          clear hm M
          go_wp2_with (first | (go_at_call 66; ((with_reducible refine (IndexByte_marks _ _).mono ?_); rintro e w' ⟨rfl, rfl⟩)))
          go_ret
          refine ⟨⟨s.extract 0 1, rfl, ?_, ?_⟩, (Below.refl _ _).alloc (Nat.le_refl _) _⟩
          · rw [HM.out, ByteArray.size_extract]; omega
          · rw [HM.out, ← bl, pre_ext]
        · have hm : markN s.data.toList = 0 := by rw [M.out, if_neg hi]
          have HM := Lib.hid hm
          clear hm M
          go_wp2_with (first | (go_at_call 66; ((with_reducible refine (IndexByte_marks _ _).mono ?_); rintro e w' ⟨rfl, rfl⟩)))
          go_ret
          refine ⟨⟨⟨#[]⟩, rfl, ?_, ?_⟩, (Below.refl _ _).alloc (Nat.le_refl _) _⟩
          · rw [HM.out]; rfl
          · rw [HM.out]; rfl
      · have M := Lib.hid (mark_n s.data.toList n0 n1 n2 n3)
        clear n0 n1 n2 n3
        have e1 := none_of hp
        have hm : markN s.data.toList = 0 := by rw [M.out, isEmpty_no s hp]; rfl
        have HM := Lib.hid hm
        clear hm M
        go_wp2_with (first | (go_at_call 66; ((with_reducible refine (IndexByte_marks _ _).mono ?_); rintro e w' ⟨rfl, rfl⟩)))
        go_ret
        refine ⟨⟨⟨#[]⟩, rfl, ?_, ?_⟩, (Below.refl _ _).alloc (Nat.le_refl _) _⟩
        · rw [HM.out]; rfl
        · rw [HM.out]; rfl
end Go.Proofs.Ytffflmghfcgkfaa
