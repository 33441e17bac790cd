/- Te, Tf -/
import Derived.WalkMore
import Derived.ScopeJumps
import Derived.Test.YtbobbbhgdfapjaaZR1
import Derived.Test.YtbobbbhgdfapjaaZR2
import Derived.Test.YtbobbbhgdfapjaaZR4
import Derived.Test.YtbobbbhgdfapjaaZR5
import Derived.Test.YtbobbbhgdfapjaaZR10
import Derived.Test.YtbobbbhgdfapjaaZR11
import Derived.Test.YtbobbbhgdfapjaaSh
import Derived.Lib.IndexAny
set_option linter.unusedSimpArgs false
set_option linter.unusedVariables false
namespace Go.Proofs.Ytbobbbhgdfapjaa
set_option maxHeartbeats 8000000
set_option maxRecDepth 100000
open Go.RowKit Tk

theorem wp_scope_back {P : Program} {Q : Exit → Act → World → Prop} {a : Act} {w : World} {c rest : Code} (l : Nat) (J : Act → World → Prop) (μ : Act → World → Nat) (hf : findLabel c l = some (.seq .skip rest))
    (pass : ∀ a w, J a w → rest.wp P (Exit.jump l (fun a' w' => J a' w' ∧ μ a' w' < μ a w) Q) a w)
    (first : (∀ a w, J a w → rest.wp P (Exit.jump l J Q) a w) → c.wp P (Exit.jump l J Q) a w) : (Code.scope c).wp P Q a w :=
 wp_scope_jumps l J μ hf (first fun a w h => Code.wp_mono (fun e a' w' h' => by
  cases e
  case goto l' => exact ⟨h'.1, h'.2.1⟩
  all_goals exact h') (pass a w h)) fun a w h => wp_seq (wp_skip (pass a w h))

theorem skipL_at (c : Bool) (l : List UInt8) (k : Nat) (h : k < l.length) : skipL c (l.drop k) = if bi l[k] = 10 then skipL false (l.drop (k + 1)) + 1 else if bi l[k] = 35 then skipL true (l.drop (k + 1)) + 1 else if c = true ∨ bi l[k] = 32 ∨ bi l[k] = 9 then skipL c (l.drop (k + 1)) + 1 else 0 := by
 rw [List.drop_eq_getElem_cons h, skipL]
theorem skipL_end (c : Bool) (l : List UInt8) (k : Nat) (h : l.length ≤ k) : skipL c (l.drop k) = 0 := by
 rw [List.drop_of_length_le h, skipL]
theorem skip_nl (c : Bool) (s : ByteArray) (k : Nat) (h : k < s.size) (hx : (s[k].toNat : Int) = 10) : k + skipL c (s.data.toList.drop k) = (k + 1) + skipL false (s.data.toList.drop (k + 1)) := by
 rw [skipL_at c _ k (by rw [sz]; exact h), at_ s k h, if_pos (show bi s[k] = 10 from hx)]; omega
theorem skip_co (s : ByteArray) (k : Nat) (h : k < s.size) (hx : ¬ (s[k].toNat : Int) = 10) : k + skipL true (s.data.toList.drop k) = (k + 1) + skipL true (s.data.toList.drop (k + 1)) := by
 rw [skipL_at true _ k (by rw [sz]; exact h), at_ s k h, if_neg (show ¬ bi s[k] = 10 from hx)]
 split
 · omega
 · rw [if_pos (.inl rfl)]; omega
theorem skip_bl (s : ByteArray) (k : Nat) (h : k < s.size) (hx : (s[k].toNat : Int) = 32 ∨ (s[k].toNat : Int) = 9) : k + skipL false (s.data.toList.drop k) = (k + 1) + skipL false (s.data.toList.drop (k + 1)) := by
 rw [skipL_at false _ k (by rw [sz]; exact h), at_ s k h, if_neg (by unfold bi; omega), if_neg (by unfold bi; omega), if_pos (.inr hx)]; omega
theorem skip_ha (c : Bool) (s : ByteArray) (k : Nat) (h : k < s.size) (hx : (s[k].toNat : Int) = 35) : k + skipL c (s.data.toList.drop k) = (k + 1) + skipL true (s.data.toList.drop (k + 1)) := by
 rw [skipL_at c _ k (by rw [sz]; exact h), at_ s k h, if_neg (by unfold bi; omega), if_pos (show bi s[k] = 35 from hx)]; omega
theorem skip_no (s : ByteArray) (k : Nat) (h : k < s.size) (h1 : ¬ (s[k].toNat : Int) = 10) (h2 : ¬ (s[k].toNat : Int) = 32) (h3 : ¬ (s[k].toNat : Int) = 9) (h4 : ¬ (s[k].toNat : Int) = 35) : skipL false (s.data.toList.drop k) = 0 := by
 rw [skipL_at false _ k (by rw [sz]; exact h), at_ s k h, if_neg (show ¬ bi s[k] = 10 from h1), if_neg (show ¬ bi s[k] = 35 from h4), if_neg (by rintro (h' | h' | h'); cases h'; exact h2 h'; exact h3 h')]

/-- what holds at the label -/
def BlJ (b : Nat) (src : ByteArray) (k : Nat) (w0 : World) (a : Act) (w : World) : Prop :=
 ∃ (c : Bool) (m : Nat) (u3 u4 u5 u6 u7 u8 u9 u10 u11 u12 u13 u14 u15 u16 u17 u18 u19 u20 u21 u22 u23 u24 u25 : Value),
   a = { tmps := #[.pointer (some ⟨b, 0, none⟩), undef, .bool c, u3, u4, u5, u6, u7, u8, u9, u10, u11, u12, u13, u14, u15, u16, u17, u18, u19, u20, u21, u22, u23, u24, u25], defers := [] } ∧
   m ≤ src.size ∧ Hid (Scn w b src m) ∧ Hid (But b w0 w) ∧ Hid (m + skipL c (src.data.toList.drop m) = k + skipL false (src.data.toList.drop k))
def BlM (src : ByteArray) (a : Act) (w : World) : Nat := src.size - (match w.cell? ⟨match a.tmps.getD 0 undef with | .pointer (some p) => p.block | _ => 0, 1, none⟩ with | some v => (intOf v).toNat | none => 0)
theorem BlM_at {b m : Nat} {src : ByteArray} {w : World} (h : Scn w b src m) (a : Act) (ha : a.tmps.getD 0 undef = .pointer (some ⟨b, 0, none⟩)) : BlM src a w = src.size - m := by
 unfold BlM
 rw [ha]
 dsimp only
 rw [h.c1]
 simp [intOf]

theorem beq_t {x y : Int} (h : x = y) : (x == y) = true := by simpa using h
theorem beq_f {x y : Int} (h : ¬ x = y) : (x == y) = false := by simpa using h

theorem sblanks_any (b : Nat) (src : ByteArray) (k : Nat) (w : World) (h : Scn w b src k) (hs : src.size ≤ 65536) (hk : k ≤ src.size) :
    Calls Try.prog 38 #[.pointer (some ⟨b, 0, none⟩)] w fun e w' => e = .returned (.tuple #[]) ∧ Scn w' b src (k + skipL false (src.data.toList.drop k)) ∧ But b w w' := by
 have HK : Hid (Scn w b src k) := h
 clear h
 go_enter Try.func38, Try.ntmps38
 go_wp2_with fail
 refine wp_scope_back 0 (BlJ b src k w) (BlM src) rfl ?_ ?_
 · rintro a' w' ⟨c, m, u3, u4, u5, u6, u7, u8, u9, u10, u11, u12, u13, u14, u15, u16, u17, u18, u19, u20, u21, u22, u23, u24, u25, rfl, hm, hS, hB, hT⟩
   by_cases hlt : m < src.size
   · have hle : ¬ src.size ≤ m := by omega
     have step : ∀ (c' : Bool) (w1 : World), m + skipL c (src.data.toList.drop m) = (m + 1) + skipL c' (src.data.toList.drop (m + 1)) → Scn w1 b src (m + 1) → But b w'.drew.drew.drew w1 → ∀ (u3 u4 u5 u6 u7 u8 u9 u10 u11 u12 u13 u14 u15 u16 u17 u18 u19 u20 u21 u22 u23 u24 u25 : Value) (A : Act),
         A.tmps.getD 0 undef = .pointer (some ⟨b, 0, none⟩) →
         BlJ b src k w { tmps := #[.pointer (some ⟨b, 0, none⟩), undef, .bool c', u3, u4, u5, u6, u7, u8, u9, u10, u11, u12, u13, u14, u15, u16, u17, u18, u19, u20, u21, u22, u23, u24, u25], defers := [] } w1 ∧
         BlM src { tmps := #[.pointer (some ⟨b, 0, none⟩), undef, .bool c', u3, u4, u5, u6, u7, u8, u9, u10, u11, u12, u13, u14, u15, u16, u17, u18, u19, u20, u21, u22, u23, u24, u25], defers := [] } w1 < BlM src A w' := by
      intro c' w1 e1 e2 e3 u3 u4 u5 u6 u7 u8 u9 u10 u11 u12 u13 u14 u15 u16 u17 u18 u19 u20 u21 u22 u23 u24 u25 A hA
      refine ⟨⟨c', m + 1, _, _, _, _, _, _, _, _, _, _, _, _, _, _, _, _, _, _, _, _, _, _, _, rfl, by omega, e2, (((hB.out.drew).drew).drew).trans e3, e1.symm.trans hT.out⟩, ?_⟩
      rw [BlM_at e2 _ rfl, BlM_at hS.out _ hA]
      omega
     have STEP := Lib.hid step
     clear step
     by_cases x10 : (src[m].toNat : Int) = 10
     · have X := Lib.hid (skip_nl c src m hlt x10)
       have y1 := beq_t x10
       clear x10
       go_wp2_with (first | (go_at_call 39; ((with_reducible refine (sended_any b src m _ hS.out).mono ?_); rintro e w' ⟨rfl, rfl⟩)) | (go_at_call 53; ((with_reducible refine (snext_any b src m _ hS.out.drew hlt).mono ?_); rintro e w' ⟨rfl, rfl⟩)) | (go_at_call 54; ((with_reducible refine (sskip_one b src m _ hS.out.drew.drew.drew hs ?_).mono ?_); (· omega); rintro e w1 ⟨rfl, hS1, hB1⟩)))
       go_step3
       exact ⟨rfl, STEP.out _ _ X.out hS1 hB1 _ _ _ _ _ _ _ _ _ _ _ _ _ _ _ _ _ _ _ _ _ _ _ _ rfl⟩
     · have y1 := beq_f x10
       cases c
       · by_cases x32 : (src[m].toNat : Int) = 32
         · have X := Lib.hid (skip_bl src m hlt (.inl x32))
           have y2 := beq_t x32
           clear x10 x32
           go_wp2_with (first | (go_at_call 39; ((with_reducible refine (sended_any b src m _ hS.out).mono ?_); rintro e w' ⟨rfl, rfl⟩)) | (go_at_call 53; ((with_reducible refine (snext_any b src m _ hS.out.drew hlt).mono ?_); rintro e w' ⟨rfl, rfl⟩)) | (go_at_call 54; ((with_reducible refine (sskip_one b src m _ hS.out.drew.drew.drew hs ?_).mono ?_); (· omega); rintro e w1 ⟨rfl, hS1, hB1⟩)))
           go_step3
           exact ⟨rfl, STEP.out _ _ X.out hS1 hB1 _ _ _ _ _ _ _ _ _ _ _ _ _ _ _ _ _ _ _ _ _ _ _ _ rfl⟩
         · have y2 := beq_f x32
           by_cases x9 : (src[m].toNat : Int) = 9
           · have X := Lib.hid (skip_bl src m hlt (.inr x9))
             have y3 := beq_t x9
             clear x10 x32 x9
             go_wp2_with (first | (go_at_call 39; ((with_reducible refine (sended_any b src m _ hS.out).mono ?_); rintro e w' ⟨rfl, rfl⟩)) | (go_at_call 53; ((with_reducible refine (snext_any b src m _ hS.out.drew hlt).mono ?_); rintro e w' ⟨rfl, rfl⟩)) | (go_at_call 54; ((with_reducible refine (sskip_one b src m _ hS.out.drew.drew.drew hs ?_).mono ?_); (· omega); rintro e w1 ⟨rfl, hS1, hB1⟩)))
             go_step3
             exact ⟨rfl, STEP.out _ _ X.out hS1 hB1 _ _ _ _ _ _ _ _ _ _ _ _ _ _ _ _ _ _ _ _ _ _ _ _ rfl⟩
           · have y3 := beq_f x9
             by_cases x35 : (src[m].toNat : Int) = 35
             · have X := Lib.hid (skip_ha false src m hlt x35)
               have y4 := beq_t x35
               clear x10 x32 x9 x35
               go_wp2_with (first | (go_at_call 39; ((with_reducible refine (sended_any b src m _ hS.out).mono ?_); rintro e w' ⟨rfl, rfl⟩)) | (go_at_call 53; ((with_reducible refine (snext_any b src m _ hS.out.drew hlt).mono ?_); rintro e w' ⟨rfl, rfl⟩)) | (go_at_call 54; ((with_reducible refine (sskip_one b src m _ hS.out.drew.drew.drew hs ?_).mono ?_); (· omega); rintro e w1 ⟨rfl, hS1, hB1⟩)))
               go_step3
               exact ⟨rfl, STEP.out _ _ X.out hS1 hB1 _ _ _ _ _ _ _ _ _ _ _ _ _ _ _ _ _ _ _ _ _ _ _ _ rfl⟩
             · have y4 := beq_f x35
               have X := Lib.hid (skip_no src m hlt x10 x32 x9 x35)
               clear x10 x32 x9 x35
               go_wp2_with (first | (go_at_call 39; ((with_reducible refine (sended_any b src m _ hS.out).mono ?_); rintro e w' ⟨rfl, rfl⟩)) | (go_at_call 53; ((with_reducible refine (snext_any b src m _ hS.out.drew hlt).mono ?_); rintro e w' ⟨rfl, rfl⟩)) | (go_at_call 54; ((with_reducible refine (sskip_one b src m _ hS.out.drew.drew.drew hs ?_).mono ?_); (· omega); rintro e w1 ⟨rfl, hS1, hB1⟩)))
               simp only [Exit.jump]
               refine bodyPost_ret (results_none rfl _ _ _) rfl ⟨rfl, ?_, ((hB.out.drew).drew).drew⟩
               rw [← hT.out, X.out]
               exact hS.out
       · have X := Lib.hid (skip_co src m hlt x10)
         clear x10
         go_wp2_with (first | (go_at_call 39; ((with_reducible refine (sended_any b src m _ hS.out).mono ?_); rintro e w' ⟨rfl, rfl⟩)) | (go_at_call 53; ((with_reducible refine (snext_any b src m _ hS.out.drew hlt).mono ?_); rintro e w' ⟨rfl, rfl⟩)) | (go_at_call 54; ((with_reducible refine (sskip_one b src m _ hS.out.drew.drew.drew hs ?_).mono ?_); (· omega); rintro e w1 ⟨rfl, hS1, hB1⟩)))
         go_step3
         exact ⟨rfl, STEP.out _ _ X.out hS1 hB1 _ _ _ _ _ _ _ _ _ _ _ _ _ _ _ _ _ _ _ _ _ _ _ _ rfl⟩
   · have hle : src.size ≤ m := by omega
     go_wp2_with (first | (go_at_call 39; ((with_reducible refine (sended_any b src m _ hS.out).mono ?_); rintro e w' ⟨rfl, rfl⟩)))
     simp only [Exit.jump]
     refine bodyPost_ret (results_none rfl _ _ _) rfl ⟨rfl, ?_, hB.out.drew⟩
     rw [← hT.out, skipL_end _ _ _ (by rw [sz]; exact hle)]
     exact hS.out
 · intro pass
   go_wp2_with fail
   go_step3
   go_step
   go_step
   exact pass _ _ ⟨false, k, _, _, _, _, _, _, _, _, _, _, _, _, _, _, _, _, _, _, _, _, _, _, _, rfl, hk, HK, But.refl _ _, rfl⟩
open Go.RowKit Tk

theorem pre_ext (s : ByteArray) (n : Nat) : (s.extract 0 n).toList = s.data.toList.take n := by rw [ext_list]; simp
theorem HasPrefix_any (s p : ByteArray) (w : World) : Calls Try.prog 86 #[.string s, .string p] w fun e w' => e = .returned (.bool (s.data.toList.take p.size == p.data.toList)) ∧ w = w' := by
 by_cases h : p.size ≤ s.size
 · go_enter Try.func86, Try.ntmps86
   go_wp2
   go_ret
   refine fin_bool ?_ rfl
   rw [pre_ext, bl]
 · go_enter Try.func86, Try.ntmps86
   go_wp2
   go_ret
   refine fin_bool ?_ rfl
   cases he : s.data.toList.take p.size == p.data.toList
   · rfl
   · rw [beq_iff_eq] at he
     have := congrArg List.length he
     simp at this
     omega

theorem mark_2 (l : List UInt8) (m : List UInt8) (hm : m ∈ marks2) (h : l.take 2 = m) : markN l = 2 := by
 unfold markN; rw [if_pos]; rw [h]; simpa using hm
theorem mark_n (l : List UInt8) (h0 : ¬ l.take 2 = [61, 61]) (h1 : ¬ l.take 2 = [33, 61]) (h2 : ¬ l.take 2 = [38, 38]) (h3 : ¬ l.take 2 = [124, 124]) : markN l = if (match l with | [] => false | c :: _ => marks1.contains c) then 1 else 0 := by
 unfold markN; rw [if_neg (by simp [marks2, h0, h1, h2, h3])]
 cases l <;> rfl
theorem mark_1 (l : List UInt8) (c : UInt8) (hl : 0 < l.length) (hc : l[0] = c) (h0 : ¬ l.take 2 = [61, 61]) (h1 : ¬ l.take 2 = [33, 61]) (h2 : ¬ l.take 2 = [38, 38]) (h3 : ¬ l.take 2 = [124, 124]) : markN l = if (0 : Int) ≤ Lib.indexByte marks1 c then 1 else 0 := by
 rw [mark_n l h0 h1 h2 h3]
 cases l with
 | nil => simp at hl
 | cons d l =>
   simp at hc
   subst hc
   simp only [Lib.contains_iff_indexByte, decide_eq_true_eq]
theorem byte_back (c : UInt8) : ((c.toNat : Int)).toNat.toUInt8 = c := by
 apply UInt8.toNat_inj.1; simp

def tk2 (l : List UInt8) (x y : UInt8) : Bool := l.take 2 == [x, y]
theorem tk2_of {l : List UInt8} {x y : UInt8} (h : tk2 l x y = true) : l.take 2 = [x, y] := by unfold tk2 at h; simpa using h
theorem tk2_no {l : List UInt8} {x y : UInt8} (h : tk2 l x y = false) : ¬ l.take 2 = [x, y] := by unfold tk2 at h; simpa using h
theorem HasPrefix_2 (s : ByteArray) (x y : UInt8) (w : World) : Calls Try.prog 86 #[.string s, .string ⟨#[x, y]⟩] w fun e w' => e = .returned (.bool (tk2 s.data.toList x y)) ∧ w = w' :=
 HasPrefix_any s ⟨#[x, y]⟩ w
theorem IndexByte_marks (c : UInt8) (w : World) : Calls Try.prog 87 #[.string ⟨#[123, 125, 40, 41, 59, 58, 44, 46, 45, 126, 42, 33, 94]⟩, .int .u8 c.toNat] w fun e w' => e = .returned (.int .i64 (Lib.indexByte marks1 c)) ∧ w = w' :=
 (Try.strings_IndexByte _ _ w).mono fun e w' ⟨he, hw⟩ => ⟨by rw [he, byte_back]; rfl, hw.symm⟩
/-- what mark hands back -/
def MarkPost (l : List UInt8) (e : Ending) : Prop := ∃ m : ByteArray, e = .returned (.string m) ∧ m.size = markN l ∧ m.data.toList = l.take (markN l)

theorem mark_any (s : ByteArray) (hs : s.size ≤ maxLen) (w : World) : Calls Try.prog 60 #[.string s] w fun e w' => MarkPost s.data.toList e ∧ Below w.heap.size w w' := by
 have two : ∀ (m : List UInt8), m ∈ marks2 → s.data.toList.take 2 = m → ∀ w1, Below w.heap.size w w1 → MarkPost s.data.toList (.returned (.string ⟨m.toArray⟩)) ∧ Below w.heap.size w w1 := by
  intro m hm he w1 hb
  refine ⟨⟨⟨m.toArray⟩, rfl, ?_, ?_⟩, hb⟩
  · rw [mark_2 _ m hm he]
    simp [marks2] at hm
    rcases hm with rfl | rfl | rfl | rfl <;> rfl
  · rw [mark_2 _ m hm he, he]
 have TWO := Lib.hid two
 clear two
 have hsz : s.size ≤ 9223372036854775807 := by unfold maxLen at hs; omega
 go_enter Try.func60, Try.ntmps60
 go_wp2_with fail
 go_loop [4, 7] (fun m i => ∃ j : Nat, j ≤ 4 ∧ i = .int .i64 j ∧ Hid ((0 < j → tk2 s.data.toList 61 61 = false) ∧ (1 < j → tk2 s.data.toList 33 61 = false) ∧ (2 < j → tk2 s.data.toList 38 38 = false) ∧ (3 < j → tk2 s.data.toList 124 124 = false))) (fun _ i => 4 - (intOf i).toNat)
 case atStart => exact ⟨0, by omega, rfl, by simp [Hid]⟩
 case round =>
  obtain ⟨j, hj, rfl, hall⟩ := hrel
  have hcase : j = 0 ∨ j = 1 ∨ j = 2 ∨ j = 3 ∨ j = 4 := by omega
  rcases hcase with rfl | rfl | rfl | rfl | rfl
  · cases hb : tk2 s.data.toList 61 61
    · have HB := Lib.hid hb
      go_wp2_with (first | (go_at_call 86; ((with_reducible refine (HasPrefix_2 s _ _ _).mono ?_); rintro e w' ⟨rfl, rfl⟩)))
      go_round
      case rel => exact ⟨1, by omega, rfl, (by first | exact fun _ => HB.out | exact fun _ => trivial), fun h => absurd h (by omega), fun h => absurd h (by omega), fun h => absurd h (by omega)⟩
      case measure => simp [intOf]
    · have HB := Lib.hid hb
      go_wp2_with (first | (go_at_call 86; ((with_reducible refine (HasPrefix_2 s _ _ _).mono ?_); rintro e w' ⟨rfl, rfl⟩)))
      go_ret
      exact TWO.out [61, 61] (by simp [marks2]) (tk2_of HB.out) _ ((Below.refl _ _).alloc (Nat.le_refl _) _)
  · cases hb : tk2 s.data.toList 33 61
    · have HB := Lib.hid hb
      go_wp2_with (first | (go_at_call 86; ((with_reducible refine (HasPrefix_2 s _ _ _).mono ?_); rintro e w' ⟨rfl, rfl⟩)))
      go_round
      case rel => exact ⟨2, by omega, rfl, fun _ => hall.out.1 (by omega), (by first | exact fun _ => HB.out | exact fun _ => trivial), fun h => absurd h (by omega), fun h => absurd h (by omega)⟩
      case measure => simp [intOf]
    · have HB := Lib.hid hb
      go_wp2_with (first | (go_at_call 86; ((with_reducible refine (HasPrefix_2 s _ _ _).mono ?_); rintro e w' ⟨rfl, rfl⟩)))
      go_ret
      exact TWO.out [33, 61] (by simp [marks2]) (tk2_of HB.out) _ ((Below.refl _ _).alloc (Nat.le_refl _) _)
  · cases hb : tk2 s.data.toList 38 38
    · have HB := Lib.hid hb
      go_wp2_with (first | (go_at_call 86; ((with_reducible refine (HasPrefix_2 s _ _ _).mono ?_); rintro e w' ⟨rfl, rfl⟩)))
      go_round
      case rel => exact ⟨3, by omega, rfl, fun _ => hall.out.1 (by omega), fun _ => hall.out.2.1 (by omega), (by first | exact fun _ => HB.out | exact fun _ => trivial), fun h => absurd h (by omega)⟩
      case measure => simp [intOf]
    · have HB := Lib.hid hb
      go_wp2_with (first | (go_at_call 86; ((with_reducible refine (HasPrefix_2 s _ _ _).mono ?_); rintro e w' ⟨rfl, rfl⟩)))
      go_ret
      exact TWO.out [38, 38] (by simp [marks2]) (tk2_of HB.out) _ ((Below.refl _ _).alloc (Nat.le_refl _) _)
  · cases hb : tk2 s.data.toList 124 124
    · have HB := Lib.hid hb
      go_wp2_with (first | (go_at_call 86; ((with_reducible refine (HasPrefix_2 s _ _ _).mono ?_); rintro e w' ⟨rfl, rfl⟩)))
      go_round
      case rel => exact ⟨4, by omega, rfl, fun _ => hall.out.1 (by omega), fun _ => hall.out.2.1 (by omega), fun _ => hall.out.2.2.1 (by omega), (by first | exact fun _ => HB.out | exact fun _ => trivial)⟩
      case measure => simp [intOf]
    · have HB := Lib.hid hb
      go_wp2_with (first | (go_at_call 86; ((with_reducible refine (HasPrefix_2 s _ _ _).mono ?_); rintro e w' ⟨rfl, rfl⟩)))
      go_ret
      exact TWO.out [124, 124] (by simp [marks2]) (tk2_of HB.out) _ ((Below.refl _ _).alloc (Nat.le_refl _) _)
  · obtain ⟨h0, h1, h2, h3⟩ := hall.out
    have n0 := tk2_no (h0 (by omega))
    have n1 := tk2_no (h1 (by omega))
    have n2 := tk2_no (h2 (by omega))
    have n3 := tk2_no (h3 (by omega))
    clear h0 h1 h2 h3
    by_cases hp : 0 < s.size
    · have M := Lib.hid (mark_1 s.data.toList s[0] (by rw [sz]; exact hp) (at_ s 0 hp) n0 n1 n2 n3)
      clear n0 n1 n2 n3
      obtain ⟨e1, e2⟩ := some_of hp
      by_cases hi : (0 : Int) ≤ Lib.indexByte marks1 s[0]
      · have hm : markN s.data.toList = 1 := by rw [M.out, if_pos hi]
        have HM := Lib.hid hm
        clear hm M
        go_wp2_with (first | (go_at_call 87; ((with_reducible refine (IndexByte_marks _ _).mono ?_); rintro e w' ⟨rfl, rfl⟩)))
        go_ret
        refine ⟨⟨s.extract 0 1, rfl, ?_, ?_⟩, (Below.refl _ _).alloc (Nat.le_refl _) _⟩
        · rw [HM.out, ByteArray.size_extract]; omega
        · rw [HM.out, ← bl, pre_ext]
      · have hm : markN s.data.toList = 0 := by rw [M.out, if_neg hi]
        have HM := Lib.hid hm
        clear hm M
        go_wp2_with (first | (go_at_call 87; ((with_reducible refine (IndexByte_marks _ _).mono ?_); rintro e w' ⟨rfl, rfl⟩)))
        go_ret
        refine ⟨⟨⟨#[]⟩, rfl, ?_, ?_⟩, (Below.refl _ _).alloc (Nat.le_refl _) _⟩
        · rw [HM.out]; rfl
        · rw [HM.out]; rfl
    · have M := Lib.hid (mark_n s.data.toList n0 n1 n2 n3)
      clear n0 n1 n2 n3
      have e1 := none_of hp
      have hm : markN s.data.toList = 0 := by rw [M.out, isEmpty_no s hp]; rfl
      have HM := Lib.hid hm
      clear hm M
      go_wp2_with (first | (go_at_call 87; ((with_reducible refine (IndexByte_marks _ _).mono ?_); rintro e w' ⟨rfl, rfl⟩)))
      go_ret
      refine ⟨⟨⟨#[]⟩, rfl, ?_, ?_⟩, (Below.refl _ _).alloc (Nat.le_refl _) _⟩
      · rw [HM.out]; rfl
      · rw [HM.out]; rfl
end Go.Proofs.Ytbobbbhgdfapjaa
