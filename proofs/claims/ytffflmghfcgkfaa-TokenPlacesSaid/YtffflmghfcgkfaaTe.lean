/- The walk of the scanner's method blanks: a loop by goto. -/
import Derived.Test.YtffflmghfcgkfaaTd
import Derived.WalkMore
import Derived.ScopeJumps
set_option linter.unusedSimpArgs false
set_option linter.unusedVariables false
namespace Go.Proofs.Ytffflmghfcgkfaa
open Go.RowKit Tk

theorem wp_scope_back {P : Program} {Q : Exit → Act → World → Prop} {a : Act} {w : World} {c rest : Code} (l : Nat) (J : Act → World → Prop) (μ : Act → World → Nat) (hf : findLabel c l = some (.seq .skip rest))
    (pass : ∀ a w, J a w → rest.wp P (Exit.jump l (fun a' w' => J a' w' ∧ μ a' w' < μ a w) Q) a w)
    (first : (∀ a w, J a w → rest.wp P (Exit.jump l J Q) a w) → c.wp P (Exit.jump l J Q) a w) : (Code.scope c).wp P Q a w :=
  wp_scope_jumps l J μ hf (first fun a w h => Code.wp_mono (fun e a' w' h' => by
    cases e
    case goto l' => exact ⟨h'.1, h'.2.1⟩
    all_goals exact h') (pass a w h)) fun a w h => wp_seq (wp_skip (pass a w h))

theorem skipL_at (c : Bool) (l : List UInt8) (k : Nat) (h : k < l.length) : skipL c (l.drop k) = if bi l[k] = 10 then skipL false (l.drop (k + 1)) + 1 else if bi l[k] = 35 then skipL true (l.drop (k + 1)) + 1 else if c = true ∨ bi l[k] = 32 ∨ bi l[k] = 9 then skipL c (l.drop (k + 1)) + 1 else 0 := by
  rw [List.drop_eq_getElem_cons h, skipL]
theorem skipL_end (c : Bool) (l : List UInt8) (k : Nat) (h : l.length ≤ k) : skipL c (l.drop k) = 0 := by
  rw [List.drop_of_length_le h, skipL]
theorem skip_nl (c : Bool) (s : ByteArray) (k : Nat) (h : k < s.size) (hx : (s[k].toNat : Int) = 10) : k + skipL c (s.data.toList.drop k) = (k + 1) + skipL false (s.data.toList.drop (k + 1)) := by
  rw [skipL_at c _ k (by rw [sz]; exact h), at_ s k h, if_pos (show bi s[k] = 10 from hx)]; omega
theorem skip_co (s : ByteArray) (k : Nat) (h : k < s.size) (hx : ¬ (s[k].toNat : Int) = 10) : k + skipL true (s.data.toList.drop k) = (k + 1) + skipL true (s.data.toList.drop (k + 1)) := by
  rw [skipL_at true _ k (by rw [sz]; exact h), at_ s k h, if_neg (show ¬ bi s[k] = 10 from hx)]
  split
  · omega
  · rw [if_pos (.inl rfl)]; omega
theorem skip_bl (s : ByteArray) (k : Nat) (h : k < s.size) (hx : (s[k].toNat : Int) = 32 ∨ (s[k].toNat : Int) = 9) : k + skipL false (s.data.toList.drop k) = (k + 1) + skipL false (s.data.toList.drop (k + 1)) := by
  rw [skipL_at false _ k (by rw [sz]; exact h), at_ s k h, if_neg (by unfold bi; omega), if_neg (by unfold bi; omega), if_pos (.inr hx)]; omega
theorem skip_ha (c : Bool) (s : ByteArray) (k : Nat) (h : k < s.size) (hx : (s[k].toNat : Int) = 35) : k + skipL c (s.data.toList.drop k) = (k + 1) + skipL true (s.data.toList.drop (k + 1)) := by
  rw [skipL_at c _ k (by rw [sz]; exact h), at_ s k h, if_neg (by unfold bi; omega), if_pos (show bi s[k] = 35 from hx)]; omega
theorem skip_no (s : ByteArray) (k : Nat) (h : k < s.size) (h1 : ¬ (s[k].toNat : Int) = 10) (h2 : ¬ (s[k].toNat : Int) = 32) (h3 : ¬ (s[k].toNat : Int) = 9) (h4 : ¬ (s[k].toNat : Int) = 35) : skipL false (s.data.toList.drop k) = 0 := by
  rw [skipL_at false _ k (by rw [sz]; exact h), at_ s k h, if_neg (show ¬ bi s[k] = 10 from h1), if_neg (show ¬ bi s[k] = 35 from h4), if_neg (by rintro (h' | h' | h'); cases h'; exact h2 h'; exact h3 h')]

/-- what holds at the label -/
def BlJ (b : Nat) (src : ByteArray) (k : Nat) (w0 : World) (a : Act) (w : World) : Prop :=
  ∃ (c : Bool) (m : Nat) (u3 u4 u5 u6 u7 u8 u9 u10 u11 u12 u13 u14 u15 u16 u17 u18 u19 u20 u21 u22 u23 u24 u25 : Value),
    a = { tmps := #[.pointer (some ⟨b, 0, none⟩), undef, .bool c, u3, u4, u5, u6, u7, u8, u9, u10, u11, u12, u13, u14, u15, u16, u17, u18, u19, u20, u21, u22, u23, u24, u25], defers := [] } ∧
    m ≤ src.size ∧ Hid (Scn w b src m) ∧ Hid (But b w0 w) ∧ Hid (m + skipL c (src.data.toList.drop m) = k + skipL false (src.data.toList.drop k))
def BlM (src : ByteArray) (a : Act) (w : World) : Nat := src.size - (match w.cell? ⟨match a.tmps.getD 0 undef with | .pointer (some p) => p.block | _ => 0, 1, none⟩ with | some v => (intOf v).toNat | none => 0)
theorem BlM_at {b m : Nat} {src : ByteArray} {w : World} (h : Scn w b src m) (a : Act) (ha : a.tmps.getD 0 undef = .pointer (some ⟨b, 0, none⟩)) : BlM src a w = src.size - m := by
  unfold BlM
  rw [ha]
  dsimp only
  rw [h.c1]
  simp [intOf]

theorem beq_t {x y : Int} (h : x = y) : (x == y) = true := by simpa using h
theorem beq_f {x y : Int} (h : ¬ x = y) : (x == y) = false := by simpa using h

set_option maxRecDepth 100000 in
set_option maxHeartbeats 2000000 in
theorem sblanks_any (b : Nat) (src : ByteArray) (k : Nat) (w : World) (h : Scn w b src k) (hs : src.size ≤ 65536) (hk : k ≤ src.size) :
    Calls Try.prog 33 #[.pointer (some ⟨b, 0, none⟩)] w fun e w' => e = .returned (.tuple #[]) ∧ Scn w' b src (k + skipL false (src.data.toList.drop k)) ∧ But b w w' := by
  have HK : Hid (Scn w b src k) := h
  clear h
  go_enter Try.func33, Try.ntmps33
  go_wp2_with fail
  refine wp_scope_back 0 (BlJ b src k w) (BlM src) rfl ?_ ?_
  · rintro a' w' ⟨c, m, u3, u4, u5, u6, u7, u8, u9, u10, u11, u12, u13, u14, u15, u16, u17, u18, u19, u20, u21, u22, u23, u24, u25, rfl, hm, hS, hB, hT⟩
    by_cases hlt : m < src.size
    · have hle : ¬ src.size ≤ m := by omega
      have step : ∀ (c' : Bool) (w1 : World), m + skipL c (src.data.toList.drop m) = (m + 1) + skipL c' (src.data.toList.drop (m + 1)) → Scn w1 b src (m + 1) → But b w'.drew.drew.drew w1 → ∀ (u3 u4 u5 u6 u7 u8 u9 u10 u11 u12 u13 u14 u15 u16 u17 u18 u19 u20 u21 u22 u23 u24 u25 : Value) (A : Act),
          A.tmps.getD 0 undef = .pointer (some ⟨b, 0, none⟩) →
          BlJ b src k w { tmps := #[.pointer (some ⟨b, 0, none⟩), undef, .bool c', u3, u4, u5, u6, u7, u8, u9, u10, u11, u12, u13, u14, u15, u16, u17, u18, u19, u20, u21, u22, u23, u24, u25], defers := [] } w1 ∧
          BlM src { tmps := #[.pointer (some ⟨b, 0, none⟩), undef, .bool c', u3, u4, u5, u6, u7, u8, u9, u10, u11, u12, u13, u14, u15, u16, u17, u18, u19, u20, u21, u22, u23, u24, u25], defers := [] } w1 < BlM src A w' := by
        intro c' w1 e1 e2 e3 u3 u4 u5 u6 u7 u8 u9 u10 u11 u12 u13 u14 u15 u16 u17 u18 u19 u20 u21 u22 u23 u24 u25 A hA
        refine ⟨⟨c', m + 1, _, _, _, _, _, _, _, _, _, _, _, _, _, _, _, _, _, _, _, _, _, _, _, rfl, by omega, e2, (((hB.out.drew).drew).drew).trans e3, e1.symm.trans hT.out⟩, ?_⟩
        rw [BlM_at e2 _ rfl, BlM_at hS.out _ hA]
        omega
      have STEP := Lib.hid step
      clear step
      by_cases x10 : (src[m].toNat : Int) = 10
      · have X := Lib.hid (skip_nl c src m hlt x10)
        have y1 := beq_t x10
        clear x10
        go_wp2_with (first | (go_at_call 34; ((with_reducible refine (sended_any b src m _ hS.out).mono ?_); rintro e w' ⟨rfl, rfl⟩)) | (go_at_call 51; ((with_reducible refine (snext_any b src m _ hS.out.drew hlt).mono ?_); rintro e w' ⟨rfl, rfl⟩)) | (go_at_call 52; ((with_reducible refine (sskip_one b src m _ hS.out.drew.drew.drew hs ?_).mono ?_); (· omega); rintro e w1 ⟨rfl, hS1, hB1⟩)))
        go_step3
        exact ⟨rfl, STEP.out _ _ X.out hS1 hB1 _ _ _ _ _ _ _ _ _ _ _ _ _ _ _ _ _ _ _ _ _ _ _ _ rfl⟩
      · have y1 := beq_f x10
        cases c
        · by_cases x32 : (src[m].toNat : Int) = 32
          · have X := Lib.hid (skip_bl src m hlt (.inl x32))
            have y2 := beq_t x32
            clear x10 x32
            go_wp2_with (first | (go_at_call 34; ((with_reducible refine (sended_any b src m _ hS.out).mono ?_); rintro e w' ⟨rfl, rfl⟩)) | (go_at_call 51; ((with_reducible refine (snext_any b src m _ hS.out.drew hlt).mono ?_); rintro e w' ⟨rfl, rfl⟩)) | (go_at_call 52; ((with_reducible refine (sskip_one b src m _ hS.out.drew.drew.drew hs ?_).mono ?_); (· omega); rintro e w1 ⟨rfl, hS1, hB1⟩)))
            go_step3
            exact ⟨rfl, STEP.out _ _ X.out hS1 hB1 _ _ _ _ _ _ _ _ _ _ _ _ _ _ _ _ _ _ _ _ _ _ _ _ rfl⟩
          · have y2 := beq_f x32
            by_cases x9 : (src[m].toNat : Int) = 9
            · have X := Lib.hid (skip_bl src m hlt (.inr x9))
              have y3 := beq_t x9
              clear x10 x32 x9
              go_wp2_with (first | (go_at_call 34; ((with_reducible refine (sended_any b src m _ hS.out).mono ?_); rintro e w' ⟨rfl, rfl⟩)) | (go_at_call 51; ((with_reducible refine (snext_any b src m _ hS.out.drew hlt).mono ?_); rintro e w' ⟨rfl, rfl⟩)) | (go_at_call 52; ((with_reducible refine (sskip_one b src m _ hS.out.drew.drew.drew hs ?_).mono ?_); (· omega); rintro e w1 ⟨rfl, hS1, hB1⟩)))
              go_step3
              exact ⟨rfl, STEP.out _ _ X.out hS1 hB1 _ _ _ _ _ _ _ _ _ _ _ _ _ _ _ _ _ _ _ _ _ _ _ _ rfl⟩
            · have y3 := beq_f x9
              by_cases x35 : (src[m].toNat : Int) = 35
              · have X := Lib.hid (skip_ha false src m hlt x35)
                have y4 := beq_t x35
                clear x10 x32 x9 x35
                go_wp2_with (first | (go_at_call 34; ((with_reducible refine (sended_any b src m _ hS.out).mono ?_); rintro e w' ⟨rfl, rfl⟩)) | (go_at_call 51; ((with_reducible refine (snext_any b src m _ hS.out.drew hlt).mono ?_); rintro e w' ⟨rfl, rfl⟩)) | (go_at_call 52; ((with_reducible refine (sskip_one b src m _ hS.out.drew.drew.drew hs ?_).mono ?_); (· omega); rintro e w1 ⟨rfl, hS1, hB1⟩)))
                go_step3
                exact ⟨rfl, STEP.out _ _ X.out hS1 hB1 _ _ _ _ _ _ _ _ _ _ _ _ _ _ _ _ _ _ _ _ _ _ _ _ rfl⟩
              · have y4 := beq_f x35
                have X := Lib.hid (skip_no src m hlt x10 x32 x9 x35)
                clear x10 x32 x9 x35
                go_wp2_with (first | (go_at_call 34; ((with_reducible refine (sended_any b src m _ hS.out).mono ?_); rintro e w' ⟨rfl, rfl⟩)) | (go_at_call 51; ((with_reducible refine (snext_any b src m _ hS.out.drew hlt).mono ?_); rintro e w' ⟨rfl, rfl⟩)) | (go_at_call 52; ((with_reducible refine (sskip_one b src m _ hS.out.drew.drew.drew hs ?_).mono ?_); (· omega); rintro e w1 ⟨rfl, hS1, hB1⟩)))
                simp only [Exit.jump]
                refine bodyPost_ret (results_none rfl _ _ _) rfl ⟨rfl, ?_, ((hB.out.drew).drew).drew⟩
                rw [← hT.out, X.out]
                exact hS.out
        · have X := Lib.hid (skip_co src m hlt x10)
          clear x10
          go_wp2_with (first | (go_at_call 34; ((with_reducible refine (sended_any b src m _ hS.out).mono ?_); rintro e w' ⟨rfl, rfl⟩)) | (go_at_call 51; ((with_reducible refine (snext_any b src m _ hS.out.drew hlt).mono ?_); rintro e w' ⟨rfl, rfl⟩)) | (go_at_call 52; ((with_reducible refine (sskip_one b src m _ hS.out.drew.drew.drew hs ?_).mono ?_); (· omega); rintro e w1 ⟨rfl, hS1, hB1⟩)))
          go_step3
          exact ⟨rfl, STEP.out _ _ X.out hS1 hB1 _ _ _ _ _ _ _ _ _ _ _ _ _ _ _ _ _ _ _ _ _ _ _ _ rfl⟩
    · have hle : src.size ≤ m := by omega
      go_wp2_with (first | (go_at_call 34; ((with_reducible refine (sended_any b src m _ hS.out).mono ?_); rintro e w' ⟨rfl, rfl⟩)))
      simp only [Exit.jump]
      refine bodyPost_ret (results_none rfl _ _ _) rfl ⟨rfl, ?_, hB.out.drew⟩
      rw [← hT.out, skipL_end _ _ _ (by rw [sz]; exact hle)]
      exact hS.out
  · intro pass
    go_wp2_with fail
    go_step3
    go_step
    go_step
    exact pass _ _ ⟨false, k, _, _, _, _, _, _, _, _, _, _, _, _, _, _, _, _, _, _, _, _, _, _, _, rfl, hk, HK, But.refl _ _, rfl⟩
end Go.Proofs.Ytffflmghfcgkfaa
