/- Small functions of scope: name spaces, lists of names. -/
import Derived.Test.YtnifgkgdphlleaaV1
import Derived.Deep.Cut
import Derived.Outline
set_option linter.unusedSimpArgs false
set_option linter.unusedVariables false
namespace Go.Proofs.Ytnifgkgdphlleaa
open Go.RowKit Tk
def IPost (n : Int) (w : World) (e : Ending) (w' : World) : Prop := e = .returned (.int .i64 n) ∧ Below w.heap.size w w'
def spC (k : Int) : Int := if k = 3 ∨ k = 0 then 2 else k
def spR (k : Int) : Int := if k = 3 then 2 else k
def objT : List UInt8 := [111, 98, 106, 101, 99, 116, 95, 114]
def isObj (k : Int) (n : ByteArray) : Bool := (k == 4) && (n.toList == objT)
def kindP (k : Int) : Int := if k = 1 then 1 else if k = 2 then 2 else if k = 3 then 3 else if k = 5 then 4 else if k = 8 then 5 else if k = 9 then 6 else if k = 10 then 7 else if k = 11 then 8 else 0
theorem space_any (k : Int) (w : World) : Calls Try.prog 34 #[.int .i64 k] w (IPost (spC k) w) := by
  unfold spC
  by_cases h1 : k = 3
  · obtain ⟨g1, g2⟩ := kd_t h1
    have H1 := Lib.hid h1
    rw [if_pos (.inl h1)]
    clear h1
    go_enter Try.func34, Try.ntmps34
    have E := Only.refl [] w
    go_upto_region 9999 with (first | fail)
    go_ret
    exact ⟨rfl, E.low⟩
  · obtain ⟨g1, g2⟩ := kd_f h1
    by_cases h2 : k = 0
    · obtain ⟨g3, g4⟩ := kd_t h2
      rw [if_pos (.inr h2)]
      have H1 := Lib.hid h1
      have H2 := Lib.hid h2
      clear h1 h2
      go_enter Try.func34, Try.ntmps34
      have E := Only.refl [] w
      go_upto_region 9999 with (first | fail)
      go_ret
      exact ⟨rfl, E.low⟩
    · obtain ⟨g3, g4⟩ := kd_f h2
      rw [if_neg (by omega)]
      have H1 := Lib.hid h1
      have H2 := Lib.hid h2
      clear h1 h2
      go_enter Try.func34, Try.ntmps34
      have E := Only.refl [] w
      go_upto_region 9999 with (first | fail)
      go_ret
      exact ⟨rfl, E.low⟩
theorem objRole_any (k : Int) (n : ByteArray) (w : World) : Calls Try.prog 18 #[.int .i64 k, .string n] w (BPost (isObj k n) w) := by
  unfold isObj objT
  by_cases h1 : k = 4
  · obtain ⟨g1, g2⟩ := kd_t h1
    have H1 := Lib.hid h1
    clear h1
    rw [g1, Bool.true_and]
    go_enter Try.func18, Try.ntmps18
    have E := Only.refl [] w
    go_upto_region 9999 with (first | fail)
    go_ret
    exact ⟨rfl, E.low⟩
  · obtain ⟨g1, g2⟩ := kd_f h1
    have H1 := Lib.hid h1
    clear h1
    rw [g1, Bool.false_and]
    go_enter Try.func18, Try.ntmps18
    have E := Only.refl [] w
    go_upto_region 9999 with (first | fail)
    go_ret
    exact ⟨rfl, E.low⟩
set_option maxHeartbeats 1000000 in
theorem declares_any (s : St) (w : World) : Calls Try.prog 44 #[.agg (stC s).toArray] w (IPost (kindP s.h.kind) w) := by
  unfold kindP
  obtain ⟨k, hk⟩ : ∃ k, s.h.kind = k := ⟨_, rfl⟩
  by_cases hin : k = 1 ∨ k = 2 ∨ k = 3 ∨ k = 5 ∨ k = 8 ∨ k = 9 ∨ k = 10 ∨ k = 11
  · rcases hin with rfl | rfl | rfl | rfl | rfl | rfl | rfl | rfl
    all_goals
      go_enter Try.func44, Try.ntmps44
      have E := Only.refl [] w
      go_upto_region 9999 with (first | ((with_reducible refine at_dst 1 ?_); go_simp; (generalize hX1 : Array.size (World.heap _) = X1); refine new_block hX1 ?_; intro wn bb hx; (try (have z1 := Nat.le_trans E.size (Nat.le_of_eq hX1))); have b1 := Loc.new bb E hX1; clear bb hX1; (try replace E := E.ext hx); (try (clear hcE hfE)); (try (have hcf := bcell E.low; obtain ⟨hcE, hfE⟩ := hcf)); (try (clear c1 f1)); (try (have c1 := b1.cell; have f1 := b1.free))))
      go_ret
      exact ⟨rfl, E.low⟩
  · simp only [not_or] at hin
    obtain ⟨n1, n2, n3, n4, n5, n6, n7, n8⟩ := hin
    obtain ⟨g1, -⟩ := kd_f n1
    obtain ⟨g2, -⟩ := kd_f n2
    obtain ⟨g3, -⟩ := kd_f n3
    obtain ⟨g4, -⟩ := kd_f n4
    obtain ⟨g5, -⟩ := kd_f n5
    obtain ⟨g6, -⟩ := kd_f n6
    obtain ⟨g7, -⟩ := kd_f n7
    obtain ⟨g8, -⟩ := kd_f n8
    go_enter Try.func44, Try.ntmps44
    have E := Only.refl [] w
    go_upto_region 9999 with (first | ((with_reducible refine at_dst 1 ?_); go_simp; (generalize hX1 : Array.size (World.heap _) = X1); refine new_block hX1 ?_; intro wn bb hx; (try (have z1 := Nat.le_trans E.size (Nat.le_of_eq hX1))); have b1 := Loc.new bb E hX1; clear bb hX1; (try replace E := E.ext hx); (try (clear hcE hfE)); (try (have hcf := bcell E.low; obtain ⟨hcE, hfE⟩ := hcf)); (try (clear c1 f1)); (try (have c1 := b1.cell; have f1 := b1.free))))
    go_ret
    exact ⟨by simp only [n1, n2, n3, n4, n5, n6, n7, n8, if_false]; rfl, E.low⟩
end Go.Proofs.Ytnifgkgdphlleaa
