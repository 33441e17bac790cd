/- Arguments opened with their bulk: lists of symbols, modules. -/
import Derived.Test.YtnifgkgdphlleaaOt
import Derived.Test.YtnifgkgdphlleaaVr
set_option linter.unusedSimpArgs false
set_option linter.unusedVariables false
namespace Go.Proofs.Ytnifgkgdphlleaa
open Go.ChangeShapes Go.WideShapes Go.ChangeAt Go.RowKit Tk
theorem nB_len (l : List ByteArray) : l.length + 1 ≤ nB l := by
  unfold nB
  induction l with
  | nil => simp
  | cons x l ih => simp only [List.map_cons, List.sum_cons, List.length_cons, sB] at ih ⊢; omega
theorem wtU_bk (l : List Sy) : wtU (l.map Sy.ps) ≤ (l.map Sy.bk).sum := by
  unfold wtU
  induction l with
  | nil => simp
  | cons x l ih =>
    have h := nB_len x.perms
    simp only [List.map_cons, List.sum_cons, Sy.bk, Sy.ps] at ih ⊢
    omega
theorem wtU_sum {l : List Sy} {N : Nat} (h : (l.map Sy.bk).sum ≤ N) : wtU (l.map Sy.ps) ≤ N := Nat.le_trans (wtU_bk l) h
section
variable {H : Type} {enc : TypeId × Value → H} {W : World}
set_option maxRecDepth 100000 in
set_option linter.constructorNameAsVariable false in
theorem open_syms {sp : Nat → Bool} {held : Bool} {base : Nat} {r : Reach} {b0 : Nat} {v : Value} {d : DataW H} {ps : List MemPlace} (hval : Value.okWide Try.prog W r b0 54 v) (h : DataW.Trod enc Try.prog W base sp held 54 v d ps) :
    ∃ a n c l, v = .slice a n c ∧ Syms W (.slice a n c) l ∧ (l.map Sy.bk).sum + 1 ≤ Rows.uptoBulk d := by
  obtain ⟨ao, len, cap, rfl⟩ := okWide_slice und_sys2 hval
  obtain ⟨fuel, hf⟩ := h
  obtain ⟨hd, l, hc, hr, hp, hb⟩ := syms_open hf
  simp [Value.cells] at hc
  obtain ⟨rfl, rfl, rfl⟩ := hc
  exact ⟨hd.a, l.length, hd.c, l, rfl, ⟨hr, hp⟩, hb⟩
end
end Go.Proofs.Ytnifgkgdphlleaa
