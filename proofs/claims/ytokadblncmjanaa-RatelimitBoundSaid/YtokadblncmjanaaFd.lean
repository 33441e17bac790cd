/- A slice of integers, as it is read. -/
import Derived.Test.YtokadblncmjanaaFs
import Derived.Test.YtokadblncmjanaaRy
set_option linter.unusedSimpArgs false
set_option linter.unusedVariables false
namespace Go.Proofs.Ytokadblncmjanaa
open Go.ChangeShapes Go.WideShapes Go.ChangeAt Go.RowKit Tk
section
variable {H : Type} {enc : TypeId × Value → H} {W : World}
theorem cells_int {fuel : Nat} {base : Nat} {sp : Nat → Bool} {held : Bool} {cs : List Value} {x : DataW H × List MemPlace} (h : DataW.trod enc Try.prog W base sp held fuel 3 cs = some x) :
    ∃ s : Int, cs = intC s ∧ True ∧ (intC s).length = 1 := by
  obtain ⟨m, hm, _⟩ := DataW.trod_int Try.underlying3 h
  exact ⟨m, hm, trivial, rfl⟩
theorem open_ints {sp : Nat → Bool} {held : Bool} {base : Nat} {r : Reach} {b0 : Nat} {v : Value} {d : DataW H} {ps : List MemPlace} (hval : Value.okWide Try.prog W r b0 22 v) (h : DataW.Trod enc Try.prog W base sp held 22 v d ps) :
    ∃ l, RRow W 1 intC v l := by
  obtain ⟨l, h1, _⟩ := open_rrow (f := intC) (ok := fun _ => True) und_ints one_int (by omega) 0 cells_int hval h
  exact ⟨l, h1⟩
end
end Go.Proofs.Ytokadblncmjanaa
