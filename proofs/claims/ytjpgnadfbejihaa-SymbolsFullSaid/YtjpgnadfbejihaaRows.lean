/-
  No cell of these rows narrows 'for every input' (looked for: loops, veiled, ifaces, maps, wideKeys, modest, calm, conditions, laid).
  DERIVED. THE GIVEN ROWS OF THIS SEAT. 6 by the template 'for every input the law returns true; each argument reads behind the call as it read before'; 0 by the template 'total and deterministic' (their statements: YtjpgnadfbejihaaTotals.lean).
  GIVEN WITH THE SEED: the statements are not yours to turn. If you find one false, say at which input.
  Laid BY PROGRAM, IN A SANDBOX (cutbox-rows.mjs): the forced cells as the released guide's own fill.sh prints them over the translation 3c1be4b4d12b8ffb… (all of the seat's roots in one cut). By AI agents, Wed Nov 11 2026. No macro, syntax, notation, axiom, sorry.
-/
import Derived.Test.YtjpgnadfbejihaaChecked
import GoSem.Claim
import GoSem.ClaimJoined
import GoSem.ClaimMapViews
import Derived.JoinedTies
import Derived.KernelRfl
namespace Go.Proofs.Ytjpgnadfbejihaa
/- THE CELL 'sum', in the pinned program and in every row, IS THE sha256 OF THE DUMP (.gsa) THAT YtjpgnadfbejihaaProg.lean LOADS. Nothing in Lean hashes anything: it is a label: what it is worth is what the hold of that sum in a sandbox is worth. -/
noncomputable def Try.pinned : Pinned := { name := "ytjpgnadfbejihaa", sum := "3c1be4b4d12b8ffbe611a7f353039d39100631be7ae747c48cafec48d8138f37", checked := Try.checked }
namespace Rows
def none {H : Type} : Left H := { results := [], args := [] }

/-- 'accesscontrollaw04.SymbolsFinds': WHATEVER THE INPUT: true; the input reads as it did. -/
def symbolsFindsSpec : ChangeSpec := { name := "symbolsFinds", fn := fun _ => fun
  | [d1, d2, d3] => { results := [.lit (.bool true)], args := [d1, d2, d3] }
  | _ => none }
def symbolsFindsRow : OpenClaim := { program := "ytjpgnadfbejihaa", sum := "3c1be4b4d12b8ffbe611a7f353039d39100631be7ae747c48cafec48d8138f37", func := "accesscontrol/accesscontrollaw04.SymbolsFinds", spec := "symbolsFinds", recurses := true, apart := false }
def SymbolsFindsSaid : Prop := symbolsFindsRow.holds Try.pinned (OpenSpec.ofChange symbolsFindsSpec)

/-- ITS FALSE NEIGHBOUR: 'it returns false'. Refute it at one input. -/
def symbolsFindsWrong : ChangeSpec := { name := "symbolsFinds", fn := fun _ => fun
  | [d1, d2, d3] => { results := [.lit (.bool false)], args := [d1, d2, d3] }
  | _ => none }
def SymbolsFindsWrongFalsely : Prop := symbolsFindsRow.holds Try.pinned (OpenSpec.ofChange symbolsFindsWrong)

/-- 'accesscontrollaw04.SymbolsFull': WHATEVER THE INPUT: true; the input reads as it did. -/
def symbolsFullSpec : ChangeSpec := { name := "symbolsFull", fn := fun _ => fun
  | [d1, d2] => { results := [.lit (.bool true)], args := [d1, d2] }
  | _ => none }
def symbolsFullRow : OpenClaim := { program := "ytjpgnadfbejihaa", sum := "3c1be4b4d12b8ffbe611a7f353039d39100631be7ae747c48cafec48d8138f37", func := "accesscontrol/accesscontrollaw04.SymbolsFull", spec := "symbolsFull", recurses := true, apart := false }
def SymbolsFullSaid : Prop := symbolsFullRow.holds Try.pinned (OpenSpec.ofChange symbolsFullSpec)

/-- ITS FALSE NEIGHBOUR: 'it returns false'. Refute it at one input. -/
def symbolsFullWrong : ChangeSpec := { name := "symbolsFull", fn := fun _ => fun
  | [d1, d2] => { results := [.lit (.bool false)], args := [d1, d2] }
  | _ => none }
def SymbolsFullWrongFalsely : Prop := symbolsFullRow.holds Try.pinned (OpenSpec.ofChange symbolsFullWrong)

/-- 'accesscontrollaw04.SymbolsNumbers': WHATEVER THE INPUT: true; the input reads as it did. -/
def symbolsNumbersSpec : ChangeSpec := { name := "symbolsNumbers", fn := fun _ => fun
  | [d] => { results := [.lit (.bool true)], args := [d] }
  | _ => none }
def symbolsNumbersRow : OpenClaim := { program := "ytjpgnadfbejihaa", sum := "3c1be4b4d12b8ffbe611a7f353039d39100631be7ae747c48cafec48d8138f37", func := "accesscontrol/accesscontrollaw04.SymbolsNumbers", spec := "symbolsNumbers", recurses := true, apart := false }
def SymbolsNumbersSaid : Prop := symbolsNumbersRow.holds Try.pinned (OpenSpec.ofChange symbolsNumbersSpec)

/-- ITS FALSE NEIGHBOUR: 'it returns false'. Refute it at one input. -/
def symbolsNumbersWrong : ChangeSpec := { name := "symbolsNumbers", fn := fun _ => fun
  | [d] => { results := [.lit (.bool false)], args := [d] }
  | _ => none }
def SymbolsNumbersWrongFalsely : Prop := symbolsNumbersRow.holds Try.pinned (OpenSpec.ofChange symbolsNumbersWrong)

/-- 'accesscontrollaw04.SymbolsModel': WHATEVER THE INPUT: true; the input reads as it did. -/
def symbolsModelSpec : ChangeSpec := { name := "symbolsModel", fn := fun _ => fun
  | [d1, d2] => { results := [.lit (.bool true)], args := [d1, d2] }
  | _ => none }
def symbolsModelRow : OpenClaim := { program := "ytjpgnadfbejihaa", sum := "3c1be4b4d12b8ffbe611a7f353039d39100631be7ae747c48cafec48d8138f37", func := "accesscontrol/accesscontrollaw04.SymbolsModel", spec := "symbolsModel", recurses := true, apart := false }
def SymbolsModelSaid : Prop := symbolsModelRow.holds Try.pinned (OpenSpec.ofChange symbolsModelSpec)

/-- ITS FALSE NEIGHBOUR: 'it returns false'. Refute it at one input. -/
def symbolsModelWrong : ChangeSpec := { name := "symbolsModel", fn := fun _ => fun
  | [d1, d2] => { results := [.lit (.bool false)], args := [d1, d2] }
  | _ => none }
def SymbolsModelWrongFalsely : Prop := symbolsModelRow.holds Try.pinned (OpenSpec.ofChange symbolsModelWrong)

/-- 'accesscontrollaw04.SymbolsCopies': WHATEVER THE INPUT: true; the input reads as it did. -/
def symbolsCopiesSpec : ChangeSpec := { name := "symbolsCopies", fn := fun _ => fun
  | [d1, d2] => { results := [.lit (.bool true)], args := [d1, d2] }
  | _ => none }
def symbolsCopiesRow : OpenClaim := { program := "ytjpgnadfbejihaa", sum := "3c1be4b4d12b8ffbe611a7f353039d39100631be7ae747c48cafec48d8138f37", func := "accesscontrol/accesscontrollaw04.SymbolsCopies", spec := "symbolsCopies", recurses := true, apart := false }
def SymbolsCopiesSaid : Prop := symbolsCopiesRow.holds Try.pinned (OpenSpec.ofChange symbolsCopiesSpec)

/-- ITS FALSE NEIGHBOUR: 'it returns false'. Refute it at one input. -/
def symbolsCopiesWrong : ChangeSpec := { name := "symbolsCopies", fn := fun _ => fun
  | [d1, d2] => { results := [.lit (.bool false)], args := [d1, d2] }
  | _ => none }
def SymbolsCopiesWrongFalsely : Prop := symbolsCopiesRow.holds Try.pinned (OpenSpec.ofChange symbolsCopiesWrong)

/-- 'accesscontrollaw04.SymbolsNil': WHATEVER THE INPUT: true; the input reads as it did. -/
def symbolsNilSpec : ChangeSpec := { name := "symbolsNil", fn := fun _ => fun
  | [d1, d2] => { results := [.lit (.bool true)], args := [d1, d2] }
  | _ => none }
def symbolsNilRow : OpenClaim := { program := "ytjpgnadfbejihaa", sum := "3c1be4b4d12b8ffbe611a7f353039d39100631be7ae747c48cafec48d8138f37", func := "accesscontrol/accesscontrollaw04.SymbolsNil", spec := "symbolsNil", recurses := true, apart := false }
def SymbolsNilSaid : Prop := symbolsNilRow.holds Try.pinned (OpenSpec.ofChange symbolsNilSpec)

/-- ITS FALSE NEIGHBOUR: 'it returns false'. Refute it at one input. -/
def symbolsNilWrong : ChangeSpec := { name := "symbolsNil", fn := fun _ => fun
  | [d1, d2] => { results := [.lit (.bool false)], args := [d1, d2] }
  | _ => none }
def SymbolsNilWrongFalsely : Prop := symbolsNilRow.holds Try.pinned (OpenSpec.ofChange symbolsNilWrong)

/- THE SECOND FORM. 'bulk': how many values and letters a reading holds, each counted each time it is reached (what is shared counts as often as it is met; a slice's spare places count too). A statement '..UptoSaid' is the law's where the arguments, and the package variables that the reading takes, are together of bulk at most 1048576: NARROWER than '..Said'. Prove '..Said' where nothing that the law and all that it calls make is longer than what came in: it says more and counts as full. Else prove '..UptoSaid'. A law counts once. -/
mutual
def uptoBulk {H : Type} : DataW H → Nat
  | .lit (.string bytes) => bytes.length + 1
  | .lit _ => 1
  | .nil => 1
  | .ptr d => uptoBulk d + 1
  | .slice elems spare => uptoBulkAll elems + uptoBulkAll spare + 1
  | .agg parts => uptoBulkAll parts + 1
  | .iface _ d => uptoBulk d + 1
  | .map entries => uptoBulkEntries entries + 1
  | .held _ => 1
def uptoBulkAll {H : Type} : List (DataW H) → Nat
  | [] => 0
  | d :: r => uptoBulk d + uptoBulkAll r
def uptoBulkEntries {H : Type} : List (Lit × DataW H) → Nat
  | [] => 0
  | x :: r => uptoBulkEntry x + uptoBulkEntries r
def uptoBulkEntry {H : Type} : Lit × DataW H → Nat
  | (.string bytes, d) => bytes.length + uptoBulk d + 1
  | (_, d) => uptoBulk d + 1
 end
def uptoSmall : (H : Type) → List (DataW H) → Bool := fun _ ds => decide (uptoBulkAll ds ≤ 1048576)
def OpenSpec.upto (s : _root_.Go.ChangeSpec) : _root_.Go.OpenSpec := { _root_.Go.OpenSpec.ofChange s with cond := some uptoSmall }

/-- 'accesscontrollaw04.SymbolsFinds', WHERE WHAT IT READS IS OF BULK AT MOST 1048576: true; the input reads as it did. -/
def symbolsFindsUptoRow : OpenClaim := { program := "ytjpgnadfbejihaa", sum := "3c1be4b4d12b8ffbe611a7f353039d39100631be7ae747c48cafec48d8138f37", func := "accesscontrol/accesscontrollaw04.SymbolsFinds", spec := "symbolsFinds", recurses := true, apart := false, narrowed := true }
def SymbolsFindsUptoSaid : Prop := symbolsFindsUptoRow.holds Try.pinned (OpenSpec.upto symbolsFindsSpec)

/-- 'accesscontrollaw04.SymbolsFull', WHERE WHAT IT READS IS OF BULK AT MOST 1048576: true; the input reads as it did. -/
def symbolsFullUptoRow : OpenClaim := { program := "ytjpgnadfbejihaa", sum := "3c1be4b4d12b8ffbe611a7f353039d39100631be7ae747c48cafec48d8138f37", func := "accesscontrol/accesscontrollaw04.SymbolsFull", spec := "symbolsFull", recurses := true, apart := false, narrowed := true }
def SymbolsFullUptoSaid : Prop := symbolsFullUptoRow.holds Try.pinned (OpenSpec.upto symbolsFullSpec)

/-- 'accesscontrollaw04.SymbolsNumbers', WHERE WHAT IT READS IS OF BULK AT MOST 1048576: true; the input reads as it did. -/
def symbolsNumbersUptoRow : OpenClaim := { program := "ytjpgnadfbejihaa", sum := "3c1be4b4d12b8ffbe611a7f353039d39100631be7ae747c48cafec48d8138f37", func := "accesscontrol/accesscontrollaw04.SymbolsNumbers", spec := "symbolsNumbers", recurses := true, apart := false, narrowed := true }
def SymbolsNumbersUptoSaid : Prop := symbolsNumbersUptoRow.holds Try.pinned (OpenSpec.upto symbolsNumbersSpec)

/-- 'accesscontrollaw04.SymbolsModel', WHERE WHAT IT READS IS OF BULK AT MOST 1048576: true; the input reads as it did. -/
def symbolsModelUptoRow : OpenClaim := { program := "ytjpgnadfbejihaa", sum := "3c1be4b4d12b8ffbe611a7f353039d39100631be7ae747c48cafec48d8138f37", func := "accesscontrol/accesscontrollaw04.SymbolsModel", spec := "symbolsModel", recurses := true, apart := false, narrowed := true }
def SymbolsModelUptoSaid : Prop := symbolsModelUptoRow.holds Try.pinned (OpenSpec.upto symbolsModelSpec)

/-- 'accesscontrollaw04.SymbolsCopies', WHERE WHAT IT READS IS OF BULK AT MOST 1048576: true; the input reads as it did. -/
def symbolsCopiesUptoRow : OpenClaim := { program := "ytjpgnadfbejihaa", sum := "3c1be4b4d12b8ffbe611a7f353039d39100631be7ae747c48cafec48d8138f37", func := "accesscontrol/accesscontrollaw04.SymbolsCopies", spec := "symbolsCopies", recurses := true, apart := false, narrowed := true }
def SymbolsCopiesUptoSaid : Prop := symbolsCopiesUptoRow.holds Try.pinned (OpenSpec.upto symbolsCopiesSpec)

/-- 'accesscontrollaw04.SymbolsNil', WHERE WHAT IT READS IS OF BULK AT MOST 1048576: true; the input reads as it did. -/
def symbolsNilUptoRow : OpenClaim := { program := "ytjpgnadfbejihaa", sum := "3c1be4b4d12b8ffbe611a7f353039d39100631be7ae747c48cafec48d8138f37", func := "accesscontrol/accesscontrollaw04.SymbolsNil", spec := "symbolsNil", recurses := true, apart := false, narrowed := true }
def SymbolsNilUptoSaid : Prop := symbolsNilUptoRow.holds Try.pinned (OpenSpec.upto symbolsNilSpec)

end Rows
end Go.Proofs.Ytjpgnadfbejihaa
