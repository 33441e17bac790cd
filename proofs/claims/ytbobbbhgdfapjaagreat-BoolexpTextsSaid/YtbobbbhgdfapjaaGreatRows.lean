/-
  NARROWER THAN 'FOR EVERY INPUT', by the rows' own cells (each row's printed sentence says how): BoolexpChecks: loops · BoolexpValues: loops · BoolexpTexts: loops · BoolexpCompares: loops · BoolexpSimple: loops · BoolexpSimplifies: loops.
  DERIVED. THE GIVEN ROWS OF THIS SEAT. 7 by the template 'for every input the law returns true; each argument reads behind the call as it read before'; 0 by the template 'total and deterministic' (their statements: YtbobbbhgdfapjaaGreatTotals.lean).
  GIVEN WITH THE SEED: the statements are not yours to turn. If you find one false, say at which input.
  Laid BY PROGRAM, IN A SANDBOX (cutbox-rows.mjs): the forced cells as the released guide's own fill.sh prints them over the translation c4885d0028875ce0… (all of the seat's roots in one cut). By AI agents, Wed Nov 11 2026. No macro, syntax, notation, axiom, sorry.
-/
import Derived.Test.YtbobbbhgdfapjaaGreatChecked
import GoSem.Claim
import GoSem.ClaimJoined
import GoSem.ClaimMapViews
import Derived.JoinedTies
import Derived.KernelRfl
namespace Go.Proofs.YtbobbbhgdfapjaaGreat
/- THE CELL 'sum', in the pinned program and in every row, IS THE sha256 OF THE DUMP (.gsa) THAT YtbobbbhgdfapjaaGreatProg.lean LOADS. Nothing in Lean hashes anything: it is a label: what it is worth is what the hold of that sum in a sandbox is worth. -/
noncomputable def Tryz.pinned : Pinned := { name := "ytbobbbhgdfapjaagreat", sum := "c4885d0028875ce020fa869fd766f672030db4effb6a154ab6f168795a2b1739", checked := Tryz.checked }
namespace Rows
def none {H : Type} : Left H := { results := [], args := [] }

/-- 'accesscontrollaw06.BoolexpChecks': WHATEVER THE INPUT: true; the input reads as it did. -/
def boolexpChecksSpec : ChangeSpec := { name := "boolexpChecks", fn := fun _ => fun
  | [d1, d2] => { results := [.lit (.bool true)], args := [d1, d2] }
  | _ => none }
def boolexpChecksRow : OpenClaim := { program := "ytbobbbhgdfapjaagreat", sum := "c4885d0028875ce020fa869fd766f672030db4effb6a154ab6f168795a2b1739", func := "accesscontrol/accesscontrollaw06.BoolexpChecks", spec := "boolexpChecks", inPlace := ["internal/bytealg.IndexByteString"], unfollowed := true, recurses := true, loops := true, apart := false }
def BoolexpChecksSaid : Prop := boolexpChecksRow.holds Tryz.pinned (OpenSpec.ofChange boolexpChecksSpec)

/-- ITS FALSE NEIGHBOUR: 'it returns false'. Refute it at one input. -/
def boolexpChecksWrong : ChangeSpec := { name := "boolexpChecks", fn := fun _ => fun
  | [d1, d2] => { results := [.lit (.bool false)], args := [d1, d2] }
  | _ => none }
def BoolexpChecksWrongFalsely : Prop := boolexpChecksRow.holds Tryz.pinned (OpenSpec.ofChange boolexpChecksWrong)

/-- 'accesscontrollaw06.BoolexpValues': WHATEVER THE INPUT: true; the input reads as it did. -/
def boolexpValuesSpec : ChangeSpec := { name := "boolexpValues", fn := fun _ => fun
  | [d1, d2] => { results := [.lit (.bool true)], args := [d1, d2] }
  | _ => none }
def boolexpValuesRow : OpenClaim := { program := "ytbobbbhgdfapjaagreat", sum := "c4885d0028875ce020fa869fd766f672030db4effb6a154ab6f168795a2b1739", func := "accesscontrol/accesscontrollaw06.BoolexpValues", spec := "boolexpValues", inPlace := ["internal/bytealg.IndexByteString"], unfollowed := true, recurses := true, loops := true, apart := false }
def BoolexpValuesSaid : Prop := boolexpValuesRow.holds Tryz.pinned (OpenSpec.ofChange boolexpValuesSpec)

/-- ITS FALSE NEIGHBOUR: 'it returns false'. Refute it at one input. -/
def boolexpValuesWrong : ChangeSpec := { name := "boolexpValues", fn := fun _ => fun
  | [d1, d2] => { results := [.lit (.bool false)], args := [d1, d2] }
  | _ => none }
def BoolexpValuesWrongFalsely : Prop := boolexpValuesRow.holds Tryz.pinned (OpenSpec.ofChange boolexpValuesWrong)

/-- 'accesscontrollaw06.BoolexpTexts': WHATEVER THE INPUT: true; the input reads as it did. -/
def boolexpTextsSpec : ChangeSpec := { name := "boolexpTexts", fn := fun _ => fun
  | [d1, d2] => { results := [.lit (.bool true)], args := [d1, d2] }
  | _ => none }
def boolexpTextsRow : OpenClaim := { program := "ytbobbbhgdfapjaagreat", sum := "c4885d0028875ce020fa869fd766f672030db4effb6a154ab6f168795a2b1739", func := "accesscontrol/accesscontrollaw06.BoolexpTexts", spec := "boolexpTexts", inPlace := ["internal/bytealg.IndexByteString"], unfollowed := true, recurses := true, loops := true, apart := false }
def BoolexpTextsSaid : Prop := boolexpTextsRow.holds Tryz.pinned (OpenSpec.ofChange boolexpTextsSpec)

/-- ITS FALSE NEIGHBOUR: 'it returns false'. Refute it at one input. -/
def boolexpTextsWrong : ChangeSpec := { name := "boolexpTexts", fn := fun _ => fun
  | [d1, d2] => { results := [.lit (.bool false)], args := [d1, d2] }
  | _ => none }
def BoolexpTextsWrongFalsely : Prop := boolexpTextsRow.holds Tryz.pinned (OpenSpec.ofChange boolexpTextsWrong)

/-- 'accesscontrollaw06.BoolexpTokens': WHATEVER THE INPUT: true; the input reads as it did. -/
def boolexpTokensSpec : ChangeSpec := { name := "boolexpTokens", fn := fun _ => fun
  | [d] => { results := [.lit (.bool true)], args := [d] }
  | _ => none }
def boolexpTokensRow : OpenClaim := { program := "ytbobbbhgdfapjaagreat", sum := "c4885d0028875ce020fa869fd766f672030db4effb6a154ab6f168795a2b1739", func := "accesscontrol/accesscontrollaw06.BoolexpTokens", spec := "boolexpTokens", inPlace := ["internal/bytealg.IndexByteString"], unfollowed := true, recurses := true, apart := false }
def BoolexpTokensSaid : Prop := boolexpTokensRow.holds Tryz.pinned (OpenSpec.ofChange boolexpTokensSpec)

/-- ITS FALSE NEIGHBOUR: 'it returns false'. Refute it at one input. -/
def boolexpTokensWrong : ChangeSpec := { name := "boolexpTokens", fn := fun _ => fun
  | [d] => { results := [.lit (.bool false)], args := [d] }
  | _ => none }
def BoolexpTokensWrongFalsely : Prop := boolexpTokensRow.holds Tryz.pinned (OpenSpec.ofChange boolexpTokensWrong)

/-- 'accesscontrollaw06.BoolexpCompares': WHATEVER THE INPUT: true; the input reads as it did. -/
def boolexpComparesSpec : ChangeSpec := { name := "boolexpCompares", fn := fun _ => fun
  | [d1, d2] => { results := [.lit (.bool true)], args := [d1, d2] }
  | _ => none }
def boolexpComparesRow : OpenClaim := { program := "ytbobbbhgdfapjaagreat", sum := "c4885d0028875ce020fa869fd766f672030db4effb6a154ab6f168795a2b1739", func := "accesscontrol/accesscontrollaw06.BoolexpCompares", spec := "boolexpCompares", inPlace := ["internal/bytealg.IndexByteString"], unfollowed := true, recurses := true, loops := true, apart := false }
def BoolexpComparesSaid : Prop := boolexpComparesRow.holds Tryz.pinned (OpenSpec.ofChange boolexpComparesSpec)

/-- ITS FALSE NEIGHBOUR: 'it returns false'. Refute it at one input. -/
def boolexpComparesWrong : ChangeSpec := { name := "boolexpCompares", fn := fun _ => fun
  | [d1, d2] => { results := [.lit (.bool false)], args := [d1, d2] }
  | _ => none }
def BoolexpComparesWrongFalsely : Prop := boolexpComparesRow.holds Tryz.pinned (OpenSpec.ofChange boolexpComparesWrong)

/-- 'accesscontrollaw06.BoolexpSimple': WHATEVER THE INPUT: true; the input reads as it did. -/
def boolexpSimpleSpec : ChangeSpec := { name := "boolexpSimple", fn := fun _ => fun
  | [d] => { results := [.lit (.bool true)], args := [d] }
  | _ => none }
def boolexpSimpleRow : OpenClaim := { program := "ytbobbbhgdfapjaagreat", sum := "c4885d0028875ce020fa869fd766f672030db4effb6a154ab6f168795a2b1739", func := "accesscontrol/accesscontrollaw06.BoolexpSimple", spec := "boolexpSimple", inPlace := ["internal/bytealg.IndexByteString"], unfollowed := true, recurses := true, loops := true, apart := false }
def BoolexpSimpleSaid : Prop := boolexpSimpleRow.holds Tryz.pinned (OpenSpec.ofChange boolexpSimpleSpec)

/-- ITS FALSE NEIGHBOUR: 'it returns false'. Refute it at one input. -/
def boolexpSimpleWrong : ChangeSpec := { name := "boolexpSimple", fn := fun _ => fun
  | [d] => { results := [.lit (.bool false)], args := [d] }
  | _ => none }
def BoolexpSimpleWrongFalsely : Prop := boolexpSimpleRow.holds Tryz.pinned (OpenSpec.ofChange boolexpSimpleWrong)

/-- 'accesscontrollaw06.BoolexpSimplifies': WHATEVER THE INPUT: true; the input reads as it did. -/
def boolexpSimplifiesSpec : ChangeSpec := { name := "boolexpSimplifies", fn := fun _ => fun
  | [d1, d2] => { results := [.lit (.bool true)], args := [d1, d2] }
  | _ => none }
def boolexpSimplifiesRow : OpenClaim := { program := "ytbobbbhgdfapjaagreat", sum := "c4885d0028875ce020fa869fd766f672030db4effb6a154ab6f168795a2b1739", func := "accesscontrol/accesscontrollaw06.BoolexpSimplifies", spec := "boolexpSimplifies", inPlace := ["internal/bytealg.IndexByteString"], unfollowed := true, recurses := true, loops := true, apart := false }
def BoolexpSimplifiesSaid : Prop := boolexpSimplifiesRow.holds Tryz.pinned (OpenSpec.ofChange boolexpSimplifiesSpec)

/-- ITS FALSE NEIGHBOUR: 'it returns false'. Refute it at one input. -/
def boolexpSimplifiesWrong : ChangeSpec := { name := "boolexpSimplifies", fn := fun _ => fun
  | [d1, d2] => { results := [.lit (.bool false)], args := [d1, d2] }
  | _ => none }
def BoolexpSimplifiesWrongFalsely : Prop := boolexpSimplifiesRow.holds Tryz.pinned (OpenSpec.ofChange boolexpSimplifiesWrong)

/- THE SECOND FORM. 'bulk': how many values and letters a reading holds, each counted each time it is reached (what is shared counts as often as it is met; a slice's spare places count too). A statement '..UptoSaid' is the law's where the arguments, and the package variables that the reading takes, are together of bulk at most 1048576: NARROWER than '..Said'. Prove '..Said' where nothing that the law and all that it calls make is longer than what came in: it says more and counts as full. Else prove '..UptoSaid'. A law counts once. -/
mutual
def uptoBulk {H : Type} : DataW H → Nat
  | .lit (.string bytes) => bytes.length + 1
  | .lit _ => 1
  | .nil => 1
  | .ptr d => uptoBulk d + 1
  | .slice elems spare => uptoBulkAll elems + uptoBulkAll spare + 1
  | .agg parts => uptoBulkAll parts + 1
  | .iface _ d => uptoBulk d + 1
  | .map entries => uptoBulkEntries entries + 1
  | .held _ => 1
def uptoBulkAll {H : Type} : List (DataW H) → Nat
  | [] => 0
  | d :: r => uptoBulk d + uptoBulkAll r
def uptoBulkEntries {H : Type} : List (Lit × DataW H) → Nat
  | [] => 0
  | x :: r => uptoBulkEntry x + uptoBulkEntries r
def uptoBulkEntry {H : Type} : Lit × DataW H → Nat
  | (.string bytes, d) => bytes.length + uptoBulk d + 1
  | (_, d) => uptoBulk d + 1
 end
def uptoSmall : (H : Type) → List (DataW H) → Bool := fun _ ds => decide (uptoBulkAll ds ≤ 1048576)
def OpenSpec.upto (s : _root_.Go.ChangeSpec) : _root_.Go.OpenSpec := { _root_.Go.OpenSpec.ofChange s with cond := some uptoSmall }

/-- 'accesscontrollaw06.BoolexpChecks', WHERE WHAT IT READS IS OF BULK AT MOST 1048576: true; the input reads as it did. -/
def boolexpChecksUptoRow : OpenClaim := { program := "ytbobbbhgdfapjaagreat", sum := "c4885d0028875ce020fa869fd766f672030db4effb6a154ab6f168795a2b1739", func := "accesscontrol/accesscontrollaw06.BoolexpChecks", spec := "boolexpChecks", inPlace := ["internal/bytealg.IndexByteString"], unfollowed := true, recurses := true, loops := true, apart := false, narrowed := true }
def BoolexpChecksUptoSaid : Prop := boolexpChecksUptoRow.holds Tryz.pinned (OpenSpec.upto boolexpChecksSpec)

/-- 'accesscontrollaw06.BoolexpValues', WHERE WHAT IT READS IS OF BULK AT MOST 1048576: true; the input reads as it did. -/
def boolexpValuesUptoRow : OpenClaim := { program := "ytbobbbhgdfapjaagreat", sum := "c4885d0028875ce020fa869fd766f672030db4effb6a154ab6f168795a2b1739", func := "accesscontrol/accesscontrollaw06.BoolexpValues", spec := "boolexpValues", inPlace := ["internal/bytealg.IndexByteString"], unfollowed := true, recurses := true, loops := true, apart := false, narrowed := true }
def BoolexpValuesUptoSaid : Prop := boolexpValuesUptoRow.holds Tryz.pinned (OpenSpec.upto boolexpValuesSpec)

/-- 'accesscontrollaw06.BoolexpTexts', WHERE WHAT IT READS IS OF BULK AT MOST 1048576: true; the input reads as it did. -/
def boolexpTextsUptoRow : OpenClaim := { program := "ytbobbbhgdfapjaagreat", sum := "c4885d0028875ce020fa869fd766f672030db4effb6a154ab6f168795a2b1739", func := "accesscontrol/accesscontrollaw06.BoolexpTexts", spec := "boolexpTexts", inPlace := ["internal/bytealg.IndexByteString"], unfollowed := true, recurses := true, loops := true, apart := false, narrowed := true }
def BoolexpTextsUptoSaid : Prop := boolexpTextsUptoRow.holds Tryz.pinned (OpenSpec.upto boolexpTextsSpec)

/-- 'accesscontrollaw06.BoolexpTokens', WHERE WHAT IT READS IS OF BULK AT MOST 1048576: true; the input reads as it did. -/
def boolexpTokensUptoRow : OpenClaim := { program := "ytbobbbhgdfapjaagreat", sum := "c4885d0028875ce020fa869fd766f672030db4effb6a154ab6f168795a2b1739", func := "accesscontrol/accesscontrollaw06.BoolexpTokens", spec := "boolexpTokens", inPlace := ["internal/bytealg.IndexByteString"], unfollowed := true, recurses := true, apart := false, narrowed := true }
def BoolexpTokensUptoSaid : Prop := boolexpTokensUptoRow.holds Tryz.pinned (OpenSpec.upto boolexpTokensSpec)

/-- 'accesscontrollaw06.BoolexpCompares', WHERE WHAT IT READS IS OF BULK AT MOST 1048576: true; the input reads as it did. -/
def boolexpComparesUptoRow : OpenClaim := { program := "ytbobbbhgdfapjaagreat", sum := "c4885d0028875ce020fa869fd766f672030db4effb6a154ab6f168795a2b1739", func := "accesscontrol/accesscontrollaw06.BoolexpCompares", spec := "boolexpCompares", inPlace := ["internal/bytealg.IndexByteString"], unfollowed := true, recurses := true, loops := true, apart := false, narrowed := true }
def BoolexpComparesUptoSaid : Prop := boolexpComparesUptoRow.holds Tryz.pinned (OpenSpec.upto boolexpComparesSpec)

/-- 'accesscontrollaw06.BoolexpSimple', WHERE WHAT IT READS IS OF BULK AT MOST 1048576: true; the input reads as it did. -/
def boolexpSimpleUptoRow : OpenClaim := { program := "ytbobbbhgdfapjaagreat", sum := "c4885d0028875ce020fa869fd766f672030db4effb6a154ab6f168795a2b1739", func := "accesscontrol/accesscontrollaw06.BoolexpSimple", spec := "boolexpSimple", inPlace := ["internal/bytealg.IndexByteString"], unfollowed := true, recurses := true, loops := true, apart := false, narrowed := true }
def BoolexpSimpleUptoSaid : Prop := boolexpSimpleUptoRow.holds Tryz.pinned (OpenSpec.upto boolexpSimpleSpec)

/-- 'accesscontrollaw06.BoolexpSimplifies', WHERE WHAT IT READS IS OF BULK AT MOST 1048576: true; the input reads as it did. -/
def boolexpSimplifiesUptoRow : OpenClaim := { program := "ytbobbbhgdfapjaagreat", sum := "c4885d0028875ce020fa869fd766f672030db4effb6a154ab6f168795a2b1739", func := "accesscontrol/accesscontrollaw06.BoolexpSimplifies", spec := "boolexpSimplifies", inPlace := ["internal/bytealg.IndexByteString"], unfollowed := true, recurses := true, loops := true, apart := false, narrowed := true }
def BoolexpSimplifiesUptoSaid : Prop := boolexpSimplifiesUptoRow.holds Tryz.pinned (OpenSpec.upto boolexpSimplifiesSpec)

end Rows
end Go.Proofs.YtbobbbhgdfapjaaGreat
