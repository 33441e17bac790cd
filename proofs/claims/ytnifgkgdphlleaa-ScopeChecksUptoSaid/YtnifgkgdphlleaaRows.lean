/-
  NARROWER THAN 'FOR EVERY INPUT', by the rows' own cells (each row's printed sentence says how): ScopeChecks: loops · ScopeAdds: loops.
  DERIVED. THE GIVEN ROWS OF THIS SEAT. 3 by the template 'for every input the law returns true; each argument reads behind the call as it read before'; 0 by the template 'total and deterministic' (their statements: YtnifgkgdphlleaaTotals.lean).
  GIVEN WITH THE SEED: the statements are not yours to turn. If you find one false, say at which input.
  Laid BY PROGRAM, IN A SANDBOX (cutbox-rows.mjs): the forced cells as the released guide's own fill.sh prints them over the translation bce3baecf497de81… (all of the seat's roots in one cut). By AI agents, Wed Nov 11 2026. No macro, syntax, notation, axiom, sorry.
-/
import Derived.Test.YtnifgkgdphlleaaChecked
import GoSem.Claim
import GoSem.ClaimJoined
import GoSem.ClaimMapViews
import Derived.JoinedTies
import Derived.KernelRfl
namespace Go.Proofs.Ytnifgkgdphlleaa
/- THE CELL 'sum', in the pinned program and in every row, IS THE sha256 OF THE DUMP (.gsa) THAT YtnifgkgdphlleaaProg.lean LOADS. Nothing in Lean hashes anything: it is a label: what it is worth is what the hold of that sum in a sandbox is worth. -/
noncomputable def Try.pinned : Pinned := { name := "ytnifgkgdphlleaa", sum := "bce3baecf497de81d7730e6295d151103a635b38a2def13562fa1eccc11364fa", checked := Try.checked }
namespace Rows
def none {H : Type} : Left H := { results := [], args := [] }

/-- 'accesscontrollaw10.ScopeChecks': WHATEVER THE INPUT: true; the input reads as it did. -/
def scopeChecksSpec : ChangeSpec := { name := "scopeChecks", fn := fun _ => fun
  | [d] => { results := [.lit (.bool true)], args := [d] }
  | _ => none }
def scopeChecksRow : OpenClaim := { program := "ytnifgkgdphlleaa", sum := "bce3baecf497de81d7730e6295d151103a635b38a2def13562fa1eccc11364fa", func := "accesscontrol/accesscontrollaw10.ScopeChecks", spec := "scopeChecks", unfollowed := true, recurses := true, loops := true, plainKeys := false, apart := false }
def ScopeChecksSaid : Prop := scopeChecksRow.holds Try.pinned (OpenSpec.ofChange scopeChecksSpec)

/-- ITS FALSE NEIGHBOUR: 'it returns false'. Refute it at one input. -/
def scopeChecksWrong : ChangeSpec := { name := "scopeChecks", fn := fun _ => fun
  | [d] => { results := [.lit (.bool false)], args := [d] }
  | _ => none }
def ScopeChecksWrongFalsely : Prop := scopeChecksRow.holds Try.pinned (OpenSpec.ofChange scopeChecksWrong)

/-- 'accesscontrollaw10.ScopeAdds': WHATEVER THE INPUT: true; the input reads as it did. -/
def scopeAddsSpec : ChangeSpec := { name := "scopeAdds", fn := fun _ => fun
  | [d1, d2] => { results := [.lit (.bool true)], args := [d1, d2] }
  | _ => none }
def scopeAddsRow : OpenClaim := { program := "ytnifgkgdphlleaa", sum := "bce3baecf497de81d7730e6295d151103a635b38a2def13562fa1eccc11364fa", func := "accesscontrol/accesscontrollaw10.ScopeAdds", spec := "scopeAdds", unfollowed := true, recurses := true, loops := true, plainKeys := false, apart := false }
def ScopeAddsSaid : Prop := scopeAddsRow.holds Try.pinned (OpenSpec.ofChange scopeAddsSpec)

/-- ITS FALSE NEIGHBOUR: 'it returns false'. Refute it at one input. -/
def scopeAddsWrong : ChangeSpec := { name := "scopeAdds", fn := fun _ => fun
  | [d1, d2] => { results := [.lit (.bool false)], args := [d1, d2] }
  | _ => none }
def ScopeAddsWrongFalsely : Prop := scopeAddsRow.holds Try.pinned (OpenSpec.ofChange scopeAddsWrong)

/-- 'accesscontrollaw10.ScopeGrows': WHATEVER THE INPUT: true; the input reads as it did. -/
def scopeGrowsSpec : ChangeSpec := { name := "scopeGrows", fn := fun _ => fun
  | [d1, d2, d3] => { results := [.lit (.bool true)], args := [d1, d2, d3] }
  | _ => none }
def scopeGrowsRow : OpenClaim := { program := "ytnifgkgdphlleaa", sum := "bce3baecf497de81d7730e6295d151103a635b38a2def13562fa1eccc11364fa", func := "accesscontrol/accesscontrollaw10.ScopeGrows", spec := "scopeGrows", unfollowed := true, recurses := true, plainKeys := false, apart := false }
def ScopeGrowsSaid : Prop := scopeGrowsRow.holds Try.pinned (OpenSpec.ofChange scopeGrowsSpec)

/-- ITS FALSE NEIGHBOUR: 'it returns false'. Refute it at one input. -/
def scopeGrowsWrong : ChangeSpec := { name := "scopeGrows", fn := fun _ => fun
  | [d1, d2, d3] => { results := [.lit (.bool false)], args := [d1, d2, d3] }
  | _ => none }
def ScopeGrowsWrongFalsely : Prop := scopeGrowsRow.holds Try.pinned (OpenSpec.ofChange scopeGrowsWrong)

/- THE SECOND FORM. 'bulk': how many values and letters a reading holds, each counted each time it is reached (what is shared counts as often as it is met; a slice's spare places count too). A statement '..UptoSaid' is the law's where the arguments, and the package variables that the reading takes, are together of bulk at most 1048576: NARROWER than '..Said'. Prove '..Said' where nothing that the law and all that it calls make is longer than what came in: it says more and counts as full. Else prove '..UptoSaid'. A law counts once. -/
mutual
def uptoBulk {H : Type} : DataW H → Nat
  | .lit (.string bytes) => bytes.length + 1
  | .lit _ => 1
  | .nil => 1
  | .ptr d => uptoBulk d + 1
  | .slice elems spare => uptoBulkAll elems + uptoBulkAll spare + 1
  | .agg parts => uptoBulkAll parts + 1
  | .iface _ d => uptoBulk d + 1
  | .map entries => uptoBulkEntries entries + 1
  | .held _ => 1
def uptoBulkAll {H : Type} : List (DataW H) → Nat
  | [] => 0
  | d :: r => uptoBulk d + uptoBulkAll r
def uptoBulkEntries {H : Type} : List (Lit × DataW H) → Nat
  | [] => 0
  | x :: r => uptoBulkEntry x + uptoBulkEntries r
def uptoBulkEntry {H : Type} : Lit × DataW H → Nat
  | (.string bytes, d) => bytes.length + uptoBulk d + 1
  | (_, d) => uptoBulk d + 1
 end
def uptoSmall : (H : Type) → List (DataW H) → Bool := fun _ ds => decide (uptoBulkAll ds ≤ 1048576)
def OpenSpec.upto (s : _root_.Go.ChangeSpec) : _root_.Go.OpenSpec := { _root_.Go.OpenSpec.ofChange s with cond := some uptoSmall }

/-- 'accesscontrollaw10.ScopeChecks', WHERE WHAT IT READS IS OF BULK AT MOST 1048576: true; the input reads as it did. -/
def scopeChecksUptoRow : OpenClaim := { program := "ytnifgkgdphlleaa", sum := "bce3baecf497de81d7730e6295d151103a635b38a2def13562fa1eccc11364fa", func := "accesscontrol/accesscontrollaw10.ScopeChecks", spec := "scopeChecks", unfollowed := true, recurses := true, loops := true, plainKeys := false, apart := false, narrowed := true }
def ScopeChecksUptoSaid : Prop := scopeChecksUptoRow.holds Try.pinned (OpenSpec.upto scopeChecksSpec)

/-- 'accesscontrollaw10.ScopeAdds', WHERE WHAT IT READS IS OF BULK AT MOST 1048576: true; the input reads as it did. -/
def scopeAddsUptoRow : OpenClaim := { program := "ytnifgkgdphlleaa", sum := "bce3baecf497de81d7730e6295d151103a635b38a2def13562fa1eccc11364fa", func := "accesscontrol/accesscontrollaw10.ScopeAdds", spec := "scopeAdds", unfollowed := true, recurses := true, loops := true, plainKeys := false, apart := false, narrowed := true }
def ScopeAddsUptoSaid : Prop := scopeAddsUptoRow.holds Try.pinned (OpenSpec.upto scopeAddsSpec)

/-- 'accesscontrollaw10.ScopeGrows', WHERE WHAT IT READS IS OF BULK AT MOST 1048576: true; the input reads as it did. -/
def scopeGrowsUptoRow : OpenClaim := { program := "ytnifgkgdphlleaa", sum := "bce3baecf497de81d7730e6295d151103a635b38a2def13562fa1eccc11364fa", func := "accesscontrol/accesscontrollaw10.ScopeGrows", spec := "scopeGrows", unfollowed := true, recurses := true, plainKeys := false, apart := false, narrowed := true }
def ScopeGrowsUptoSaid : Prop := scopeGrowsUptoRow.holds Try.pinned (OpenSpec.upto scopeGrowsSpec)

end Rows
end Go.Proofs.Ytnifgkgdphlleaa
