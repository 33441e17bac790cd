/- The walk of a region in an order of one's own. -/
import Derived.Test.YtnifgkgdphlleaaC4
set_option linter.unusedSimpArgs false
set_option linter.unusedVariables false
namespace Go.Proofs.Ytnifgkgdphlleaa
open Go.RowKit
theorem wp_region_o {P : Program} {Q : Exit → Act → World → Prop} {a : Act} {w : World} {id : Nat} {l : List Oper} (is : List Nat) (hm : P.follows .mixedOrders = true) (hB : canB l.toArray (is.map fun i => (0, i)) = true)
    (h : ∀ K : Act → World → Prop, (∀ a w, Q .normal a w → K a w) → wpTxt P l.toArray K (LetsOut Q) (pickL l is) a w.drew) : (Code.region id l.toArray true).wp P Q a w :=
  wp_region_can (fun _ _ => True) (fun _ => trivial) (fun _ _ _ _ _ => trivial) _ hm hB fun K hK => by
    rw [tail_eq]
    exact h K hK
end Go.Proofs.Ytnifgkgdphlleaa
