/- The walk of a region in an order of one's own, with marks. -/
import Derived.Test.YtnifgkgdphlleaaC6
set_option linter.unusedSimpArgs false
set_option linter.unusedVariables false
namespace Go.Proofs.Ytnifgkgdphlleaa
open Go.RowKit
theorem wp_region_og {P : Program} {Q : Exit → Act → World → Prop} {a : Act} {w : World} {id : Nat} {l : List Oper} (bs ts is : List Nat) (hm : P.follows .mixedOrders = true) (hB : (canB l.toArray (zipT ts is) && is.all fun i => decide (i < l.length)) = true)
    (h : ∀ K : Act → World → Prop, (∀ a w, Q .normal a w → K a w) → wpTag P l.toArray (SameAt bs) K (LetsOut Q) ts (pickL l is) a w.drew) : (Code.region id l.toArray true).wp P Q a w := by
  rw [Bool.and_eq_true] at hB
  refine wp_region_can (SameAt bs) (SameAt.refl bs) (SameAt.trans bs) _ hm hB.1 fun K hK => ?_
  rw [pick_eq l is ts fun i hi => by simpa using List.all_eq_true.1 hB.2 i hi]
  exact h K hK
theorem sameAt_below {B : Nat} {w w' : World} {bs : List Nat} (hb : Below B w w') (h : ∀ b ∈ bs, b < B) : SameAt bs w w' := fun b hm => hb.block b (h b hm)
end Go.Proofs.Ytnifgkgdphlleaa
