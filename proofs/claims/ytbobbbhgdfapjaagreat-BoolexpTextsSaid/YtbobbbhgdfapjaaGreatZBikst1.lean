/- Hv -/
import Derived.Test.YtbobbbhgdfapjaaGreatZB1
import Derived.Test.YtbobbbhgdfapjaaGreatZB2
import Derived.Test.YtbobbbhgdfapjaaGreatZB3
import Derived.Test.YtbobbbhgdfapjaaGreatZB4
import Derived.Test.YtbobbbhgdfapjaaGreatZB5
import Derived.Test.YtbobbbhgdfapjaaGreatZB6
import Derived.Test.YtbobbbhgdfapjaaGreatZB7
import Derived.Test.YtbobbbhgdfapjaaGreatZB11
import Derived.Test.YtbobbbhgdfapjaaGreatZB12
import Derived.Test.YtbobbbhgdfapjaaGreatZB13
import Derived.Test.YtbobbbhgdfapjaaGreatZB14
import Derived.Test.YtbobbbhgdfapjaaGreatZB15
import Derived.Test.YtbobbbhgdfapjaaGreatZB16
import Derived.Test.YtbobbbhgdfapjaaGreatZB17
import Derived.Test.YtbobbbhgdfapjaaGreatZB18
import Derived.Test.YtbobbbhgdfapjaaGreatZB19
import Derived.Test.YtbobbbhgdfapjaaGreatZB20
set_option linter.unusedSimpArgs false
set_option linter.unusedVariables false
namespace Go.Proofs.YtbobbbhgdfapjaaGreat
set_option maxHeartbeats 8000000
set_option maxRecDepth 100000
open Go.RowKit Tk
theorem node_good {h : ExH} {k : List Ex} (hg : (Ex.mk h k).good) (l : Int) : nodeE (.mk h k) l = if 12 < l then 4 else 0 := by
 unfold Ex.good at hg
 obtain ⟨⟨h1, h2, h3, h4, h5, h6, h7, h8, h9, h10⟩, -⟩ := hg
 unfold nodeE
 show (if 12 < l then (4 : Int) else if opn h.op < 0 ∨ h.a ≠ 0 ∨ h.b ≠ 0 ∨ h.rel ≠ 0 ∨ h.s0 ≠ 0 ∨ h.s1 ≠ 0 ∨ h.s2 ≠ 0 ∨ h.s3 ≠ 0 ∨ (k.length : Int) ≠ opn h.op ∨ (h.names.length : Int) ≠ namedE h.op then 2 else if opn h.op = 0 ∧ identB (firstN h.names) = false then 10 else 0) = _
 split
 · rfl
 · rw [if_neg (by omega), if_neg (by rintro ⟨ha, hb⟩; rw [h10 ha] at hb; cases hb)]
theorem levs_max (k : List Ex) (n : Nat) : levs k n = max n (levs k 0) := by
 induction k generalizing n with
 | nil => rw [levs, levs]; omega
 | cons e r ih => rw [levs, levs, ih, ih (max 0 (levE e))]; omega
mutual
theorem chk_good : ∀ (x : Ex) (l : Int), x.good → chk x l = if 12 < l - 1 + levE x then 4 else 0
 | .mk h k, l, hg => by
   have hk : Ex.goods k := by unfold Ex.good at hg; exact hg.2
   rw [chk, node_good hg, levE]
   by_cases h12 : 12 < l
   · rw [if_pos h12, if_pos (by decide), if_pos (by omega)]
   · rw [if_neg h12, if_neg (by decide), chks_good k (l + 1) hk (by omega)]
     have e : l + 1 - 1 + (levs k 0 : Int) = l - 1 + ((levs k 0 + 1 : Nat) : Int) := by omega
     rw [e]
theorem chks_good : ∀ (k : List Ex) (l : Int), Ex.goods k → l ≤ 13 → chks k l = if 12 < l - 1 + levs k 0 then 4 else 0
 | [], l, _, hl => by rw [chks, levs, if_neg (by omega)]
 | e :: r, l, hg, hl => by
   unfold Ex.goods at hg
   rw [chks, chk_good e l hg.1, levs, levs_max]
   by_cases h : 12 < l - 1 + (levE e : Int)
   · rw [if_pos h, if_pos (by decide), if_pos (by omega)]
   · rw [if_neg h, if_neg (by decide), chks_good r l hg.2 hl]
     by_cases h2 : 12 < l - 1 + (levs r 0 : Int)
     · rw [if_pos h2, if_pos (by omega)]
     · rw [if_neg h2, if_neg (by omega)]
end
end Go.Proofs.YtbobbbhgdfapjaaGreat
