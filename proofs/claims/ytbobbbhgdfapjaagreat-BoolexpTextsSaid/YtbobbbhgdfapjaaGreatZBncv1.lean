/- J9, L1 -/
import Derived.Test.YtbobbbhgdfapjaaGreatZB1
import Derived.Test.YtbobbbhgdfapjaaGreatZB2
import Derived.Test.YtbobbbhgdfapjaaGreatZB3
import Derived.Test.YtbobbbhgdfapjaaGreatZB4
import Derived.Test.YtbobbbhgdfapjaaGreatZB5
import Derived.Test.YtbobbbhgdfapjaaGreatZB6
import Derived.Test.YtbobbbhgdfapjaaGreatZB7
import Derived.Test.YtbobbbhgdfapjaaGreatZB8
import Derived.Test.YtbobbbhgdfapjaaGreatZB9
import Derived.Test.YtbobbbhgdfapjaaGreatZB10
import Derived.Test.YtbobbbhgdfapjaaGreatZB11
import Derived.Test.YtbobbbhgdfapjaaGreatZB12
import Derived.Test.YtbobbbhgdfapjaaGreatZB13
import Derived.Test.YtbobbbhgdfapjaaGreatZB14
import Derived.Test.YtbobbbhgdfapjaaGreatZB15
import Derived.Test.YtbobbbhgdfapjaaGreatZB16
import Derived.Test.YtbobbbhgdfapjaaGreatZB17
import Derived.Test.YtbobbbhgdfapjaaGreatZB18
import Derived.Test.YtbobbbhgdfapjaaGreatZB19
import Derived.Test.YtbobbbhgdfapjaaGreatZB20
import Derived.Test.YtbobbbhgdfapjaaGreatZB21
import Derived.Test.YtbobbbhgdfapjaaGreatZB22
import Derived.Test.YtbobbbhgdfapjaaGreatZB23
import Derived.Test.YtbobbbhgdfapjaaGreatZB24
import Derived.Test.YtbobbbhgdfapjaaGreatZB25
import Derived.Test.YtbobbbhgdfapjaaGreatZB26
import Derived.Test.YtbobbbhgdfapjaaGreatZB27
import Derived.Test.YtbobbbhgdfapjaaGreatZB28
import Derived.Test.YtbobbbhgdfapjaaGreatZB29
import Derived.Test.YtbobbbhgdfapjaaGreatZB30
import Derived.Test.YtbobbbhgdfapjaaGreatZB31
import Derived.Test.YtbobbbhgdfapjaaGreatZB32
set_option linter.unusedSimpArgs false
set_option linter.unusedVariables false
namespace Go.Proofs.YtbobbbhgdfapjaaGreat
set_option maxHeartbeats 8000000
set_option maxRecDepth 100000
open Go.RowKit Tk
/-! ### what Simplify returns -/
/-- what has the same structure is the same -/
theorem head_bare {x y : Ex} (h : x.bare = y.bare) : headSame x y = true := by
 rw [Ex.bare_eq, Ex.bare_eq] at h
 injection h with h1 h2
 have hl := congrArg List.length h2
 rw [List.length_map, List.length_map] at hl
 have e1 := congrArg ExH.op h1
 have e2 := congrArg ExH.a h1
 have e3 := congrArg ExH.rel h1
 have e4 := congrArg ExH.b h1
 have e5 := congrArg ExH.s0 h1
 have e6 := congrArg ExH.s1 h1
 have e7 := congrArg ExH.s2 h1
 have e8 := congrArg ExH.s3 h1
 have e9 := congrArg ExH.names h1
 unfold headSame
 simp only [Bool.and_eq_true, decide_eq_true_eq]
 exact ⟨⟨⟨e1, e2, e3, e4, e5, e6, e7, e8⟩, e9⟩, by first | exact hl | exact_mod_cast hl⟩
mutual
theorem same_bare : ∀ x y : Ex, x.bare = y.bare → sameE x y = true
 | .mk h k, y, hb => by
   rw [sameE, head_bare hb, Bool.true_and]
   refine sames_bare k y.kids ?_
   rw [Ex.bare_eq, Ex.bare_eq] at hb
   injection hb
theorem sames_bare : ∀ k r : List Ex, k.map Ex.bare = r.map Ex.bare → sames k r = true
 | [], _, _ => by rw [sames]
 | e :: l, [], h => by cases h
 | e :: l, y :: r, h => by
   rw [List.map_cons, List.map_cons] at h
   injection h with h1 h2
   rw [sames, same_bare e y h1, sames_bare l r h2]; rfl
end
open Go.RowKit Tk
/-! ### Text, for any expression -/
/-! ### at expressions that are the same but for where they lie -/
section
variable {u v x y : Ex} {w : World}
theorem qsame_true (hu : u.ok w) (hv : v.ok w) (hb : u.bare = v.bare) : Calls Tryz.prog 18 #[.agg (exC u).toArray, .agg (exC v).toArray] w (BPost true w) := by
 have h := qsame_any (u.sz + 1) u v hu hv (Nat.lt_succ_self _)
 rwa [same_bare u v hb] at h
end
end Go.Proofs.YtbobbbhgdfapjaaGreat
