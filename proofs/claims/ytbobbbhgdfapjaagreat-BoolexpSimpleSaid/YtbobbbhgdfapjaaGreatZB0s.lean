/- For every expression, Simplify of the program returns what the reference returns. No condition. -/
import Derived.Test.YtbobbbhgdfapjaaGreatZB1
import Derived.Test.YtbobbbhgdfapjaaGreatZB2
import Derived.Test.YtbobbbhgdfapjaaGreatZB3
import Derived.Test.YtbobbbhgdfapjaaGreatZB4
import Derived.Test.YtbobbbhgdfapjaaGreatZB5
import Derived.Test.YtbobbbhgdfapjaaGreatZB6
import Derived.Test.YtbobbbhgdfapjaaGreatZB7
import Derived.Test.YtbobbbhgdfapjaaGreatZB8
import Derived.Test.YtbobbbhgdfapjaaGreatZB9
import Derived.Test.YtbobbbhgdfapjaaGreatZB10
import Derived.Test.YtbobbbhgdfapjaaGreatZB11
import Derived.Test.YtbobbbhgdfapjaaGreatZB12
import Derived.Test.YtbobbbhgdfapjaaGreatZB13
import Derived.Test.YtbobbbhgdfapjaaGreatZB14
import Derived.Test.YtbobbbhgdfapjaaGreatZB15
import Derived.Test.YtbobbbhgdfapjaaGreatZB16
import Derived.Test.YtbobbbhgdfapjaaGreatZB17
import Derived.Test.YtbobbbhgdfapjaaGreatZB18
import Derived.Test.YtbobbbhgdfapjaaGreatZB19
import Derived.Test.YtbobbbhgdfapjaaGreatZB20
import Derived.Test.YtbobbbhgdfapjaaGreatZB21
import Derived.Test.YtbobbbhgdfapjaaGreatZB22
import Derived.Test.YtbobbbhgdfapjaaGreatZB23
import Derived.Test.YtbobbbhgdfapjaaGreatZB24
import Derived.Test.YtbobbbhgdfapjaaGreatZB25
import Derived.Test.YtbobbbhgdfapjaaGreatZB26
import Derived.Test.YtbobbbhgdfapjaaGreatZB27
import Derived.Test.YtbobbbhgdfapjaaGreatZB28
import Derived.Test.YtbobbbhgdfapjaaGreatZB29
import Derived.Test.YtbobbbhgdfapjaaGreatZB30
import Derived.Test.YtbobbbhgdfapjaaGreatZB31
import Derived.Test.YtbobbbhgdfapjaaGreatZB32
import Derived.Test.YtbobbbhgdfapjaaGreatZB33
import Derived.Test.YtbobbbhgdfapjaaGreatZB34
import Derived.Test.YtbobbbhgdfapjaaGreatZB35
import Derived.Test.YtbobbbhgdfapjaaGreatZB36
import Derived.Test.YtbobbbhgdfapjaaGreatZBnk1
import Derived.Test.YtbobbbhgdfapjaaGreatZBnkt1
import Derived.Test.YtbobbbhgdfapjaaGreatZBncv1
import Derived.Test.YtbobbbhgdfapjaaGreatZBikst1
import Derived.Test.YtbobbbhgdfapjaaGreatZBcis1
import Derived.Test.YtbobbbhgdfapjaaGreatZBcis2
import Derived.Test.YtbobbbhgdfapjaaGreatZBcsv1
import Derived.Test.YtbobbbhgdfapjaaGreatZBcs1
import Derived.Test.YtbobbbhgdfapjaaGreatZBhs1
import Derived.Test.YtbobbbhgdfapjaaGreatZBis1
import Derived.Test.YtbobbbhgdfapjaaGreatZBs1
import Derived.Test.YtbobbbhgdfapjaaGreatZBs2
import Derived.Test.YtbobbbhgdfapjaaGreatZBs3
import Derived.Test.YtbobbbhgdfapjaaGreatZBs4
import Derived.Test.YtbobbbhgdfapjaaGreatZBs5
import Derived.Test.YtbobbbhgdfapjaaGreatZBs6
set_option linter.unusedSimpArgs false
set_option linter.unusedVariables false
namespace Go.Proofs.YtbobbbhgdfapjaaGreat
open Go.ChangeShapes Go.WideShapes Go.ChangeAt Go.RowKit
open Go.ChangeMaps (open_string shut_string)

set_option maxRecDepth 100000 in
theorem boolexpSimple_lifted (os : Os) (started : os.Started) (H : Type) (enc : TypeId × Value → H) :
    ReturnsInHanded {} Tryz.checked os 8 .any (Rows.boolexpSimpleSpec.pre6 enc Tryz.prog Tryz.f8 Rows.boolexpSimpleRow.domain false) (Rows.boolexpSimpleSpec.post enc Tryz.prog Tryz.f8 false true false false) := by
  refine returnsInHanded_of_change (C := Tryz.checked) own started (by kernel_rfl) Tryz.func8
    (ChangeSpec.witness6 (enc := enc) (C := Tryz.checked) false ⟨#[], #[.agg #[.int .i64 0, .int .i64 0, .int .i64 0, .int .i64 0, .slice none 0 0, .int .u64 0, .int .u64 0, .int .u64 0, .int .u64 0, .slice none 0 0]], []⟩ 8 (by kernel_rfl) (by kernel_rfl) (by kernel_rfl) (by kernel_rfl)) ?_
  intro W base args ds gs before hval0 hW hcnd _
  have hval : ∀ (j : Nat) t v, Tryz.f8.params[j]? = some t → args[j]? = some v → Value.okWide Tryz.prog W .any base t v := hval0
  have hW' := hW
  obtain ⟨p, q, hA0, hV, rfl, hfz, hnd⟩ := hW
  have hA : DataW.TrodAll enc Tryz.prog W 0 (fun _ => true) true Tryz.f8.params.toList args.toList ds p := hA0
  rw [Tryz.params8] at hA hval
  obtain ⟨v0, d0, rfl, rfl, h0⟩ := trodAll_one hA
  obtain ⟨rfl, rfl⟩ := trodVars_none hV
  have k0 := h0
  have l0 : ∀ x ∈ p, x.block < W.heap.size := fun x hx => hW'.lt x (by simp [hx])
  obtain ⟨x0, rfl, w0, n0⟩ := open_ex (hval 0 28 v0 rfl rfl) h0
  clear hA0 hval0
  refine (lawSimple w0 n0).mono fun e W2 he => ?_
  obtain ⟨he, hb⟩ := he
  subst he
  exact ⟨_, rfl, post_grown (pa := p) (pv := []) hW' (fun _ _ _ => trodAll_mk1 (shut_bool Tryz.underlying4 _)) (fun sp hs => trodAll_mk1 (trod_grown laidOut (by kernel_rfl) (of_decide_eq_true (by kernel_rfl)) k0 hb l0 (fun x hx => hs x (by simp [hx])))) (fun _ _ => rfl) (by simp)
    hb (ok_one (by kernel_rfl) rfl (okWide_bool_mk Tryz.underlying4 _))⟩

theorem boolexpSimple_holds : Rows.BoolexpSimpleSaid :=
  OpenClaim.holds_of_wide 8 Tryz.f8 rfl rfl rfl rfl rfl rfl rfl ⟨rfl, rfl, rfl, rfl, rfl⟩ rfl rfl rfl rfl rfl (by kernel_rfl) Tryz.func8 (by kernel_rfl)
    (of_decide_eq_true (by kernel_rfl)) (by unfold Func.isWrapper; first | (rw [if_pos (by decide +kernel)]; kernel_rfl) | (rw [if_neg (by decide +kernel)]; exact ⟨rfl, rfl⟩))
    (fun os started H enc _ => boolexpSimple_lifted os started H enc)
end Go.Proofs.YtbobbbhgdfapjaaGreat
