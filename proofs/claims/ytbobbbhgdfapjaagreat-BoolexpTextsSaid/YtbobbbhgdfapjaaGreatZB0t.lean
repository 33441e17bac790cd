/- For every expression and every string, Text and Parse of the program return what the reference returns. No condition. -/
import Derived.Test.YtbobbbhgdfapjaaGreatZB1
import Derived.Test.YtbobbbhgdfapjaaGreatZB2
import Derived.Test.YtbobbbhgdfapjaaGreatZB3
import Derived.Test.YtbobbbhgdfapjaaGreatZB4
import Derived.Test.YtbobbbhgdfapjaaGreatZB5
import Derived.Test.YtbobbbhgdfapjaaGreatZB6
import Derived.Test.YtbobbbhgdfapjaaGreatZB7
import Derived.Test.YtbobbbhgdfapjaaGreatZB8
import Derived.Test.YtbobbbhgdfapjaaGreatZB9
import Derived.Test.YtbobbbhgdfapjaaGreatZB10
import Derived.Test.YtbobbbhgdfapjaaGreatZB11
import Derived.Test.YtbobbbhgdfapjaaGreatZB12
import Derived.Test.YtbobbbhgdfapjaaGreatZB13
import Derived.Test.YtbobbbhgdfapjaaGreatZB14
import Derived.Test.YtbobbbhgdfapjaaGreatZB15
import Derived.Test.YtbobbbhgdfapjaaGreatZB16
import Derived.Test.YtbobbbhgdfapjaaGreatZB17
import Derived.Test.YtbobbbhgdfapjaaGreatZB18
import Derived.Test.YtbobbbhgdfapjaaGreatZB19
import Derived.Test.YtbobbbhgdfapjaaGreatZB20
import Derived.Test.YtbobbbhgdfapjaaGreatZB21
import Derived.Test.YtbobbbhgdfapjaaGreatZB22
import Derived.Test.YtbobbbhgdfapjaaGreatZB23
import Derived.Test.YtbobbbhgdfapjaaGreatZB24
import Derived.Test.YtbobbbhgdfapjaaGreatZB25
import Derived.Test.YtbobbbhgdfapjaaGreatZB26
import Derived.Test.YtbobbbhgdfapjaaGreatZB27
import Derived.Test.YtbobbbhgdfapjaaGreatZB28
import Derived.Test.YtbobbbhgdfapjaaGreatZB29
import Derived.Test.YtbobbbhgdfapjaaGreatZB30
import Derived.Test.YtbobbbhgdfapjaaGreatZB31
import Derived.Test.YtbobbbhgdfapjaaGreatZB32
import Derived.Test.YtbobbbhgdfapjaaGreatZB33
import Derived.Test.YtbobbbhgdfapjaaGreatZB34
import Derived.Test.YtbobbbhgdfapjaaGreatZB35
import Derived.Test.YtbobbbhgdfapjaaGreatZB36
import Derived.Test.YtbobbbhgdfapjaaGreatZBnk1
import Derived.Test.YtbobbbhgdfapjaaGreatZBncv1
import Derived.Test.YtbobbbhgdfapjaaGreatZBikst1
import Derived.Test.YtbobbbhgdfapjaaGreatZBkt1
import Derived.Test.YtbobbbhgdfapjaaGreatZBkt2
import Derived.Test.YtbobbbhgdfapjaaGreatZBkt3
import Derived.Test.YtbobbbhgdfapjaaGreatZBkt4
import Derived.Test.YtbobbbhgdfapjaaGreatZBt1
import Derived.Test.YtbobbbhgdfapjaaGreatZBt2
set_option linter.unusedSimpArgs false
set_option linter.unusedVariables false
namespace Go.Proofs.YtbobbbhgdfapjaaGreat
open Go.ChangeShapes Go.WideShapes Go.ChangeAt Go.RowKit
open Go.ChangeMaps (open_string shut_string)

set_option maxRecDepth 100000 in
theorem boolexpTexts_lifted (os : Os) (started : os.Started) (H : Type) (enc : TypeId × Value → H) :
    ReturnsInHanded {} Tryz.checked os 5 .any (Rows.boolexpTextsSpec.pre6 enc Tryz.prog Tryz.f5 Rows.boolexpTextsRow.domain false) (Rows.boolexpTextsSpec.post enc Tryz.prog Tryz.f5 false true false false) := by
  refine returnsInHanded_of_change (C := Tryz.checked) own started (by kernel_rfl) Tryz.func5
    (ChangeSpec.witness6 (enc := enc) (C := Tryz.checked) false ⟨#[], #[.agg #[.int .i64 0, .int .i64 0, .int .i64 0, .int .i64 0, .slice none 0 0, .int .u64 0, .int .u64 0, .int .u64 0, .int .u64 0, .slice none 0 0], .string ⟨#[]⟩], []⟩ 8 (by kernel_rfl) (by kernel_rfl) (by kernel_rfl) (by kernel_rfl)) ?_
  intro W base args ds gs before hval0 hW hcnd _
  have hval : ∀ (j : Nat) t v, Tryz.f5.params[j]? = some t → args[j]? = some v → Value.okWide Tryz.prog W .any base t v := hval0
  have hW' := hW
  obtain ⟨p, q, hA0, hV, rfl, hfz, hnd⟩ := hW
  have hA : DataW.TrodAll enc Tryz.prog W 0 (fun _ => true) true Tryz.f5.params.toList args.toList ds p := hA0
  rw [Tryz.params5] at hA hval
  obtain ⟨v0, v1, d0, d1, p0, p1, rfl, rfl, rfl, h0, h1⟩ := trodAll_two hA
  obtain ⟨rfl, rfl⟩ := trodVars_none hV
  have k0 := h0
  have k1 := h1
  have l0 : ∀ x ∈ p0, x.block < W.heap.size := fun x hx => hW'.lt x (by simp [hx])
  have l1 : ∀ x ∈ p1, x.block < W.heap.size := fun x hx => hW'.lt x (by simp [hx])
  obtain ⟨x0, rfl, w0, n0⟩ := open_ex (hval 0 28 v0 rfl rfl) h0
  obtain ⟨s1, e1, -, -, w1⟩ := open_string Tryz.underlying9 (hval 1 9 v1 rfl rfl) h1
  clear hA0 hval0
  subst e1
  refine (lawTexts s1 w0 n0 w1).mono fun e W2 he => ?_
  obtain ⟨he, hb⟩ := he
  subst he
  exact ⟨_, rfl, post_grown (pa := p0 ++ p1) (pv := []) hW' (fun _ _ _ => trodAll_mk1 (shut_bool Tryz.underlying4 _)) (fun sp hs => trodAll_mk2 (trod_grown laidOut (by kernel_rfl) (of_decide_eq_true (by kernel_rfl)) k0 hb l0 (fun x hx => hs x (by simp [hx]))) (trod_grown laidOut (by kernel_rfl) (of_decide_eq_true (by kernel_rfl)) k1 hb l1 (fun x hx => hs x (by simp [hx])))) (fun _ _ => rfl) (by simp)
    hb (ok_one (by kernel_rfl) rfl (okWide_bool_mk Tryz.underlying4 _))⟩

theorem boolexpTexts_holds : Rows.BoolexpTextsSaid :=
  OpenClaim.holds_of_wide 5 Tryz.f5 rfl rfl rfl rfl rfl rfl rfl ⟨rfl, rfl, rfl, rfl, rfl⟩ rfl rfl rfl rfl rfl (by kernel_rfl) Tryz.func5 (by kernel_rfl)
    (of_decide_eq_true (by kernel_rfl)) (by unfold Func.isWrapper; first | (rw [if_pos (by decide +kernel)]; kernel_rfl) | (rw [if_neg (by decide +kernel)]; exact ⟨rfl, rfl⟩))
    (fun os started H enc _ => boolexpTexts_lifted os started H enc)
end Go.Proofs.YtbobbbhgdfapjaaGreat
