/- For any three lists of symbols that hold together at most 1048576 values and letters, what is missing grows not if more is declared, and nothing is missing if all is. Condition: that bound. -/
import Derived.Test.YtnifgkgdphlleaaVv
import Derived.Test.YtnifgkgdphlleaaOu
import Derived.JoinedCond
set_option linter.unusedSimpArgs false
set_option linter.unusedVariables false
namespace Go.Proofs.Ytnifgkgdphlleaa
open Go.ChangeShapes Go.WideShapes Go.ChangeAt Go.RowKit Tk
open Go.ChangeMaps (open_string shut_string)

set_option maxRecDepth 100000 in
theorem scopeGrows_lifted (os : Os) (started : os.Started) (H : Type) (enc : TypeId × Value → H) (F : Stop.Interp) :
    ReturnsInHanded {} Try.checked os 5 .any ((Rows.OpenSpec.upto Rows.scopeGrowsSpec).pre6 enc Try.prog Try.f5 Rows.scopeGrowsUptoRow.domain false) (((Rows.OpenSpec.upto Rows.scopeGrowsSpec).at F).post enc Try.prog Try.f5 false true false false) := by
  refine returnsInHanded_of_cond (C := Try.checked) (s := Rows.OpenSpec.upto Rows.scopeGrowsSpec) (k := Rows.uptoSmall) rfl own started (by kernel_rfl) Try.func5
    (OpenSpec.witness (enc := enc) (C := Try.checked) (s := Rows.OpenSpec.upto Rows.scopeGrowsSpec) (k := Rows.uptoSmall) rfl false ⟨#[], #[.slice none 0 0, .slice none 0 0, .slice none 0 0], []⟩ 8 (by kernel_rfl) (by kernel_rfl) (by kernel_rfl)
      (x := ([.nil, .nil, .nil], [], [])) (by kernel_rfl) rfl (by kernel_rfl)) ?_
  intro W base args ds gs before hval0 hW _ hk _
  have hval : ∀ (j : Nat) t v, Try.f5.params[j]? = some t → args[j]? = some v → Value.okWide Try.prog W .any base t v := hval0
  have hW' := hW
  obtain ⟨p, q, hA0, hV, rfl, hfz, hnd⟩ := hW
  have hA : DataW.TrodAll enc Try.prog W 0 (fun _ => true) true Try.f5.params.toList args.toList ds p := hA0
  rw [Try.params5] at hA hval
  obtain ⟨v0, v1, v2, d0, d1, d2, p0, p1, p2, rfl, rfl, rfl, h0, h1, h2⟩ := trodAll_three hA
  obtain ⟨rfl, rfl⟩ := trodVars_none hV
  have hB : Rows.uptoBulkAll ([d0, d1, d2] ++ []) ≤ 1048576 := of_decide_eq_true hk
  rw [List.append_nil, bulk_all] at hB
  simp only [List.map_cons, List.map_nil, List.sum_cons, List.sum_nil] at hB
  have k0 := h0
  have k1 := h1
  have k2 := h2
  have l0 : ∀ x ∈ p0, x.block < W.heap.size := fun x hx => hW'.lt x (by simp [hx])
  have l1 : ∀ x ∈ p1, x.block < W.heap.size := fun x hx => hW'.lt x (by simp [hx])
  have l2 : ∀ x ∈ p2, x.block < W.heap.size := fun x hx => hW'.lt x (by simp [hx])
  obtain ⟨a0, m0, c0, s0, rfl, w0, b0⟩ := open_syms (hval 0 54 v0 rfl rfl) h0
  obtain ⟨a1, m1, c1, s1, rfl, w1, b1⟩ := open_syms (hval 1 54 v1 rfl rfl) h1
  obtain ⟨a2, m2, c2, s2, rfl, w2, b2⟩ := open_syms (hval 2 54 v2 rfl rfl) h2
  clear hA0 hval0
  refine (lawGrows w0 w1 w2 (wtU_sum (by omega)) (wtU_sum (by omega)) (wtU_sum (by omega))).mono fun e W2 he => ?_
  obtain ⟨he, hb⟩ := he
  subst he
  exact ⟨_, rfl, post_grown (pa := p0 ++ (p1 ++ p2)) (pv := []) hW' (fun _ _ _ => trodAll_mk1 (shut_bool Try.underlying4 _)) (fun sp hs => trodAll_mk3 (trod_grown laidOut (by kernel_rfl) (of_decide_eq_true (by kernel_rfl)) k0 hb l0 (fun x hx => hs x (by simp [hx]))) (trod_grown laidOut (by kernel_rfl) (of_decide_eq_true (by kernel_rfl)) k1 hb l1 (fun x hx => hs x (by simp [hx]))) (trod_grown laidOut (by kernel_rfl) (of_decide_eq_true (by kernel_rfl)) k2 hb l2 (fun x hx => hs x (by simp [hx])))) (fun _ _ => rfl) (by simp)
    hb (ok_one (by kernel_rfl) rfl (okWide_bool_mk Try.underlying4 _))⟩

theorem scopeGrowsUpto_holds : Rows.ScopeGrowsUptoSaid :=
  OpenClaim.holds_of_cond 5 Try.f5 rfl rfl rfl rfl rfl rfl rfl ⟨rfl, rfl, rfl, rfl, rfl⟩ rfl rfl rfl rfl rfl (by kernel_rfl) Try.func5 (by kernel_rfl)
    (of_decide_eq_true (by kernel_rfl)) (by unfold Func.isWrapper; first | (rw [if_pos (by decide +kernel)]; kernel_rfl) | (rw [if_neg (by decide +kernel)]; exact ⟨rfl, rfl⟩))
    (fun os started H enc _ F => scopeGrows_lifted os started H enc F)
end Go.Proofs.Ytnifgkgdphlleaa
