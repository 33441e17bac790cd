/- Copies of symbols; the program's Check, plainly. -/
import Derived.Test.YtnifgkgdphlleaaVm
set_option linter.unusedSimpArgs false
set_option linter.unusedVariables false
namespace Go.Proofs.Ytnifgkgdphlleaa
open Go.RowKit Tk
@[go_sem] theorem nil_sys (a : Option Addr) (n c : Nat) (w : World) : (binOp BinOp.eql 54 (.slice a n c) (.slice none 0 0)).run Try.prog w = .ok (.bool a.isNone) w := eql_nil w a n c und_sys
theorem RRow.none_nil {α : Type} {k : Nat} {f : α → List Value} {w : World} {n c : Nat} {xs : List α} (h : RRow w k f (.slice Option.none n c) xs) : xs = [] ∧ n = 0 := by
  obtain ⟨rfl, -⟩ := RRow.lens h
  rcases Nat.eq_zero_or_pos xs.length with h0 | h0
  · exact ⟨List.length_eq_zero_iff.1 h0, h0⟩
  · obtain ⟨g, o, e, -⟩ := RRow.cells h h0
    cases e
def CYPost (w : World) (xs : List Sy) (e : Ending) (w' : World) : Prop := ∃ a c, e = .returned (.slice a xs.length c) ∧ OwnR w w' 57 6 syC (.slice a xs.length c) xs ∧ Ext w w'
set_option maxRecDepth 100000 in
theorem cloneSy_any {w : World} {a : Option Addr} {n c : Nat} {xs : List Sy} (h : RRow w 6 syC (.slice a n c) xs) (hf : xs.length ≤ 1900000000000) :
    Calls Try.prog 25 #[.slice a n c] w (CYPost w xs) := by
  rcases a with _ | p
  · obtain ⟨rfl, rfl⟩ := RRow.none_nil h
    go_enter Try.func25, Try.ntmps25
    have E := Only.refl [] w
    go_upto_region 9999 with (first | fail)
    go_ret
    exact ⟨none, 0, rfl, OwnR.nil w w 57 6 syC, E.low⟩
  · obtain ⟨rfl, n2⟩ := RRow.lens h
    go_enter Try.func25, Try.ntmps25
    have E := Only.refl [] w
    go_upto_region 9999 with (first | ((with_reducible refine at_dst 5 ?_); go_simp; (generalize hX5 : Array.size (World.heap _) = X5); refine new_block hX5 ?_; intro wn bb hx; (try (have z5 := Nat.le_trans E.size (Nat.le_of_eq hX5))); have b5 := bb; have g5 := Loc.new bb E hX5; clear bb hX5; (try replace E := E.ext hx); (try (clear hcE hfE)); (try (have hcf := bcell E.low; obtain ⟨hcE, hfE⟩ := hcf))) | ((with_reducible refine at_dst 7 ?_); refine wp_own (.tmp 5) (.tmp 6) rfl info_sy und_sys rfl (by decide) syC_len syC_ones (OwnR.ofBlk (xs := ([] : List Sy)) g5 rfl syC_len rfl (by decide)) E (RRow.ext h E.low) rfl rfl ?_ ?_ ?_; (· (simp only [List.length_nil]; (try unfold maxLen); omega)); (· (simp only [List.length_nil]; (try unfold maxLen); omega)); intro L7 hL7 s7 v7 wn r7 E2 hA; replace hL7 := Lib.hid hL7; skip; clear E; have E := E2; clear E2; have hz := hL7.out; rw [List.nil_append] at hz; rw [← hz] at r7; clear hz; obtain ⟨o7, k7, rfl, l7, m7⟩ := ORow.len r7.row; (try (clear hcE hfE)); (try (have hcf := bcell E.low; obtain ⟨hcE, hfE⟩ := hcf)); (try simp only [Act.put, List.setIfInBounds_toArray, List.set_cons_zero, List.set_cons_succ])))
    go_ret
    exact ⟨_, _, rfl, r7, E.low⟩
/-! ### Check -/
def firstClash (sp : Int → Int) (out : List PS) : List PS → Option (Int × PS)
  | [] => none
  | x :: l => if clashPS sp out x ≠ 0 then some (clashPS sp out x, x) else firstClash sp out l
def firstFit (vis : List PS) : List PS → FT
  | [] => FT.zero
  | x :: l => if (fitsC x vis).1 ≠ 0 then ⟨(fitsC x vis).1, x.line, x.col, (fitsC x vis).2⟩ else firstFit vis l
/-- statements examined, the rest of the work handed in -/
def headL (all out : List PS) (k : List PS → FT) : FT :=
  if (blockB spC all).2.code ≠ 0 then (blockB spC all).2
  else match firstClash spC out (blockB spC all).1 with
    | some (e, x) => ⟨e, x.line, x.col, x.name⟩
    | none => k (out ++ (blockB spC all).1)
mutual
def exOne : St → List PS → FT
  | .mk h t e, vis =>
    if h.kind = 18 then
      (if (headL (allS t) vis fun v => exSts t v).code ≠ 0 then headL (allS t) vis fun v => exSts t v else headL (allS e) vis fun v => exSts e v)
    else firstFit vis (adds [] (if h.kind = 17 then evEx h.pos h.cond ++ (evSts t ++ evSts e) else evStH h))
def exSts : List St → List PS → FT
  | [], _ => FT.zero
  | s :: l, vis => if (exOne s vis).code ≠ 0 then exOne s vis else exSts l vis
end
def exList (l : List St) (out : List PS) : FT := headL (allS l) out fun v => exSts l v
theorem exOne_eq (s : St) (vis : List PS) : exOne s vis = if s.h.kind = 18 then (if (exList s.thn vis).code ≠ 0 then exList s.thn vis else exList s.els vis) else firstFit vis (adds [] (evSt s)) := by
  cases s with
  | mk h t e => rw [exOne, evSt_eq]; rfl
end Go.Proofs.Ytnifgkgdphlleaa
