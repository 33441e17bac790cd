/- Fs -/
import Derived.ProofKit
import Derived.OpenShut
import Derived.Deep.Slices
import Derived.Deep.Fields
import Derived.Test.YtbobbbhgdfapjaaGreatZB1
import Derived.Test.YtbobbbhgdfapjaaGreatZB2
import Derived.Test.YtbobbbhgdfapjaaGreatZB4
import Derived.Test.YtbobbbhgdfapjaaGreatZB36
set_option linter.unusedSimpArgs false
set_option linter.unusedVariables false
namespace Go.Proofs.YtbobbbhgdfapjaaGreat
set_option maxHeartbeats 8000000
set_option maxRecDepth 100000
open Go.ChangeShapes Go.WideShapes Go.ChangeAt Go.RowKit
section
variable {H : Type} {enc : TypeId × Value → H} {P : Program}
end
section
open Tk
variable {H : Type} {enc : TypeId × Value → H} {W : World}
/-- a slice that can be read as data reads as a list of records, if each element does -/
theorem open_rrow {P : Program} {α : Type} {f : α → List Value} {ok : α → Prop} {k : Nat} {T E : TypeId} (und : P.underlying T = some (.slice E)) (hE : P.cellsOf E = k) (hk : 0 < k) (z : α)
    (cells : ∀ {fuel : Nat} {base : Nat} {sp : Nat → Bool} {held : Bool} {cs : List Value} {x : DataW H × List MemPlace}, DataW.trod enc P W base sp held fuel E cs = some x → ∃ a : α, cs = f a ∧ ok a ∧ (f a).length = k)
    {sp : Nat → Bool} {held : Bool} {base : Nat} {r : Reach} {b0 : Nat} {v : Value} {d : DataW H} {ps : List MemPlace} (hval : Value.okWide P W r b0 T v) (h : DataW.Trod enc P W base sp held T v d ps) : ∃ xs, RRow W k f v xs ∧ (∀ x ∈ xs, ok x) ∧ ∀ g ao n c, v = .slice (some ⟨g, ao, none⟩) n c → 0 < n → g < W.heap.size := by
 obtain ⟨ao, len, cap, rfl⟩ := okWide_slice und hval
 obtain ⟨fuel, hf⟩ := h
 rcases Go.Deep.open_slice und hf with ⟨hc, _⟩ | ⟨a, len', cap', m, n, D, Pl, hc, _, hle, hm, hmm, _, hat⟩
 · simp [Value.cells] at hc
   obtain ⟨rfl, rfl, rfl⟩ := hc
   exact ⟨[], RRow.nil _ _ _, by simp, by intro g ao n c h; cases h⟩
 · simp [Value.cells] at hc
   obtain ⟨rfl, rfl, rfl⟩ := hc
   have hml : len ≤ m := by rw [hmm]; split <;> omega
   have each : ∀ i, i < len → ∃ x : α, ok x ∧ (f x).length = k ∧ ∀ j, j < k → W.cell? ((a.add (i * k)).add j) = (f x)[j]? := by
    intro i hi
    obtain ⟨cs', hcs, ht⟩ := hat i (by omega)
    obtain ⟨x, rfl, hox, hlx⟩ := cells ht
    rw [hE] at hcs
    obtain ⟨_, _, hcell⟩ := World.cells?_some hcs
    exact ⟨x, hox, hlx, fun j hj => hcell j (by omega)⟩
   have : ∃ g : Nat → α, ∀ i, i < len → ok (g i) ∧ (f (g i)).length = k ∧ ∀ j, j < k → W.cell? ((a.add (i * k)).add j) = (f (g i))[j]? :=
    ⟨fun i => if h : i < len then Classical.choose (each i h) else z, fun i hi => by
     have := Classical.choose_spec (each i hi)
     simpa only [dif_pos hi] using this⟩
   obtain ⟨g, hg⟩ := this
   obtain ⟨b, o, sp'⟩ := a
   have hnone : 0 < len → sp' = none := fun h0 => by
    have h1 := (hg 0 h0).2.2 0 hk
    cases sp' with
    | none => rfl
    | some q =>
      exfalso
      rw [Nat.zero_mul] at h1
      have e : ((⟨b, o, some q⟩ : Addr).add 0).add 0 = ⟨b, o, some q⟩ := rfl
      rw [e] at h1
      have h2 : (f (g 0))[0]? = some ((f (g 0))[0]'(by have := (hg 0 h0).2.1; omega)) := List.getElem?_eq_getElem _
      rw [h2] at h1
      unfold World.cell? at h1
      split at h1
      · simp at h1
      · cases h1
   have hlt : 0 < len → b < W.heap.size := fun h0 => by
    have hs := hnone h0
    subst hs
    have h1 := (hg 0 h0).2.2 0 hk
    rw [Nat.zero_mul] at h1
    have e : ((⟨b, o, none⟩ : Addr).add 0).add 0 = ⟨b, o, none⟩ := rfl
    rw [e] at h1
    have h2 : (f (g 0))[0]? = some ((f (g 0))[0]'(by have := (hg 0 h0).2.1; omega)) := List.getElem?_eq_getElem _
    rw [h2] at h1
    exact World.block_lt_of_cell? W _ h1
   refine ⟨(List.range len).map g, ⟨some ⟨b, o, sp'⟩, cap, by simp, by simpa using hle, hm, ?_⟩, fun x hx => ?_, ?_⟩
   · by_cases h0 : len = 0
     · left; simpa using h0
     · right
       have hs := hnone (by omega)
       subst hs
       refine ⟨b, o, rfl, hlt (by omega), fun i hi j hj => ?_⟩
       have hi' : i < len := by simpa using hi
       have := (hg i hi').2.2 j hj
       rw [add_add] at this
       simp only [List.getElem_map, List.getElem_range]
       exact this
   · obtain ⟨i, hi, rfl⟩ := List.mem_map.1 hx
     exact (hg i (List.mem_range.1 hi)).1
   · intro g' ao n c he h0
     injection he with e1 e2 e3
     subst e2
     injection e1 with e1
     injection e1 with e4 e5 e6
     subst e4
     exact hlt h0
end
end Go.Proofs.YtbobbbhgdfapjaaGreat
