/- Drawn regions whose turning operations stand in a row. No program in sight. -/
import Derived.Test.YtnifgkgdphlleaaC7
import Derived.Test.YtnifgkgdphlleaaC5
import Derived.Test.YtnifgkgdphlleaaEn
set_option linter.unusedSimpArgs false
set_option linter.unusedVariables false
namespace Go.Proofs.Ytnifgkgdphlleaa
open Go.RowKit Tk
theorem Ext.drewN (w : World) (n : Nat) : Ext w (w.drewN n) := ⟨rfl, rfl, rfl, Nat.le_refl _, fun _ _ => rfl⟩
section
variable {P : Program} {Q : Exit → Act → World → Prop} {a : Act} {w : World}
theorem wp_region_s {id : Nat} {l : List Oper} (ts is : List Nat) (hm : P.follows .mixedOrders = true) (hB : (canB l.toArray (zipT ts is) && is.all fun i => decide (i < l.length)) = true)
    (h : ∀ K : Act → World → Prop, (∀ a w, Q .normal a w → K a w) → ∀ w', Ext w w' → wpTag P l.toArray Ext K (LetsOut Q) ts (pickL l is) a w') : (Code.region id l.toArray true).wp P Q a w := by
  rw [Bool.and_eq_true] at hB
  refine wp_region_can Ext Ext.refl (fun _ _ _ => Ext.trans) _ hm hB.1 fun K hK => ?_
  rw [pick_eq l is ts fun i hi => by simpa using List.all_eq_true.1 hB.2 i hi]
  exact h K hK _ (Ext.drew w)
theorem wp_region_t2 {id : Nat} {l : List Oper} (is : List Nat) (hm : P.follows .mixedOrders = true) (hB : canB l.toArray (is.map fun i => (0, i)) = true)
    (h : ∀ K : Act → World → Prop, (∀ a w, Q .normal a w → K a w) → ∀ w', Ext w w' → wpTxt P l.toArray K (LetsOut Q) (pickL l is) a w') : (Code.region id l.toArray true).wp P Q a w := wp_region_o is hm hB fun K hK => h K hK _ (Ext.drew w)
theorem at_tag (n : Nat) {ops : Array Oper} {Kp : World → World → Prop} {N : Act → World → Prop} {O : Prop} {ts : List Nat} {l : List Oper} (h : wpTag P ops Kp N O (n :: ts) l a w) : wpTag P ops Kp N O (n :: ts) l a w := h
theorem at_tagn {ops : Array Oper} {Kp : World → World → Prop} {N : Act → World → Prop} {O : Prop} (h : wpTag P ops Kp N O [] [] a w) : wpTag P ops Kp N O [] [] a w := h
theorem at_and {w w' : World} {p : Prop} (h1 : Ext w w') (h2 : p) : Ext w w' ∧ p := ⟨h1, h2⟩
end
section
variable {α : Type} {k : Nat} {f : α → List Value} {F : List Nat} {w w1 : World} {v : Value} {xs : List α}
theorem RRow.only (h : RRow w k f v xs) (E : Only F w w1) (hF : xs.length = 0 ∨ ∀ x ∈ ownB v, x ∉ F) : RRow w1 k f v xs := by
  obtain ⟨ao, cap, e, h1, h2, h3⟩ := h
  refine ⟨ao, cap, e, h1, h2, ?_⟩
  rcases h3 with h3 | ⟨g, o, ho, hg, hc⟩
  · exact .inl h3
  · rcases hF with hF | hF
    · exact .inl hF
    refine .inr ⟨g, o, ho, Nat.lt_of_lt_of_le hg E.size, fun i hi j hj => ?_⟩
    have hn : g ∉ F := hF g (by rw [e, ho]; simp [ownB, Value.ownBlock])
    rw [World.cell?_of_block (w := w) (E.block g hg hn)]
    exact hc i hi j hj
theorem RRow.butlt {X N : Nat} (h : RRow w k f v xs) (hb : But X w w1) (hg : xs.length = 0 ∨ ∀ x ∈ ownB v, x < N) (hz : N ≤ X) : RRow w1 k f v xs :=
  h.only (Only.of_but hb (List.mem_singleton.2 rfl)) (hg.imp_right fun hg x hx hm => by have := hg x hx; rw [List.mem_singleton.1 hm] at this; omega)
theorem RRow.lt (h : RRow w k f v xs) : xs.length = 0 ∨ ∀ x ∈ ownB v, x < w.heap.size := by
  obtain ⟨ao, cap, rfl, h1, h2, h3 | ⟨g, o, rfl, hg, hc⟩⟩ := h
  · exact .inl h3
  · exact .inr fun x hx => by
      have : x = g := by simpa [ownB, Value.ownBlock] using hx
      rw [this]; exact hg
end
end Go.Proofs.Ytnifgkgdphlleaa
