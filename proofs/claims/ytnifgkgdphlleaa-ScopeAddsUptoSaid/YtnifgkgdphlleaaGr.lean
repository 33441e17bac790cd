/- Rounds of a range over a function, at the wide fence: operations and regions go as they go anywhere; one law for the loop. No program in sight. -/
import Derived.Test.YtnifgkgdphlleaaEm
import Derived.RangeFuncLeaves
import Derived.RangeFuncRecord
import Derived.RangeFuncCalls
import Derived.RangeFuncIn
import Derived.TacticsIn
import Derived.OrdersIn
import Derived.ControlIn
set_option linter.unusedSimpArgs false
set_option linter.unusedVariables false
namespace Go.Proofs.Ytnifgkgdphlleaa
open Go.RowKit Tk
section
variable {P : Program} {lo n : Nat} {Q : Exit → Act → World → Prop} {a : Act} {w : World}
def notDefer (o : Oper) : Bool := match o.op with | .defer _ => false | _ => true
theorem notDefer_spec {o : Oper} (h : notDefer o = true) : ∀ c, o.op ≠ .defer c := fun c e => by unfold notDefer at h; rw [e] at h; cases h
theorem rows_wide {row : String} {args : Array Value} {R : Value → World → Prop} (h : Rows P row args w R) : RowsIn (Fence.wide.inRound lo) n P row args w R := fun c cs _ => by
  obtain ⟨v, w', r, s⟩ := h c cs
  exact ⟨v, w', r, stepsIn_wide.2 s⟩
theorem oper_in {o : Oper} {K K' : Act → World → Prop} (hd : notDefer o = true) (hK : ∀ a w, K a w → K' a w) (h : o.wp P a w K Q) : o.wpIn (Fence.wide.inRound lo) n P a w K' Q := by
  refine ⟨fun _ _ => trivial, ?_⟩
  rw [show o.semAt (Fence.wide.inRound lo).round a.eval = execOp a.eval o from Oper.semAt_eq _ _ _ (notDefer_spec hd)]
  unfold Oper.wp at h
  generalize (execOp a.eval o).run P w = r at h
  unfold Oper.upon at h
  unfold Oper.uponIn
  split at h
  · exact hK _ _ h
  · exact hK _ _ h
  · exact hK _ _ h
  · refine ⟨fun h => (by cases h), ((callsIn_wide.2 h).inRound lo).mono ?_⟩
    intro e w' h
    cases e with
    | returned v => exact hK _ _ h
    | panicked ch => exact h
    | outgrown => exact h
  · exact ⟨fun h => (by cases h), (rows_wide h).mono fun v w' h => hK _ _ h⟩
  · exact h
  · exact h.elim
theorem rows_w {row : String} {args : Array Value} {R : Value → World → Prop} (h : Rows P row args w R) : RowsIn Fence.wide n P row args w R := fun c cs _ => by
  obtain ⟨v, w', r, s⟩ := h c cs
  exact ⟨v, w', r, stepsIn_wide.2 s⟩
theorem oper_w {o : Oper} {K : Act → World → Prop} (hd : notDefer o = true) (h : o.wp P a w K Q) : o.wpIn Fence.wide n P a w K Q := by
  refine ⟨fun _ _ => trivial, ?_⟩
  rw [show o.semAt Fence.wide.round a.eval = execOp a.eval o from Oper.semAt_eq _ _ _ (notDefer_spec hd)]
  unfold Oper.wp at h
  generalize (execOp a.eval o).run P w = r at h
  unfold Oper.upon at h
  unfold Oper.uponIn
  split at h
  · exact h
  · exact h
  · exact h
  · exact ⟨fun h => (by cases h), callsIn_wide.2 h⟩
  · exact ⟨fun h => (by cases h), rows_w h⟩
  · exact h
  · exact h.elim
/-- picks an operation by its slot -/
theorem at_dstI (d : Tmp) {F : Fence} {op : Op} {ty : TypeId} {pos : String} {af : Array Edge} {gd : Option (Nat × Bool)} {K : Act → World → Prop} (h : Oper.wpIn F n P ⟨some d, op, ty, pos, af, gd⟩ a w K Q) : Oper.wpIn F n P ⟨some d, op, ty, pos, af, gd⟩ a w K Q := h
theorem list_in {ops : Array Oper} (hL : ¬ LetsOut Q) : ∀ (l : List Oper) (a : Act) (w : World), l.all notDefer = true → wpList P ops Q l a w → wpListIn (Fence.wide.inRound lo) n P ops Q l a w
  | [], a, w, _, h => h
  | o :: l, a, w, hd, h => by
    rw [List.all_cons, Bool.and_eq_true] at hd
    unfold wpList at h
    unfold wpListIn
    split at h
    · rename_i hw
      rw [if_pos hw]
      rcases h with h | h
      · exact oper_in hd.1 (fun a w h => list_in hL l a w hd.2 h) h
      · exact absurd h.2 hL
    · rename_i hw
      rw [if_neg hw]
      exact ⟨fun _ _ => trivial, list_in hL l _ _ hd.2 h⟩
theorem ops_in {ops : Array Oper} (hL : ¬ LetsOut Q) (hd : ops.toList.all notDefer = true) : ∀ (l : List Nat) (a : Act) (w : World), wpOps P ops Q l a w → wpOpsIn (Fence.wide.inRound lo) n P ops Q l a w
  | [], a, w, h => h
  | i :: l, a, w, h => by
    unfold wpOps at h
    unfold wpOpsIn
    cases ho : ops[i]? with
    | none => rw [ho] at h; exact ops_in hL hd l a w h
    | some o =>
      rw [ho] at h
      dsimp only at h ⊢
      have hdo : notDefer o = true := by
        rw [← Array.getElem?_toList] at ho
        exact List.all_eq_true.1 hd o (List.mem_of_getElem? ho)
      split at h
      · rename_i hw
        rw [if_pos hw]
        rcases h with h | h
        · exact oper_in hdo (fun a w h => ops_in hL hd l a w h) h
        · exact absurd h.2 hL
      · rename_i hw
        rw [if_neg hw]
        exact ⟨fun _ _ => trivial, ops_in hL hd l _ _ h⟩
theorem region_in {id : Nat} {l : List Oper} (hL : ¬ LetsOut Q) (hd : l.all notDefer = true) (h : wpList P l.toArray Q l a w) : (Code.region id l.toArray false).wpIn (Fence.wide.inRound lo) n P Q a w :=
  wpIn_region_lit (list_in hL l a w hd h)
theorem any_can (Kp : World → World → Prop) (hr : ∀ w, Kp w w) (ht : ∀ a b c, Kp a b → Kp b c → Kp a c) {l : List Oper} (c : List (Nat × Nat)) (hB : canB l.toArray c = true)
    (h : ∀ K : Act → World → Prop, (∀ a w, Q .normal a w → K a w) → wpCan P l.toArray Kp K (LetsOut Q) (c.filterMap fun x => (l[x.2]?).map fun o => (x.1, o)) a w.drew) : wpAny P .any l.toArray Q l.toArray.size (Array.replicate l.toArray.size false) a w.drew := by
  simp only [canB, Bool.and_eq_true, decide_eq_true_eq] at hB
  obtain ⟨⟨⟨⟨⟨hs, hE⟩, hp⟩, hlt⟩, hlen⟩, hall⟩ := hB
  rw [← hlen]
  refine wpAny_of_can hr ht hs hE (N := Q .normal) (O := LetsOut Q) (fun _ _ h => h) (fun h => h) c.length c _ a _ rfl (by simp [hlen]) (pairsOk_iff.1 hp) (fun x hx => ?_) (fun i hi => ?_) (fun j oj hj hl => ?_) (wpCanI_eq _ l rfl c a _ (h _ fun _ _ h => h))
  · simpa using List.all_eq_true.1 hlt x hx
  · have h1 := List.all_eq_true.1 hall i (List.mem_range.2 hi)
    obtain ⟨x, hx, hxi⟩ := List.any_eq_true.1 h1
    constructor
    · intro _
      exact ⟨x, hx, by simpa using hxi⟩
    · intro _
      have hi2 : i < c.length := by rw [hlen]; exact hi
      simp [hi2]
  · exfalso
    have hj' : j < l.length := by simpa using (Array.getElem?_eq_some_iff.1 hj).1
    have hj2 : j < c.length := by rw [hlen]; simpa using hj'
    simp [hj2] at hl

theorem any_o {l : List Oper} (is : List Nat) (hB : canB l.toArray (is.map fun i => (0, i)) = true)
    (h : ∀ K : Act → World → Prop, (∀ a w, Q .normal a w → K a w) → wpTxt P l.toArray K (LetsOut Q) (pickL l is) a w.drew) : wpAny P .any l.toArray Q l.toArray.size (Array.replicate l.toArray.size false) a w.drew :=
  any_can (fun _ _ => True) (fun _ => trivial) (fun _ _ _ _ _ => trivial) _ hB fun K hK => by
    rw [tail_eq]
    exact h K hK
/-- a drawn region in an order of one's own, in a round -/
theorem region_in_t {id : Nat} {l : List Oper} (is : List Nat) (hL : ¬ LetsOut Q) (hd : l.all notDefer = true) (hm : P.follows .mixedOrders = true) (hB : canB l.toArray (is.map fun i => (0, i)) = true)
    (h : ∀ K : Act → World → Prop, (∀ a w, Q .normal a w → K a w) → ∀ w', Ext w w' → wpTxt P l.toArray K (LetsOut Q) (pickL l is) a w') : (Code.region id l.toArray true).wpIn (Fence.wide.inRound lo) n P Q a w := by
  refine wpIn_region_draw fun t => ?_
  refine ops_in hL (by simpa using hd) _ _ _ ?_
  simp only [Region.schedule, hm, Bool.true_or, if_true]
  exact wpAny_sound l.toArray.size t _ a _ (any_o is hB fun K hK => h K hK _ (Ext.drew w))
/-- the same, with marks -/
theorem region_in_k {id : Nat} {l : List Oper} (Kp : World → World → Prop) (hr : ∀ w, Kp w w) (ht : ∀ a b c, Kp a b → Kp b c → Kp a c) (ts is : List Nat) (hL : ¬ LetsOut Q) (hd : l.all notDefer = true) (hm : P.follows .mixedOrders = true)
    (hB : (canB l.toArray (zipT ts is) && is.all fun i => decide (i < l.length)) = true)
    (h : ∀ K : Act → World → Prop, (∀ a w, Q .normal a w → K a w) → ∀ w', Ext w w' → wpTag P l.toArray Kp K (LetsOut Q) ts (pickL l is) a w') : (Code.region id l.toArray true).wpIn (Fence.wide.inRound lo) n P Q a w := by
  rw [Bool.and_eq_true] at hB
  refine wpIn_region_draw fun t => ?_
  refine ops_in hL (by simpa using hd) _ _ _ ?_
  simp only [Region.schedule, hm, Bool.true_or, if_true]
  refine wpAny_sound l.toArray.size t _ a _ (any_can Kp hr ht _ hB.1 fun K hK => ?_)
  rw [pick_eq l is ts fun i hi => by simpa using List.all_eq_true.1 hB.2 i hi]
  exact h K hK _ (Ext.drew w)
theorem at_andb {X : Nat} {w w' : World} {p : Prop} (h1 : But X w w') (h2 : p) : But X w w' ∧ p := ⟨h1, h2⟩
theorem nolets {K : Act → World → Prop} : ¬ LetsOut (Exit.then K fun _ _ _ => False) := fun ⟨_, _, h⟩ => h
theorem then_mono {K : Act → World → Prop} {c : Code} (hK : ∀ a w, K a w → Q .normal a w) (h : c.wpIn (Fence.wide.inRound lo) n P (Exit.then K fun _ _ _ => False) a w) : c.wpIn (Fence.wide.inRound lo) n P Q a w :=
  wpIn_mono h fun e a w hq => by
    cases e with
    | normal => exact hK a w hq
    | exit id => exact hq.elim
    | goto t => exact hq.elim
    | ret => exact hq.elim
    | panic ch => exact hq.elim
    | outgrown => exact hq.elim
/-- a region in a round, what comes behind it hidden -/
theorem region_K {id : Nat} {l : List Oper} (hd : l.all notDefer = true) (h : ∀ K : Act → World → Prop, Hid (∀ a w, Q .normal a w → K a w) → wpList P l.toArray (Exit.then K fun _ _ _ => False) l a w) : (Code.region id l.toArray false).wpIn (Fence.wide.inRound lo) n P Q a w :=
  then_mono (K := Q .normal) (fun _ _ h => h) (region_in nolets hd (h _ (Lib.hid fun _ _ h => h)))
theorem region_Kk {id : Nat} {l : List Oper} (Kp : World → World → Prop) (hr : ∀ w, Kp w w) (ht : ∀ a b c, Kp a b → Kp b c → Kp a c) (ts is : List Nat) (hd : l.all notDefer = true) (hm : P.follows .mixedOrders = true)
    (hB : (canB l.toArray (zipT ts is) && is.all fun i => decide (i < l.length)) = true)
    (h : ∀ K : Act → World → Prop, Hid (∀ a w, Q .normal a w → K a w) → ∀ w', Ext w w' → wpTag P l.toArray Kp K False ts (pickL l is) a w') : (Code.region id l.toArray true).wpIn (Fence.wide.inRound lo) n P Q a w :=
  then_mono (K := Q .normal) (fun _ _ h => h) (region_in_k Kp hr ht ts is nolets hd hm hB fun K hK w' hx => by
    rw [show LetsOut (Exit.then (Q .normal) fun _ _ _ => False) = False from propext ⟨nolets, False.elim⟩]
    exact h K (Lib.hid fun a w h => hK a w h) w' hx)
end
end Go.Proofs.Ytnifgkgdphlleaa
