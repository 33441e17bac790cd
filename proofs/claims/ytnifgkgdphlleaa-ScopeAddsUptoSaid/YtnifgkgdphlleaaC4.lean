/- The order-free walk of a region over operations stripped of what the walk does not look at. -/
import Derived.Test.YtnifgkgdphlleaaC3
import Derived.WalkKit
set_option linter.unusedSimpArgs false
set_option linter.unusedVariables false
namespace Go.Proofs.Ytnifgkgdphlleaa
open Go.RowKit

def bare (o : Oper) : Oper := ⟨o.dst, o.op, o.type, "", #[], none⟩
theorem exec_bare (ρ : Operand → Value) (o : Oper) : execOp ρ (bare o) = execOp ρ o := by
  obtain ⟨dst, op, type, pos, after, guard⟩ := o
  cases op <;> rfl
theorem wp_bare {P : Program} {o : Oper} {a : Act} {w : World} {K : Act → World → Prop} {Q : Exit → Act → World → Prop} : (bare o).wp P a w K Q = o.wp P a w K Q := by
  unfold Oper.wp
  rw [exec_bare]
  rfl
def gT (ops : Array Oper) (o : Oper) : Option (Option Tmp × Bool) := o.guard.map fun x => ((ops[x.1]?).bind (·.dst), x.2)
def wantT (tmps : Array Value) : Option (Option Tmp × Bool) → Bool
  | none => true
  | some (t, b) => match t.bind (tmps[·]?) with
    | some (.bool c) => c == b
    | _ => false
@[go_sem] theorem wantT_some (tmps : Array Value) (t : Tmp) (b : Bool) : wantT tmps (some (some t, b)) = (match tmps[t]? with | some (.bool c) => c == b | _ => false) := rfl
theorem want_eq (ops : Array Oper) (o : Oper) (tmps : Array Value) : Region.wanted o (yielded ops tmps) = wantT tmps (gT ops o) := by
  unfold Region.wanted gT yielded
  cases o.guard with
  | none => rfl
  | some x =>
    obtain ⟨j, b⟩ := x
    simp only [Option.map_some, wantT]
    cases h : ((ops[j]?).bind (·.dst)).bind (tmps[·]?) with
    | none => rfl
    | some v => cases v <;> rfl

def stepF (P : Program) (ws : World) (O : Prop) (s : Sp) (j : Nat) (g : Option (Option Tmp × Bool)) (o : Oper) (R : List (Nat × Value) → Act → Prop) (E : List (Nat × Value)) (a : Act) : Prop :=
  if wantT a.tmps g = true then
    (if isW o = true then (∃ v, s.φ v) ∧ (∀ w, Ext ws w → yieldsW P O (fun v w' => s.Good v w w') ((execOp a.eval o).run P w)) ∧ ∀ v, s.φ v → R ((j, v) :: E) (a.put o.dst v)
     else ∀ w, Ext ws w → ∃ v, (execOp a.eval o).run P w = .ok (.value v) w ∧ R E (a.put o.dst v))
  else R E (a.put o.dst undef)
def wpF (P : Program) (S : Nat → Sp) (ws : World) (N : Act → World → Prop) (O : Prop) : List (Nat × Option (Option Tmp × Bool) × Oper) → List (Nat × Value) → Act → Prop
  | [], E, a => EndE S ws N E a
  | x :: rest, E, a => stepF P ws O (S x.1) x.1 x.2.1 x.2.2 (wpF P S ws N O rest) E a
def pickF (l : List Oper) : List Nat → List (Nat × Option (Option Tmp × Bool) × Oper)
  | [] => []
  | i :: is => match l[i]? with
    | some o => (i, gT l.toArray o, bare o) :: pickF l is
    | none => pickF l is
theorem step_of_F {P : Program} {ops : Array Oper} {ws : World} {O : Prop} {s : Sp} {j : Nat} {o : Oper} {R : List (Nat × Value) → Act → Prop} {E : List (Nat × Value)} {a : Act} (h : stepF P ws O s j (gT ops o) (bare o) R E a) : stepE P ops ws O s j o R E a := by
  unfold stepF at h
  unfold stepE
  rw [want_eq]
  rw [exec_bare] at h
  exact h
theorem wpE_of_F {P : Program} {S : Nat → Sp} {ws : World} {N : Act → World → Prop} {O : Prop} (l : List Oper) : ∀ (c : List Nat) (E : List (Nat × Value)) (a : Act), wpF P S ws N O (pickF l c) E a → wpE P l.toArray S ws N O (pickE l c) E a
  | [], _, _, h => h
  | i :: is, E, a, h => by
    cases hi : l[i]? with
    | none =>
      simp only [pickF, hi] at h
      simp only [pickE, hi]
      exact wpE_of_F l is E a h
    | some o =>
      simp only [pickF, hi, wpF] at h
      simp only [pickE, hi, wpE]
      exact stepE_mono (fun a => wpE_of_F l is E a) (fun v a => wpE_of_F l is _ a) (step_of_F h)
/-- all operations of the region are heads -/
theorem wp_region_f {P : Program} {Q : Exit → Act → World → Prop} {a : Act} {w : World} {id : Nat} {l : List Oper} (S : Nat → Sp) (L : List (Nat × Option (Option Tmp × Bool) × Oper)) (hm : P.follows .mixedOrders = true) (hB : eB l.toArray (List.range l.length) [] = true) (hL : pickF l (List.range l.length) = L)
    (h : ∀ (K : Act → World → Prop) (ws : World), Ext w ws → (∀ a w, Q .normal a w → K a w) → wpF P S ws K (LetsOut Q) L [] a) : (Code.region id l.toArray true).wp P Q a w :=
  wp_region_e S (List.range l.length) [] hm hB fun K ws hws hK => wpE_of_F l _ _ _ (by rw [hL]; exact h K ws (by rw [hws]; exact Ext.drew w) fun a w hq => hK a w (wpTxt_nil hq))
/-- heads and a tail -/
theorem wp_region_ft {P : Program} {Q : Exit → Act → World → Prop} {a : Act} {w : World} {id : Nat} {l : List Oper} (S : Nat → Sp) (c tail : List Nat) (L : List (Nat × Option (Option Tmp × Bool) × Oper)) (hm : P.follows .mixedOrders = true) (hB : eB l.toArray c tail = true) (hL : pickF l c = L)
    (h : ∀ (K : Act → World → Prop) (ws : World), Ext w ws → (∀ a w, wpTxt P l.toArray (fun a w => Q .normal a w) (LetsOut Q) (pickL l tail) a w → K a w) → wpF P S ws K (LetsOut Q) L [] a) : (Code.region id l.toArray true).wp P Q a w :=
  wp_region_e S c tail hm hB fun K ws hws hK => wpE_of_F l _ _ _ (by rw [hL]; exact h K ws (by rw [hws]; exact Ext.drew w) hK)
section
variable {P : Program} {S : Nat → Sp} {ws : World} {N : Act → World → Prop} {O : Prop} {l : List (Nat × Option (Option Tmp × Bool) × Oper)} {E : List (Nat × Value)} {a : Act} {j : Nat} {o : Oper} {g : Option (Option Tmp × Bool)}
theorem wpF_qg (hW : isW o = false) (hg : wantT a.tmps g = true) (h : ∀ w, Ext ws w → ∀ K : Act → World → Prop, (∀ a', wpF P S ws N O l E a' → K a' w) → o.wp P a w K (canQ O)) : wpF P S ws N O ((j, g, o) :: l) E a := by
  show stepF P ws O (S j) j g o (wpF P S ws N O l) E a
  unfold stepF
  rw [if_pos hg, if_neg (by simp [hW])]
  intro w hx
  have h1 := h w hx (fun a' w' => w' = w ∧ wpF P S ws N O l E a') (fun a' ha => ⟨rfl, ha⟩)
  unfold Oper.wp at h1
  cases hr : (execOp a.eval o).run P w with
  | halt x w' =>
    rw [hr] at h1
    cases x <;> simp [Oper.upon, canQ] at h1
  | ok n w' =>
    obtain ⟨v, rfl⟩ := quiet_value hW hr
    rw [hr] at h1
    obtain ⟨rfl, h2⟩ := h1
    exact ⟨v, rfl, h2⟩
theorem wpF_q (hW : isW o = false) (h : ∀ w, Ext ws w → ∀ K : Act → World → Prop, (∀ a', wpF P S ws N O l E a' → K a' w) → o.wp P a w K (canQ O)) : wpF P S ws N O ((j, none, o) :: l) E a := wpF_qg hW rfl h
theorem wpF_no (hg : wantT a.tmps g = false) (h : wpF P S ws N O l E (a.put o.dst undef)) : wpF P S ws N O ((j, g, o) :: l) E a := by
  show stepF P ws O (S j) j g o (wpF P S ws N O l) E a
  unfold stepF
  rw [if_neg (by simp [hg])]
  exact h
theorem wpF_s {p : Option Tmp × Bool} (hW : isW o = false) (h : ∀ w, Ext ws w → ∀ K : Act → World → Prop, (∀ a', wpF P S ws N O l E a' → K a' w) → if wantT a.tmps (some p) = true then o.wp P a w K (canQ O) else K (a.put o.dst undef) w) : wpF P S ws N O ((j, some p, o) :: l) E a := by
  by_cases hw : wantT a.tmps (some p) = true
  · exact wpF_qg hW hw fun w hx K hK => by have := h w hx K hK; rwa [if_pos hw] at this
  · have h1 := h ws (Ext.refl _) (fun a' w' => wpF P S ws N O l E a') (fun a' h' => h')
    rw [if_neg hw] at h1
    exact wpF_no (by simpa using hw) h1
/-- an operation that adds to the world -/
theorem wpF_w (s : Sp) (d : Nat) (hS : S j = s) (hW : isW o = true) (hg : wantT a.tmps g = true) (hd : o.dst = some d) (hsz : decide (d < a.tmps.size) = true) (h0 : ∃ v, s.φ v)
    (h1 : ∀ w, Ext ws w → ∀ K : Act → World → Prop, (∀ v w', s.Good v w w' → K (a.put o.dst v) w') → o.wp P a w K (canQ O)) (h2 : ∀ v, s.φ v → wpF P S ws N O l ((j, v) :: E) (a.put o.dst v)) : wpF P S ws N O ((j, g, o) :: l) E a := by
  show stepF P ws O (S j) j g o (wpF P S ws N O l) E a
  have hsz' : d < a.tmps.size := by simpa using hsz
  have inj : ∀ v v', a.put o.dst v = a.put o.dst v' → v = v' := by
    intro v v' he
    rw [hd] at he
    have : (a.put (some d) v).tmps[d]? = (a.put (some d) v').tmps[d]? := by rw [he]
    simpa [Act.put, hsz'] using this
  unfold stepF
  rw [if_pos hg, if_pos hW, hS]
  refine ⟨h0, fun w hx => ?_, h2⟩
  have h3 := h1 w hx (fun a' w' => ∃ v, a' = a.put o.dst v ∧ s.Good v w w') (fun v w' hg' => ⟨v, rfl, hg'⟩)
  unfold Oper.wp at h3
  generalize (execOp a.eval o).run P w = r at h3
  cases r with
  | halt x w' => cases x <;> simp only [Oper.upon] at h3 <;> first | exact h3.elim | (simp [canQ] at h3)
  | ok n w' =>
    cases n <;> simp only [Oper.upon] at h3
    case value v => obtain ⟨v', e, hgd⟩ := h3; rw [← inj _ _ e] at hgd; exact hgd
    case skip => obtain ⟨v', e, hgd⟩ := h3; rw [← inj _ _ e] at hgd; exact hgd
    case defer dd =>
      obtain ⟨v', e, hgd⟩ := h3
      exfalso
      have : ({ a with defers := dd :: a.defers } : Act).defers = a.defers := by
        have h4 := congrArg Act.defers e
        rw [hd] at h4
        simp only [Act.put] at h4; exact h4
      have := congrArg List.length this
      simp at this
    case enter f args =>
      refine Calls.mono h3 fun e w'' he => ?_
      cases e with
      | returned u => obtain ⟨v', e, hgd⟩ := he; rw [← inj _ _ e] at hgd; exact hgd
      | panicked c => simp [canQ] at he
      | outgrown => obtain ⟨_, _, ho⟩ := he; exact ho.2
    case row row args => exact Rows.mono h3 fun u w'' he => by obtain ⟨v', e, hgd⟩ := he; rw [← inj _ _ e] at hgd; exact hgd
/-- the end of the heads -/
theorem wpF_nil (h : ∀ w, Ext ws w → (∀ e ∈ E, (S e.1).Φ e.2 w) → (∀ e ∈ E, ∀ b ∈ (S e.1).fp e.2, ws.heap.size ≤ b ∧ b < w.heap.size) →
    (∀ e ∈ E, ∀ e' ∈ E, e.1 ≠ e'.1 → ∀ b ∈ (S e.1).fp e.2, b ∉ (S e'.1).fp e'.2) → N a w) : wpF P S ws N O [] E a := h
end
end Go.Proofs.Ytnifgkgdphlleaa
