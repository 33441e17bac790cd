import Derived.Test.YtkpodagbefnebaaGreatDoorYa17
import Derived.Test.YtkpodagbefnebaaGreatDoorYa19
set_option linter.unusedSimpArgs false
set_option linter.unusedVariables false
set_option linter.unusedSectionVars false
namespace Go.Proofs.YtkpodagbefnebaaGreatDoor
namespace Am
open Tk
theorem flK_nm {c : Int} {ts : List Tok} {i : Nat} {α : Type} {g : Fa} (h : (Except.error (flK c ts i) : Except Fa α) = .error g) : g.name = ⟨#[]⟩ := by
  injection h with h; subst h; rfl
theorem bin_nm (ts : List Tok) : ∀ f : Nat, (∀ {i d : Nat} {g : Fa}, notK ts f i d = .error g → g.name = ⟨#[]⟩) ∧ (∀ {n i d : Nat} {g : Fa}, binK ts f n i d = .error g → g.name = ⟨#[]⟩) ∧ (∀ {n i d : Nat} {e : Ex} {g : Fa}, bilK ts f n e i d = .error g → g.name = ⟨#[]⟩)
  | 0 => ⟨fun h => (by rw [notK] at h; exact flK_nm h), fun h => (by rw [binK] at h; exact flK_nm h), fun h => (by rw [bilK] at h; exact flK_nm h)⟩
  | f + 1 => by
    obtain ⟨i1, i2, i3⟩ := bin_nm ts f
    refine ⟨fun {i d g} h => ?_, fun {n i d g} h => ?_, fun {n i d e g} h => ?_⟩
    · rw [notK] at h
      split at h
      · split at h
        · exact flK_nm h
        · rcases bind_err h with h | ⟨a, _, h⟩
          · exact i1 h
          · cases h
      · split at h
        · split at h
          · exact flK_nm h
          · rcases bind_err h with h | ⟨a, _, h⟩
            · exact i2 h
            · try dsimp only at h
              split at h
              · cases h
              · exact flK_nm h
        · split at h
          · cases h
          · exact flK_nm h
    · rw [binK] at h
      split at h
      · exact i1 h
      · rcases bind_err h with h | ⟨a, _, h⟩
        · exact i2 h
        · exact i3 h
    · rw [bilK] at h
      split at h
      · cases h
      · rcases bind_err h with h | ⟨a, _, h⟩
        · exact i2 h
        · exact i3 h
theorem tksK_nm {ts : List Tok} {g : Fa} (h : tksK ts = .error g) : g.name = ⟨#[]⟩ := by
  unfold tksK at h
  rcases bind_err h with h | ⟨a, _, h⟩
  · exact (bin_nm ts _).2.1 h
  · try dsimp only at h
    split at h
    · exact flK_nm h
    · cases h
def NZ (l : List Tok) {β : Type} (x : Except Fa β) : Prop := ∀ g, x = .error g → g.code ≠ 0 ∧ (g.name = ⟨#[]⟩ ∨ ∃ t ∈ l, g.name = t.text)
section
variable {l : List Tok}
theorem NZ.ok {β : Type} (b : β) : NZ l (.ok b : Except Fa β) := fun g h => (by cases h)
theorem NZ.fl {β : Type} {c : Int} {k : Ix l} (hc : c ≠ 0) : NZ l (.error (flt c (tk k)) : Except Fa β) := fun g h => (by injection h with h; subst h; exact ⟨hc, .inr ⟨tk k, List.getElem_mem _, rfl⟩⟩)
theorem NZ.f0 {β : Type} {c : Int} {p : Po} (hc : c ≠ 0) : NZ l (.error (fl0 c p) : Except Fa β) := fun g h => (by injection h with h; subst h; exact ⟨hc, .inl rfl⟩)
theorem NZ.ite {β : Type} {p : Prop} [Decidable p] {x y : Except Fa β} (h1 : NZ l x) (h2 : NZ l y) : NZ l (if p then x else y) := by
  by_cases hp : p
  · rw [if_pos hp]; exact h1
  · rw [if_neg hp]; exact h2
theorem NZ.bind {α β : Type} {x : Except Fa α} {f : α → Except Fa β} (h : NZ l x) (k : ∀ a, NZ l (f a)) : NZ l (x >>= f) := fun g e => by
  rcases bind_err e with e | ⟨a, _, e⟩
  · exact h g e
  · exact k a g e
theorem need_nz (s : ByteArray) (k : Ix l) : NZ l (needP s k) := by
  unfold needP
  repeat' (first | exact NZ.ok _ | exact NZ.fl (by decide) | (with_reducible refine NZ.ite ?_ ?_))
theorem needW_nz (s : ByteArray) (k : Ix l) : NZ l (needWP s k) := by
  unfold needWP
  repeat' (first | exact NZ.ok _ | exact NZ.fl (by decide) | (with_reducible refine NZ.ite ?_ ?_))
theorem name_nz (k : Ix l) : NZ l (nameP k) := by
  unfold nameP
  repeat' (first | exact NZ.ok _ | exact NZ.fl (by decide) | (with_reducible refine NZ.ite ?_ ?_))
theorem bracedL_nz : ∀ (n : Nat) (acc : List ByteArray) (k : Ix l), NZ l (bracedL n acc k)
  | 0, _, _ => by rw [bracedL]; exact NZ.fl (by decide)
  | n + 1, _, _ => by
    rw [bracedL]
    repeat' (first | exact NZ.ok _ | exact name_nz _ | exact bracedL_nz n _ _ | (with_reducible refine NZ.bind ?_ fun x => ?_) | (with_reducible refine NZ.ite ?_ ?_))
theorem braced_nz (k : Ix l) : NZ l (bracedP k) := by
  unfold bracedP
  repeat' (first | exact need_nz _ _ | exact name_nz _ | exact bracedL_nz _ _ _ | (with_reducible refine NZ.bind ?_ fun x => ?_))
theorem listedL_nz : ∀ (n : Nat) (acc : List ByteArray) (k : Ix l), NZ l (listedL n acc k)
  | 0, _, _ => by rw [listedL]; exact NZ.fl (by decide)
  | n + 1, _, _ => by
    rw [listedL]
    repeat' (first | exact NZ.ok _ | exact name_nz _ | exact listedL_nz n _ _ | (with_reducible refine NZ.bind ?_ fun x => ?_) | (with_reducible refine NZ.ite ?_ ?_))
theorem listed_nz (k : Ix l) : NZ l (listedP k) := by
  unfold listedP
  repeat' (first | exact name_nz _ | exact listedL_nz _ _ _ | (with_reducible refine NZ.bind ?_ fun x => ?_))
theorem elem_nz (a b : Bool) (s : NS) (k : Ix l) : NZ l (elemP a b s k) := by
  unfold elemP
  repeat' (first | exact NZ.ok _ | exact name_nz _ | (with_reducible refine NZ.bind ?_ fun x => ?_) | (with_reducible refine NZ.ite ?_ ?_))
theorem setL_nz (a : Bool) : ∀ (n : Nat) (s : NS) (k : Ix l), NZ l (setL a n s k)
  | 0, _, _ => by rw [setL]; exact NZ.fl (by decide)
  | n + 1, _, _ => by
    rw [setL]
    repeat' (first | exact NZ.ok _ | exact elem_nz _ _ _ _ | exact setL_nz a n _ _ | (with_reducible refine NZ.bind ?_ fun x => ?_) | (with_reducible refine NZ.ite ?_ ?_))
theorem set_nz (a : Bool) (k : Ix l) : NZ l (setP a k) := by
  unfold setP
  repeat' (first | exact NZ.ok _ | exact name_nz _ | exact elem_nz _ _ _ _ | exact setL_nz _ _ _ _ | (with_reducible refine NZ.bind ?_ fun x => ?_) | (with_reducible refine NZ.ite ?_ ?_))
theorem spanP1_nz (k : Ix l) : NZ l (spanP1 k) := by
  unfold spanP1
  repeat' (first | exact NZ.ok _ | exact name_nz _ | (with_reducible refine NZ.bind ?_ fun x => ?_) | (with_reducible refine NZ.ite ?_ ?_))
theorem levelL_nz : ∀ (n : Nat) (v : Lv) (k : Ix l), NZ l (levelL n v k)
  | 0, _, _ => by rw [levelL]; exact NZ.fl (by decide)
  | n + 1, _, _ => by
    rw [levelL]
    repeat' (first | exact NZ.ok _ | exact spanP1_nz _ | exact levelL_nz n _ _ | (with_reducible refine NZ.bind ?_ fun x => ?_) | (with_reducible refine NZ.ite ?_ ?_))
theorem level_nz (k : Ix l) : NZ l (levelP k) := by
  unfold levelP
  repeat' (first | exact NZ.ok _ | exact name_nz _ | exact levelL_nz _ _ _ | (with_reducible refine NZ.bind ?_ fun x => ?_) | (with_reducible refine NZ.ite ?_ ?_))
theorem range_nz (k : Ix l) : NZ l (rangeP k) := by
  unfold rangeP
  repeat' (first | exact NZ.ok _ | exact level_nz _ | (with_reducible refine NZ.bind ?_ fun x => ?_) | (with_reducible refine NZ.ite ?_ ?_))
theorem context_nz (k : Ix l) : NZ l (contextP k) := by
  unfold contextP
  repeat' (first | exact NZ.ok _ | exact need_nz _ _ | exact name_nz _ | exact range_nz _ | (with_reducible refine NZ.bind ?_ fun x => ?_))
theorem choose_nz (ws : List ByteArray) (k : Ix l) : NZ l (chooseP ws k) := by
  unfold chooseP
  repeat' (first | exact NZ.ok _ | exact NZ.fl (by decide) | split)
theorem attr_nz (v : Bool) (k : Ix l) : NZ l (attrP v k) := by
  unfold attrP
  repeat' (first | exact NZ.ok _ | exact NZ.fl (by decide) | (with_reducible refine NZ.ite ?_ ?_) | split)
theorem rel_nz (k : Ix l) : NZ l (relP k) := by
  unfold relP
  repeat' (first | exact NZ.ok _ | exact choose_nz _ _ | (with_reducible refine NZ.bind ?_ fun x => ?_) | (with_reducible refine NZ.ite ?_ ?_))
theorem cmp_nz (v : Bool) (k : Ix l) : NZ l (cmpP v k) := by
  unfold cmpP
  repeat' (first | exact NZ.ok _ | exact name_nz _ | exact braced_nz _ | exact attr_nz _ _ | exact rel_nz _ | (with_reducible refine NZ.bind ?_ fun x => ?_) | (with_reducible refine NZ.ite ?_ ?_))
theorem comp_nz (v : Bool) : ∀ n : Nat, (∀ k : Ix l, NZ l (compP v n k)) ∧ (∀ k : Ix l, NZ l (bothP v n k)) ∧ (∀ (e : Ex) (k : Ix l), NZ l (bothL v n e k)) ∧ (∀ k : Ix l, NZ l (eithP v n k)) ∧ (∀ (e : Ex) (k : Ix l), NZ l (eithL v n e k))
  | 0 => ⟨fun k => (by rw [compP]; exact NZ.fl (by decide)), fun k => (by rw [bothP]; exact NZ.fl (by decide)), fun e k => (by rw [bothL]; exact NZ.fl (by decide)), fun k => (by rw [eithP]; exact NZ.fl (by decide)), fun e k => (by rw [eithL]; exact NZ.fl (by decide))⟩
  | n + 1 => by
    obtain ⟨i1, i2, i3, i4, i5⟩ := comp_nz v n
    refine ⟨fun k => ?_, fun k => ?_, fun e k => ?_, fun k => ?_, fun e k => ?_⟩
    · rw [compP]
      repeat' (first | exact NZ.ok _ | exact need_nz _ _ | exact cmp_nz _ _ | exact i1 _ | exact i2 _ | exact i3 _ _ | exact i4 _ | exact i5 _ _ | (with_reducible refine NZ.bind ?_ fun x => ?_) | (with_reducible refine NZ.ite ?_ ?_))
    · rw [bothP]
      repeat' (first | exact NZ.ok _ | exact need_nz _ _ | exact cmp_nz _ _ | exact i1 _ | exact i2 _ | exact i3 _ _ | exact i4 _ | exact i5 _ _ | (with_reducible refine NZ.bind ?_ fun x => ?_) | (with_reducible refine NZ.ite ?_ ?_))
    · rw [bothL]
      repeat' (first | exact NZ.ok _ | exact need_nz _ _ | exact cmp_nz _ _ | exact i1 _ | exact i2 _ | exact i3 _ _ | exact i4 _ | exact i5 _ _ | (with_reducible refine NZ.bind ?_ fun x => ?_) | (with_reducible refine NZ.ite ?_ ?_))
    · rw [eithP]
      repeat' (first | exact NZ.ok _ | exact need_nz _ _ | exact cmp_nz _ _ | exact i1 _ | exact i2 _ | exact i3 _ _ | exact i4 _ | exact i5 _ _ | (with_reducible refine NZ.bind ?_ fun x => ?_) | (with_reducible refine NZ.ite ?_ ?_))
    · rw [eithL]
      repeat' (first | exact NZ.ok _ | exact need_nz _ _ | exact cmp_nz _ _ | exact i1 _ | exact i2 _ | exact i3 _ _ | exact i4 _ | exact i5 _ _ | (with_reducible refine NZ.bind ?_ fun x => ?_) | (with_reducible refine NZ.ite ?_ ?_))
theorem constr_nz (v : Bool) (k : Ix l) : NZ l (constrP v k) := by
  unfold constrP
  repeat' (first | exact NZ.ok _ | exact NZ.fl (by decide) | exact (comp_nz _ _).2.2.2.1 _ | (with_reducible refine NZ.bind ?_ fun x => ?_) | (with_reducible refine NZ.ite ?_ ?_))
theorem text_nz (k : Ix l) : NZ l (textP k) := by
  unfold textP
  repeat' (first | exact NZ.ok _ | exact NZ.fl (by decide) | (with_reducible refine NZ.ite ?_ ?_))
theorem decl_nz (w : ByteArray) (s : Stm) (k : Ix l) : NZ l (declP w s k) := by
  unfold declP
  repeat' (first | exact NZ.ok _ | exact needW_nz _ _ | exact name_nz _ | exact braced_nz _ | exact listedL_nz _ _ _ | exact listed_nz _ | exact set_nz _ _ | exact level_nz _ | exact range_nz _ | exact choose_nz _ _ | (with_reducible refine NZ.bind ?_ fun x => ?_) | (with_reducible refine NZ.ite ?_ ?_))
theorem pair_nz (b : Bool) (s : Stm) (k : Ix l) : NZ l (pairP b s k) := by
  unfold pairP
  repeat' (first | exact NZ.ok _ | exact need_nz _ _ | exact set_nz _ _ | (with_reducible refine NZ.bind ?_ fun x => ?_))
theorem rule_nz (w : ByteArray) (s : Stm) (k : Ix l) : NZ l (ruleP w s k) := by
  unfold ruleP
  repeat' (first | exact NZ.ok _ | exact NZ.fl (by decide) | exact name_nz _ | exact set_nz _ _ | exact range_nz _ | exact constr_nz _ _ | exact pair_nz _ _ _ | (with_reducible refine NZ.bind ?_ fun x => ?_) | (with_reducible refine NZ.ite ?_ ?_))
theorem other_nz (w : ByteArray) (s : Stm) (k : Ix l) : NZ l (otherP w s k) := by
  unfold otherP
  repeat' (first | exact NZ.ok _ | exact name_nz _ | exact braced_nz _ | exact listed_nz _ | exact set_nz _ _ | exact context_nz _ | exact choose_nz _ _ | exact text_nz _ | (with_reducible refine NZ.bind ?_ fun x => ?_) | (with_reducible refine NZ.ite ?_ ?_))
theorem plain_nz (w : ByteArray) (s : Stm) (k : Ix l) : NZ l (plainP w s k) := by
  unfold plainP
  repeat' (first | exact NZ.ok _ | exact need_nz _ _ | exact decl_nz _ _ _ | exact rule_nz _ _ _ | exact other_nz _ _ _ | (with_reducible refine NZ.bind ?_ fun x => ?_) | (with_reducible refine NZ.ite ?_ ?_))
theorem head_nz (k : Ix l) : NZ l (headP k) := by
  unfold headP
  repeat' (first | exact NZ.ok _ | exact NZ.fl (by decide) | exact need_nz _ _ | exact needW_nz _ _ | exact name_nz _ | (with_reducible refine NZ.bind ?_ fun x => ?_) | (with_reducible refine NZ.ite ?_ ?_))
theorem cond_nz (k : Ix l) : NZ l (condP tksK k) := by
  unfold condP
  exact NZ.bind (fun g h => ⟨tksK_err h, .inl (tksK_nm h)⟩) fun x => NZ.ok _
theorem stmts_nz : ∀ n : Nat, (∀ (d : Nat) (k : Ix l) (c : Nat), NZ l (stmtP tksK n d k c)) ∧ (∀ (d : Nat) (b : Bool) (s : Stm) (k : Ix l) (c : Nat), NZ l (blocksP tksK n d b s k c)) ∧ (∀ (d : Nat) (k : Ix l) (c : Nat), NZ l (blockP tksK n d k c)) ∧ (∀ (d : Nat) (a : List Stm) (k : Ix l) (c : Nat), NZ l (stmtsP tksK n d a k c))
  | 0 => ⟨fun d k c => (by rw [stmtP]; exact NZ.fl (by decide)), fun d b s k c => (by rw [blocksP]; exact NZ.fl (by decide)), fun d k c => (by rw [blockP]; exact NZ.fl (by decide)), fun d a k c => (by rw [stmtsP]; exact NZ.fl (by decide))⟩
  | n + 1 => by
    obtain ⟨i1, i2, i3, i4⟩ := stmts_nz n
    refine ⟨fun d k c => ?_, fun d b s k c => ?_, fun d k c => ?_, fun d a k c => ?_⟩
    · rw [stmtP]
      repeat' (first | exact NZ.ok _ | exact NZ.fl (by decide) | exact need_nz _ _ | exact plain_nz _ _ _ | exact cond_nz _ | exact i1 _ _ _ | exact i2 _ _ _ _ _ | exact i3 _ _ _ | exact i4 _ _ _ _ | (with_reducible refine NZ.bind ?_ fun x => ?_) | (with_reducible refine NZ.ite ?_ ?_))
    · rw [blocksP]
      repeat' (first | exact NZ.ok _ | exact NZ.fl (by decide) | exact need_nz _ _ | exact plain_nz _ _ _ | exact cond_nz _ | exact i1 _ _ _ | exact i2 _ _ _ _ _ | exact i3 _ _ _ | exact i4 _ _ _ _ | (with_reducible refine NZ.bind ?_ fun x => ?_) | (with_reducible refine NZ.ite ?_ ?_))
    · rw [blockP]
      repeat' (first | exact NZ.ok _ | exact NZ.fl (by decide) | exact need_nz _ _ | exact plain_nz _ _ _ | exact cond_nz _ | exact i1 _ _ _ | exact i2 _ _ _ _ _ | exact i3 _ _ _ | exact i4 _ _ _ _ | (with_reducible refine NZ.bind ?_ fun x => ?_) | (with_reducible refine NZ.ite ?_ ?_))
    · rw [stmtsP]
      repeat' (first | exact NZ.ok _ | exact NZ.fl (by decide) | exact need_nz _ _ | exact plain_nz _ _ _ | exact cond_nz _ | exact i1 _ _ _ | exact i2 _ _ _ _ _ | exact i3 _ _ _ | exact i4 _ _ _ _ | (with_reducible refine NZ.bind ?_ fun x => ?_) | (with_reducible refine NZ.ite ?_ ?_))
def modQ (k : Ix l) : Except Fa (Mo × (Ix l × Nat)) := headP k >>= fun x => stmtsP tksK (fuel l) 0 [] x.2 0 >>= fun y => .ok ({ x.1 with stmts := y.1 }, y.2)
def zQ {α : Type} (x : Except Fa (α × Ix l)) : Except Fa (α × (Ix l × Nat)) := x >>= fun y => .ok (y.1, (y.2, 0))
theorem modQ_nz (k : Ix l) : NZ l (modQ k) := by
  unfold modQ
  repeat' (first | exact NZ.ok _ | exact head_nz _ | exact (stmts_nz _).2.2.2 _ _ _ _ | (with_reducible refine NZ.bind ?_ fun x => ?_))
theorem zQ_nz {α : Type} {x : Except Fa (α × Ix l)} (h : NZ l x) : NZ l (zQ x) := NZ.bind h fun _ => NZ.ok _
end
def runP {α : Type} (src : ByteArray) (sp : ∀ l : List Tok, Ix l → Except Fa (α × (Ix l × Nat))) : Except Fa α :=
  scanP src >>= fun l => if h : 0 < l.length then sp l ⟨0, h⟩ >>= fun x => if (tk x.2.1).kind = 0 then .ok x.1 else .error (flt 9 (tk x.2.1)) else .error (fl0 9 ⟨0, 0⟩)
theorem scanF_nz (src : ByteArray) : ∀ n k : Nat, NZ [] (scanF src n k)
  | 0, _ => NZ.ok _
  | n + 1, k => by
    rw [scanF]
    split
    · exact NZ.ok _
    · split
      · rename_i c off ho
        exact NZ.f0 (oneR_err0 ho)
      · exact NZ.bind (scanF_nz src n _) fun _ => NZ.ok _
theorem scanP_nz (src : ByteArray) : NZ [] (scanP src) := by
  unfold scanP
  split
  · exact NZ.f0 (by decide)
  · exact scanF_nz _ _ _
def NZs {α : Type} (sp : ∀ l : List Tok, Ix l → Except Fa (α × (Ix l × Nat))) : Prop := ∀ (l : List Tok) (k : Ix l), NZ l (sp l k)
theorem runP_nz {α : Type} (src : ByteArray) {sp : ∀ l : List Tok, Ix l → Except Fa (α × (Ix l × Nat))} (h : NZs sp) {f : Fa} (hf : runP src sp = .error f) : f.code ≠ 0 := by
  unfold runP at hf
  rcases bind_err hf with hf | ⟨l, _, hf⟩
  · exact (scanP_nz _ f hf).1
  · split at hf
    · rename_i hl
      refine (NZ.bind (h l ⟨0, hl⟩) (fun x => ?_) f hf).1
      split
      · exact NZ.ok _
      · exact NZ.fl (by decide)
    · injection hf with hf; subst hf; exact (by decide : (9 : Int) ≠ 0)
def parseP (src : ByteArray) : Except Fa Mo := runP src fun _ k => modQ k
def namesT (src : ByteArray) : Except Fa NS := runP src fun _ k => zQ (setP true k)
def rangeT (src : ByteArray) : Except Fa Rg := runP src fun _ k => zQ (rangeP k)
def ctxT (src : ByteArray) : Except Fa Ct := runP src fun _ k => zQ (contextP k)
end Am
end Go.Proofs.YtkpodagbefnebaaGreatDoor
