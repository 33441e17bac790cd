import Derived.Test.YtkpodagbefnebaaGreatDoorYc17
import Derived.Test.YtkpodagbefnebaaGreatDoorYc19
import Derived.Test.YtkpodagbefnebaaGreatDoorYc18
set_option linter.unusedSimpArgs false
set_option linter.unusedVariables false
set_option linter.unusedSectionVars false
namespace Go.Proofs.YtkpodagbefnebaaGreatDoor
namespace Am
open Tk
theorem flK_nm {c : Int} {ts : List Tok} {i : Nat} {α : Type} {g : Fa} (h : (Except.error (flK c ts i) : Except Fa α) = .error g) : g.name = ⟨#[]⟩ := by
  injection h with h; subst h; rfl
theorem bin_nm (ts : List Tok) : ∀ f : Nat, (∀ {i d : Nat} {g : Fa}, notK ts f i d = .error g → g.name = ⟨#[]⟩) ∧ (∀ {n i d : Nat} {g : Fa}, binK ts f n i d = .error g → g.name = ⟨#[]⟩) ∧ (∀ {n i d : Nat} {e : Ex} {g : Fa}, bilK ts f n e i d = .error g → g.name = ⟨#[]⟩)
  | 0 => ⟨fun h => (by rw [notK] at h; exact flK_nm h), fun h => (by rw [binK] at h; exact flK_nm h), fun h => (by rw [bilK] at h; exact flK_nm h)⟩
  | f + 1 => by
    obtain ⟨i1, i2, i3⟩ := bin_nm ts f
    refine ⟨fun {i d g} h => ?_, fun {n i d g} h => ?_, fun {n i d e g} h => ?_⟩
    · rw [notK] at h
      split at h
      · split at h
        · exact flK_nm h
        · rcases bind_err h with h | ⟨a, _, h⟩
          · exact i1 h
          · cases h
      · split at h
        · split at h
          · exact flK_nm h
          · rcases bind_err h with h | ⟨a, _, h⟩
            · exact i2 h
            · try dsimp only at h
              split at h
              · cases h
              · exact flK_nm h
        · split at h
          · cases h
          · exact flK_nm h
    · rw [binK] at h
      split at h
      · exact i1 h
      · rcases bind_err h with h | ⟨a, _, h⟩
        · exact i2 h
        · exact i3 h
    · rw [bilK] at h
      split at h
      · cases h
      · rcases bind_err h with h | ⟨a, _, h⟩
        · exact i2 h
        · exact i3 h
theorem tksK_nm {ts : List Tok} {g : Fa} (h : tksK ts = .error g) : g.name = ⟨#[]⟩ := by
  unfold tksK at h
  rcases bind_err h with h | ⟨a, _, h⟩
  · exact (bin_nm ts _).2.1 h
  · try dsimp only at h
    split at h
    · exact flK_nm h
    · cases h
def NZ (l : List Tok) {β : Type} (x : Except Fa β) : Prop := ∀ g, x = .error g → g.code ≠ 0 ∧ (g.name = ⟨#[]⟩ ∨ ∃ t ∈ l, g.name = t.text)
section
variable {l : List Tok}
theorem NZ.ok {β : Type} (b : β) : NZ l (.ok b : Except Fa β) := fun g h => (by cases h)
theorem NZ.fl {β : Type} {c : Int} {k : Ix l} (hc : c ≠ 0) : NZ l (.error (flt c (tk k)) : Except Fa β) := fun g h => (by injection h with h; subst h; exact ⟨hc, .inr ⟨tk k, List.getElem_mem _, rfl⟩⟩)
theorem NZ.f0 {β : Type} {c : Int} {p : Po} (hc : c ≠ 0) : NZ l (.error (fl0 c p) : Except Fa β) := fun g h => (by injection h with h; subst h; exact ⟨hc, .inl rfl⟩)
theorem NZ.ite {β : Type} {p : Prop} [Decidable p] {x y : Except Fa β} (h1 : NZ l x) (h2 : NZ l y) : NZ l (if p then x else y) := by
  by_cases hp : p
  · rw [if_pos hp]; exact h1
  · rw [if_neg hp]; exact h2
theorem NZ.bind {α β : Type} {x : Except Fa α} {f : α → Except Fa β} (h : NZ l x) (k : ∀ a, NZ l (f a)) : NZ l (x >>= f) := fun g e => by
  rcases bind_err e with e | ⟨a, _, e⟩
  · exact h g e
  · exact k a g e
theorem need_nz (s : ByteArray) (k : Ix l) : NZ l (needP s k) := by
  unfold needP
  repeat' (first | exact NZ.ok _ | exact NZ.fl (by decide) | (with_reducible refine NZ.ite ?_ ?_))
theorem needW_nz (s : ByteArray) (k : Ix l) : NZ l (needWP s k) := by
  unfold needWP
  repeat' (first | exact NZ.ok _ | exact NZ.fl (by decide) | (with_reducible refine NZ.ite ?_ ?_))
theorem name_nz (k : Ix l) : NZ l (nameP k) := by
  unfold nameP
  repeat' (first | exact NZ.ok _ | exact NZ.fl (by decide) | (with_reducible refine NZ.ite ?_ ?_))
theorem bracedL_nz : ∀ (n : Nat) (acc : List ByteArray) (k : Ix l), NZ l (bracedL n acc k)
  | 0, _, _ => by rw [bracedL]; exact NZ.fl (by decide)
  | n + 1, _, _ => by
    rw [bracedL]
    repeat' (first | exact NZ.ok _ | exact name_nz _ | exact bracedL_nz n _ _ | (with_reducible refine NZ.bind ?_ fun x => ?_) | (with_reducible refine NZ.ite ?_ ?_))
theorem braced_nz (k : Ix l) : NZ l (bracedP k) := by
  unfold bracedP
  repeat' (first | exact need_nz _ _ | exact name_nz _ | exact bracedL_nz _ _ _ | (with_reducible refine NZ.bind ?_ fun x => ?_))
theorem listedL_nz : ∀ (n : Nat) (acc : List ByteArray) (k : Ix l), NZ l (listedL n acc k)
  | 0, _, _ => by rw [listedL]; exact NZ.fl (by decide)
  | n + 1, _, _ => by
    rw [listedL]
    repeat' (first | exact NZ.ok _ | exact name_nz _ | exact listedL_nz n _ _ | (with_reducible refine NZ.bind ?_ fun x => ?_) | (with_reducible refine NZ.ite ?_ ?_))
theorem listed_nz (k : Ix l) : NZ l (listedP k) := by
  unfold listedP
  repeat' (first | exact name_nz _ | exact listedL_nz _ _ _ | (with_reducible refine NZ.bind ?_ fun x => ?_))
theorem elem_nz (a b : Bool) (s : NS) (k : Ix l) : NZ l (elemP a b s k) := by
  unfold elemP
  repeat' (first | exact NZ.ok _ | exact name_nz _ | (with_reducible refine NZ.bind ?_ fun x => ?_) | (with_reducible refine NZ.ite ?_ ?_))
theorem setL_nz (a : Bool) : ∀ (n : Nat) (s : NS) (k : Ix l), NZ l (setL a n s k)
  | 0, _, _ => by rw [setL]; exact NZ.fl (by decide)
  | n + 1, _, _ => by
    rw [setL]
    repeat' (first | exact NZ.ok _ | exact elem_nz _ _ _ _ | exact setL_nz a n _ _ | (with_reducible refine NZ.bind ?_ fun x => ?_) | (with_reducible refine NZ.ite ?_ ?_))
theorem set_nz (a : Bool) (k : Ix l) : NZ l (setP a k) := by
  unfold setP
  repeat' (first | exact NZ.ok _ | exact name_nz _ | exact elem_nz _ _ _ _ | exact setL_nz _ _ _ _ | (with_reducible refine NZ.bind ?_ fun x => ?_) | (with_reducible refine NZ.ite ?_ ?_))
theorem spanP1_nz (k : Ix l) : NZ l (spanP1 k) := by
  unfold spanP1
  repeat' (first | exact NZ.ok _ | exact name_nz _ | (with_reducible refine NZ.bind ?_ fun x => ?_) | (with_reducible refine NZ.ite ?_ ?_))
theorem levelL_nz : ∀ (n : Nat) (v : Lv) (k : Ix l), NZ l (levelL n v k)
  | 0, _, _ => by rw [levelL]; exact NZ.fl (by decide)
  | n + 1, _, _ => by
    rw [levelL]
    repeat' (first | exact NZ.ok _ | exact spanP1_nz _ | exact levelL_nz n _ _ | (with_reducible refine NZ.bind ?_ fun x => ?_) | (with_reducible refine NZ.ite ?_ ?_))
theorem level_nz (k : Ix l) : NZ l (levelP k) := by
  unfold levelP
  repeat' (first | exact NZ.ok _ | exact name_nz _ | exact levelL_nz _ _ _ | (with_reducible refine NZ.bind ?_ fun x => ?_) | (with_reducible refine NZ.ite ?_ ?_))
theorem range_nz (k : Ix l) : NZ l (rangeP k) := by
  unfold rangeP
  repeat' (first | exact NZ.ok _ | exact level_nz _ | (with_reducible refine NZ.bind ?_ fun x => ?_) | (with_reducible refine NZ.ite ?_ ?_))
theorem context_nz (k : Ix l) : NZ l (contextP k) := by
  unfold contextP
  repeat' (first | exact NZ.ok _ | exact need_nz _ _ | exact name_nz _ | exact range_nz _ | (with_reducible refine NZ.bind ?_ fun x => ?_))
theorem choose_nz (ws : List ByteArray) (k : Ix l) : NZ l (chooseP ws k) := by
  unfold chooseP
  repeat' (first | exact NZ.ok _ | exact NZ.fl (by decide) | split)
theorem attr_nz (v : Bool) (k : Ix l) : NZ l (attrP v k) := by
  unfold attrP
  repeat' (first | exact NZ.ok _ | exact NZ.fl (by decide) | (with_reducible refine NZ.ite ?_ ?_) | split)
theorem rel_nz (k : Ix l) : NZ l (relP k) := by
  unfold relP
  repeat' (first | exact NZ.ok _ | exact choose_nz _ _ | (with_reducible refine NZ.bind ?_ fun x => ?_) | (with_reducible refine NZ.ite ?_ ?_))
theorem cmp_nz (v : Bool) (k : Ix l) : NZ l (cmpP v k) := by
  unfold cmpP
  repeat' (first | exact NZ.ok _ | exact name_nz _ | exact braced_nz _ | exact attr_nz _ _ | exact rel_nz _ | (with_reducible refine NZ.bind ?_ fun x => ?_) | (with_reducible refine NZ.ite ?_ ?_))
theorem comp_nz (v : Bool) : ∀ n : Nat, (∀ k : Ix l, NZ l (compP v n k)) ∧ (∀ k : Ix l, NZ l (bothP v n k)) ∧ (∀ (e : Ex) (k : Ix l), NZ l (bothL v n e k)) ∧ (∀ k : Ix l, NZ l (eithP v n k)) ∧ (∀ (e : Ex) (k : Ix l), NZ l (eithL v n e k))
  | 0 => ⟨fun k => (by rw [compP]; exact NZ.fl (by decide)), fun k => (by rw [bothP]; exact NZ.fl (by decide)), fun e k => (by rw [bothL]; exact NZ.fl (by decide)), fun k => (by rw [eithP]; exact NZ.fl (by decide)), fun e k => (by rw [eithL]; exact NZ.fl (by decide))⟩
  | n + 1 => by
    obtain ⟨i1, i2, i3, i4, i5⟩ := comp_nz v n
    refine ⟨fun k => ?_, fun k => ?_, fun e k => ?_, fun k => ?_, fun e k => ?_⟩
    · rw [compP]
      repeat' (first | exact NZ.ok _ | exact need_nz _ _ | exact cmp_nz _ _ | exact i1 _ | exact i2 _ | exact i3 _ _ | exact i4 _ | exact i5 _ _ | (with_reducible refine NZ.bind ?_ fun x => ?_) | (with_reducible refine NZ.ite ?_ ?_))
    · rw [bothP]
      repeat' (first | exact NZ.ok _ | exact need_nz _ _ | exact cmp_nz _ _ | exact i1 _ | exact i2 _ | exact i3 _ _ | exact i4 _ | exact i5 _ _ | (with_reducible refine NZ.bind ?_ fun x => ?_) | (with_reducible refine NZ.ite ?_ ?_))
    · rw [bothL]
      repeat' (first | exact NZ.ok _ | exact need_nz _ _ | exact cmp_nz _ _ | exact i1 _ | exact i2 _ | exact i3 _ _ | exact i4 _ | exact i5 _ _ | (with_reducible refine NZ.bind ?_ fun x => ?_) | (with_reducible refine NZ.ite ?_ ?_))
    · rw [eithP]
      repeat' (first | exact NZ.ok _ | exact need_nz _ _ | exact cmp_nz _ _ | exact i1 _ | exact i2 _ | exact i3 _ _ | exact i4 _ | exact i5 _ _ | (with_reducible refine NZ.bind ?_ fun x => ?_) | (with_reducible refine NZ.ite ?_ ?_))
    · rw [eithL]
      repeat' (first | exact NZ.ok _ | exact need_nz _ _ | exact cmp_nz _ _ | exact i1 _ | exact i2 _ | exact i3 _ _ | exact i4 _ | exact i5 _ _ | (with_reducible refine NZ.bind ?_ fun x => ?_) | (with_reducible refine NZ.ite ?_ ?_))
theorem constr_nz (v : Bool) (k : Ix l) : NZ l (constrP v k) := by
  unfold constrP
  repeat' (first | exact NZ.ok _ | exact NZ.fl (by decide) | exact (comp_nz _ _).2.2.2.1 _ | (with_reducible refine NZ.bind ?_ fun x => ?_) | (with_reducible refine NZ.ite ?_ ?_))
theorem text_nz (k : Ix l) : NZ l (textP k) := by
  unfold textP
  repeat' (first | exact NZ.ok _ | exact NZ.fl (by decide) | (with_reducible refine NZ.ite ?_ ?_))
theorem decl_nz (w : ByteArray) (s : Stm) (k : Ix l) : NZ l (declP w s k) := by
  unfold declP
  repeat' (first | exact NZ.ok _ | exact needW_nz _ _ | exact name_nz _ | exact braced_nz _ | exact listedL_nz _ _ _ | exact listed_nz _ | exact set_nz _ _ | exact level_nz _ | exact range_nz _ | exact choose_nz _ _ | (with_reducible refine NZ.bind ?_ fun x => ?_) | (with_reducible refine NZ.ite ?_ ?_))
theorem pair_nz (b : Bool) (s : Stm) (k : Ix l) : NZ l (pairP b s k) := by
  unfold pairP
  repeat' (first | exact NZ.ok _ | exact need_nz _ _ | exact set_nz _ _ | (with_reducible refine NZ.bind ?_ fun x => ?_))
theorem rule_nz (w : ByteArray) (s : Stm) (k : Ix l) : NZ l (ruleP w s k) := by
  unfold ruleP
  repeat' (first | exact NZ.ok _ | exact NZ.fl (by decide) | exact name_nz _ | exact set_nz _ _ | exact range_nz _ | exact constr_nz _ _ | exact pair_nz _ _ _ | (with_reducible refine NZ.bind ?_ fun x => ?_) | (with_reducible refine NZ.ite ?_ ?_))
theorem other_nz (w : ByteArray) (s : Stm) (k : Ix l) : NZ l (otherP w s k) := by
  unfold otherP
  repeat' (first | exact NZ.ok _ | exact name_nz _ | exact braced_nz _ | exact listed_nz _ | exact set_nz _ _ | exact context_nz _ | exact choose_nz _ _ | exact text_nz _ | (with_reducible refine NZ.bind ?_ fun x => ?_) | (with_reducible refine NZ.ite ?_ ?_))
theorem plain_nz (w : ByteArray) (s : Stm) (k : Ix l) : NZ l (plainP w s k) := by
  unfold plainP
  repeat' (first | exact NZ.ok _ | exact need_nz _ _ | exact decl_nz _ _ _ | exact rule_nz _ _ _ | exact other_nz _ _ _ | (with_reducible refine NZ.bind ?_ fun x => ?_) | (with_reducible refine NZ.ite ?_ ?_))
theorem head_nz (k : Ix l) : NZ l (headP k) := by
  unfold headP
  repeat' (first | exact NZ.ok _ | exact NZ.fl (by decide) | exact need_nz _ _ | exact needW_nz _ _ | exact name_nz _ | (with_reducible refine NZ.bind ?_ fun x => ?_) | (with_reducible refine NZ.ite ?_ ?_))
theorem cond_nz (k : Ix l) : NZ l (condP tksK k) := by
  unfold condP
  exact NZ.bind (fun g h => ⟨tksK_err h, .inl (tksK_nm h)⟩) fun x => NZ.ok _
theorem stmts_nz : ∀ n : Nat, (∀ (d : Nat) (k : Ix l) (c : Nat), NZ l (stmtP tksK n d k c)) ∧ (∀ (d : Nat) (b : Bool) (s : Stm) (k : Ix l) (c : Nat), NZ l (blocksP tksK n d b s k c)) ∧ (∀ (d : Nat) (k : Ix l) (c : Nat), NZ l (blockP tksK n d k c)) ∧ (∀ (d : Nat) (a : List Stm) (k : Ix l) (c : Nat), NZ l (stmtsP tksK n d a k c))
  | 0 => ⟨fun d k c => (by rw [stmtP]; exact NZ.fl (by decide)), fun d b s k c => (by rw [blocksP]; exact NZ.fl (by decide)), fun d k c => (by rw [blockP]; exact NZ.fl (by decide)), fun d a k c => (by rw [stmtsP]; exact NZ.fl (by decide))⟩
  | n + 1 => by
    obtain ⟨i1, i2, i3, i4⟩ := stmts_nz n
    refine ⟨fun d k c => ?_, fun d b s k c => ?_, fun d k c => ?_, fun d a k c => ?_⟩
    · rw [stmtP]
      repeat' (first | exact NZ.ok _ | exact NZ.fl (by decide) | exact need_nz _ _ | exact plain_nz _ _ _ | exact cond_nz _ | exact i1 _ _ _ | exact i2 _ _ _ _ _ | exact i3 _ _ _ | exact i4 _ _ _ _ | (with_reducible refine NZ.bind ?_ fun x => ?_) | (with_reducible refine NZ.ite ?_ ?_))
    · rw [blocksP]
      repeat' (first | exact NZ.ok _ | exact NZ.fl (by decide) | exact need_nz _ _ | exact plain_nz _ _ _ | exact cond_nz _ | exact i1 _ _ _ | exact i2 _ _ _ _ _ | exact i3 _ _ _ | exact i4 _ _ _ _ | (with_reducible refine NZ.bind ?_ fun x => ?_) | (with_reducible refine NZ.ite ?_ ?_))
    · rw [blockP]
      repeat' (first | exact NZ.ok _ | exact NZ.fl (by decide) | exact need_nz _ _ | exact plain_nz _ _ _ | exact cond_nz _ | exact i1 _ _ _ | exact i2 _ _ _ _ _ | exact i3 _ _ _ | exact i4 _ _ _ _ | (with_reducible refine NZ.bind ?_ fun x => ?_) | (with_reducible refine NZ.ite ?_ ?_))
    · rw [stmtsP]
      repeat' (first | exact NZ.ok _ | exact NZ.fl (by decide) | exact need_nz _ _ | exact plain_nz _ _ _ | exact cond_nz _ | exact i1 _ _ _ | exact i2 _ _ _ _ _ | exact i3 _ _ _ | exact i4 _ _ _ _ | (with_reducible refine NZ.bind ?_ fun x => ?_) | (with_reducible refine NZ.ite ?_ ?_))
def modQ (k : Ix l) : Except Fa (Mo × (Ix l × Nat)) := headP k >>= fun x => stmtsP tksK (fuel l) 0 [] x.2 0 >>= fun y => .ok ({ x.1 with stmts := y.1 }, y.2)
def zQ {α : Type} (x : Except Fa (α × Ix l)) : Except Fa (α × (Ix l × Nat)) := x >>= fun y => .ok (y.1, (y.2, 0))
theorem modQ_nz (k : Ix l) : NZ l (modQ k) := by
  unfold modQ
  repeat' (first | exact NZ.ok _ | exact head_nz _ | exact (stmts_nz _).2.2.2 _ _ _ _ | (with_reducible refine NZ.bind ?_ fun x => ?_))
theorem zQ_nz {α : Type} {x : Except Fa (α × Ix l)} (h : NZ l x) : NZ l (zQ x) := NZ.bind h fun _ => NZ.ok _
end
def runP {α : Type} (src : ByteArray) (sp : ∀ l : List Tok, Ix l → Except Fa (α × (Ix l × Nat))) : Except Fa α :=
  scanP src >>= fun l => if h : 0 < l.length then sp l ⟨0, h⟩ >>= fun x => if (tk x.2.1).kind = 0 then .ok x.1 else .error (flt 9 (tk x.2.1)) else .error (fl0 9 ⟨0, 0⟩)
theorem scanF_nz (src : ByteArray) : ∀ n k : Nat, NZ [] (scanF src n k)
  | 0, _ => NZ.ok _
  | n + 1, k => by
    rw [scanF]
    split
    · exact NZ.ok _
    · split
      · rename_i c off ho
        exact NZ.f0 (oneR_err0 ho)
      · exact NZ.bind (scanF_nz src n _) fun _ => NZ.ok _
theorem scanP_nz (src : ByteArray) : NZ [] (scanP src) := by
  unfold scanP
  split
  · exact NZ.f0 (by decide)
  · exact scanF_nz _ _ _
def NZs {α : Type} (sp : ∀ l : List Tok, Ix l → Except Fa (α × (Ix l × Nat))) : Prop := ∀ (l : List Tok) (k : Ix l), NZ l (sp l k)
theorem runP_nz {α : Type} (src : ByteArray) {sp : ∀ l : List Tok, Ix l → Except Fa (α × (Ix l × Nat))} (h : NZs sp) {f : Fa} (hf : runP src sp = .error f) : f.code ≠ 0 := by
  unfold runP at hf
  rcases bind_err hf with hf | ⟨l, _, hf⟩
  · exact (scanP_nz _ f hf).1
  · split at hf
    · rename_i hl
      refine (NZ.bind (h l ⟨0, hl⟩) (fun x => ?_) f hf).1
      split
      · exact NZ.ok _
      · exact NZ.fl (by decide)
    · injection hf with hf; subst hf; exact (by decide : (9 : Int) ≠ 0)
def parseP (src : ByteArray) : Except Fa Mo := runP src fun _ k => modQ k
def namesT (src : ByteArray) : Except Fa NS := runP src fun _ k => zQ (setP true k)
def constrT (v : Bool) (src : ByteArray) : Except Fa Ex := runP src fun _ k => zQ (constrP v k)
end Am
namespace Am
open Tk
section
variable {l : List Tok}
def okM (f : Fa) (s : ByteArray) (k : Ix l) : Bool := decide (f.code = 0) && isM s k
def okW (f : Fa) (s : ByteArray) (k : Ix l) : Bool := decide (f.code = 0) && isW s k
def needQ (s : ByteArray) (k : Ix l) (f : Fa) : Ix l × Fa := (adv (okM f s k) k, if okM f s k = true then f else badF f 9 (tk k))
def namesL : Nat → List ByteArray → Ix l → Fa → List ByteArray × (Ix l × Fa)
  | 0, acc, k, f => (acc, (k, f))
  | n + 1, acc, k, f => if (decide (f.code = 0) && !okM f ⟨#[125]⟩ k) = true then namesL n (acc ++ [(nameQ k f).1]) (nameQ k f).2.1 (nameQ k f).2.2 else (acc, (k, f))
def namesQ2 (k : Ix l) (f : Fa) : List ByteArray × (Ix l × Fa) := namesL (fuel l) [(nameQ k f).1] (nameQ k f).2.1 (nameQ k f).2.2
def namesQ1 (k : Ix l) (f : Fa) : List ByteArray × (Ix l × Fa) := ((namesQ2 k f).1, needQ ⟨#[125]⟩ (namesQ2 k f).2.1 (namesQ2 k f).2.2)
def namesQ (k : Ix l) (f : Fa) : List ByteArray × (Ix l × Fa) := namesQ1 (needQ ⟨#[123]⟩ k f).1 (needQ ⟨#[123]⟩ k f).2
def chooseQ (ws : List ByteArray) (k : Ix l) (f : Fa) : Int × (Ix l × Fa) := match ws.findIdx? (fun s => okW f s k) with | some i => ((i : Int) + 1, (nx k, f)) | none => (0, (k, badF f 9 (tk k)))
def RQ {α : Type} (f : Fa) (sp : Except Fa (α × Ix l)) (t : α × (Ix l × Fa)) : Prop := (f.code ≠ 0 → t.2.2 = f) ∧ (f.code = 0 → match sp with | .ok x => t = (x.1, (x.2, f)) | .error g => t.2.2 = g)
section
variable {α β : Type} {f : Fa} {k : Ix l}
theorem ff : ¬ (false = true) := by decide
theorem bad_0 {e : Int} {t : Tok} (h : f.code = 0) : badF f e t = flt e t := if_pos h
theorem bad_1 {e : Int} {t : Tok} (h : f.code ≠ 0) : badF f e t = f := if_neg h
theorem bad_nz {e : Int} {t : Tok} (h : e ≠ 0) : (badF f e t).code ≠ 0 := by
  unfold badF
  split
  · exact h
  · assumption
theorem okM_0 (h : f.code = 0) (s : ByteArray) (k : Ix l) : okM f s k = isM s k := by simp [okM, h]
theorem okM_1 (h : f.code ≠ 0) (s : ByteArray) (k : Ix l) : okM f s k = false := by simp [okM, h]
theorem okW_0 (h : f.code = 0) (s : ByteArray) (k : Ix l) : okW f s k = isW s k := by simp [okW, h]
theorem okW_1 (h : f.code ≠ 0) (s : ByteArray) (k : Ix l) : okW f s k = false := by simp [okW, h]
theorem RQ.ok (v : α) (k : Ix l) : RQ f (.ok (v, k)) (v, (k, f)) := ⟨fun _ => rfl, fun _ => rfl⟩
theorem RQ.err (v : α) (k k' : Ix l) {e : Int} {t : Tok} : RQ f (.error (flt e t)) (v, (k', badF f e t)) := ⟨fun h => bad_1 h, fun h => bad_0 h⟩
theorem RQ.bind {sp : Except Fa (α × Ix l)} {t : α × (Ix l × Fa)} {g : α × Ix l → Except Fa (β × Ix l)} {u : α → Ix l → Fa → β × (Ix l × Fa)} (h : RQ f sp t) (hz : NZ l sp) (hk : ∀ v k f, RQ f (g (v, k)) (u v k f)) : RQ f (sp >>= g) (u t.1 t.2.1 t.2.2) := by
  refine ⟨fun hf => ?_, fun hf => ?_⟩
  · rw [h.1 hf]
    exact (hk _ _ f).1 hf
  · have h2 := h.2 hf
    cases sp with
    | ok x =>
      have h2 : t = (x.1, (x.2, f)) := h2
      rw [h2]
      exact (hk x.1 x.2 f).2 hf
    | error e =>
      have h2 : t.2.2 = e := h2
      show (u t.1 t.2.1 t.2.2).2.2 = e
      rw [h2]
      exact (hk _ _ e).1 (hz e rfl).1
theorem RQ.iteM {s : ByteArray} {A B : Except Fa (α × Ix l)} {A' B' : α × (Ix l × Fa)} (hA : RQ f A A') (hB : RQ f B B') : RQ f (if isM s k then A else B) (if okM f s k = true then A' else B') := by
  by_cases hf : f.code = 0
  · rw [okM_0 hf]
    by_cases h : isM s k = true
    · rw [if_pos h, if_pos h]; exact hA
    · rw [if_neg h, if_neg h]; exact hB
  · rw [okM_1 hf, if_neg ff]
    exact ⟨hB.1, fun h => absurd h hf⟩
theorem RQ.iteW {s : ByteArray} {A B : Except Fa (α × Ix l)} {A' B' : α × (Ix l × Fa)} (hA : RQ f A A') (hB : RQ f B B') : RQ f (if isW s k then A else B) (if okW f s k = true then A' else B') := by
  by_cases hf : f.code = 0
  · rw [okW_0 hf]
    by_cases h : isW s k = true
    · rw [if_pos h, if_pos h]; exact hA
    · rw [if_neg h, if_neg h]; exact hB
  · rw [okW_1 hf, if_neg ff]
    exact ⟨hB.1, fun h => absurd h hf⟩
theorem name_rq (k : Ix l) (f : Fa) : RQ f (nameP k) (nameQ k f) := by
  unfold nameP nameQ
  by_cases hf : f.code = 0
  · by_cases h : isNm k = true
    · have e : (decide (f.code = 0) && isNm k) = true := by simp [hf, h]
      rw [if_pos h, if_pos e]; exact .ok _ _
    · have e : ¬ (decide (f.code = 0) && isNm k) = true := by simp [h]
      rw [if_neg h, if_neg e]; exact .err _ k _
  · have e : ¬ (decide (f.code = 0) && isNm k) = true := by simp [hf]
    rw [if_neg e]; exact ⟨fun h => bad_1 h, fun h => absurd h hf⟩
theorem need_rq (s : ByteArray) (k : Ix l) (f : Fa) : RQ f (needP s k) ((), needQ s k f) := by
  unfold needP needQ
  by_cases hf : f.code = 0
  · rw [okM_0 hf]
    by_cases h : isM s k = true
    · rw [if_pos h, if_pos h, h]; exact .ok _ _
    · rw [if_neg h, if_neg h]; exact .err _ k _
  · rw [okM_1 hf, if_neg ff]; exact ⟨fun h => bad_1 h, fun h => absurd h hf⟩
theorem nameQ_adv (hl : Fine l) (k : Ix l) (f : Fa) : (f.code = 0 ∧ (nameQ k f).2.2 = f ∧ (nameQ k f).2.1.1 = k.1 + 1) ∨ ((nameQ k f).2.1 = k ∧ (nameQ k f).2.2.code ≠ 0) := by
  unfold nameQ
  by_cases h : (decide (f.code = 0) && isNm k) = true
  · rw [if_pos h]
    rw [Bool.and_eq_true] at h
    refine .inl ⟨of_decide_eq_true h.1, rfl, nx_val hl ?_⟩
    have := h.2
    simp [isNm] at this
    rw [this.1]; decide
  · rw [if_neg h]
    exact .inr ⟨rfl, bad_nz (by decide)⟩
theorem namesL_bad {n : Nat} {acc : List ByteArray} (h : f.code ≠ 0) : namesL n acc k f = (acc, (k, f)) := by
  cases n with
  | zero => rfl
  | succ n => rw [namesL, if_neg (by simp [h])]
theorem needQ_bad (s : ByteArray) (h : f.code ≠ 0) : (needQ s k f).2 = f := by
  unfold needQ
  rw [okM_1 h, if_neg ff]; exact bad_1 h
theorem namesL_rq (hl : Fine l) : ∀ (n : Nat) (acc : List ByteArray) (k : Ix l) (f : Fa), l.length < n + k.1 → RQ f (bracedL n acc k) ((namesL n acc k f).1, needQ ⟨#[125]⟩ (namesL n acc k f).2.1 (namesL n acc k f).2.2)
  | 0, _, k, _, h => absurd k.2 (by omega)
  | n + 1, acc, k, f, h => by
    by_cases hf : f.code = 0
    · rw [bracedL, namesL, okM_0 hf]
      by_cases hm : isM ⟨#[125]⟩ k = true
      · rw [if_pos hm, if_neg (by simp [hm])]
        have e : needQ ⟨#[125]⟩ k f = (nx k, f) := by unfold needQ; rw [okM_0 hf, hm, if_pos rfl]; rfl
        show RQ f _ (acc, needQ _ k f)
        rw [e]; exact .ok _ _
      · rw [if_neg hm, if_pos (by simp [hf, hm])]
        have hn := name_rq k f
        rcases nameQ_adv hl k f with ⟨_, h1, h2⟩ | ⟨h1, h2⟩
        · have hn2 := hn.2 hf
          cases hp : nameP k with
          | ok x =>
            rw [hp] at hn2
            have hn2 : nameQ k f = (x.1, (x.2, f)) := hn2
            rw [hn2] at h2 ⊢
            exact namesL_rq hl n _ x.2 f (by have h2 : x.2.1 = k.1 + 1 := h2; omega)
          | error e =>
            rw [hp] at hn2
            have hn2 : (nameQ k f).2.2 = e := hn2
            exact absurd ((name_nz k e hp).1) (by rw [← hn2, h1, hf]; decide)
        · have hn2 := hn.2 hf
          cases hp : nameP k with
          | ok x =>
            rw [hp] at hn2
            have hn2 : nameQ k f = (x.1, (x.2, f)) := hn2
            rw [hn2] at h2
            exact absurd hf h2
          | error e =>
            rw [hp] at hn2
            have hn2 : (nameQ k f).2.2 = e := hn2
            rw [namesL_bad h2]
            refine ⟨fun h => absurd hf h, fun _ => ?_⟩
            show (needQ _ _ _).2 = e
            rw [needQ_bad _ h2, hn2]
    · rw [namesL_bad hf]
      exact ⟨fun _ => needQ_bad _ hf, fun h => absurd h hf⟩
theorem RQ.bindK {sp : Except Fa (α × Ix l)} {t : α × (Ix l × Fa)} {g : α × Ix l → Except Fa (β × Ix l)} {u : α → Ix l → Fa → β × (Ix l × Fa)} (h : RQ f sp t) (hz : NZ l sp) (hk : ∀ v k, sp = .ok (v, k) → RQ f (g (v, k)) (u v k f)) (hb : ∀ v k f, f.code ≠ 0 → (u v k f).2.2 = f) : RQ f (sp >>= g) (u t.1 t.2.1 t.2.2) := by
  refine ⟨fun hf => ?_, fun hf => ?_⟩
  · rw [h.1 hf]
    exact hb _ _ f hf
  · have h2 := h.2 hf
    cases sp with
    | ok x =>
      have h2 : t = (x.1, (x.2, f)) := h2
      rw [h2]
      exact (hk x.1 x.2 rfl).2 hf
    | error e =>
      have h2 : t.2.2 = e := h2
      show (u t.1 t.2.1 t.2.2).2.2 = e
      rw [h2]
      exact hb _ _ e (hz e rfl).1
theorem names1_rq (hl : Fine l) (k : Ix l) (f : Fa) : RQ f (nameP k >>= fun y => bracedL (fuel l) [y.1] y.2) (namesQ1 k f) := by
  have hn : l.length < fuel l := by unfold fuel; omega
  unfold namesQ1 namesQ2
  generalize fuel l = n at *
  refine RQ.bindK (t := nameQ k f) (u := fun v k f => ((namesL n [v] k f).1, needQ ⟨#[125]⟩ (namesL n [v] k f).2.1 (namesL n [v] k f).2.2)) (name_rq k f) (name_nz k) (fun v k' _ => ?_) fun v k' f' h => ?_
  · exact namesL_rq hl _ _ _ _ (by omega)
  · show (needQ _ _ _).2 = f'
    rw [namesL_bad h]; exact needQ_bad _ h
theorem names_rq (hl : Fine l) (k : Ix l) (f : Fa) : RQ f (bracedP k) (namesQ k f) := by
  unfold bracedP namesQ
  refine RQ.bind (t := ((), needQ ⟨#[123]⟩ k f)) (u := fun _ k f => namesQ1 k f) (need_rq _ k f) (need_nz _ k) fun _ k' f' => ?_
  exact names1_rq hl k' f'
theorem choose_rq (ws : List ByteArray) (k : Ix l) (f : Fa) : RQ f (chooseP ws k >>= fun x => .ok (x.1 + 1, x.2)) (chooseQ ws k f) := by
  unfold chooseP chooseQ
  by_cases hf : f.code = 0
  · have e : (fun s => okW f s k) = fun s => isW s k := funext fun s => okW_0 hf s k
    rw [e]
    cases ws.findIdx? fun s => isW s k with
    | some i => exact .ok _ _
    | none => exact .err _ k _
  · have e : (fun s => okW f s k) = fun _ => false := funext fun s => okW_1 hf s k
    rw [e]
    have e2 : ws.findIdx? (fun _ => false) = none := by rw [List.findIdx?_eq_none_iff]; simp
    rw [e2]
    exact ⟨fun h => bad_1 h, fun h => absurd h hf⟩
end
end
end Am
namespace Am
open Tk Go.RowKit
set_option maxRecDepth 100000
set_option maxHeartbeats 4000000
section
variable [Tb] {P : Program} {ρ : Operand → Option V} {H : Nat → Option HO} {d : Option Nat} {ty : TypeId} {pos : String} {af : Array Edge} {gu : Option (Nat × Bool)} {x : Operand} {args : Array Operand} {ats : Array TypeId} {f : Nat} {us : List V}
theorem a_new {t ty0 : Nat} {cs : List C} (hx : Ev ρ x (.c (.fn f []))) (hv : EvL ρ args.toList us) (hok : okV noN us = true) (hP : NewC P f us ty0 cs) (hn : H t = none) : AS P ρ H ⟨some t, .call { callee := .value x, args := args, argTypes := ats }, ty, pos, af, gu⟩ ⟨.c (.ptr t 0), [(t, .obj ty0 cs)], [t]⟩ :=
  .callW rfl hx hv (by rw [List.map_nil, List.append_nil]; exact CvL.refl _) hok hP hn
end
section
variable [Tb] {P : Program} {ops : Array Oper} {l : List (Nat × V)} {h : List (Nat × HO)} {rest : List Oper} {fs : List FP} {K : St → List FP → Prop} {J : Value → St → List FP → List Nat → Prop} {t : Nat} {ty : TypeId} {pos : String} {af : Array Edge} {x : Operand} {args : Array Operand} {ats : Array TypeId} {f : Nat} {us : List V}
theorem u_new {ty0 : Nat} {cs : List C} (hP : NewC P f us ty0 cs) (hx : Ev (evA (look l)) x (.c (.fn f [])) := by exact ev_t) (hv : EvL (evA (look l)) args.toList us := by (first | ((repeat (first | exact .nil | ((apply EvL.cons); (· (first | (refine .wh rfl ?_; first | assumption | (rw [hp]; rfl) | (simp_all; done)) | exact .pl rfl))))); done) | fail)) (hok : okV noN us = true := by first | rfl | (simp [okV, V.ok, okL, C.ok, okA]; done)) (hn : look h t = none := by rfl) : AS P (evA (look l)) (look h) ⟨some t, .call { callee := .value x, args := args, argTypes := ats }, ty, pos, af, none⟩ ⟨.c (.ptr t 0), [(t, .obj ty0 cs)], [t]⟩ := a_new hx hv hok hP hn
end
section
variable {ρ : Operand → Option V} {H : Nat → Option HO} {d : Option Nat} {ty : TypeId} {pos : String} {af : Array Edge} {gu : Option (Nat × Bool)}
end
section
variable {l : List Tok} {c : Int}
theorem q7mark_m (hf : Fine l) (k : Ix l) (f : Fa) (s : ByteArray) : MNL Tryz.prog 116 [(0, qsO k f c)] [.c (.ptr 0 0), .c (sS s)] (.c (sB (okM f s k))) [(0, qsO (adv (okM f s k) k) f c)] := (q7mark_x hf s).ok _ _ rfl
theorem q7word_m (hf : Fine l) (k : Ix l) (f : Fa) (s : ByteArray) : MNL Tryz.prog 110 [(0, qsO k f c)] [.c (.ptr 0 0), .c (sS s)] (.c (sB (okW f s k))) [(0, qsO (adv (okW f s k) k) f c)] := (q7word_x hf s).ok _ _ rfl
theorem q7need_m (hf : Fine l) (k : Ix l) (f : Fa) (s : ByteArray) : MNL Tryz.prog 56 [(0, qsO k f c)] [.c (.ptr 0 0), .c (sS s)] (.tup []) [(0, qsO (needQ s k f).1 (needQ s k f).2 c)] := (q7need_x hf s).ok () _ rfl
theorem q7name_m (hf : Fine l) (k : Ix l) (f : Fa) : MNL Tryz.prog 54 [(0, qsO k f c)] [.c (.ptr 0 0)] (.c (sS (nameQ k f).1)) [(0, qsO (nameQ k f).2.1 (nameQ k f).2.2 c)] := (q7name_x hf).ok (nameQ k f).1 (nameQ k f).2 rfl
theorem q7fail_m (k : Ix l) (f : Fa) (e : Int) (t : Tok) : MNL Tryz.prog 111 [(0, qsO k f c)] [.c (.ptr 0 0), .c (sI e), .agg (tkC t)] (.tup []) [(0, qsO k (badF f e t) c)] := (q7fail_x e t).ok () _ rfl
theorem q7isM_p (k : Ix l) (f : Fa) (s : ByteArray) : Pure Tryz.prog 154 [.c (.ep (qsC ⟨l, ((k.1 : Nat) : Int), f, c⟩)), .c (sI 4), .c (sS s)] (.c (sB (okM f s k))) := by
  have := q7is_p (l := l) (k := k) (f := f) (c := c) 4 s
  rwa [Bool.and_assoc] at this
theorem q7bad_p {f : Fa} (k : Ix l) (h : f.code ≠ 0) : Pure Tryz.prog 115 [.c (.ep (qsC ⟨l, ((k.1 : Nat) : Int), f, c⟩))] (.c (sB true)) := by
  have := q7failed_p (l := l) (k := k) (f := f) (c := c)
  rwa [decide_eq_false h] at this
theorem q7good_p {f : Fa} (k : Ix l) (h : f.code = 0) : Pure Tryz.prog 115 [.c (.ep (qsC ⟨l, ((k.1 : Nat) : Int), f, c⟩))] (.c (sB false)) := by
  have := q7failed_p (l := l) (k := k) (f := f) (c := c)
  rwa [decide_eq_true h] at this
theorem q7names_x (hf : Fine l) (k : Ix l) (f : Fa) : MX Tryz.prog 259 [(0, qsO k f c)] [.c (.ptr 0 0)] (.ok (namesQ k f) : Except Fa (List ByteArray × (Ix l × Fa))) (fun s => .c (strL s)) (fun b => [(0, qsO b.1 b.2 c)]) pvS := by
  have hl := hf.le
  have m1 := q7need_m (c := c) hf k f ⟨#[123]⟩
  unfold namesQ
  generalize needQ ⟨#[123]⟩ k f = q at *
  obtain ⟨k1, f1⟩ := q
  dsimp only at m1 ⊢
  have m2 := q7name_m (c := c) hf k1 f1
  have hn := nameQ_adv hf k1 f1
  unfold namesQ1 namesQ2
  generalize nameQ k1 f1 = q at *
  obtain ⟨x, k2, f2⟩ := q
  dsimp only at m2 hn ⊢
  refine MX.of (fn := Tryz.f259) Tryz.call259 Tryz.func259 rfl Tryz.ntmps259 Tryz.results259 rfl rfl (by intro a; simp [V.ok, okL, C.ok, okA, okV]) (by intro b; exact ⟨rfl, by simp [HO.one, okL, C.ok, okA]⟩) ?_
  repeat' (first | (with_reducible first | apply AW.seq | apply AW.block | apply q_then | apply y_e | refine v_rgl ?_) | ((with_reducible apply i_dv); first | refine t_w u_rowS ?_ | refine t_v AS.v ?_ | refine t_w (by first | exact u_m1 (hP := m1) | exact u_m1 (hP := m2)) ?_) | fail)
  generalize hsp : namesL (fuel l) [x] k2 f2 = sp
  refine AW.loop (fun m σ => ∃ acc k' f', namesL m acc k' f' = sp ∧ 0 < m ∧ (f'.code = 0 → l.length < m + k'.1 ∧ acc.length ≤ k'.1 + 1) ∧ acc.length ≤ k'.1 + 2 ∧ σ = mk [(3, .c (.lst (some 8) 1 (acc.map oneS))), (0, .c (.ptr 0 0))] [(8, .row 9 1 acc.length), (0, qsO k' f' c)]) (fuel l) ?_ ?_
  · exact ⟨_, wk_mk (by (repeat (first | exact all_nil | ((refine all_cons ⟨_, rfl, .inl rfl, ?_⟩ ?_); (· (rfl))))); done) (by (repeat (first | exact all_nil | ((refine all_cons ⟨_, rfl, .inl rfl, ?_⟩ ?_); (· (first | rfl | (simp [V.ok, okL, C.ok, okA, HO.ok]; done)))))); done) (by rfl), [x], k2, f2, hsp, by unfold fuel; omega, fun _ => ⟨by unfold fuel; omega, by simp⟩, by simp, rfl⟩
  clear hsp m1 m2 hn
  rintro m σ ⟨acc, k', f', hm, h0, hi, ha, rfl⟩
  subst hm
  have hk' := k'.2
  obtain ⟨m, rfl⟩ : ∃ n, m = n + 1 := ⟨m - 1, by omega⟩
  have is := q7isM_p (c := c) k' f' ⟨#[125]⟩
  have m3 := q7need_m (c := c) hf k' f' ⟨#[125]⟩
  rw [namesL]
  by_cases hf0 : f'.code = 0
  · have fa := q7good_p (l := l) (c := c) k' hf0
    have e2 : (decide (f'.code = 0) && !okM f' ⟨#[125]⟩ k') = !okM f' ⟨#[125]⟩ k' := by simp [hf0]
    rw [e2]
    generalize okM f' ⟨#[125]⟩ k' = b at *
    obtain ⟨hi1, hi2⟩ := hi hf0
    cases b with
    | true =>
      rw [if_neg (by decide)]
      dsimp only
      generalize needQ ⟨#[125]⟩ k' f' = q at *
      obtain ⟨k3, f3⟩ := q
      dsimp only at m3 ⊢
      repeat' (first | (with_reducible first | apply AW.seq | apply AW.ret | apply AW.exit | apply q_then | apply q_thenE | apply q_bloE | apply y_e | refine v_rgl ?_) | ((with_reducible apply i_dv); first | refine t_v AS.v ?_ | refine t_v (by exact u_eye (hP := fa)) ?_ | refine t_w (by exact u_m1 (hP := m3)) ?_) | ((with_reducible apply i_dg); first | refine t_m (hs := fun hg => AS.v) (k := ?_) | refine t_m (hs := fun hg => (by exact u_eye (hP := is))) (k := ?_)) | ((with_reducible refine i_aw ?_); refine v_no ?_) | ((with_reducible refine i_rx ?_); refine l_1 (k := ?_)) | fail)
      exact ⟨_, (_, _), rfl, ux_str _ _, le_id rfl⟩
    | false =>
      rw [if_pos (show (!false) = true from rfl)]
      clear m3
      have nm := q7name_m (c := c) hf k' f'
      have hn := nameQ_adv hf k' f'
      generalize nameQ k' f' = q at *
      obtain ⟨x, k3, f3⟩ := q
      dsimp only at nm hn ⊢
      repeat' (first | (with_reducible first | apply AW.seq | apply AW.block | apply AW.skip | apply q_then | apply q_bloN | apply y_e | refine v_rgl ?_) | ((with_reducible apply i_dv); first | refine t_v AS.v ?_ | refine t_v (by exact u_eye (hP := fa)) ?_ | refine t_w AS.w ?_ | refine t_w (by exact u_m1 (hP := nm)) ?_) | ((with_reducible apply i_dg); first | refine t_m (hs := fun hg => AS.v) (k := ?_) | refine t_m (hs := fun hg => (by exact u_eye (hP := is))) (k := ?_)) | ((with_reducible refine i_aw ?_); refine v_yes ?_) | fail)
      rcases hn with ⟨_, e1, e2⟩ | ⟨e1, e2⟩
      · exact ⟨m, _, Nat.lt_succ_self m, wk_mk (by (repeat (first | exact all_nil | ((refine all_cons ⟨_, rfl, .inl rfl, ?_⟩ ?_); (· (first | rfl | exact okRow rfl))))); done) (by (repeat (first | exact all_nil | ((refine all_cons ⟨_, rfl, .inl rfl, ?_⟩ ?_); (· (first | rfl | (simp [V.ok, okL, C.ok, okA, HO.ok]; done)))))); done) (by rfl), acc ++ [x], k3, f3, rfl, by have := k3.2; omega, fun _ => ⟨by omega, by simp; omega⟩, by simp; omega, rfl⟩
      · exact ⟨m, _, Nat.lt_succ_self m, wk_mk (by (repeat (first | exact all_nil | ((refine all_cons ⟨_, rfl, .inl rfl, ?_⟩ ?_); (· (first | rfl | exact okRow rfl))))); done) (by (repeat (first | exact all_nil | ((refine all_cons ⟨_, rfl, .inl rfl, ?_⟩ ?_); (· (first | rfl | (simp [V.ok, okL, C.ok, okA, HO.ok]; done)))))); done) (by rfl), acc ++ [x], k3, f3, rfl, by omega, fun h => absurd h e2, by rw [e1]; simp; omega, rfl⟩
  · have fa := q7bad_p (l := l) (c := c) k' hf0
    have e2 : (decide (f'.code = 0) && !okM f' ⟨#[125]⟩ k') = false := by simp [hf0]
    rw [e2, if_neg (by decide)]
    dsimp only
    generalize needQ ⟨#[125]⟩ k' f' = q at *
    obtain ⟨k3, f3⟩ := q
    dsimp only at m3 ⊢
    repeat' (first | (with_reducible first | apply AW.seq | apply AW.ret | apply AW.exit | apply q_then | apply q_thenE | apply q_bloE | apply y_e | refine v_rgl ?_) | ((with_reducible apply i_dv); first | refine t_v AS.v ?_ | refine t_v (by exact u_eye (hP := fa)) ?_ | refine t_w (by exact u_m1 (hP := m3)) ?_) | ((with_reducible apply i_dg); refine t_f ?_) | ((with_reducible refine i_aw ?_); refine v_no ?_) | ((with_reducible refine i_rx ?_); refine l_1 (k := ?_)) | fail)
    exact ⟨_, (_, _), rfl, ux_str _ _, le_id rfl⟩
theorem q7names_m (hf : Fine l) (k : Ix l) (f : Fa) : MNL Tryz.prog 259 [(0, qsO k f c)] [.c (.ptr 0 0)] (.c (strL (namesQ k f).1)) [(0, qsO (namesQ k f).2.1 (namesQ k f).2.2 c)] := (q7names_x hf k f).ok (namesQ k f).1 (namesQ k f).2 rfl
end
end Am
end Go.Proofs.YtkpodagbefnebaaGreatDoor
