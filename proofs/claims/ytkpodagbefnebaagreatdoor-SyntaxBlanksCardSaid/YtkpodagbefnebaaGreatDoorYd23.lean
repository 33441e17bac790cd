import Derived.Test.YtkpodagbefnebaaGreatDoorYd22
import Derived.Test.YtkpodagbefnebaaGreatDoorYd8
import Derived.WalkKit
import Derived.WalkLawsBesides
set_option linter.unusedSimpArgs false
set_option linter.unusedVariables false
set_option linter.unusedSectionVars false
namespace Go.Proofs.YtkpodagbefnebaaGreatDoor
namespace Am
open Tk
set_option maxRecDepth 100000
set_option maxHeartbeats 4000000
def npT (t : Tok) : Tok := { t with pos := ⟨0, 0⟩ }
def npF (f : Fa) : Fa := { f with pos := ⟨0, 0⟩ }
mutual
def npS : Stm → Stm
  | ⟨a1, a2, _, a4, a5, a6, a7, a8, a9, a10, a11, a12, a13, a14, a15, a16, a17, t, e⟩ => ⟨a1, a2, ⟨0, 0⟩, a4, a5, a6, a7, a8, a9, a10, a11, a12, a13, a14, a15, a16, a17, npSs t, npSs e⟩
def npSs : List Stm → List Stm
  | [] => []
  | x :: l => npS x :: npSs l
end
theorem npSs_map : ∀ l : List Stm, npSs l = l.map npS
  | [] => rfl
  | x :: l => by rw [npSs, npSs_map l]; rfl
theorem npS_eq (s : Stm) : npS s = { s with pos := ⟨0, 0⟩, thn := s.thn.map npS, els := s.els.map npS } := by
  cases s; rw [npS, npSs_map, npSs_map]
def npM (m : Mo) : Mo := { m with stmts := m.stmts.map npS }
def npE {α β : Type} (g : α → β) : Except Fa α → Except Fa β
  | .ok a => .ok (g a)
  | .error f => .error (npF f)
def npB {α β : Type} (x : Except Fa α) (g : α → Except Fa β) : Except Fa β := match x with
  | .ok a => g a
  | .error f => .error (npF f)
theorem npE_ok {α β : Type} (g : α → β) (a : α) : npE g (.ok a) = .ok (g a) := rfl
theorem npE_err {α β : Type} (g : α → β) (f : Fa) : npE g (.error f) = .error (npF f) := rfl
theorem npE_ite {α β : Type} {c : Prop} [Decidable c] (g : α → β) (x y : Except Fa α) : npE g (if c then x else y) = if c then npE g x else npE g y := by
  by_cases h : c
  · rw [if_pos h, if_pos h]
  · rw [if_neg h, if_neg h]
theorem npB_l {α β γ : Type} (h : α → β) (x : Except Fa α) (g : β → Except Fa γ) : (npE h x >>= g) = npB x fun a => g (h a) := by cases x <;> rfl
theorem npB_r {α β γ : Type} (h : β → γ) (x : Except Fa α) (g : α → Except Fa β) : npE h (x >>= g) = npB x fun a => npE h (g a) := by cases x <;> rfl
theorem itbF {α β : Type} {c : Prop} [Decidable c] (a b : Except Fa α) (g : α → Except Fa β) : ((if c then a else b) >>= g) = if c then a >>= g else b >>= g := by
  by_cases h : c
  · rw [if_pos h, if_pos h]
  · rw [if_neg h, if_neg h]
theorem npT_kind (t : Tok) : (npT t).kind = t.kind := rfl
theorem npT_text (t : Tok) : (npT t).text = t.text := rfl
theorem npT_pos (t : Tok) : (npT t).pos = ⟨0, 0⟩ := rfl
section
variable {l : List Tok}
def npI (k : Ix l) : Ix (l.map npT) := ⟨k.1, by rw [List.length_map]; exact k.2⟩
def npK {α β : Type} (g : α → β) (x : α × Ix l) : β × Ix (l.map npT) := (g x.1, npI x.2)
def npN {α β : Type} (g : α → β) (x : α × (Ix l × Nat)) : β × (Ix (l.map npT) × Nat) := (g x.1, (npI x.2.1, x.2.2))
theorem npK_mk {α β : Type} (g : α → β) (a : α) (k : Ix l) : npK g (a, k) = (g a, npI k) := rfl
theorem npK_1 {α β : Type} (g : α → β) (x : α × Ix l) : (npK g x).1 = g x.1 := rfl
theorem npK_2 {α β : Type} (g : α → β) (x : α × Ix l) : (npK g x).2 = npI x.2 := rfl
theorem npN_1 {α β : Type} (g : α → β) (x : α × (Ix l × Nat)) : (npN g x).1 = g x.1 := rfl
theorem npN_2 {α β : Type} (g : α → β) (x : α × (Ix l × Nat)) : (npN g x).2 = (npI x.2.1, x.2.2) := rfl
theorem np_tk (k : Ix l) : tk (npI k) = npT (tk k) := by
  unfold tk npI
  exact List.getElem_map ..
theorem np_nx (k : Ix l) : nx (npI k) = npI (nx k) := by
  unfold nx npI
  simp only [List.length_map]
  split <;> rfl
theorem np_fuel : fuel (l.map npT) = fuel l := by unfold fuel; rw [List.length_map]
theorem np_isM (s : ByteArray) (k : Ix l) : isM s (npI k) = isM s k := by unfold isM; rw [np_tk]; rfl
theorem np_isW (s : ByteArray) (k : Ix l) : isW s (npI k) = isW s k := by unfold isW; rw [np_tk]; rfl
theorem np_isNm (k : Ix l) : isNm (npI k) = isNm k := by unfold isNm; rw [np_tk]; rfl
theorem np_adv (b : Bool) (k : Ix l) : adv b (npI k) = npI (adv b k) := by
  unfold adv
  split
  · exact np_nx k
  · rfl
theorem np_flt (c : Int) (t : Tok) : flt c (npT t) = npF (flt c t) := rfl
theorem np_need (s : ByteArray) (k : Ix l) : needP s (npI k) = npE (npK id) (needP s k) := by unfold needP; simp only [npE_ok, npE_err, npE_ite, npB_l, npB_r, itbF, ok_bind, npT_kind, npT_text, npT_pos, npK_mk, npK_1, npK_2, npN_1, npN_2, np_tk, np_nx, np_fuel, np_isM, np_isW, np_isNm, np_adv, np_flt, id_eq]
theorem np_needW (s : ByteArray) (k : Ix l) : needWP s (npI k) = npE (npK id) (needWP s k) := by unfold needWP; simp only [npE_ok, npE_err, npE_ite, npB_l, npB_r, itbF, ok_bind, npT_kind, npT_text, npT_pos, npK_mk, npK_1, npK_2, npN_1, npN_2, np_tk, np_nx, np_fuel, np_isM, np_isW, np_isNm, np_adv, np_flt, id_eq]
theorem np_name (k : Ix l) : nameP (npI k) = npE (npK id) (nameP k) := by unfold nameP; simp only [npE_ok, npE_err, npE_ite, npB_l, npB_r, itbF, ok_bind, npT_kind, npT_text, npT_pos, npK_mk, npK_1, npK_2, npN_1, npN_2, np_tk, np_nx, np_fuel, np_isM, np_isW, np_isNm, np_adv, np_flt, id_eq]
theorem np_bracedL : ∀ (n : Nat) (acc : List ByteArray) (k : Ix l), bracedL n acc (npI k) = npE (npK id) (bracedL n acc k)
  | 0, _, k => by rw [bracedL, bracedL]; simp only [npE_ok, npE_err, npE_ite, npB_l, npB_r, itbF, ok_bind, npT_kind, npT_text, npT_pos, npK_mk, npK_1, npK_2, npN_1, npN_2, np_tk, np_nx, np_fuel, np_isM, np_isW, np_isNm, np_adv, np_flt, id_eq]
  | n + 1, acc, k => by rw [bracedL, bracedL]; have ih := fun acc (k : Ix l) => np_bracedL n acc k; simp only [npE_ok, npE_err, npE_ite, npB_l, npB_r, itbF, ok_bind, npT_kind, npT_text, npT_pos, npK_mk, npK_1, npK_2, npN_1, npN_2, np_tk, np_nx, np_fuel, np_isM, np_isW, np_isNm, np_adv, np_flt, id_eq, np_name, ih]
theorem np_braced (k : Ix l) : bracedP (npI k) = npE (npK id) (bracedP k) := by unfold bracedP; simp only [npE_ok, npE_err, npE_ite, npB_l, npB_r, itbF, ok_bind, npT_kind, npT_text, npT_pos, npK_mk, npK_1, npK_2, npN_1, npN_2, np_tk, np_nx, np_fuel, np_isM, np_isW, np_isNm, np_adv, np_flt, id_eq, np_need, np_name, np_bracedL]
theorem np_listedL : ∀ (n : Nat) (acc : List ByteArray) (k : Ix l), listedL n acc (npI k) = npE (npK id) (listedL n acc k)
  | 0, _, k => by rw [listedL, listedL]; simp only [npE_ok, npE_err, npE_ite, npB_l, npB_r, itbF, ok_bind, npT_kind, npT_text, npT_pos, npK_mk, npK_1, npK_2, npN_1, npN_2, np_tk, np_nx, np_fuel, np_isM, np_isW, np_isNm, np_adv, np_flt, id_eq]
  | n + 1, acc, k => by rw [listedL, listedL]; have ih := fun acc (k : Ix l) => np_listedL n acc k; simp only [npE_ok, npE_err, npE_ite, npB_l, npB_r, itbF, ok_bind, npT_kind, npT_text, npT_pos, npK_mk, npK_1, npK_2, npN_1, npN_2, np_tk, np_nx, np_fuel, np_isM, np_isW, np_isNm, np_adv, np_flt, id_eq, np_name, ih]
theorem np_listed (k : Ix l) : listedP (npI k) = npE (npK id) (listedP k) := by unfold listedP; simp only [npE_ok, npE_err, npE_ite, npB_l, npB_r, itbF, ok_bind, npT_kind, npT_text, npT_pos, npK_mk, npK_1, npK_2, npN_1, npN_2, np_tk, np_nx, np_fuel, np_isM, np_isW, np_isNm, np_adv, np_flt, id_eq, np_name, np_listedL]
theorem np_elem (self minus : Bool) (n : NS) (k : Ix l) : elemP self minus n (npI k) = npE (npK id) (elemP self minus n k) := by unfold elemP; simp only [npE_ok, npE_err, npE_ite, npB_l, npB_r, itbF, ok_bind, npT_kind, npT_text, npT_pos, npK_mk, npK_1, npK_2, npN_1, npN_2, np_tk, np_nx, np_fuel, np_isM, np_isW, np_isNm, np_adv, np_flt, id_eq, np_name]
theorem np_setL (self : Bool) : ∀ (m : Nat) (n : NS) (k : Ix l), setL self m n (npI k) = npE (npK id) (setL self m n k)
  | 0, _, k => by rw [setL, setL]; simp only [npE_ok, npE_err, npE_ite, npB_l, npB_r, itbF, ok_bind, npT_kind, npT_text, npT_pos, npK_mk, npK_1, npK_2, npN_1, npN_2, np_tk, np_nx, np_fuel, np_isM, np_isW, np_isNm, np_adv, np_flt, id_eq]
  | m + 1, n, k => by rw [setL, setL]; have ih := fun n (k : Ix l) => np_setL self m n k; simp only [npE_ok, npE_err, npE_ite, npB_l, npB_r, itbF, ok_bind, npT_kind, npT_text, npT_pos, npK_mk, npK_1, npK_2, npN_1, npN_2, np_tk, np_nx, np_fuel, np_isM, np_isW, np_isNm, np_adv, np_flt, id_eq, np_elem, ih]
theorem np_set (self : Bool) (k : Ix l) : setP self (npI k) = npE (npK id) (setP self k) := by unfold setP; simp only [npE_ok, npE_err, npE_ite, npB_l, npB_r, itbF, ok_bind, npT_kind, npT_text, npT_pos, npK_mk, npK_1, npK_2, npN_1, npN_2, np_tk, np_nx, np_fuel, np_isM, np_isW, np_isNm, np_adv, np_flt, id_eq, np_name, np_elem, np_setL]
theorem np_span1 (k : Ix l) : spanP1 (npI k) = npE (npK id) (spanP1 k) := by unfold spanP1; simp only [npE_ok, npE_err, npE_ite, npB_l, npB_r, itbF, ok_bind, npT_kind, npT_text, npT_pos, npK_mk, npK_1, npK_2, npN_1, npN_2, np_tk, np_nx, np_fuel, np_isM, np_isW, np_isNm, np_adv, np_flt, id_eq, np_name]
theorem np_levelL : ∀ (m : Nat) (n : Lv) (k : Ix l), levelL m n (npI k) = npE (npK id) (levelL m n k)
  | 0, _, k => by rw [levelL, levelL]; simp only [npE_ok, npE_err, npE_ite, npB_l, npB_r, itbF, ok_bind, npT_kind, npT_text, npT_pos, npK_mk, npK_1, npK_2, npN_1, npN_2, np_tk, np_nx, np_fuel, np_isM, np_isW, np_isNm, np_adv, np_flt, id_eq]
  | m + 1, n, k => by rw [levelL, levelL]; have ih := fun n (k : Ix l) => np_levelL m n k; simp only [npE_ok, npE_err, npE_ite, npB_l, npB_r, itbF, ok_bind, npT_kind, npT_text, npT_pos, npK_mk, npK_1, npK_2, npN_1, npN_2, np_tk, np_nx, np_fuel, np_isM, np_isW, np_isNm, np_adv, np_flt, id_eq, np_span1, ih]
theorem np_level (k : Ix l) : levelP (npI k) = npE (npK id) (levelP k) := by unfold levelP; simp only [npE_ok, npE_err, npE_ite, npB_l, npB_r, itbF, ok_bind, npT_kind, npT_text, npT_pos, npK_mk, npK_1, npK_2, npN_1, npN_2, np_tk, np_nx, np_fuel, np_isM, np_isW, np_isNm, np_adv, np_flt, id_eq, np_name, np_levelL]
theorem np_range (k : Ix l) : rangeP (npI k) = npE (npK id) (rangeP k) := by unfold rangeP; simp only [npE_ok, npE_err, npE_ite, npB_l, npB_r, itbF, ok_bind, npT_kind, npT_text, npT_pos, npK_mk, npK_1, npK_2, npN_1, npN_2, np_tk, np_nx, np_fuel, np_isM, np_isW, np_isNm, np_adv, np_flt, id_eq, np_level]
theorem np_context (k : Ix l) : contextP (npI k) = npE (npK id) (contextP k) := by unfold contextP; simp only [npE_ok, npE_err, npE_ite, npB_l, npB_r, itbF, ok_bind, npT_kind, npT_text, npT_pos, npK_mk, npK_1, npK_2, npN_1, npN_2, np_tk, np_nx, np_fuel, np_isM, np_isW, np_isNm, np_adv, np_flt, id_eq, np_name, np_need, np_range]
theorem np_choose (ws : List ByteArray) (k : Ix l) : chooseP ws (npI k) = npE (npK id) (chooseP ws k) := by
  unfold chooseP
  simp only [np_isW]
  cases ws.findIdx? (fun s => isW s k) <;> simp only [npE_ok, npE_err, npE_ite, npB_l, npB_r, itbF, ok_bind, npT_kind, npT_text, npT_pos, npK_mk, npK_1, npK_2, npN_1, npN_2, np_tk, np_nx, np_fuel, np_isM, np_isW, np_isNm, np_adv, np_flt, id_eq]
theorem np_attr (v : Bool) (k : Ix l) : attrP v (npI k) = npE (npK id) (attrP v k) := by
  unfold attrP
  simp only [np_tk, npT_text]
  cases attrN v (tk k).text <;> simp only [npE_ok, npE_err, npE_ite, npB_l, npB_r, itbF, ok_bind, npT_kind, npT_text, npT_pos, npK_mk, npK_1, npK_2, npN_1, npN_2, np_tk, np_nx, np_fuel, np_isM, np_isW, np_isNm, np_adv, np_flt, id_eq]
theorem np_rel (k : Ix l) : relP (npI k) = npE (npK id) (relP k) := by unfold relP; simp only [npE_ok, npE_err, npE_ite, npB_l, npB_r, itbF, ok_bind, npT_kind, npT_text, npT_pos, npK_mk, npK_1, npK_2, npN_1, npN_2, np_tk, np_nx, np_fuel, np_isM, np_isW, np_isNm, np_adv, np_flt, id_eq, np_choose]
theorem np_cmp (v : Bool) (k : Ix l) : cmpP v (npI k) = npE (npK id) (cmpP v k) := by unfold cmpP; simp only [npE_ok, npE_err, npE_ite, npB_l, npB_r, itbF, ok_bind, npT_kind, npT_text, npT_pos, npK_mk, npK_1, npK_2, npN_1, npN_2, np_tk, np_nx, np_fuel, np_isM, np_isW, np_isNm, np_adv, np_flt, id_eq, np_attr, np_braced, np_name, np_rel]
theorem np_comp (v : Bool) : ∀ n : Nat, (∀ k : Ix l, compP v n (npI k) = npE (npK id) (compP v n k)) ∧ (∀ k : Ix l, bothP v n (npI k) = npE (npK id) (bothP v n k)) ∧ (∀ (e : Ex) (k : Ix l), bothL v n e (npI k) = npE (npK id) (bothL v n e k)) ∧ (∀ k : Ix l, eithP v n (npI k) = npE (npK id) (eithP v n k)) ∧ (∀ (e : Ex) (k : Ix l), eithL v n e (npI k) = npE (npK id) (eithL v n e k))
  | 0 => ⟨fun k => (by rw [compP, compP]; simp only [npE_ok, npE_err, npE_ite, npB_l, npB_r, itbF, ok_bind, npT_kind, npT_text, npT_pos, npK_mk, npK_1, npK_2, npN_1, npN_2, np_tk, np_nx, np_fuel, np_isM, np_isW, np_isNm, np_adv, np_flt, id_eq]), fun k => (by rw [bothP, bothP]; simp only [npE_ok, npE_err, npE_ite, npB_l, npB_r, itbF, ok_bind, npT_kind, npT_text, npT_pos, npK_mk, npK_1, npK_2, npN_1, npN_2, np_tk, np_nx, np_fuel, np_isM, np_isW, np_isNm, np_adv, np_flt, id_eq]), fun e k => (by rw [bothL, bothL]; simp only [npE_ok, npE_err, npE_ite, npB_l, npB_r, itbF, ok_bind, npT_kind, npT_text, npT_pos, npK_mk, npK_1, npK_2, npN_1, npN_2, np_tk, np_nx, np_fuel, np_isM, np_isW, np_isNm, np_adv, np_flt, id_eq]), fun k => (by rw [eithP, eithP]; simp only [npE_ok, npE_err, npE_ite, npB_l, npB_r, itbF, ok_bind, npT_kind, npT_text, npT_pos, npK_mk, npK_1, npK_2, npN_1, npN_2, np_tk, np_nx, np_fuel, np_isM, np_isW, np_isNm, np_adv, np_flt, id_eq]), fun e k => (by rw [eithL, eithL]; simp only [npE_ok, npE_err, npE_ite, npB_l, npB_r, itbF, ok_bind, npT_kind, npT_text, npT_pos, npK_mk, npK_1, npK_2, npN_1, npN_2, np_tk, np_nx, np_fuel, np_isM, np_isW, np_isNm, np_adv, np_flt, id_eq])⟩
  | n + 1 => by
    obtain ⟨i1, i2, i3, i4, i5⟩ := np_comp v n
    refine ⟨fun k => ?_, fun k => ?_, fun e k => ?_, fun k => ?_, fun e k => ?_⟩
    · rw [compP, compP]; simp only [npE_ok, npE_err, npE_ite, npB_l, npB_r, itbF, ok_bind, npT_kind, npT_text, npT_pos, npK_mk, npK_1, npK_2, npN_1, npN_2, np_tk, np_nx, np_fuel, np_isM, np_isW, np_isNm, np_adv, np_flt, id_eq, np_need, np_cmp, i1, i4]
    · rw [bothP, bothP]; simp only [npE_ok, npE_err, npE_ite, npB_l, npB_r, itbF, ok_bind, npT_kind, npT_text, npT_pos, npK_mk, npK_1, npK_2, npN_1, npN_2, np_tk, np_nx, np_fuel, np_isM, np_isW, np_isNm, np_adv, np_flt, id_eq, i1, i3]
    · rw [bothL, bothL]; simp only [npE_ok, npE_err, npE_ite, npB_l, npB_r, itbF, ok_bind, npT_kind, npT_text, npT_pos, npK_mk, npK_1, npK_2, npN_1, npN_2, np_tk, np_nx, np_fuel, np_isM, np_isW, np_isNm, np_adv, np_flt, id_eq, i1, i3]
    · rw [eithP, eithP]; simp only [npE_ok, npE_err, npE_ite, npB_l, npB_r, itbF, ok_bind, npT_kind, npT_text, npT_pos, npK_mk, npK_1, npK_2, npN_1, npN_2, np_tk, np_nx, np_fuel, np_isM, np_isW, np_isNm, np_adv, np_flt, id_eq, i2, i5]
    · rw [eithL, eithL]; simp only [npE_ok, npE_err, npE_ite, npB_l, npB_r, itbF, ok_bind, npT_kind, npT_text, npT_pos, npK_mk, npK_1, npK_2, npN_1, npN_2, np_tk, np_nx, np_fuel, np_isM, np_isW, np_isNm, np_adv, np_flt, id_eq, i2, i5]
theorem np_constr (v : Bool) (k : Ix l) : constrP v (npI k) = npE (npK id) (constrP v k) := by unfold constrP; simp only [npE_ok, npE_err, npE_ite, npB_l, npB_r, itbF, ok_bind, npT_kind, npT_text, npT_pos, npK_mk, npK_1, npK_2, npN_1, npN_2, np_tk, np_nx, np_fuel, np_isM, np_isW, np_isNm, np_adv, np_flt, id_eq, (np_comp v _).2.2.2.1]; rfl
theorem np_text (k : Ix l) : textP (npI k) = npE (npK id) (textP k) := by unfold textP; simp only [npE_ok, npE_err, npE_ite, npB_l, npB_r, itbF, ok_bind, npT_kind, npT_text, npT_pos, npK_mk, npK_1, npK_2, npN_1, npN_2, np_tk, np_nx, np_fuel, np_isM, np_isW, np_isNm, np_adv, np_flt, id_eq]
end
theorem np_isK (ts : List Tok) (i : Nat) (m : ByteArray) : isK (ts.map npT) i m = isK ts i m := by
  unfold isK
  rw [List.getElem?_map]
  cases ts[i]? <;> rfl
theorem np_nmK (ts : List Tok) (i : Nat) : nmK (ts.map npT) i = nmK ts i := by
  unfold nmK
  rw [List.getElem?_map]
  cases ts[i]? <;> rfl
theorem np_flK (c : Int) (ts : List Tok) (i : Nat) : flK c (ts.map npT) i = npF (flK c ts i) := by
  unfold flK
  rw [List.getElem?_map]
  cases ts[i]? <;> rfl
theorem np_opK (ts : List Tok) (i n : Nat) : opK (ts.map npT) i n = opK ts i n := by unfold opK; simp only [np_isK]
theorem np_bin (ts : List Tok) : ∀ f : Nat, (∀ i d : Nat, notK (ts.map npT) f i d = npE id (notK ts f i d)) ∧ (∀ n i d : Nat, binK (ts.map npT) f n i d = npE id (binK ts f n i d)) ∧ (∀ (n : Nat) (e : Ex) (i d : Nat), bilK (ts.map npT) f n e i d = npE id (bilK ts f n e i d))
  | 0 => ⟨fun i d => (by rw [notK, notK, np_flK]; rfl), fun n i d => (by rw [binK, binK, np_flK]; rfl), fun n e i d => (by rw [bilK, bilK, np_flK]; rfl)⟩
  | f + 1 => by
    obtain ⟨i1, i2, i3⟩ := np_bin ts f
    refine ⟨fun i d => ?_, fun n i d => ?_, fun n e i d => ?_⟩
    · rw [notK, notK]
      simp only [np_nmK]
      cases nmK ts i <;> simp only [npE_ok, npE_err, npE_ite, npB_l, npB_r, itbF, ok_bind, npT_kind, npT_text, npT_pos, npK_mk, npK_1, npK_2, npN_1, npN_2, np_tk, np_nx, np_fuel, np_isM, np_isW, np_isNm, np_adv, np_flt, id_eq, np_isK, np_flK, i1, i2]
    · rw [binK, binK]; simp only [npE_ok, npE_err, npE_ite, npB_l, npB_r, itbF, ok_bind, npT_kind, npT_text, npT_pos, npK_mk, npK_1, npK_2, npN_1, npN_2, np_tk, np_nx, np_fuel, np_isM, np_isW, np_isNm, np_adv, np_flt, id_eq, np_flK, i1, i2, i3]
    · rw [bilK, bilK]; simp only [npE_ok, npE_err, npE_ite, npB_l, npB_r, itbF, ok_bind, npT_kind, npT_text, npT_pos, npK_mk, npK_1, npK_2, npN_1, npN_2, np_tk, np_nx, np_fuel, np_isM, np_isW, np_isNm, np_adv, np_flt, id_eq, np_opK, i2, i3]
theorem np_tksK (ts : List Tok) : tksK (ts.map npT) = npE id (tksK ts) := by unfold tksK; simp only [npE_ok, npE_err, npE_ite, npB_l, npB_r, itbF, ok_bind, npT_kind, npT_text, npT_pos, npK_mk, npK_1, npK_2, npN_1, npN_2, np_tk, np_nx, np_fuel, np_isM, np_isW, np_isNm, np_adv, np_flt, id_eq, (np_bin ts _).2.1, np_flK, List.length_map]
section
variable {l : List Tok}
theorem np_cond (k : Ix l) : condP tksK (npI k) = npE (npK id) (condP tksK k) := by
  have e : ∀ m : Nat, ixAt (npI k) m = npI (ixAt k m) := fun m => by
    unfold ixAt npI
    simp only [List.length_map]
    split <;> rfl
  have e2 : (l.map npT).drop (npI k).1 = (l.drop k.1).map npT := List.map_drop.symm
  have e3 : (npI k).1 = k.1 := rfl
  unfold condP
  rw [e2, np_tksK]
  simp only [npE_ok, npE_err, npE_ite, npB_l, npB_r, itbF, ok_bind, npT_kind, npT_text, npT_pos, npK_mk, npK_1, npK_2, npN_1, npN_2, np_tk, np_nx, np_fuel, np_isM, np_isW, np_isNm, np_adv, np_flt, id_eq, e, e3]
end
end Am
namespace Am
open Tk
set_option maxRecDepth 100000
set_option maxHeartbeats 4000000
section
variable {l : List Tok}
def npL {α : Type} (x : α × (Stm × Ix l)) : α × (Stm × Ix (l.map npT)) := (x.1, (npS x.2.1, npI x.2.2))
theorem npL_1 {α : Type} (x : α × (Stm × Ix l)) : (npL x).1 = x.1 := rfl
theorem npL_2 {α : Type} (x : α × (Stm × Ix l)) : (npL x).2 = (npS x.2.1, npI x.2.2) := rfl
theorem npL_mk {α : Type} (a : α) (s : Stm) (k : Ix l) : npL (a, (s, k)) = (a, (npS s, npI k)) := rfl
theorem npB_b {α β γ : Type} (x : Except Fa α) (f : α → Except Fa β) (g : β → Except Fa γ) : (npB x f >>= g) = npB x fun a => f a >>= g := by cases x <;> rfl
theorem exbF {α β γ : Type} (x : Except Fa α) (g : α → Except Fa β) (h : β → Except Fa γ) : ((x >>= g) >>= h) = x >>= fun a => g a >>= h := by cases x <;> rfl
theorem np_decl (w : ByteArray) (s : Stm) (k : Ix l) : declP w (npS s) (npI k) = npE npL (declP w s k) := by
  unfold declP
  simp only [npE_ok, npE_err, npE_ite, npB_l, npB_r, itbF, ok_bind, npT_kind, npT_text, npT_pos, npK_mk, npK_1, npK_2, npN_1, npN_2, np_tk, np_nx, np_fuel, np_isM, np_isW, np_isNm, np_adv, np_flt, id_eq, npB_b, exbF, npS_eq, npL_mk, np_name, np_braced, np_listedL, np_listed, np_set, np_needW, np_level, np_range, np_choose]
  try rfl
theorem np_pair (b : Bool) (s : Stm) (k : Ix l) : pairP b (npS s) (npI k) = npE npL (pairP b s k) := by
  unfold pairP
  simp only [npE_ok, npE_err, npE_ite, npB_l, npB_r, itbF, ok_bind, npT_kind, npT_text, npT_pos, npK_mk, npK_1, npK_2, npN_1, npN_2, np_tk, np_nx, np_fuel, np_isM, np_isW, np_isNm, np_adv, np_flt, id_eq, npB_b, exbF, npS_eq, npL_mk, np_set, np_need]
  try rfl
theorem np_rule (w : ByteArray) (s : Stm) (k : Ix l) : ruleP w (npS s) (npI k) = npE npL (ruleP w s k) := by
  have e12 : ({ npS s with kind := 12, op := numW w ruleW } : Stm) = npS { s with kind := 12, op := numW w ruleW } := by rw [npS_eq, npS_eq]
  have e13 : ({ npS s with kind := 13, op := numW w transW } : Stm) = npS { s with kind := 13, op := numW w transW } := by rw [npS_eq, npS_eq]
  have e14 : ({ npS s with kind := 14 } : Stm) = npS { s with kind := 14 } := by rw [npS_eq, npS_eq]
  have e7 : ({ npS s with kind := 7 } : Stm) = npS { s with kind := 7 } := by rw [npS_eq, npS_eq]
  unfold ruleP
  rw [e12, e13, e14, e7]
  simp only [np_pair]
  simp only [npE_ok, npE_err, npE_ite, npB_l, npB_r, itbF, ok_bind, npT_kind, npT_text, npT_pos, npK_mk, npK_1, npK_2, npN_1, npN_2, np_tk, np_nx, np_fuel, np_isM, np_isW, np_isNm, np_adv, np_flt, id_eq, npB_b, exbF, npS_eq, npL_mk, npL_1, npL_2, np_name, np_range, np_constr, np_set, np_need]
  try rfl
theorem np_other (w : ByteArray) (s : Stm) (k : Ix l) : otherP w (npS s) (npI k) = npE npL (otherP w s k) := by
  unfold otherP
  simp only [npE_ok, npE_err, npE_ite, npB_l, npB_r, itbF, ok_bind, npT_kind, npT_text, npT_pos, npK_mk, npK_1, npK_2, npN_1, npN_2, np_tk, np_nx, np_fuel, np_isM, np_isW, np_isNm, np_adv, np_flt, id_eq, npB_b, exbF, npS_eq, npL_mk, np_name, np_braced, np_listed, np_set, np_context, np_text, np_choose]
  try rfl
theorem np_plain (w : ByteArray) (s : Stm) (k : Ix l) : plainP w (npS s) (npI k) = npE (npK npS) (plainP w s k) := by
  unfold plainP
  simp only [npE_ok, npE_err, npE_ite, npB_l, npB_r, itbF, ok_bind, npT_kind, npT_text, npT_pos, npK_mk, npK_1, npK_2, npN_1, npN_2, np_tk, np_nx, np_fuel, np_isM, np_isW, np_isNm, np_adv, np_flt, id_eq, npB_b, exbF, np_decl, npL_1, npL_2, np_rule, np_other, np_need]
  try rfl
theorem np_zero (p : Po) : ({ Stm.zero with pos := ⟨0, 0⟩ } : Stm) = npS { Stm.zero with pos := p } := by rw [npS_eq]; rfl
theorem np_stmts : ∀ n : Nat, (∀ (d : Nat) (k : Ix l) (c : Nat), stmtP tksK n d (npI k) c = npE (npN npS) (stmtP tksK n d k c)) ∧
    (∀ (d : Nat) (i : Bool) (s : Stm) (k : Ix l) (c : Nat), blocksP tksK n d i (npS s) (npI k) c = npE (fun x => ((), npN npS x.2)) (blocksP tksK n d i s k c)) ∧
    (∀ (d : Nat) (k : Ix l) (c : Nat), blockP tksK n d (npI k) c = npE (npN (List.map npS)) (blockP tksK n d k c)) ∧
    (∀ (d : Nat) (acc : List Stm) (k : Ix l) (c : Nat), stmtsP tksK n d (acc.map npS) (npI k) c = npE (npN (List.map npS)) (stmtsP tksK n d acc k c))
  | 0 => ⟨fun d k c => (by rw [stmtP, stmtP, np_tk]; rfl), fun d i s k c => (by rw [blocksP, blocksP, np_tk]; rfl), fun d k c => (by rw [blockP, blockP, np_tk]; rfl), fun d acc k c => (by rw [stmtsP, stmtsP, np_tk]; rfl)⟩
  | n + 1 => by
    obtain ⟨i1, i2, i3, i4⟩ := np_stmts n
    refine ⟨fun d k c => ?_, fun d i s k c => ?_, fun d k c => ?_, fun d acc k c => ?_⟩
    · have h1 := fun i => i2 d i { Stm.zero with pos := (tk k).pos } (nx k) (c + 1)
      have h2 := np_plain (tk k).text { Stm.zero with pos := (tk k).pos } (nx k)
      rw [← np_zero] at h1 h2
      rw [stmtP, stmtP]
      simp only [npE_ok, npE_err, npE_ite, npB_l, npB_r, itbF, ok_bind, npT_kind, npT_text, npT_pos, npK_mk, npK_1, npK_2, npN_1, npN_2, np_tk, np_nx, np_fuel, np_isM, np_isW, np_isNm, np_adv, np_flt, id_eq, npB_b, exbF, h1, h2, npN]
      try rfl
    · have h17 : ∀ e : Ex, ({ npS s with kind := 17, cond := e } : Stm) = npS { s with kind := 17, cond := e } := fun e => by rw [npS_eq, npS_eq]
      have h18 : ({ npS s with kind := 18 } : Stm) = npS { s with kind := 18 } := by rw [npS_eq, npS_eq]
      rw [blocksP, blocksP]
      cases i with
      | true => (simp only [npE_ok, npE_err, npE_ite, npB_l, npB_r, itbF, ok_bind, npT_kind, npT_text, npT_pos, npK_mk, npK_1, npK_2, npN_1, npN_2, np_tk, np_nx, np_fuel, np_isM, np_isW, np_isNm, np_adv, np_flt, id_eq, npB_b, exbF, if_true, np_cond, i3, npN, npS_eq]; try rfl)
      | false => (simp only [npE_ok, npE_err, npE_ite, npB_l, npB_r, itbF, ok_bind, npT_kind, npT_text, npT_pos, npK_mk, npK_1, npK_2, npN_1, npN_2, np_tk, np_nx, np_fuel, np_isM, np_isW, np_isNm, np_adv, np_flt, id_eq, npB_b, exbF, if_false, Bool.false_eq_true, i3, npN, npS_eq]; try rfl)
    · have h := fun k c => i4 (d + 1) [] k c
      simp only [List.map_nil] at h
      rw [blockP, blockP]
      simp only [npE_ok, npE_err, npE_ite, npB_l, npB_r, itbF, ok_bind, npT_kind, npT_text, npT_pos, npK_mk, npK_1, npK_2, npN_1, npN_2, np_tk, np_nx, np_fuel, np_isM, np_isW, np_isNm, np_adv, np_flt, id_eq, npB_b, exbF, np_need, h, List.map_nil, npN]
      try rfl
    · have h := fun (acc : List Stm) (s : Stm) k c => i4 d (acc ++ [s]) k c
      simp only [List.map_append, List.map_cons, List.map_nil] at h
      rw [stmtsP, stmtsP]
      simp only [npE_ok, npE_err, npE_ite, npB_l, npB_r, itbF, ok_bind, npT_kind, npT_text, npT_pos, npK_mk, npK_1, npK_2, npN_1, npN_2, np_tk, np_nx, np_fuel, np_isM, np_isW, np_isNm, np_adv, np_flt, id_eq, npB_b, exbF, i1, h, npN]
      try rfl
theorem np_head (k : Ix l) : headP (npI k) = npE (npK id) (headP k) := by
  unfold headP
  simp only [npE_ok, npE_err, npE_ite, npB_l, npB_r, itbF, ok_bind, npT_kind, npT_text, npT_pos, npK_mk, npK_1, npK_2, npN_1, npN_2, np_tk, np_nx, np_fuel, np_isM, np_isW, np_isNm, np_adv, np_flt, id_eq, npB_b, exbF, np_name, np_need, np_needW]
  try rfl
theorem np_mod (k : Ix l) : modQ (npI k) = npE (npN npM) (modQ k) := by
  have h := fun n k c => (np_stmts (l := l) n).2.2.2 0 [] k c
  simp only [List.map_nil] at h
  unfold modQ
  simp only [npE_ok, npE_err, npE_ite, npB_l, npB_r, itbF, ok_bind, npT_kind, npT_text, npT_pos, npK_mk, npK_1, npK_2, npN_1, npN_2, np_tk, np_nx, np_fuel, np_isM, np_isW, np_isNm, np_adv, np_flt, id_eq, npB_b, exbF, np_head, h, List.map_nil, npN, npM]
  try rfl
end
def parseK (l : List Tok) : Except Fa Mo := if h : 0 < l.length then modQ (⟨0, h⟩ : Ix l) >>= fun x => if (tk x.2.1).kind = 0 then .ok x.1 else .error (flt 9 (tk x.2.1)) else .error (fl0 9 ⟨0, 0⟩)
theorem parse_k {src : ByteArray} {l : List Tok} (h : scanP src = .ok l) : parseP src = parseK l := by
  unfold parseP runP
  rw [h, ok_bind]; rfl
theorem np_parse (l : List Tok) : parseK (l.map npT) = npE npM (parseK l) := by
  unfold parseK
  by_cases h : 0 < l.length
  · have h' : 0 < (l.map npT).length := by rw [List.length_map]; exact h
    rw [dif_pos h, dif_pos h']
    have e : modQ (⟨0, h'⟩ : Ix (l.map npT)) = npE (npN npM) (modQ (⟨0, h⟩ : Ix l)) := np_mod (⟨0, h⟩ : Ix l)
    rw [e]
    simp only [npE_ok, npE_err, npE_ite, npB_l, npB_r, itbF, ok_bind, npT_kind, npT_text, npT_pos, npK_mk, npK_1, npK_2, npN_1, npN_2, np_tk, np_nx, np_fuel, np_isM, np_isW, np_isNm, np_adv, np_flt, id_eq, npB_b, exbF, npN]
    try rfl
  · have h' : ¬ 0 < (l.map npT).length := by rw [List.length_map]; exact h
    rw [dif_neg h, dif_neg h']; rfl
theorem parse_same {l m : List Tok} (h : l.map npT = m.map npT) : npE npM (parseK l) = npE npM (parseK m) := by rw [← np_parse, ← np_parse, h]
end Am
namespace Am
open Tk
set_option maxRecDepth 100000
def tokB (t : Tok) : Bool := if t.kind = 0 then decide (t.text.data.toList = []) else if t.kind = 1 then nameB t.text.data.toList else if t.kind = 2 then numB t.text.data.toList else if t.kind = 3 then quoB t.text.data.toList else if t.kind = 4 then mkL.contains t.text.data.toList else false
def srcT (t : Tok) : List UInt8 := if t.kind = 3 then 34 :: (t.text.data.toList ++ [34]) else t.text.data.toList
def joinT : Bool → List Tok → List UInt8
  | _, [] => []
  | b, t :: l => (if b then [32] else []) ++ (srcT t ++ joinT true l)
theorem joinT_sp (l : List Tok) : joinT true l = [] ∨ ∃ r, joinT true l = 32 :: r := by
  cases l with
  | nil => exact .inl rfl
  | cons t l => exact .inr ⟨_, rfl⟩
theorem scan_mk1 {c : UInt8} {r : List UInt8} (o : Nat) (hc : marks1.contains c = true) (hr : r = [] ∨ ∃ r', r = 32 :: r') : scanA o (c :: r) = LR.app [⟨4, [c], o⟩] (scanA (o + 1) r) := by
  rcases hr with rfl | ⟨r', rfl⟩
  · by_cases h : c = 33
    · subst h; rfl
    · exact scan_mark1 o hc fun e => absurd e h
  · exact scan_mark1 o hc fun _ => ⟨32, r', rfl, by decide⟩
theorem scan_text {l r : List UInt8} (o : Nat) (hq : quoB l = true) : scanA o ((34 :: (l ++ [34])) ++ r) = LR.app [⟨3, l, o⟩] (scanA (o + (l.length + 2)) r) := by
  unfold quoB at hq
  simp only [Bool.and_eq_true, decide_eq_true_eq] at hq
  have ht : tw ptB (l ++ 34 :: r) = l.length := tw_app hq.2 (.inr ⟨34, r, rfl, by decide⟩)
  have e : (34 :: (l ++ [34])) ++ r = 34 :: (l ++ 34 :: r) := by simp
  have h1 : oneR (34 :: (l ++ 34 :: r)) = .ok 3 (l.length + 2) := by
    unfold oneR
    rw [show (34 :: (l ++ 34 :: r) : List UInt8).getD 0 0 = 34 from rfl, if_neg (by decide), if_neg (by decide), if_pos (by decide)]
    unfold textR
    rw [show (34 :: (l ++ 34 :: r) : List UInt8).drop 1 = l ++ 34 :: r from rfl, ht, if_neg (by simp), if_neg, if_neg (by omega)]
    rw [show (l ++ 34 :: r).getD l.length 0 = 34 by simp]
    decide
  rw [e, scanA_eq, skip0 (by decide) (by decide) (by decide) (by decide), if_neg (by simp), List.drop_zero, h1]
  dsimp only
  have e2 : textL 3 (l.length + 2) (34 :: (l ++ 34 :: r)) = l := by
    unfold textL
    rw [if_pos rfl]
    show (l ++ 34 :: r).take (l.length + 2 - 2) = l
    simp
  have e3 : (34 :: (l ++ 34 :: r) : List UInt8).drop (0 + (l.length + 2)) = r := by
    rw [Nat.zero_add, ← e]
    exact List.drop_left' (by simp)
  rw [e2, e3, Nat.add_zero]
theorem scan_mk {l r : List UInt8} (o : Nat) (hm : mkL.contains l = true) (hr : r = [] ∨ ∃ r', r = 32 :: r') : scanA o (l ++ r) = LR.app [⟨4, l, o⟩] (scanA (o + l.length) r) := by
  match l with
  | [] => cases hm
  | [a] => exact scan_mk1 o (by rw [← mkL_one]; exact hm) hr
  | [a, b] => exact scan_mark2 o (by have := mkL_two a b; rw [hm] at this; simpa using this.symm)
  | a :: b :: c :: t => simp [mkL] at hm
theorem scan_src {t : Tok} {r : List UInt8} (o : Nat) (h0 : t.kind ≠ 0) (hk : tokB t = true) (hr : r = [] ∨ ∃ r', r = 32 :: r') : scanA o (srcT t ++ r) = LR.app [⟨t.kind, t.text.data.toList, o⟩] (scanA (o + (srcT t).length) r) := by
  unfold tokB at hk
  rw [if_neg h0] at hk
  have hr2 : ∀ p : UInt8 → Bool, p 32 = false → (r = [] ∨ ∃ c r', r = c :: r' ∧ p c = false) := fun p hp => by
    rcases hr with h | ⟨r', h⟩
    · exact .inl h
    · exact .inr ⟨32, r', h, hp⟩
  unfold srcT
  by_cases h1 : t.kind = 1
  · rw [if_pos h1] at hk
    rw [if_neg (by rw [h1]; decide), h1]
    exact scan_name o hk (hr2 _ (by decide))
  rw [if_neg h1] at hk
  by_cases h2 : t.kind = 2
  · rw [if_pos h2] at hk
    rw [if_neg (by rw [h2]; decide), h2]
    exact scan_num o hk (hr2 _ (by decide))
  rw [if_neg h2] at hk
  by_cases h3 : t.kind = 3
  · rw [if_pos h3] at hk
    rw [if_pos h3, h3]
    have := scan_text (r := r) o hk
    rw [this]
    simp
  rw [if_neg h3] at hk
  by_cases h4 : t.kind = 4
  · rw [if_pos h4] at hk
    rw [if_neg h3, h4]
    exact scan_mk o hk hr
  · rw [if_neg h4] at hk; cases hk
theorem scan_join : ∀ (l : List Tok) (b : Bool) (o : Nat), (∀ t ∈ l, t.kind ≠ 0 ∧ tokB t = true) → ∃ us e, scanA o (joinT b l) = .ok (us ++ [⟨0, [], e⟩]) ∧ us.map (fun u => (u.kind, u.text)) = l.map fun t => (t.kind, t.text.data.toList)
  | [], b, o, _ => ⟨[], o, rfl, rfl⟩
  | t :: l, b, o, h => by
    obtain ⟨h0, h1⟩ := h t (.head _)
    have key : ∀ o, ∃ us e, scanA o (srcT t ++ joinT true l) = .ok (us ++ [⟨0, [], e⟩]) ∧ us.map (fun u => (u.kind, u.text)) = (t :: l).map fun t => (t.kind, t.text.data.toList) := fun o => by
      obtain ⟨us, e, e1, e2⟩ := scan_join l true (o + (srcT t).length) fun t ht => h t (.tail _ ht)
      refine ⟨⟨t.kind, t.text.data.toList, o⟩ :: us, e, ?_, by rw [List.map_cons, List.map_cons, e2]⟩
      rw [scan_src o h0 h1 (joinT_sp l), e1]; rfl
    cases b with
    | false => exact key o
    | true =>
      obtain ⟨us, e, e1, e2⟩ := key (o + 1)
      exact ⟨us, e, (scan_sp o).trans e1, e2⟩
def bodyT : List Tok → List Tok
  | [] => []
  | t :: l => if t.kind = 0 then [] else t :: bodyT l
theorem body_end : ∀ (l : List Tok) (t : Tok), (∀ x ∈ l, x.kind ≠ 0) → t.kind = 0 → bodyT (l ++ [t]) = l
  | [], t, _, h => by
    show (if t.kind = 0 then [] else _) = []
    rw [if_pos h]
  | x :: l, t, hl, h => by
    show (if x.kind = 0 then [] else x :: bodyT (l ++ [t])) = x :: l
    rw [if_neg (hl x (.head _)), body_end l t (fun y hy => hl y (.tail _ hy)) h]
theorem scan_again {src s : ByteArray} {l : List Tok} (h : scanP src = .ok l) (hk : ∀ t ∈ bodyT l, tokB t = true) (hs : s.data.toList = joinT false (bodyT l)) (hz : s.size ≤ 65536) : ∃ m, scanP s = .ok m ∧ l.map npT = m.map npT := by
  obtain ⟨_, us, e, _, rfl, h2, _⟩ := scanP_lr h
  have eb : bodyT ((us ++ [(⟨0, [], e⟩ : LTok)]).map (LTok.at src.data.toList)) = us.map (LTok.at src.data.toList) := by
    rw [List.map_append]
    refine body_end _ _ (fun x hx => ?_) rfl
    obtain ⟨u, hu, rfl⟩ := List.mem_map.1 hx
    exact (h2 u hu).1
  rw [eb] at hk hs
  obtain ⟨vs, e', e1, e2⟩ := scan_join (us.map (LTok.at src.data.toList)) false 0 fun t ht => by
    refine ⟨?_, hk t ht⟩
    obtain ⟨u, hu, rfl⟩ := List.mem_map.1 ht
    exact (h2 u hu).1
  refine ⟨(vs ++ [(⟨0, [], e'⟩ : LTok)]).map (LTok.at s.data.toList), ?_, ?_⟩
  · rw [scanP_L s hz, hs, e1]; rfl
  · have e3 : us.map (fun u => (u.kind, u.text)) = vs.map fun u => (u.kind, u.text) := by
      rw [e2, List.map_map]; rfl
    have e4 : ∀ (src : List UInt8) (ws : List LTok) (e : Nat), ((ws ++ [(⟨0, [], e⟩ : LTok)]).map (LTok.at src)).map npT = (ws.map fun u => (u.kind, u.text)).map (fun p => (⟨p.1, ⟨p.2.toArray⟩, ⟨0, 0⟩⟩ : Tok)) ++ [⟨0, ⟨#[]⟩, ⟨0, 0⟩⟩] := fun src ws e => by
      simp only [List.map_append, List.map_map]; rfl
    rw [e4, e4, e3]
end Am
namespace Am
open Tk Go.RowKit
set_option maxRecDepth 100000
set_option maxHeartbeats 4000000
def nmF : Bool → List UInt8 → Bool
  | _, [] => true
  | b, c :: l => (letB (bi c) || (!b && dgB c)) && nmF false l
theorem nmF_all : ∀ l : List UInt8, nmF false l = l.all nmB
  | [] => rfl
  | c :: l => by rw [nmF, nmF_all l]; rfl
theorem let_dig {c : UInt8} (h : letB (bi c) = true) : dgB c = false := by
  unfold dgB
  simp only [letB, digB, Bool.or_eq_true, decide_eq_true_eq, decide_eq_false_iff_not] at h ⊢
  omega
theorem nameB_F (l : List UInt8) : nameB l = (nmF true l && decide (1 ≤ l.length) && decide (l.length ≤ 32)) := by
  cases l with
  | nil => rfl
  | cons c l =>
    unfold nameB
    rw [nmF, nmF_all]
    simp only [List.isEmpty_cons, Bool.not_false, Bool.true_and, Bool.not_true, Bool.false_and, Bool.or_false, List.all_cons, List.getD_cons_zero]
    rw [decide_eq_true (show 1 ≤ (c :: l).length by simp), Bool.and_true]
    have e : (!dgB c && nmB c) = letB (bi c) := by
      unfold nmB
      show (!dgB c && (letB (bi c) || dgB c)) = _
      cases h : letB (bi c) with
      | true => rw [let_dig h]; rfl
      | false => cases dgB c <;> rfl
    rw [← e]
    cases dgB c <;> cases nmB c <;> cases l.all nmB <;> simp
theorem q2name_p (s : ByteArray) : Pure Tryz.prog 124 [.c (sS s)] (.c (sB (nameB s.data.toList))) := by
  have hl := sz_len s
  rw [nameB_F, ← hl]
  generalize hv : nmF true s.data.toList = v
  have hv : ∃ L, s.data.toList = L ∧ nmF true L = v := ⟨_, rfl, hv⟩
  obtain ⟨L, hL, hv⟩ := hv
  rw [hL] at hl
  have HL := Lib.hid hL
  clear hL
  refine fn1 (fn := Tryz.f124) Tryz.call124 Tryz.func124 rfl Tryz.ntmps124 Tryz.results124 rfl (by rfl) ?_
  refine AW.fact (t := 0) rfl (fun κ w x hr => repV_s hr) fun hn => ?_
  repeat' (first | (with_reducible first | apply AW.seq | apply AW.block | apply AW.ret | apply AW.exit | apply q_then | apply q_thenE | apply q_bloE | apply y_e | refine v_rgl ?_) | ((with_reducible apply i_dv); refine t_v AS.v ?_) | ((with_reducible apply i_dg); refine t_m (hs := fun hg => AS.v) (k := ?_)) | ((with_reducible refine i_aw ?_); ((refine v_cond (fun hc => ?_) (fun hc => ?_); all_goals (try (exfalso; simp [*] at hc; done))))) | ((with_reducible refine i_rt ?_); refine k_b ?_) | fail)
  refine AW.loop (fun m σ => ∃ j : Nat, m = s.size - j ∧ j ≤ s.size ∧ nmF (decide (j = 0)) (L.drop j) = v ∧ σ = mk [(0, .c (sS s)), (3, .c (sI (j : Int)))] []) s.size ?_ ?_
  · exact ⟨_, wk_mk (by (repeat (first | exact all_nil | ((refine all_cons ⟨_, rfl, .inl rfl, ?_⟩ ?_); (· (rfl))))); done) (by (repeat (exact all_nil)); done) (by rfl), 0, rfl, Nat.zero_le _, hv, rfl⟩
  clear hv
  rintro m σ ⟨j, rfl, hj, hv, rfl⟩
  by_cases hlt : j < s.size
  · obtain ⟨d, hd⟩ := get_at (src := s) (k := j) hlt
    have p1 := qletter_p d
    have p2 := qdigit_p d
    have hdr : L.drop j = d :: L.drop (j + 1) := by
      have hd2 := hd
      rw [HL.out] at hd2
      obtain ⟨h1, h2⟩ := List.getElem?_eq_some_iff.1 hd2
      rw [← h2]; exact List.drop_eq_getElem_cons h1
    rw [hdr, nmF] at hv
    clear hl hdr
    have hv2 : ∃ w, nmF false (L.drop (j + 1)) = w := ⟨_, rfl⟩
    obtain ⟨w, hw⟩ := hv2
    rw [hw] at hv
    generalize letB (bi d) = a at *
    generalize dgB d = b at *
    have HV := Lib.hid hv
    have HW := Lib.hid hw
    clear hv hw
    repeat' (first | (with_reducible first | apply AW.seq | apply AW.block | apply AW.skip | apply AW.ret | apply q_then | apply q_thenR | apply q_bloN | apply q_bloR | apply y_e | refine v_rgl ?_) | ((with_reducible apply i_dv); first | refine t_v AS.v ?_ | refine t_v (by exact u_call (hP := p1)) ?_) | ((with_reducible apply i_dg); first | refine t_m (hs := fun hg => AS.v) (k := ?_) | refine t_m (hs := fun hg => (by exact u_call (hP := p2))) (k := ?_)) | ((with_reducible refine i_aw ?_); ((refine v_cond (fun hc => ?_) (fun hc => ?_); all_goals (try (exfalso; simp [*] at hc; done))))) | ((with_reducible refine i_rt ?_); refine k_b ?_) | fail)
    · have hv := HV.out
      subst hv
      simp at hc
      by_cases h0 : j = 0
      · simp [h0, hc]
      · simp [h0, hc]; grind
    · refine ⟨_, _, (show s.size - (j + 1) < s.size - j by omega), wk_mk (by (repeat (first | exact all_nil | ((refine all_cons ⟨_, rfl, .inl rfl, ?_⟩ ?_); (· (rfl))))); done) (by (repeat (exact all_nil)); done) (by rfl), j + 1, rfl, hlt, ?_, rfl⟩
      rw [show decide (j + 1 = 0) = false by simp, HW.out]
      have hv := HV.out
      rw [← hv]
      by_cases h0 : j = 0
      · simp [h0] at hc ⊢; grind
      · simp [h0] at hc ⊢; grind
  · have e : L.drop j = [] := List.drop_eq_nil_of_le (by omega)
    rw [e, nmF] at hv
    subst hv
    clear hl e
    repeat' (first | (with_reducible first | apply AW.seq | apply AW.block | apply AW.ret | apply AW.exit | apply q_then | apply q_thenE | apply q_bloE | apply y_e | refine v_rgl ?_) | ((with_reducible apply i_dv); refine t_v AS.v ?_) | ((with_reducible apply i_dg); refine t_m (hs := fun hg => AS.v) (k := ?_)) | ((with_reducible refine i_aw ?_); ((refine v_cond (fun hc => ?_) (fun hc => ?_); all_goals (try (exfalso; simp [*] at hc; done))))) | ((with_reducible refine i_rt ?_); refine k_b ?_) | fail)
    rw [Bool.true_and]
    congr 1
    · rw [decide_eq_decide]; omega
    · rw [decide_eq_decide]; omega
theorem q2quoted_p (s : ByteArray) : Pure Tryz.prog 125 [.c (sS s)] (.c (sB (quoB s.data.toList))) := by
  have hl := sz_len s
  have ev : quoB s.data.toList = (decide (s.size ≤ 256) && s.data.toList.all ptB) := by unfold quoB; rw [hl]
  rw [ev]
  clear ev
  refine fn1 (fn := Tryz.f125) Tryz.call125 Tryz.func125 rfl Tryz.ntmps125 Tryz.results125 rfl (by rfl) ?_
  refine AW.fact (t := 0) rfl (fun κ w x hr => repV_s hr) fun hn => ?_
  clear hl
  repeat' (first | (with_reducible first | apply AW.seq | apply AW.block | apply AW.skip | apply AW.ret | apply AW.exit | apply q_then | apply q_thenR | apply q_thenE | apply q_bloN | apply q_bloR | apply q_bloE | apply y_e | refine v_rgl ?_) | ((with_reducible apply i_dv); refine t_v AS.v ?_) | ((with_reducible apply i_dg); refine t_m (hs := fun hg => AS.v) (k := ?_)) | ((with_reducible refine i_aw ?_); ((refine v_cond (fun hc => ?_) (fun hc => ?_); all_goals (try (exfalso; simp [*] at hc; done))))) | ((with_reducible refine i_rt ?_); refine k_b ?_) | fail)
  refine AW.loop (fun m σ => ∃ j : Nat, m = s.size - j ∧ j ≤ s.size ∧ (s.data.toList.take j).all ptB = true ∧ σ = mk [(0, .c (sS s)), (3, .c (sI (j : Int)))] []) s.size ?_ ?_
  · exact ⟨_, wk_mk (by (repeat (first | exact all_nil | ((refine all_cons ⟨_, rfl, .inl rfl, ?_⟩ ?_); (· (rfl))))); done) (by (repeat (exact all_nil)); done) (by rfl), 0, rfl, Nat.zero_le _, rfl, rfl⟩
  rintro m σ ⟨j, rfl, hj, ha, rfl⟩
  by_cases hlt : j < s.size
  · obtain ⟨d, hd⟩ := get_at (src := s) (k := j) hlt
    have HA := Lib.hid ha
    clear ha
    repeat' (first | (with_reducible first | apply AW.seq | apply AW.block | apply AW.skip | apply AW.ret | apply AW.exit | apply q_then | apply q_thenR | apply q_thenE | apply q_bloN | apply q_bloR | apply q_bloE | apply y_e | refine v_rgl ?_) | ((with_reducible apply i_dv); refine t_v AS.v ?_) | ((with_reducible apply i_dg); refine t_m (hs := fun hg => AS.v) (k := ?_)) | ((with_reducible refine i_aw ?_); ((refine v_cond (fun hc => ?_) (fun hc => ?_); all_goals (try (exfalso; simp [*] at hc; done))))) | ((with_reducible refine i_rt ?_); refine k_b ?_) | fail)
    · have e : ptB d = false := by
        simp only [Bool.or_eq_true, decide_eq_true_eq] at hc
        refine decide_eq_false ?_
        unfold bi; omega
      rw [all_no hd e, Bool.and_false]
    · have e : ptB d = true := by
        simp only [Bool.or_eq_false_iff, decide_eq_false_iff_not] at hc
        refine decide_eq_true ?_
        unfold bi; omega
      exact ⟨_, _, (show s.size - (j + 1) < s.size - j by omega), wk_mk (by (repeat (first | exact all_nil | ((refine all_cons ⟨_, rfl, .inl rfl, ?_⟩ ?_); (· (rfl))))); done) (by (repeat (exact all_nil)); done) (by rfl), j + 1, rfl, hlt, all_step hd HA.out e, rfl⟩
  · have e := all_end ha (by have := sz_len s; omega)
    clear ha
    rw [e, Bool.and_true]
    clear e
    repeat' (first | (with_reducible first | apply AW.seq | apply AW.block | apply AW.skip | apply AW.ret | apply AW.exit | apply q_then | apply q_thenR | apply q_thenE | apply q_bloN | apply q_bloR | apply q_bloE | apply y_e | refine v_rgl ?_) | ((with_reducible apply i_dv); refine t_v AS.v ?_) | ((with_reducible apply i_dg); refine t_m (hs := fun hg => AS.v) (k := ?_)) | ((with_reducible refine i_aw ?_); ((refine v_cond (fun hc => ?_) (fun hc => ?_); all_goals (try (exfalso; simp [*] at hc; done))))) | ((with_reducible refine i_rt ?_); refine k_b ?_) | fail)
    rw [decide_eq_decide]; omega
theorem ba_l0 {a b : ByteArray} (h : a.data.toList = b.data.toList) : a = b := by cases a; cases b; congr 1; exact Array.ext' h
theorem ba_nil (s : ByteArray) : decide (s = ⟨#[]⟩) = decide (s.data.toList = []) := by
  rw [decide_eq_decide]
  constructor
  · intro h; rw [h]
  · intro h; exact ba_l0 h
theorem q2check_p (t : Tok) (ht : t.text.size ≤ 65536) : Pure Tryz.prog 62 [.agg (tkC t)] (.c (sB (tokB t))) := by
  have p1 := q2name_p t.text
  have p2 := qnumber_p t.text ht
  have p3 := q2quoted_p t.text
  have p4 := within_p t.text
  unfold tokB
  rw [← ba_nil]
  by_cases h0 : t.kind = 0
  · rw [if_pos h0]
    refine fn1 (fn := Tryz.f62) Tryz.call62 Tryz.func62 rfl Tryz.ntmps62 Tryz.results62 rfl (by rfl) ?_
    repeat' (first | (with_reducible first | apply AW.seq | apply AW.block | apply AW.skip | apply AW.ret | apply q_then | apply q_thenR | apply q_bloN | apply q_bloR | apply y_e | refine v_rgl ?_) | ((with_reducible apply i_dv); first | refine t_v AS.v ?_ | refine t_w AS.w ?_) | ((with_reducible refine i_aw ?_); ((refine v_cond (fun hc => ?_) (fun hc => ?_); all_goals (try (exfalso; simp [*] at hc; done))))) | ((with_reducible refine i_rt ?_); refine k_b ?_) | fail)
    all_goals rfl
  rw [if_neg h0]
  by_cases h1 : t.kind = 1
  · rw [if_pos h1]
    refine fn1 (fn := Tryz.f62) Tryz.call62 Tryz.func62 rfl Tryz.ntmps62 Tryz.results62 rfl (by rfl) ?_
    repeat' (first | (with_reducible first | apply AW.seq | apply AW.block | apply AW.ret | apply q_then | apply q_thenR | apply q_bloR | apply y_e | refine v_rgl ?_) | ((with_reducible apply i_dv); first | refine t_v AS.v ?_ | refine t_v (by exact u_call (hP := p1)) ?_ | refine t_w AS.w ?_) | ((with_reducible refine i_aw ?_); ((refine v_cond (fun hc => ?_) (fun hc => ?_); all_goals (try (exfalso; simp [*] at hc; done))))) | ((with_reducible refine i_rt ?_); refine k_b ?_) | fail)
    all_goals rfl
  rw [if_neg h1]
  by_cases h2 : t.kind = 2
  · rw [if_pos h2]
    refine fn1 (fn := Tryz.f62) Tryz.call62 Tryz.func62 rfl Tryz.ntmps62 Tryz.results62 rfl (by rfl) ?_
    repeat' (first | (with_reducible first | apply AW.seq | apply AW.block | apply AW.ret | apply q_then | apply q_thenR | apply q_bloR | apply y_e | refine v_rgl ?_) | ((with_reducible apply i_dv); first | refine t_v AS.v ?_ | refine t_v (by exact u_call (hP := p2)) ?_ | refine t_w AS.w ?_) | ((with_reducible refine i_aw ?_); ((refine v_cond (fun hc => ?_) (fun hc => ?_); all_goals (try (exfalso; simp [*] at hc; done))))) | ((with_reducible refine i_rt ?_); refine k_b ?_) | fail)
    all_goals rfl
  rw [if_neg h2]
  by_cases h3 : t.kind = 3
  · rw [if_pos h3]
    refine fn1 (fn := Tryz.f62) Tryz.call62 Tryz.func62 rfl Tryz.ntmps62 Tryz.results62 rfl (by rfl) ?_
    repeat' (first | (with_reducible first | apply AW.seq | apply AW.block | apply AW.ret | apply q_then | apply q_thenR | apply q_bloR | apply y_e | refine v_rgl ?_) | ((with_reducible apply i_dv); first | refine t_v AS.v ?_ | refine t_v (by exact u_call (hP := p3)) ?_ | refine t_w AS.w ?_) | ((with_reducible refine i_aw ?_); ((refine v_cond (fun hc => ?_) (fun hc => ?_); all_goals (try (exfalso; simp [*] at hc; done))))) | ((with_reducible refine i_rt ?_); refine k_b ?_) | fail)
    all_goals rfl
  rw [if_neg h3]
  by_cases h4 : t.kind = 4
  · rw [if_pos h4]
    refine fn1 (fn := Tryz.f62) Tryz.call62 Tryz.func62 rfl Tryz.ntmps62 Tryz.results62 rfl (by rfl) ?_
    repeat' (first | (with_reducible first | apply AW.seq | apply AW.block | apply AW.ret | apply q_then | apply q_thenR | apply q_bloR | apply y_e | refine v_rgl ?_) | ((with_reducible apply i_dv); first | refine t_v AS.v ?_ | refine t_v (by exact u_call (hP := p4)) ?_ | refine t_w AS.w ?_) | ((with_reducible refine i_aw ?_); ((refine v_cond (fun hc => ?_) (fun hc => ?_); all_goals (try (exfalso; simp [*] at hc; done))))) | ((with_reducible refine i_rt ?_); refine k_b ?_) | fail)
    all_goals rfl
  rw [if_neg h4]
  refine fn1 (fn := Tryz.f62) Tryz.call62 Tryz.func62 rfl Tryz.ntmps62 Tryz.results62 rfl (by rfl) ?_
  repeat' (first | (with_reducible first | apply AW.seq | apply AW.block | apply AW.skip | apply AW.ret | apply q_then | apply q_thenR | apply q_bloN | apply q_bloR | apply y_e | refine v_rgl ?_) | ((with_reducible apply i_dv); first | refine t_v AS.v ?_ | refine t_w AS.w ?_) | ((with_reducible refine i_aw ?_); ((refine v_cond (fun hc => ?_) (fun hc => ?_); all_goals (try (exfalso; simp [*] at hc; done))))) | ((with_reducible refine i_rt ?_); refine k_b ?_) | fail)
  all_goals rfl
def txF (s : ByteArray) : V := if 65536 < s.size then .tup [.c (sS ⟨#[]⟩), .c (sI 4)] else .tup [.c (sS s), .c (sI 0)]
def txR : Bool → ByteArray → List Tok → V
  | _, s, [] => txF s
  | b, s, t :: l => if t.kind = 0 then txF s else if tokB t = true then txR true (s ++ ⟨((if b then [32] else []) ++ srcT t).toArray⟩) l else .tup [.c (sS ⟨#[]⟩), .c (sI 2)]
theorem ba_app (s : ByteArray) (a b : List UInt8) : s ++ ⟨a.toArray⟩ ++ ⟨b.toArray⟩ = s ++ ⟨(a ++ b).toArray⟩ := by
  apply ba_l0
  simp [ByteArray.data_append]
theorem txR_eq : ∀ (l : List Tok) (b : Bool) (s : ByteArray), txR b s l = if (bodyT l).all tokB = true then txF (s ++ ⟨(joinT b (bodyT l)).toArray⟩) else .tup [.c (sS ⟨#[]⟩), .c (sI 2)]
  | [], b, s => by
    have e : s ++ ⟨#[]⟩ = s := by apply ba_l0; simp [ByteArray.data_append]
    show txF s = txF (s ++ ⟨#[]⟩)
    rw [e]
  | t :: l, b, s => by
    rw [txR, bodyT]
    by_cases h0 : t.kind = 0
    · rw [if_pos h0, if_pos h0]
      have e : s ++ ⟨#[]⟩ = s := by apply ba_l0; simp [ByteArray.data_append]
      show txF s = txF (s ++ ⟨#[]⟩)
      rw [e]
    · rw [if_neg h0, if_neg h0, List.all_cons]
      cases hk : tokB t with
      | true =>
        rw [if_pos rfl, txR_eq l, Bool.true_and, ba_app, joinT, List.append_assoc]
      | false =>
        rw [if_neg Bool.false_ne_true, Bool.false_and, if_neg Bool.false_ne_true]
theorem ok_txR : ∀ (l : List Tok) (b : Bool) (s : ByteArray), V.ok noN (txR b s l) = true
  | [], b, s => by
    show V.ok noN (txF s) = true
    unfold txF
    split <;> rfl
  | t :: l, b, s => by
    rw [txR]
    split
    · unfold txF
      split <;> rfl
    · split
      · exact ok_txR l _ _
      · rfl
theorem q2text_p (l : List Tok) (hl : l.length ≤ 70000) (ht : ∀ t ∈ l, t.text.size ≤ 65536) : Pure Tryz.prog 19 [.c (.lst none 4 (l.map tkC))] (txR false ⟨#[]⟩ l) := by
  have hR := ok_txR l false ⟨#[]⟩
  generalize hv : txR false ⟨#[]⟩ l = v at hR ⊢
  refine fn1 (fn := Tryz.f19) Tryz.call19 Tryz.func19 rfl Tryz.ntmps19 Tryz.results19 rfl hR ?_
  clear hR
  repeat' (first | (with_reducible first | apply AW.seq | apply AW.block | apply AW.skip | apply AW.ret | apply AW.exit | apply q_then | apply q_thenR | apply q_thenE | apply q_bloE | apply y_e | refine v_rgl ?_) | ((with_reducible apply i_dv); refine t_v AS.v ?_) | ((with_reducible apply i_dg); refine t_f ?_) | ((with_reducible refine i_aw ?_); first | refine v_no ?_ | (refine v_cond (fun hc => ?_) (fun hc => ?_); all_goals (try (exfalso; revert hc; simp; omega)))) | ((with_reducible refine i_rt ?_); (((refine k_2 ?_ ?_); all_goals (with_reducible (first | apply un_i | apply un_s))))) | fail)
  refine AW.loop (fun n σ => ∃ (j : Nat) (s : ByteArray), n = l.length - j ∧ j ≤ l.length ∧ s.size ≤ 70000 * j ∧ txR (decide (0 < j)) s (l.drop j) = v ∧ σ = mk [(0, .c (.lst none 4 (l.map tkC))), (4, .c (sS s)), (5, .c (sI (j : Int)))] []) l.length ?_ ?_
  · exact ⟨_, wk_mk (by (repeat (first | exact all_nil | ((refine all_cons ⟨_, rfl, .inl rfl, ?_⟩ ?_); (· (first | rfl | (simp [V.ok, okL, C.ok, okA, HO.ok]; done)))))); done) (by (repeat (exact all_nil)); done) (by rfl), 0, ⟨#[]⟩, rfl, Nat.zero_le _, Nat.zero_le _, hv, rfl⟩
  clear hv
  rintro n σ ⟨j, s, rfl, hj, hz, hv, rfl⟩
  by_cases hlt : j < l.length
  · obtain ⟨t, hx⟩ : ∃ t, l[j]? = some t := ⟨_, List.getElem?_eq_getElem hlt⟩
    have hdr : l.drop j = t :: l.drop (j + 1) := by
      obtain ⟨h1, h2⟩ := List.getElem?_eq_some_iff.1 hx
      rw [← h2]; exact List.drop_eq_getElem_cons h1
    have hts := ht t (List.mem_of_getElem? hx)
    have ck := q2check_p t hts
    rw [hdr, txR] at hv
    clear hdr ht
    by_cases h0 : t.kind = 0
    · rw [if_pos h0] at hv
      unfold txF at hv
      by_cases h6 : 65536 < s.size
      · rw [if_pos h6] at hv
        subst hv
        repeat' (first | (with_reducible first | apply AW.seq | apply AW.block | apply AW.skip | apply AW.ret | apply AW.exit | apply q_then | apply q_thenR | apply q_thenE | apply q_bloN | apply q_bloR | apply q_bloE | apply y_e | refine v_rgl ?_) | ((with_reducible apply i_dv); first | refine t_v AS.v ?_ | refine t_v (by exact u_call (hP := ck)) ?_) | ((with_reducible apply i_dg); refine t_m (hs := fun hg => AS.v) (k := ?_)) | ((with_reducible refine i_aw ?_); first | refine v_yes ?_ | refine v_no ?_ | (refine v_cond (fun hc => ?_) (fun hc => ?_); all_goals (try (exfalso; simp [*] at hc; done)); all_goals (try (exfalso; revert hc; simp; omega)))) | ((with_reducible refine i_rt ?_); (((refine k_2 ?_ ?_); all_goals (with_reducible (first | apply un_i | apply un_s))))) | fail)
        all_goals rfl
      · rw [if_neg h6] at hv
        subst hv
        repeat' (first | (with_reducible first | apply AW.seq | apply AW.block | apply AW.skip | apply AW.ret | apply AW.exit | apply q_then | apply q_thenR | apply q_thenE | apply q_bloN | apply q_bloR | apply q_bloE | apply y_e | refine v_rgl ?_) | ((with_reducible apply i_dv); first | refine t_v AS.v ?_ | refine t_v (by exact u_call (hP := ck)) ?_) | ((with_reducible apply i_dg); refine t_m (hs := fun hg => AS.v) (k := ?_)) | ((with_reducible refine i_aw ?_); first | refine v_yes ?_ | refine v_no ?_ | (refine v_cond (fun hc => ?_) (fun hc => ?_); all_goals (try (exfalso; simp [*] at hc; done)); all_goals (try (exfalso; revert hc; simp; omega)))) | ((with_reducible refine i_rt ?_); (((refine k_2 ?_ ?_); all_goals (with_reducible (first | apply un_i | apply un_s))))) | fail)
        all_goals rfl
    · rw [if_neg h0] at hv
      cases hk : tokB t with
      | false =>
        rw [hk] at ck
        rw [hk, if_neg Bool.false_ne_true] at hv
        clear hk
        subst hv
        repeat' (first | (with_reducible first | apply AW.seq | apply AW.block | apply AW.skip | apply AW.ret | apply AW.exit | apply q_then | apply q_thenR | apply q_thenE | apply q_bloN | apply q_bloR | apply q_bloE | apply y_e | refine v_rgl ?_) | ((with_reducible apply i_dv); first | refine t_v AS.v ?_ | refine t_v (by exact u_call (hP := ck)) ?_) | ((with_reducible apply i_dg); refine t_m (hs := fun hg => AS.v) (k := ?_)) | ((with_reducible refine i_aw ?_); first | refine v_yes ?_ | refine v_no ?_ | (refine v_cond (fun hc => ?_) (fun hc => ?_); all_goals (try (exfalso; simp [*] at hc; done)); all_goals (try (exfalso; revert hc; simp; omega)))) | ((with_reducible refine i_rt ?_); (((refine k_2 ?_ ?_); all_goals (with_reducible (first | apply un_i | apply un_s))))) | fail)
        all_goals first | rfl | (exfalso; simp [h0] at hc; done) | (exfalso; simp at hc; omega) | trace_state
      | true =>
        rw [hk] at ck
        rw [hk, if_pos rfl] at hv
        clear hk
        have HV := Lib.hid hv
        clear hv
        repeat' (first | (with_reducible first | apply AW.seq | apply AW.block | apply AW.skip | apply AW.ret | apply AW.exit | apply q_then | apply q_thenR | apply q_thenE | apply q_bloN | apply q_bloR | apply q_bloE | apply y_e | refine v_rgl ?_) | ((with_reducible apply i_dv); first | refine t_v AS.v ?_ | refine t_v (by exact u_call (hP := ck)) ?_) | ((with_reducible apply i_dg); refine t_m (hs := fun hg => AS.v) (k := ?_)) | ((with_reducible refine i_aw ?_); first | refine v_yes ?_ | refine v_no ?_ | (refine v_cond (fun hc => ?_) (fun hc => ?_); all_goals (try (exfalso; simp [*] at hc; done)); all_goals (try (exfalso; revert hc; simp; omega)))) | ((with_reducible refine i_rt ?_); (((refine k_2 ?_ ?_); all_goals (with_reducible (first | apply un_i | apply un_s))))) | fail)
        all_goals skip
        all_goals refine ⟨_, _, (show l.length - (j + 1) < l.length - j by omega), wk_mk (by (repeat (first | exact all_nil | ((refine all_cons ⟨_, rfl, .inl rfl, ?_⟩ ?_); (· (first | rfl | (simp [V.ok, okL, C.ok, okA, HO.ok]; done)))))); done) (by (repeat (exact all_nil)); done) (by rfl), j + 1, _, rfl, hlt, ?_, ?_, rfl⟩
        all_goals first
          | (have e1 : (⟨#[32]⟩ : ByteArray).size = 1 := rfl
             have e2 : (⟨#[34]⟩ : ByteArray).size = 1 := rfl
             simp only [ByteArray.size_append, e1, e2]; omega)
          | (rename_i hc1
             rw [show decide (0 < j + 1) = true by simp, ← HV.out]
             congr 1
             apply ba_l0
             simp only [decide_eq_true_eq, decide_eq_false_iff_not] at hc1 hc
             first
             | (have hj0 : 0 < j := by omega
                simp [srcT, hc, hj0, ByteArray.data_append]; done)
             | (have hj0 : ¬ 0 < j := by omega
                simp [srcT, hc, hj0, ByteArray.data_append]; done))
          | trace_state
  · have e : l.drop j = [] := List.drop_eq_nil_of_le (by omega)
    rw [e, txR] at hv
    clear e ht
    unfold txF at hv
    by_cases h6 : 65536 < s.size
    · rw [if_pos h6] at hv
      subst hv
      repeat' (first | (with_reducible first | apply AW.seq | apply AW.block | apply AW.skip | apply AW.ret | apply AW.exit | apply q_then | apply q_thenR | apply q_thenE | apply q_bloE | apply y_e | refine v_rgl ?_) | ((with_reducible apply i_dv); refine t_v AS.v ?_) | ((with_reducible apply i_dg); refine t_f ?_) | ((with_reducible refine i_aw ?_); first | refine v_no ?_ | (refine v_cond (fun hc => ?_) (fun hc => ?_); all_goals (try (exfalso; revert hc; simp; omega)))) | ((with_reducible refine i_rt ?_); (((refine k_2 ?_ ?_); all_goals (with_reducible (first | apply un_i | apply un_s))))) | fail)
      all_goals rfl
    · rw [if_neg h6] at hv
      subst hv
      repeat' (first | (with_reducible first | apply AW.seq | apply AW.block | apply AW.skip | apply AW.ret | apply AW.exit | apply q_then | apply q_thenR | apply q_thenE | apply q_bloE | apply y_e | refine v_rgl ?_) | ((with_reducible apply i_dv); refine t_v AS.v ?_) | ((with_reducible apply i_dg); refine t_f ?_) | ((with_reducible refine i_aw ?_); first | refine v_no ?_ | (refine v_cond (fun hc => ?_) (fun hc => ?_); all_goals (try (exfalso; revert hc; simp; omega)))) | ((with_reducible refine i_rt ?_); (((refine k_2 ?_ ?_); all_goals (with_reducible (first | apply un_i | apply un_s))))) | fail)
      all_goals rfl
end Am
namespace Am
set_option maxRecDepth 100000
section
variable {α : Type} {l m : List α} {x y : α} {j : Nat}
theorem eqs_step (h : l.take j = m.take j) (hx : l[j]? = some x) (hy : m[j]? = some y) (e : x = y) : l.take (j + 1) = m.take (j + 1) := by rw [List.take_add_one, List.take_add_one, h, hx, hy, e]
theorem eqs_no (hx : l[j]? = some x) (hy : m[j]? = some y) (e : x ≠ y) : l ≠ m := fun h => by subst h; rw [hx] at hy; injection hy with hy; exact e hy
theorem eqs_end (h : l.take j = m.take j) (h1 : l.length ≤ j) (h2 : l.length = m.length) : l = m := by rwa [List.take_of_length_le h1, List.take_of_length_le (by omega)] at h
end
def sameNs (a b : NS) : Bool := (a.all == b.all) && (a.nt == b.nt) && (a.self == b.self) && decide (a.names = b.names) && decide (a.except = b.except)
def sameLv (a b : Lv) : Bool := decide (a.sens = b.sens) && decide (a.cats = b.cats)
def sameRg (a b : Rg) : Bool := sameLv a.lo b.lo && sameLv a.hi b.hi
end Am
namespace Am
set_option maxRecDepth 100000
set_option maxHeartbeats 1000000
theorem kid_lt {e x : Ex} (h : x ∈ e.kids) : SizeOf.sizeOf x < SizeOf.sizeOf e := by
  cases e
  have := List.sizeOf_lt_of_mem h
  simp only [Ex.mk.sizeOf_spec] at this ⊢
  omega
end Am
namespace Am
set_option maxRecDepth 100000
set_option maxHeartbeats 1000000
end Am
namespace Am
set_option maxRecDepth 100000
set_option maxHeartbeats 1000000
end Am
namespace Am
set_option maxRecDepth 100000
set_option maxHeartbeats 1000000
def all2 {α β : Type} (p : α → β → Bool) : List α → List β → Bool
  | [], [] => true
  | x :: l, y :: m => p x y && all2 p l m
  | [], _ :: _ => false
  | _ :: _, [] => false
section
variable {α β : Type} {p : α → β → Bool}
theorem all2_len : ∀ {l : List α} {m : List β}, l.length ≠ m.length → all2 p l m = false
  | [], [], h => absurd rfl h
  | x :: l, y :: m, h => by rw [all2, all2_len (l := l) (m := m) (by simpa using h), Bool.and_false]
  | [], _ :: _, _ => rfl
  | _ :: _, [], _ => rfl
def pre2x (p : α → β → Bool) (l : List α) (m : List β) (j : Nat) : Prop := ∀ i x y, i < j → l[i]? = some x → m[i]? = some y → p x y = true
theorem pre2_zero {l : List α} {m : List β} : pre2x p l m 0 := fun i x y h => absurd h (Nat.not_lt_zero _)
theorem pre2_step {l : List α} {m : List β} {j : Nat} {x : α} {y : β} (h : pre2x p l m j) (hx : l[j]? = some x) (hy : m[j]? = some y) (e : p x y = true) : pre2x p l m (j + 1) := by
  intro i u v hi hu hv
  rcases Nat.lt_or_ge i j with h1 | h1
  · exact h i u v h1 hu hv
  · obtain rfl : i = j := by omega
    rw [hx] at hu; rw [hy] at hv; cases hu; cases hv; exact e
theorem all2_no : ∀ {l : List α} {m : List β} {j : Nat} {x : α} {y : β}, l[j]? = some x → m[j]? = some y → p x y = false → all2 p l m = false
  | [], _, _, _, _, h, _, _ => by simp at h
  | _ :: _, [], _, _, _, _, h, _ => by simp at h
  | a :: l, b :: m, 0, x, y, hx, hy, e => by
    obtain rfl : a = x := by simpa using hx
    obtain rfl : b = y := by simpa using hy
    rw [all2, e, Bool.false_and]
  | a :: l, b :: m, j + 1, x, y, hx, hy, e => by
    rw [all2, all2_no (j := j) (by simpa using hx) (by simpa using hy) e, Bool.and_false]
theorem all2_end : ∀ {l : List α} {m : List β} {j : Nat}, pre2x p l m j → l.length ≤ j → l.length = m.length → all2 p l m = true
  | [], [], _, _, _, _ => rfl
  | x :: l, y :: m, 0, _, h, _ => by simp at h
  | x :: l, y :: m, j + 1, h, h1, h2 => by
    rw [all2, h 0 x y (Nat.succ_pos _) rfl rfl, all2_end (l := l) (m := m) (j := j) (fun i u v hi hu hv => h (i + 1) u v (by omega) (by simpa using hu) (by simpa using hv)) (by simpa using h1) (by simpa using h2)]
    rfl
  | [], _ :: _, _, _, _, h => by simp at h
  | _ :: _, [], _, _, _, h => by simp at h
end
def sameH (a b : Ex) : Bool := decide (a.op = b.op) && decide (a.a = b.a) && decide (a.rel = b.rel) && decide (a.b = b.b) && Se.eqB a.set b.set && decide (a.names = b.names)
mutual
def sameX : Ex → Ex → Bool
  | ⟨op, a, rel, b, names, set, kids⟩, ⟨op', a', rel', b', names', set', kids'⟩ => sameH ⟨op, a, rel, b, names, set, kids⟩ ⟨op', a', rel', b', names', set', kids'⟩ && sameXs kids kids'
def sameXs : List Ex → List Ex → Bool
  | [], [] => true
  | x :: l, y :: m => sameX x y && sameXs l m
  | [], _ :: _ => false
  | _ :: _, [] => false
end
theorem sameXs_all : ∀ l m : List Ex, sameXs l m = all2 sameX l m
  | [], [] => by rw [sameXs]; rfl
  | x :: l, y :: m => by rw [sameXs, sameXs_all l m]; rfl
  | [], _ :: _ => by rw [sameXs]; rfl
  | _ :: _, [] => by rw [sameXs]; rfl
theorem sameX_eq (a b : Ex) : sameX a b = (sameH a b && all2 sameX a.kids b.kids) := by
  cases a; cases b; rw [sameX, sameXs_all]
end Am
namespace Am
set_option maxRecDepth 100000
set_option maxHeartbeats 1000000
theorem thn_lt {s x : Stm} (h : x ∈ s.thn) : SizeOf.sizeOf x < SizeOf.sizeOf s := by
  cases s
  have := List.sizeOf_lt_of_mem h
  simp only [Stm.mk.sizeOf_spec] at this ⊢
  omega
theorem els_lt {s x : Stm} (h : x ∈ s.els) : SizeOf.sizeOf x < SizeOf.sizeOf s := by
  cases s
  have := List.sizeOf_lt_of_mem h
  simp only [Stm.mk.sizeOf_spec] at this ⊢
  omega
def sameStH (a b : Stm) : Bool := decide (a.kind = b.kind) && decide (a.op = b.op) && decide (a.name = b.name) && decide (a.result = b.result) && decide (a.text = b.text) && (a.value == b.value) && decide (a.list = b.list) && decide (a.aliases = b.aliases) && sameNs a.source b.source && sameNs a.target b.target && sameNs a.cls b.cls && sameNs a.perms b.perms && sameX a.cond b.cond && sameLv a.level b.level && sameRg a.range b.range && decide (a.ctx.user = b.ctx.user) && decide (a.ctx.role = b.ctx.role) && decide (a.ctx.type = b.ctx.type) && sameRg a.ctx.rng b.ctx.rng
mutual
def sameS : Stm → Stm → Bool
  | ⟨a1, a2, a3, a4, a5, a6, a7, a8, a9, a10, a11, a12, a13, a14, a15, a16, a17, t, e⟩, b => sameStH ⟨a1, a2, a3, a4, a5, a6, a7, a8, a9, a10, a11, a12, a13, a14, a15, a16, a17, t, e⟩ b && sameSs t b.thn && sameSs e b.els
def sameSs : List Stm → List Stm → Bool
  | [], [] => true
  | x :: l, y :: m => sameS x y && sameSs l m
  | [], _ :: _ => false
  | _ :: _, [] => false
end
theorem sameSs_all : ∀ l m : List Stm, sameSs l m = all2 sameS l m
  | [], [] => by rw [sameSs]; rfl
  | x :: l, y :: m => by rw [sameSs, sameSs_all l m]; rfl
  | [], _ :: _ => by rw [sameSs]; rfl
  | _ :: _, [] => by rw [sameSs]; rfl
theorem sameS_eq (a b : Stm) : sameS a b = (sameStH a b && all2 sameS a.thn b.thn && all2 sameS a.els b.els) := by
  cases a; rw [sameS, sameSs_all, sameSs_all]
end Am
namespace Am
open Tk
set_option maxRecDepth 100000
theorem all2_self {α : Type} {p : α → α → Bool} : ∀ l : List α, (∀ x ∈ l, p x x = true) → all2 p l l = true
  | [], _ => rfl
  | x :: l, h => by rw [all2, h x (.head _), all2_self l fun y hy => h y (.tail _ hy)]; rfl
theorem sameX_n1 : ∀ (n : Nat) (a : Ex), SizeOf.sizeOf a < n → sameX a a = true
  | 0, _, h => absurd h (Nat.not_lt_zero _)
  | n + 1, a, h => by
    rw [sameX_eq, all2_self a.kids fun x hx => sameX_n1 n x (by have := kid_lt hx; omega)]
    simp [sameH, Se.eqB]
theorem sameX_1 (a : Ex) : sameX a a = true := sameX_n1 _ a (Nat.lt_succ_self _)
theorem np_all {p : Stm → Stm → Bool} : ∀ l m : List Stm, (∀ x ∈ l, ∀ y, npS x = npS y → p x y = true) → l.map npS = m.map npS → all2 p l m = true
  | [], [], _, _ => rfl
  | [], _ :: _, _, h => by cases h
  | _ :: _, [], _, h => by cases h
  | x :: l, y :: m, hp, h => by
    injection h with h1 h2
    rw [all2, hp x (.head _) y h1, np_all l m (fun z hz => hp z (.tail _ hz)) h2]; rfl
theorem sameS_n1 : ∀ (n : Nat) (a b : Stm), SizeOf.sizeOf a < n → npS a = npS b → sameS a b = true
  | 0, _, _, h, _ => absurd h (Nat.not_lt_zero _)
  | n + 1, a, b, h, e => by
    have e' := e
    rw [npS_eq, npS_eq] at e'
    injection e' with e1 e2 _ e4 e5 e6 e7 e8 e9 e10 e11 e12 e13 e14 e15 e16 e17 e18 e19
    rw [sameS_eq, np_all a.thn b.thn (fun x hx y hy => sameS_n1 n x y (by have := thn_lt hx; omega) hy) e18, np_all a.els b.els (fun x hx y hy => sameS_n1 n x y (by have := els_lt hx; omega) hy) e19]
    unfold sameStH
    rw [e1, e2, e4, e5, e6, e7, e8, e9, e10, e11, e12, e13, e14, e15, e16, e17, sameX_1]
    simp [sameNs, sameLv, sameRg]
theorem sameS_np {a b : Stm} (h : npS a = npS b) : sameS a b = true := sameS_n1 _ a b (Nat.lt_succ_self _) h
theorem sameM_np {a b : Mo} (h : npM a = npM b) : (decide (a.name = b.name) && decide (a.version = b.version) && all2 sameS a.stmts b.stmts) = true := by
  unfold npM at h
  injection h with h1 h2 h3
  rw [decide_eq_true h1, decide_eq_true h2, np_all a.stmts b.stmts (fun x _ y hy => sameS_np hy) h3]; rfl
end Am
end Go.Proofs.YtkpodagbefnebaaGreatDoor
