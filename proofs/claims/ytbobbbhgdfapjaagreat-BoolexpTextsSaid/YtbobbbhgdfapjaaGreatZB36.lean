/- Fs, Ob -/
import Derived.ProofKit
import Derived.OpenShut
import Derived.Deep.Slices
import Derived.Deep.Fields
import Derived.Test.YtbobbbhgdfapjaaGreatZB1
import Derived.Test.YtbobbbhgdfapjaaGreatZB2
import Derived.Test.YtbobbbhgdfapjaaGreatZB4
import Derived.Test.YtbobbbhgdfapjaaGreatRows
import Derived.Test.YtbobbbhgdfapjaaGreatZB3
import Derived.Test.YtbobbbhgdfapjaaGreatZB5
import Derived.Test.YtbobbbhgdfapjaaGreatZB6
import Derived.Test.YtbobbbhgdfapjaaGreatZB11
import Derived.Test.YtbobbbhgdfapjaaGreatZB12
import Derived.Test.YtbobbbhgdfapjaaGreatZB13
import Derived.Test.YtbobbbhgdfapjaaGreatZB14
import Derived.Test.YtbobbbhgdfapjaaGreatZB15
import Derived.Test.YtbobbbhgdfapjaaGreatZB16
import Derived.Test.YtbobbbhgdfapjaaGreatZB31
set_option linter.unusedSimpArgs false
set_option linter.unusedVariables false
namespace Go.Proofs.YtbobbbhgdfapjaaGreat
set_option maxHeartbeats 8000000
set_option maxRecDepth 100000
open Go.ChangeShapes Go.WideShapes Go.ChangeAt Go.RowKit
theorem own : ownKnob Tryz.prog.godebug = none := by kernel_rfl
theorem laidOut : laidOutB Tryz.prog = true := by kernel_rfl
section
variable {H : Type} {enc : TypeId × Value → H} {P : Program}
/-- the row's last step where the call leaves a world that has grown: each argument reads as it did -/
theorem post_grown {f : Func} {s : ChangeSpec} {apart fresh handsOn again : Bool} {W W' : World} {args : Array Value} {v : Value} {ds gs : List (DataW H)} {before pa pv : List MemPlace}
    (hW : DataW.Whole enc P f.params.toList s.vars apart W args.toList ds gs before)
    (hres : ∀ (b : Nat) (sp : Nat → Bool) (hd : Bool), DataW.TrodAll enc P W' b sp hd f.resultTypes.toList (v.resultList f.resultTypes.size) (s.fn H (ds ++ gs)).results [])
    (hargs : ∀ sp : Nat → Bool, (∀ p ∈ before, sp p.block = true) → DataW.TrodAll enc P W' 0 sp true f.params.toList args.toList (s.fn H (ds ++ gs)).args pa)
    (hvars : ∀ sp : Nat → Bool, (∀ p ∈ before, sp p.block = true) → DataW.TrodVars enc P W' sp s.vars (s.fn H (ds ++ gs)).vars pv)
    (hps : before = pa ++ pv) (hb : Below W.heap.size W W')
    (hok : ∀ (j : Nat) (t : TypeId) (r : Value), f.resultTypes[j]? = some t → (v.resultList f.resultTypes.size)[j]? = some r → Value.okWide P W' .any 0 t r) :
    s.post enc P f apart fresh handsOn again W args v W' := by
 have hlt : ∀ p ∈ before, p.block < W.heap.size := fun p hp => hW.lt p hp
 have hold : ∀ p ∈ before, (fun b => decide (b < W.heap.size)) p.block = true := fun p hp => by simpa using hlt p hp
 refine ⟨ds, gs, before, [], pa, pv, hW, hres _ _ _, hargs _ hold, hvars _ hold, World.keptBut_mono (fun p hp => ⟨hp, ?_⟩) (hb.frame (· ∈ before)), fun _ => ?_⟩
 · rw [hps, List.mem_append] at hp
   exact Or.inr hp
 · obtain ⟨_, _, _, _, _, hz, hn⟩ := hW
   refine ⟨hok, _, _, ([] ++ pa) ++ pv, ⟨[] ++ pa, pv, trodAll_append (hargs _ (fun _ _ => rfl)) (hres _ _ _), hvars _ (fun _ _ => rfl), rfl, ?_, ?_⟩, ?_⟩
   · intro b off hp
     have hin : MemPlace.cell b off ∈ before := by rw [hps]; simpa using hp
     rw [hb.frozen (hlt _ hin)]
     exact hz b off hin
   · intro ha
     have := hn ha
     rw [hps] at this
     simpa using this
   · intro p hp _
     rw [hps]
     simpa using hp
theorem trod_grown {t : TypeId} (hl : laidOutB P = true) (hr : P.readableRec t = true) (hrow : t < P.types.size) {W W' : World} {sp : Nat → Bool} {v : Value} {d : DataW H} {ps : List MemPlace}
    (h : DataW.Trod enc P W 0 (fun _ => true) true t v d ps) (hb : Below W.heap.size W W') (hlt : ∀ x ∈ ps, x.block < W.heap.size) (hs : ∀ x ∈ ps, sp x.block = true) : DataW.Trod enc P W' 0 sp true t v d ps :=
 WideElems.Trod_stays hl hr hrow h (fun x hx => hb.same (hlt x hx)) hs
end
section
open Tk
variable {H : Type} {enc : TypeId × Value → H} {W : World}
theorem one_int : Tryz.prog.cellsOf 3 = 1 := by kernel_rfl
theorem one_string : Tryz.prog.cellsOf 9 = 1 := by kernel_rfl
theorem field_at {fs : Array Field} {l : List (TypeId × Nat)} (h : fs.toList.map (fun f => (f.type, f.offset)) = l) (i : Nat) (p : TypeId × Nat) (hp : l[i]? = some p) : ∃ f, fs[i]? = some f ∧ f.type = p.1 ∧ f.offset = p.2 := by
 subst h
 rw [List.getElem?_map, Array.getElem?_toList] at hp
 cases hf : fs[i]? with
 | none => rw [hf] at hp; cases hp
 | some f => rw [hf] at hp; injection hp with hp; subst hp; exact ⟨f, rfl, rfl, rfl⟩
theorem some_len {α : Type} {xs : List α} {i : Nat} {n : Nat} (h : xs.length = n) (hi : i < n) : ∃ x, xs[i]? = some x := ⟨_, List.getElem?_eq_getElem (by omega)⟩
theorem add_add (b o i j : Nat) : ((⟨b, o, none⟩ : Addr).add i).add j = ⟨b, o + i + j, none⟩ := by
 have e : ∀ o j, (⟨b, o, none⟩ : Addr).add j = ⟨b, o + j, none⟩ := fun o j => by unfold Addr.add; split <;> simp_all
 rw [e, e]
end
open Go.ChangeShapes Go.WideShapes Go.ChangeAt Go.RowKit Tk
def sB (s : ByteArray) : Nat := s.size + 1
section
variable {W : World}
end
section
variable {H : Type} {enc : TypeId × Value → H} {W : World}
theorem bulk_all : ∀ l : List (DataW H), Rows.uptoBulkAll l = (l.map Rows.uptoBulk).sum
 | [] => by rw [Rows.uptoBulkAll]; rfl
 | d :: l => by rw [Rows.uptoBulkAll, bulk_all l]; rfl
theorem chunk {cs p : List Value} {o n : Nat} (h : (cs.drop o).take n = p) : cs.drop o = p ++ cs.drop (o + n) := by
 have := (List.take_append_drop n (cs.drop o)).symm
 rw [h, List.drop_drop] at this
 exact this
theorem one_pos : Tryz.prog.cellsOf 44 = 2 := by kernel_rfl
theorem und_kids : Tryz.prog.underlying 26 = some (.slice 28) := by kernel_rfl
theorem string_open {fuel : Nat} {base : Nat} {sp : Nat → Bool} {held : Bool} {cs : List Value} {x : DataW H × List MemPlace} (h : DataW.trod enc Tryz.prog W base sp held fuel 9 cs = some x) : ∃ s : ByteArray, cs = strC s ∧ s.size ≤ maxLen ∧ sB s ≤ Rows.uptoBulk x.1 := by
 obtain ⟨s, hs, hx, h2⟩ := DataW.trod_string Tryz.underlying9 h
 refine ⟨s, hs, h2, ?_⟩
 rw [hx]
 show s.size + 1 ≤ Rows.uptoBulk (DataW.lit (.string s.data.toList))
 rw [Rows.uptoBulk, Array.length_toList]
 exact Nat.le_refl _
theorem one_le (d : DataW H) : 1 ≤ Rows.uptoBulk d := by
 cases d with
 | lit l => cases l <;> simp [Rows.uptoBulk]
 | _ => simp [Rows.uptoBulk]
end
end Go.Proofs.YtbobbbhgdfapjaaGreat
