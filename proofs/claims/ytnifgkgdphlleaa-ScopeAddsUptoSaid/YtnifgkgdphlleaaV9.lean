/- The uses of the program: the walk of add. -/
import Derived.Test.YtnifgkgdphlleaaV8
set_option linter.unusedSimpArgs false
set_option linter.unusedVariables false
namespace Go.Proofs.Ytnifgkgdphlleaa
open Go.RowKit Tk
/-- a list of names that a call is handed: it lay there at the beginning, or has a row of its own -/
def PR (w0 w : World) (v : Value) (xs : List ByteArray) : Prop := Reads w0 v xs ∨ ORow w 9 1 strC v xs
section
variable {w0 w w' : World} {v : Value} {xs : List ByteArray} {X b m : Nat} {t : TypeId} {cs : Array Value} {F : List Nat}
theorem PR.ext (h : PR w0 w v xs) (hx : Ext w w') : PR w0 w' v xs := h.imp_right fun h => h.low hx
theorem PR.reads (h : PR w0 w v xs) (E : Only [] w0 w) : Reads w v xs := by
  rcases h with h | h
  · exact h.ext E.low
  · exact h.reads strC_l
theorem PR.but (h : PR w0 w v xs) (hb : But X w w') (k : Blk w X t cs) (ht : 9 ≠ t) : PR w0 w' v xs := h.imp_right fun h => h.but hb k ht
theorem PR.turned {ml : List ((Int × ByteArray) × Value)} (h : PR w0 w v xs) (hM : KMap w m ml) (ht : MapTurned m w w') : PR w0 w' v xs := h.imp_right fun h => h.turned hM ht
theorem PR.grow {α : Type} {k : Nat} {f : α → List Value} {u v' : Value} {ys zs : List α} (h : PR w0 w v xs) (r : OwnR w0 w t k f u ys) (hA : AppPost w w' t k f u v' zs) (ht : 9 ≠ t) : PR w0 w' v xs := h.imp_right fun h => h.grow r.row hA ht
theorem PR.ufr (h : PR w0 w v xs) (k : UFr b m w w') (hb : ∀ x ∈ ownB v, x ≠ b ∧ x ≠ m) : PR w0 w' v xs := h.imp_right fun h => h.kept fun x hx => by
  have hxo := mem_ownB.2 hx
  refine k.block x (h.lt hx) (hb x hxo).1 (hb x hxo).2 fun cs' f e => ?_
  obtain ⟨hl, ⟨e1, e2⟩ | ⟨g, cap, cur, e1, hb, hg, h2⟩⟩ := h
  · subst e1; simp [Value.ownBlock] at hx
  · subst e1
    have : g = x := by simpa [Value.ownBlock] using hx
    subst this
    rw [e] at hg; injection hg with hg; injection hg with _ hg; cases hg
/-- a store into an owned row of records, and rows of strings -/
theorem ORow.put {α β : Type} {k k2 n c g : Nat} {f : α → List Value} {f2 : β → List Value} {ys : List β} {u : Value} {zs : List α} (h : ORow w 9 k f u zs) (r : OwnR w0 w 57 k2 f2 (.slice (some ⟨g, 0, none⟩) n c) ys) (hb : But g w w') : ORow w' 9 k f u zs := by
  obtain ⟨hl, ⟨e1, e2⟩ | ⟨g', cap, cur, e1, hb', hg, h2⟩⟩ := r.row
  · cases e1
  · injection e1 with e1 _ _
    injection e1 with e1
    injection e1 with e1 _ _
    subst e1
    exact h.but hb (show Blk w g _ cur from hg) (of_decide_eq_true rfl)
theorem PermsOk.put {α : Type} {k n c g : Nat} {f : α → List Value} {ys : List α} {xs : List Sy} (h : PermsOk w xs) (r : OwnR w0 w 57 k f (.slice (some ⟨g, 0, none⟩) n c) ys) (hb : But g w w') : PermsOk w' xs := fun x hx => (h x hx).put r hb
theorem KMap.put {α : Type} {k n c g : Nat} {f : α → List Value} {ys : List α} {ml : List ((Int × ByteArray) × Value)} (h : KMap w m ml) (r : OwnR w0 w t k f (.slice (some ⟨g, 0, none⟩) n c) ys) (hb : But g w w') : KMap w' m ml := h.but hb fun e => h.ownN r.row (by rw [e]; simp [ownB, Value.ownBlock])
theorem UFr.put {α : Type} {k n c g : Nat} {f : α → List Value} {ys : List α} {wa : World} (h : UFr b m wa w) (r : OwnR w0 w 57 k f (.slice (some ⟨g, 0, none⟩) n c) ys) (hb : But g w w') : UFr b m wa w' :=
  ⟨hb.os.trans h.os, hb.tape.trans h.tape, hb.output.trans h.output, Nat.le_trans h.size hb.size, fun i hi h1 h2 h3 => by
    have e := h.block i hi h1 h2 h3
    refine (hb.block i (Nat.lt_of_lt_of_le hi h.size) fun e2 => ?_).trans e
    subst e2
    obtain ⟨hl, ⟨e1, e2⟩ | ⟨g', cap, cur, e1, hb', hg, h2⟩⟩ := r.row
    · cases e1
    · injection e1 with e1 _ _
      injection e1 with e1
      injection e1 with e1 _ _
      subst e1
      exact h3 _ _ (e.symm.trans hg)⟩
theorem UFr.grow {α : Type} {k : Nat} {f : α → List Value} {u v' : Value} {ys zs : List α} {wa : World} (h : UFr b m wa w) (r : OwnR w0 w 57 k f u ys) (hA : AppPost w w' 57 k f u v' zs) : UFr b m wa w' :=
  ⟨hA.grown.os.trans h.os, hA.grown.tape.trans h.tape, hA.grown.output.trans h.output, Nat.le_trans h.size hA.grown.size, fun i hi h1 h2 h3 => by
    have e := h.block i hi h1 h2 h3
    refine (hA.grown.block i (Nat.lt_of_lt_of_le hi h.size) fun e2 => ?_).trans e
    obtain ⟨hl, ⟨e1, e2'⟩ | ⟨g', cap, cur, e1, hb', hg, h2⟩⟩ := r.row
    · subst e1; simp [Value.ownBlock] at e2
    · subst e1
      have : i = g' := by simpa [Value.ownBlock] using e2
      subst this
      exact h3 _ _ (e.symm.trans hg)⟩
/-- a new row of strings grows: nothing else is written -/
theorem UFr.growS {α : Type} {k : Nat} {f : α → List Value} {u v' : Value} {zs : List α} {wa : World} (h : UFr b m wa w) (hn : ∀ x ∈ ownB u, wa.heap.size ≤ x) (hA : AppPost w w' 9 k f u v' zs) : UFr b m wa w' :=
  ⟨hA.grown.os.trans h.os, hA.grown.tape.trans h.tape, hA.grown.output.trans h.output, Nat.le_trans h.size hA.grown.size, fun i hi h1 h2 h3 =>
    (hA.grown.block i (Nat.lt_of_lt_of_le hi h.size) fun e2 => by
      have := hn i (mem_ownB.2 e2.symm); omega).trans (h.block i hi h1 h2 h3)⟩
theorem PR.put {α : Type} {k n c g : Nat} {f : α → List Value} {ys : List α} (h : PR w0 w v xs) (r : OwnR w0 w 57 k f (.slice (some ⟨g, 0, none⟩) n c) ys) (hb : But g w w') : PR w0 w' v xs := h.imp_right fun h => h.put r hb
end
theorem OwnR.at3 {w0 w : World} {g n c i : Nat} {xs : List Sy} {y : Sy} (h : OwnR w0 w 57 6 syC (.slice (some ⟨g, 0, none⟩) n c) xs) (hy : xs[i]? = some y) : w.cell? ⟨g, i * 6 + 3, none⟩ = some (.slice y.hp.a y.perms.length y.hp.c) := by
  obtain ⟨hi, e⟩ := List.getElem?_eq_some_iff.1 hy
  subst e
  obtain ⟨g', cap, e, -, -, -, hc⟩ := ORow.at syC_len h.row (by omega)
  injection e with e1 _ _
  injection e1 with e1
  injection e1 with e1 _ _
  subst e1
  exact hc i hi 3 (by omega)
theorem OwnR.own_at {w0 w : World} {a : Option Addr} {n c i : Nat} {xs : List Sy} {y : Sy} (h : OwnR w0 w 57 6 syC (.slice a n c) xs) (hy : xs[i]? = some y) : ∃ g, a = some ⟨g, 0, none⟩ := by
  obtain ⟨hi, e⟩ := List.getElem?_eq_some_iff.1 hy
  obtain ⟨g', cap, e, -, -, -, hc⟩ := ORow.at syC_len h.row (by omega)
  injection e with e1 _ _
  exact ⟨g', e1⟩
theorem mod_set {α : Type} {U : List α} {i : Nat} {x : α} (f : α → α) (h : U[i]? = some x) : U.modify i f = U.set i (f x) := by
  obtain ⟨hi, e⟩ := List.getElem?_eq_some_iff.1 h
  subst e
  apply List.ext_getElem?
  intro j
  rw [List.getElem?_modify, List.getElem?_set]
  by_cases hj : i = j
  · subst hj; simp [hi]
  · simp [hj]
theorem und_umap : Try.prog.underlying 75 = some (.map 74 3) := by kernel_rfl
theorem zero_int (w : World) : (zeroValue 3).run Try.prog w = .ok (.int .i64 0) w := Try.zeroValue3 w
end Go.Proofs.Ytnifgkgdphlleaa
