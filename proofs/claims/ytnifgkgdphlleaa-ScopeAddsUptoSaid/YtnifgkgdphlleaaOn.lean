/- Rows of strings: sorted by the library, compared by the reference; a region's specifications of rows and maps. -/
import Derived.Test.YtnifgkgdphlleaaUt
import Derived.Test.YtnifgkgdphlleaaOr
import Derived.Test.YtnifgkgdphlleaaAp
import Derived.Test.YtnifgkgdphlleaaMp
import Derived.Test.YtnifgkgdphlleaaC7
set_option linter.unusedSimpArgs false
set_option linter.unusedVariables false
namespace Go.Proofs.Ytnifgkgdphlleaa
open Go.RowKit Tk
/-! ### memory -/
/-- all blocks but those of F are as they were -/
structure Only (F : List Nat) (w w' : World) : Prop where
  os : w'.os = w.os
  tape : w'.tape = w.tape
  output : w'.output = w.output
  size : w.heap.size ≤ w'.heap.size
  block : ∀ k, k < w.heap.size → k ∉ F → w'.heap[k]? = w.heap[k]?
section
variable {F F' : List Nat} {w w1 w2 : World}
theorem Only.refl (F : List Nat) (w : World) : Only F w w := ⟨rfl, rfl, rfl, Nat.le_refl _, fun _ _ _ => rfl⟩
theorem Only.trans (h : Only F w w1) (k : Only F' w1 w2) (hF : ∀ x ∈ F', x ∈ F ∨ w.heap.size ≤ x) : Only F w w2 :=
  ⟨k.os.trans h.os, k.tape.trans h.tape, k.output.trans h.output, Nat.le_trans h.size k.size, fun i hi hn => (k.block i (Nat.lt_of_lt_of_le hi h.size) fun hm => by
    rcases hF i hm with h1 | h1
    · exact hn h1
    · omega).trans (h.block i hi hn)⟩
theorem Only.then_ (h : Only F w w1) (k : Only F w1 w2) : Only F w w2 := h.trans k fun _ hx => .inl hx
theorem Only.mono (h : Only F w w1) (hF : ∀ x ∈ F, x ∈ F' ∨ w.heap.size ≤ x) : Only F' w w1 := (Only.refl F' w).trans h hF
theorem Only.of_below (h : Below w.heap.size w w1) : Only F w w1 := ⟨h.os, h.tape, h.output, h.size, fun k hk _ => h.block k hk⟩
theorem Only.of_but {b : Nat} (h : But b w w1) (hb : b ∈ F) : Only F w w1 := ⟨h.os, h.tape, h.output, h.size, fun k hk hn => h.block k hk fun e => hn (e ▸ hb)⟩
theorem Only.of_grown {r : Option Nat} (h : w.grownBy w1 r) (hr : ∀ b, r = some b → b ∈ F) : Only F w w1 :=
  ⟨h.os, h.tape, h.output, h.size, fun k hk hn => h.block k hk fun e => hn (hr k e.symm)⟩
theorem Only.below {B : Nat} (h : Only F w w1) (hF : ∀ x ∈ F, B ≤ x) (hB : B ≤ w.heap.size) : Below B w w1 :=
  ⟨h.os, h.tape, h.output, h.size, fun k hk => h.block k (by omega) fun hm => by have := hF k hm; omega⟩
theorem Only.grown (h : Only F w w1) (hF : F = []) : Below w.heap.size w w1 := h.below (by simp [hF]) (Nat.le_refl _)
end
def ownB (v : Value) : List Nat := v.ownBlock.toList
/-- a slice that owns its row of strings -/
def Row (w : World) (v : Value) (xs : List ByteArray) : Prop := w.ownsRow 0 9 1 v xs.length (xs.map Value.string)
section
variable {F F' : List Nat} {w w1 w2 : World} {v : Value} {xs : List ByteArray}
theorem Row.lt (h : Row w v xs) : ∀ x ∈ ownB v, x < w.heap.size := fun x hx => by
  have : v.ownBlock = some x := by simpa [ownB] using hx
  exact (World.ownsRow.lt h x this).2
theorem Row.len (h : Row w v xs) : ∃ ao cap, v = .slice ao xs.length cap ∧ xs.length ≤ cap ∧ cap ≤ maxLen := by
  rcases h.2 with ⟨e, hn⟩ | ⟨g, cap, cur, e, hb, hgg, h1, h2, h3⟩
  · exact ⟨none, 0, by rw [e, hn], by omega, by decide⟩
  · exact ⟨_, cap, e, h1, h2⟩
theorem Row.at (h : Row w v xs) (h0 : 0 < xs.length) : ∃ g cap, v = .slice (some ⟨g, 0, none⟩) xs.length cap ∧ xs.length ≤ cap ∧ cap ≤ maxLen ∧ ∀ i (hi : i < xs.length), w.cell? ⟨g, i, none⟩ = some (.string xs[i]) := by
  rcases h.2 with ⟨e, hn⟩ | ⟨g, cap, cur, e, hb, hgg, h1, h2, h3⟩
  · omega
  · subst e
    refine ⟨g, cap, rfl, h1, h2, fun i hi => ?_⟩
    have := World.ownsRow.cellAt (w := w) (base := 0) (e := 9) (size := 1) (g := g) (n := xs.length) (cap := cap) (xs := xs.map Value.string) h i (by omega)
    rw [this]; simp [hi]
theorem Row.kept (h : Row w v xs) (hk : ∀ x ∈ ownB v, w1.heap[x]? = w.heap[x]?) : Row w1 v xs := by
  refine ⟨h.1, ?_⟩
  rcases h.2 with hn | ⟨g, cap, cur, rfl, hb, hgg, rest⟩
  · exact .inl hn
  · exact .inr ⟨g, cap, cur, rfl, hb, (hk g (by simp [ownB, Value.ownBlock])).trans hgg, rest⟩
theorem Row.only (h : Row w v xs) (ho : Only F w w1) (hF : ∀ x ∈ ownB v, x ∉ F) : Row w1 v xs := h.kept fun x hx => ho.block x (h.lt x hx) (hF x hx)
theorem Row.low (h : Row w v xs) (hb : Below w.heap.size w w1) : Row w1 v xs := h.kept fun x hx => hb.block x (h.lt x hx)
end
theorem und_str : Try.prog.underlying 9 = some .string := by kernel_rfl
theorem info_str : (Try.prog.info? 9).map (fun i => (i.zero, i.size, i.bytes)) = some (some (.string ⟨#[]⟩), 1, 16) := by kernel_rfl
theorem size_str : (Try.prog.info? 9).map (·.size) = some 1 := by kernel_rfl
theorem und_strs : Try.prog.underlying 34 = some (.slice 9) := by kernel_rfl
theorem ownB_one (v : Value) : (ownB v).Nodup := by
  unfold ownB; cases v.ownBlock <;> simp
def strC (s : ByteArray) : List Value := [.string s]
theorem strC_l (s : ByteArray) : (strC s).length = 1 := rfl
theorem strC_one (s : ByteArray) : ∀ c ∈ strC s, Value.oneCell' c = true := by intro c hc; simp [strC] at hc; subst hc; rfl
theorem flat_str (xs : List ByteArray) : xs.flatMap strC = xs.map Value.string := by
  induction xs with
  | nil => rfl
  | cons x xs ih => rw [List.flatMap_cons, ih]; rfl
theorem Row.o {w : World} {v : Value} {xs : List ByteArray} (h : Row w v xs) : ORow w 9 1 strC v xs := by unfold ORow; rw [flat_str]; exact h
theorem Row.of {w : World} {v : Value} {xs : List ByteArray} (h : ORow w 9 1 strC v xs) : Row w v xs := by unfold ORow at h; rw [flat_str] at h; exact h
def spRow (xs : List ByteArray) : Sp :=
  { φ := fun v => ∃ ao cap, v = .slice ao xs.length cap, Φ := fun v w => Row w v xs, fp := ownB, mono := fun v w w' hx h => h.low hx }
theorem good_row {v : Value} {w w' : World} {xs : List ByteArray} (hr : Row w' v xs) (h : Ext w w') (hf : ∀ x ∈ ownB v, w.heap.size ≤ x) : (spRow xs).Good v w w' := by
  obtain ⟨ao, cap, e, _, _⟩ := hr.len
  exact ⟨⟨ao, cap, e⟩, hr, h, fun b hb => ⟨hf b hb, hr.lt b hb⟩⟩
theorem mem_ownB {v : Value} {x : Nat} : x ∈ ownB v ↔ v.ownBlock = some x := by simp [ownB]
theorem Row.drew {w : World} {v : Value} {xs : List ByteArray} (h : Row w v xs) : Row w.drew v xs := h
theorem Row.set {w : World} {g n cap : Nat} {xs : List ByteArray} (h : Row w (.slice (some ⟨g, 0, none⟩) n cap) xs) (hn : n = xs.length) (i : Nat) (y : ByteArray) : Row (w.setCell ⟨g, i, none⟩ (.string y)) (.slice (some ⟨g, 0, none⟩) n cap) (xs.set i y) := by
  subst hn
  obtain ⟨this, -⟩ := World.ownsRow.stored (w := w) (base := 0) (e := 9) (size := 1) (g := g) (n := xs.length) (cap := cap) (xs := xs.map Value.string) h i (.string y)
  unfold Row
  rw [List.length_set, List.map_set]
  exact this
theorem Row.get {w : World} {g n cap i : Nat} {xs : List ByteArray} {x : ByteArray} (h : Row w (.slice (some ⟨g, 0, none⟩) n cap) xs) (hx : xs[i]? = some x) : w.cell? ⟨g, i, none⟩ = some (.string x) ∧ w.frozen? ⟨g, i, none⟩ = false := by
  have hi : i < xs.length := by
    rcases Nat.lt_or_ge i xs.length with hl | hl
    · exact hl
    · rw [List.getElem?_eq_none hl] at hx; cases hx
  obtain ⟨ao, cap', e, _, _⟩ := h.len
  injection e with _ e2 _
  subst e2
  refine ⟨?_, World.ownsRow.frozenAt (w := w) (base := 0) (e := 9) (size := 1) (g := g) (n := xs.length) (cap := cap) (xs := xs.map Value.string) h i⟩
  have := World.ownsRow.cellAt (w := w) (base := 0) (e := 9) (size := 1) (g := g) (n := xs.length) (cap := cap) (xs := xs.map Value.string) h i (by omega)
  rw [this, List.getElem?_map, hx]; rfl
@[go_sem] theorem mk_map (P : Program) (t : TypeId) (w : World) : (Instr.makeMap t none).run P w = .ok (.map (some w.heap.size)) (w.alloc (.map #[] 0)) := rfl
def Reads (w : World) (v : Value) (xs : List ByteArray) : Prop := RRow w 1 strC v xs
theorem Row.reads {w : World} {v : Value} {xs : List ByteArray} (h : Row w v xs) : Reads w v xs := h.o.reads strC_l
def QPost (b : Bool) (w : World) (e : Ending) (w' : World) : Prop := e = .returned (.bool b) ∧ ∃ n, w.drewN n = w'
theorem qpost {b c : Bool} {w w' : World} (h : b = c) (n : Nat) (hw : w.drewN n = w') : QPost c w (.returned (.bool b)) w' := ⟨by rw [h], n, hw⟩
def eqL (a b : List ByteArray) : Bool := decide (a = b)
theorem eqL_no {a b : List ByteArray} {k : Nat} (h : k < a.length) (h' : k < b.length) (hn : ¬ a[k] = b[k]) : eqL a b = false := by
  unfold eqL; rw [decide_eq_false_iff_not]; rintro rfl; exact hn rfl
theorem eqL_len {a b : List ByteArray} (h : ¬ a.length = b.length) : eqL a b = false := by
  unfold eqL; rw [decide_eq_false_iff_not]; rintro rfl; exact h rfl
theorem eqL_yes {a b : List ByteArray} {k : Nat} (hl : a.length = b.length) (h : a.length ≤ k) (hall : ∀ j (_ : j < k) (h1 : j < a.length) (h2 : j < b.length), a[j] = b[j]) : eqL a b = true := by
  unfold eqL; rw [decide_eq_true_eq]; exact List.ext_getElem hl fun i h1 h2 => hall i (by omega) h1 h2
theorem eq_snoc {a b : List ByteArray} {k : Nat} (hall : ∀ j (_ : j < k) (h1 : j < a.length) (h2 : j < b.length), a[j] = b[j]) (h : k < a.length) (h' : k < b.length) (hk : a[k] = b[k]) : ∀ j (_ : j < k + 1) (h1 : j < a.length) (h2 : j < b.length), a[j] = b[j] := by
  intro j hj h1 h2
  by_cases e : j = k
  · subst e; exact hk
  · exact hall j (by omega) h1 h2
def BPost (b : Bool) (w : World) (e : Ending) (w' : World) : Prop := e = .returned (.bool b) ∧ Below w.heap.size w w'
def mapAt (v : Value) (w : World) : Prop := match v with | .map (some m) => StrMap w m [] | _ => True
def mapOf (v : Value) : List Nat := match v with | .map (some m) => [m] | _ => []
def spMap : Sp :=
  { φ := fun v => ∃ m, v = .map (some m), Φ := mapAt, fp := mapOf,
    mono := fun v w w' hx h => by
      unfold mapAt at *
      split at h
      · exact StrMap.low h hx
      · trivial }
theorem good_map (w : World) : spMap.Good (.map (some w.heap.size)) w (w.alloc (.map #[] 0)) :=
  ⟨⟨_, rfl⟩, StrMap.made w, Ext.alloc w _, fun b hb => by
    have : b = w.heap.size := by simpa [spMap, mapOf] using hb
    subst this
    simp⟩
theorem Only.turned {F : List Nat} {it : Nat} {w w1 w2 : World} (h : Only F w w1) (k : MapTurned it w1 w2) (hi : it ∈ F) : Only F w w2 :=
  h.then_ ⟨k.os, k.tape, k.output, Nat.le_of_eq k.size.symm, fun x _ hn => k.block x fun e => hn (e ▸ hi)⟩
theorem Blk.c3 {w : World} {g : Nat} {t : TypeId} {x y z : Value} (h : Blk w g t #[x, y, z]) : w.cell? ⟨g, 0, none⟩ = some x ∧ w.cell? ⟨g, 1, none⟩ = some y ∧ w.cell? ⟨g, 2, none⟩ = some z ∧ w.frozen? ⟨g, 0, none⟩ = false ∧ w.frozen? ⟨g, 1, none⟩ = false ∧ w.frozen? ⟨g, 2, none⟩ = false :=
  ⟨h.cell 0, h.cell 1, h.cell 2, h.free 0, h.free 1, h.free 2⟩
theorem Blk.put3 {w : World} {g : Nat} {t : TypeId} {x y z x' y' z' : Value} (h : Blk w g t #[x, y, z]) : Blk (((w.setCell ⟨g, 0, none⟩ x').setCell ⟨g, 1, none⟩ y').setCell ⟨g, 2, none⟩ z') g t #[x', y', z'] ∧ Only [g] w (((w.setCell ⟨g, 0, none⟩ x').setCell ⟨g, 1, none⟩ y').setCell ⟨g, 2, none⟩ z') := by
  refine ⟨((h.set 0 x').set 1 y').set 2 z', rfl, rfl, rfl, by simp, fun k _ hk => ?_⟩
  have hk' : k ≠ g := by simpa using hk
  rw [Below.heap_setCell _ _ _ _ hk', Below.heap_setCell _ _ _ _ hk', Below.heap_setCell _ _ _ _ hk']
theorem ORow.ne {α : Type} {w : World} {t t' : TypeId} {k : Nat} {f : α → List Value} {v : Value} {xs : List α} {g : Nat} {cs : Array Value} (h : ORow w t k f v xs) (hb : Blk w g t' cs) (hne : t ≠ t') : g ∉ ownB v := by
  intro hm
  rcases h.2 with ⟨rfl, _⟩ | ⟨g', cap, cur, rfl, _, hg, _⟩
  · simp [ownB, Value.ownBlock] at hm
  · have : g = g' := by simpa [ownB, Value.ownBlock] using hm
    subst this
    exact Blk.ne_ (show Blk w g t cur from hg) hb hne rfl
end Go.Proofs.Ytnifgkgdphlleaa
