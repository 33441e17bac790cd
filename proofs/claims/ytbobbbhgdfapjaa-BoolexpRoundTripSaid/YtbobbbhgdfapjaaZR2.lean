/- C2, Wo -/
import Derived.Test.YtbobbbhgdfapjaaZR1
import Derived.Below
import Derived.Laws.OwnMore
import Derived.Laws.Rows
import Derived.Deep.Draws
set_option linter.unusedSimpArgs false
set_option linter.unusedVariables false
namespace Go.Proofs.Ytbobbbhgdfapjaa
set_option maxHeartbeats 8000000
set_option maxRecDepth 100000
open Go.RowKit

section
variable {P : Program} {ops : Array Oper} {Kp : World → World → Prop} {N : Act → World → Prop} {O : Prop}

theorem closed_step {i : Nat} {oi : Oper} {listed : Array Bool} (hoi : ops[i]? = some oi) (hall : ∀ e ∈ oi.after, Region.binds .any e = true → listed.getD e.on false = true)
    (hcl : ∀ j oj, ops[j]? = some oj → listed.getD j false = true → ∀ e ∈ oj.after, Region.binds .any e = true → listed.getD e.on false = true) :
    ∀ j oj, ops[j]? = some oj → (listed.setIfInBounds i true).getD j false = true → ∀ e ∈ oj.after, Region.binds .any e = true → (listed.setIfInBounds i true).getD e.on false = true := by
 intro j oj hj hlj e he hb
 by_cases hjx : j = i
 · subst hjx
   have : oj = oi := Option.some.inj (hj.symm.trans hoi)
   subst this
   exact getD_set_true (hall e he hb)
 · rw [getD_set_ne false (Ne.symm hjx)] at hlj
   exact getD_set_true (hcl j oj hj hlj e he hb)
/-- who is awaited has been listed -/
theorem await_listed {i k : Nat} {oi : Oper} {listed : Array Bool} (hoi : ops[i]? = some oi) (hall : ∀ e ∈ oi.after, Region.binds .any e = true → listed.getD e.on false = true)
    (hcl : ∀ j oj, ops[j]? = some oj → listed.getD j false = true → ∀ e ∈ oj.after, Region.binds .any e = true → listed.getD e.on false = true)
    (hk : listed.getD k true = false) : ((waitTab ops).getD i 0).testBit k = false := by
 cases hre : ((waitTab ops).getD i 0).testBit k with
 | false => rfl
 | true =>
   have := tab_listed hcl ops.toList [] (by simp) (fun x y ox _ _ h => by simp at h) i k oi hoi hall hre
   rcases Nat.lt_or_ge k listed.size with h' | h'
   · simp [h'] at this hk; rw [this] at hk; cases hk
   · simp [Array.getElem?_eq_none h'] at hk
end
def pickL (l : List Oper) : List Nat → List Oper
 | [] => []
 | i :: is => match l[i]? with
   | some o => o :: pickL l is
   | none => pickL l is
def zipT : List Nat → List Nat → List (Nat × Nat)
 | t :: ts, i :: is => (t, i) :: zipT ts is
 | [], i :: is => (0, i) :: zipT [] is
 | _, [] => []
theorem pick_eq (l : List Oper) : ∀ (is ts : List Nat), (∀ i ∈ is, i < l.length) → (zipT ts is).filterMap (fun x : Nat × Nat => (l[x.2]?).map fun o => (x.1, o)) = tagL ts (pickL l is)
 | [], ts, _ => by cases ts <;> rfl
 | i :: is, ts, h => by
   have hi : l[i]? = some (l[i]'(h i (by simp))) := List.getElem?_eq_getElem _
   have hr := fun ts => pick_eq l is ts (fun j hj => h j (by simp [hj]))
   cases ts with
   | nil => simp only [zipT, pickL, List.filterMap_cons, hi, Option.map_some, tagL, hr]
   | cons t ts => simp only [zipT, pickL, List.filterMap_cons, hi, Option.map_some, tagL, hr]
section
variable {P : Program} {Q : Exit → Act → World → Prop} {a : Act} {w : World}
end
open Go.RowKit

/-- block g is just these cells, none of them frozen -/
def Blk (w : World) (g : Nat) (t : TypeId) (cs : Array Value) : Prop := w.heap[g]? = some (.cells cs t (0, 0))
/-- all blocks but b are as they were -/
structure But (b : Nat) (w w' : World) : Prop where
 os : w'.os = w.os
 tape : w'.tape = w.tape
 output : w'.output = w.output
 size : w.heap.size ≤ w'.heap.size
 block : ∀ k, k < w.heap.size → k ≠ b → w'.heap[k]? = w.heap[k]?

section
variable {w w' w2 : World} {g b : Nat} {t : TypeId} {cs : Array Value}
theorem Blk.lt (h : Blk w g t cs) : g < w.heap.size := by
 rcases Nat.lt_or_ge g w.heap.size with hlt | hge
 · exact hlt
 · unfold Blk at h; rw [Array.getElem?_eq_none hge] at h; cases h
theorem Blk.cell (h : Blk w g t cs) (i : Nat) : w.cell? ⟨g, i, none⟩ = cs[i]? := by
 unfold Blk at h; simp [World.cell?, h]
theorem Blk.free (h : Blk w g t cs) (i : Nat) : w.frozen? ⟨g, i, none⟩ = false := by
 unfold Blk at h; simp [World.frozen?, h]
theorem Blk.fresh (w : World) (t : TypeId) (cs : Array Value) : Blk (w.alloc (.cells cs t)) w.heap.size t cs := by
 unfold Blk World.alloc; simp
theorem Blk.drew (h : Blk w g t cs) : Blk w.drew g t cs := h
theorem Blk.drewN (h : Blk w g t cs) (n : Nat) : Blk (w.drewN n) g t cs := h
theorem Blk.of (h : Blk w g t cs) (he : w'.heap[g]? = w.heap[g]?) : Blk w' g t cs := he.trans h
theorem Blk.alloc (h : Blk w g t cs) (o : Obj) : Blk (w.alloc o) g t cs := h.of (Below.heap_alloc w o g h.lt)
theorem Blk.set (h : Blk w g t cs) (i : Nat) (u : Value) : Blk (w.setCell ⟨g, i, none⟩ u) g t (cs.setIfInBounds i u) := by
 unfold Blk at h ⊢; simp [World.setCell, Array.getElem?_modify, h]
theorem Blk.far (h : Blk w g t cs) {p : Addr} (hp : g ≠ p.block) (u : Value) : Blk (w.setCell p u) g t cs := h.of (Below.heap_setCell w p u g hp)
theorem Blk.below {B : Nat} (h : Blk w g t cs) (hb : Below B w w') (hg : g < B) : Blk w' g t cs := h.of (hb.block g hg)
theorem Blk.low (h : Blk w g t cs) (hb : Below w.heap.size w w') : Blk w' g t cs := h.below hb h.lt
theorem Blk.but (h : Blk w g t cs) (hb : But b w w') (hg : g ≠ b) : Blk w' g t cs := h.of (hb.block g h.lt hg)
theorem Blk.grown {row : Option Nat} (h : Blk w g t cs) (hb : w.grownBy w' row) (hg : some g ≠ row) : Blk w' g t cs := h.of (hb.block g h.lt hg)
theorem Blk.ne_ {g' : Nat} {t' : TypeId} {cs' : Array Value} (h : Blk w g t cs) (h' : Blk w g' t' cs') (hne : t ≠ t') : g ≠ g' := by
 rintro rfl
 unfold Blk at h h'
 rw [h] at h'
 injection h' with h'
 injection h' with _ ht
 exact hne ht

theorem But.refl (b : Nat) (w : World) : But b w w := ⟨rfl, rfl, rfl, Nat.le_refl _, fun _ _ _ => rfl⟩
theorem But.trans (h : But b w w') (k : But b w' w2) : But b w w2 :=
 ⟨k.os.trans h.os, k.tape.trans h.tape, k.output.trans h.output, Nat.le_trans h.size k.size, fun i hi hn => (k.block i (Nat.lt_of_lt_of_le hi h.size) hn).trans (h.block i hi hn)⟩
theorem But.of_below (h : Below w.heap.size w w') : But b w w' := ⟨h.os, h.tape, h.output, h.size, fun k hk _ => h.block k hk⟩
theorem But.low {B : Nat} (h : Below B w w') (hB : w.heap.size ≤ B) : But b w w' := ⟨h.os, h.tape, h.output, h.size, fun k hk _ => h.block k (by omega)⟩
theorem But.below {B : Nat} (h : But b w w') (hb : B ≤ b) (hB : B ≤ w.heap.size) : Below B w w' := ⟨h.os, h.tape, h.output, h.size, fun k hk => h.block k (by omega) (by omega)⟩
theorem But.then_ (h : But b w w') (k : Below w'.heap.size w' w2) : But b w w2 := h.trans (But.of_below k)
theorem But.drew (h : But b w w') : But b w w'.drew := ⟨h.os, h.tape, h.output, h.size, h.block⟩
theorem But.drewN (h : But b w w') (n : Nat) : But b w (w'.drewN n) := ⟨h.os, h.tape, h.output, h.size, h.block⟩
theorem But.alloc (h : But b w w') (o : Obj) : But b w (w'.alloc o) := h.then_ ((Below.refl _ _).alloc (Nat.le_refl _) o)
theorem But.set (h : But b w w') {p : Addr} (hp : p.block = b ∨ w.heap.size ≤ p.block) (u : Value) : But b w (w'.setCell p u) :=
 ⟨h.os, h.tape, h.output, by simpa [World.setCell] using h.size, fun i hi hn => (Below.heap_setCell w' p u i (by rcases hp with hp | hp <;> omega)).trans (h.block i hi hn)⟩
theorem But.cell (h : But b w w') {p : Addr} (hp : p.block < w.heap.size) (hn : p.block ≠ b) : w'.cell? p = w.cell? p := World.cell?_of_block (w := w) (h.block p.block hp hn)
theorem But.free (h : But b w w') {p : Addr} (hp : p.block < w.heap.size) (hn : p.block ≠ b) : w'.frozen? p = w.frozen? p := World.frozen?_of_block (w := w) (h.block p.block hp hn)
theorem Below.drewN' {B : Nat} (h : Below B w w') (n : Nat) : Below B w (w'.drewN n) := ⟨h.os, h.tape, h.output, h.size, h.block⟩
end
end Go.Proofs.Ytbobbbhgdfapjaa
