/- C2, Wo, C3, C4, C5, C6, C7, Tk, Ba, Ut, Or, Ro, Ap, Mp, On, En, Em -/
import Derived.Test.YtnifgkgdphlleaaS1
import Derived.Below
import Derived.Laws.OwnMore
import Derived.Laws.Rows
import Derived.Deep.Draws
import Derived.WalkKit
import Derived.Test.YtnifgkgdphlleaaRows
import Derived.WalkSpells
import Derived.WalkLawsBesides
import Derived.Lib.Hide
import Derived.Maps.AppendAt
import Derived.Laws.NewBlocks
import Derived.MapKept
import Derived.Laws.CopyRow
set_option linter.unusedSimpArgs false
set_option linter.unusedVariables false
namespace Go.Proofs.Ytnifgkgdphlleaa
open Go.RowKit

section
variable {P : Program} {ops : Array Oper} {Kp : World → World → Prop} {N : Act → World → Prop} {O : Prop}

theorem closed_step {i : Nat} {oi : Oper} {listed : Array Bool} (hoi : ops[i]? = some oi) (hall : ∀ e ∈ oi.after, Region.binds .any e = true → listed.getD e.on false = true)
    (hcl : ∀ j oj, ops[j]? = some oj → listed.getD j false = true → ∀ e ∈ oj.after, Region.binds .any e = true → listed.getD e.on false = true) :
    ∀ j oj, ops[j]? = some oj → (listed.setIfInBounds i true).getD j false = true → ∀ e ∈ oj.after, Region.binds .any e = true → (listed.setIfInBounds i true).getD e.on false = true := by
  intro j oj hj hlj e he hb
  by_cases hjx : j = i
  · subst hjx
    have : oj = oi := Option.some.inj (hj.symm.trans hoi)
    subst this
    exact getD_set_true (hall e he hb)
  · rw [getD_set_ne false (Ne.symm hjx)] at hlj
    exact getD_set_true (hcl j oj hj hlj e he hb)
/-- who is awaited has been listed -/
theorem await_listed {i k : Nat} {oi : Oper} {listed : Array Bool} (hoi : ops[i]? = some oi) (hall : ∀ e ∈ oi.after, Region.binds .any e = true → listed.getD e.on false = true)
    (hcl : ∀ j oj, ops[j]? = some oj → listed.getD j false = true → ∀ e ∈ oj.after, Region.binds .any e = true → listed.getD e.on false = true)
    (hk : listed.getD k true = false) : ((waitTab ops).getD i 0).testBit k = false := by
  cases hre : ((waitTab ops).getD i 0).testBit k with
  | false => rfl
  | true =>
    have := tab_listed hcl ops.toList [] (by simp) (fun x y ox _ _ h => by simp at h) i k oi hoi hall hre
    rcases Nat.lt_or_ge k listed.size with h' | h'
    · simp [h'] at this hk; rw [this] at hk; cases hk
    · simp [Array.getElem?_eq_none h'] at hk
end
def pickL (l : List Oper) : List Nat → List Oper
  | [] => []
  | i :: is => match l[i]? with
    | some o => o :: pickL l is
    | none => pickL l is
def zipT : List Nat → List Nat → List (Nat × Nat)
  | t :: ts, i :: is => (t, i) :: zipT ts is
  | [], i :: is => (0, i) :: zipT [] is
  | _, [] => []
theorem pick_eq (l : List Oper) : ∀ (is ts : List Nat), (∀ i ∈ is, i < l.length) → (zipT ts is).filterMap (fun x : Nat × Nat => (l[x.2]?).map fun o => (x.1, o)) = tagL ts (pickL l is)
  | [], ts, _ => by cases ts <;> rfl
  | i :: is, ts, h => by
    have hi : l[i]? = some (l[i]'(h i (by simp))) := List.getElem?_eq_getElem _
    have hr := fun ts => pick_eq l is ts (fun j hj => h j (by simp [hj]))
    cases ts with
    | nil => simp only [zipT, pickL, List.filterMap_cons, hi, Option.map_some, tagL, hr]
    | cons t ts => simp only [zipT, pickL, List.filterMap_cons, hi, Option.map_some, tagL, hr]
section
variable {P : Program} {Q : Exit → Act → World → Prop} {a : Act} {w : World}
end
end Go.Proofs.Ytnifgkgdphlleaa
set_option linter.unusedSimpArgs false
set_option linter.unusedVariables false
namespace Go.Proofs.Ytnifgkgdphlleaa
open Go.RowKit

/-- block g is just these cells, none of them frozen -/
def Blk (w : World) (g : Nat) (t : TypeId) (cs : Array Value) : Prop := w.heap[g]? = some (.cells cs t (0, 0))
/-- all blocks but b are as they were -/
structure But (b : Nat) (w w' : World) : Prop where
  os : w'.os = w.os
  tape : w'.tape = w.tape
  output : w'.output = w.output
  size : w.heap.size ≤ w'.heap.size
  block : ∀ k, k < w.heap.size → k ≠ b → w'.heap[k]? = w.heap[k]?

section
variable {w w' w2 : World} {g b : Nat} {t : TypeId} {cs : Array Value}
theorem Blk.lt (h : Blk w g t cs) : g < w.heap.size := by
  rcases Nat.lt_or_ge g w.heap.size with hlt | hge
  · exact hlt
  · unfold Blk at h; rw [Array.getElem?_eq_none hge] at h; cases h
theorem Blk.cell (h : Blk w g t cs) (i : Nat) : w.cell? ⟨g, i, none⟩ = cs[i]? := by
  unfold Blk at h; simp [World.cell?, h]
theorem Blk.free (h : Blk w g t cs) (i : Nat) : w.frozen? ⟨g, i, none⟩ = false := by
  unfold Blk at h; simp [World.frozen?, h]
theorem Blk.fresh (w : World) (t : TypeId) (cs : Array Value) : Blk (w.alloc (.cells cs t)) w.heap.size t cs := by
  unfold Blk World.alloc; simp
theorem Blk.drew (h : Blk w g t cs) : Blk w.drew g t cs := h
theorem Blk.of (h : Blk w g t cs) (he : w'.heap[g]? = w.heap[g]?) : Blk w' g t cs := he.trans h
theorem Blk.alloc (h : Blk w g t cs) (o : Obj) : Blk (w.alloc o) g t cs := h.of (Below.heap_alloc w o g h.lt)
theorem Blk.set (h : Blk w g t cs) (i : Nat) (u : Value) : Blk (w.setCell ⟨g, i, none⟩ u) g t (cs.setIfInBounds i u) := by
  unfold Blk at h ⊢; simp [World.setCell, Array.getElem?_modify, h]
theorem Blk.far (h : Blk w g t cs) {p : Addr} (hp : g ≠ p.block) (u : Value) : Blk (w.setCell p u) g t cs := h.of (Below.heap_setCell w p u g hp)
theorem Blk.below {B : Nat} (h : Blk w g t cs) (hb : Below B w w') (hg : g < B) : Blk w' g t cs := h.of (hb.block g hg)
theorem Blk.low (h : Blk w g t cs) (hb : Below w.heap.size w w') : Blk w' g t cs := h.below hb h.lt
theorem Blk.but (h : Blk w g t cs) (hb : But b w w') (hg : g ≠ b) : Blk w' g t cs := h.of (hb.block g h.lt hg)
theorem Blk.grown {row : Option Nat} (h : Blk w g t cs) (hb : w.grownBy w' row) (hg : some g ≠ row) : Blk w' g t cs := h.of (hb.block g h.lt hg)
theorem Blk.ne_ {g' : Nat} {t' : TypeId} {cs' : Array Value} (h : Blk w g t cs) (h' : Blk w g' t' cs') (hne : t ≠ t') : g ≠ g' := by
  rintro rfl
  unfold Blk at h h'
  rw [h] at h'
  injection h' with h'
  injection h' with _ ht
  exact hne ht

theorem But.refl (b : Nat) (w : World) : But b w w := ⟨rfl, rfl, rfl, Nat.le_refl _, fun _ _ _ => rfl⟩
theorem But.trans (h : But b w w') (k : But b w' w2) : But b w w2 :=
  ⟨k.os.trans h.os, k.tape.trans h.tape, k.output.trans h.output, Nat.le_trans h.size k.size, fun i hi hn => (k.block i (Nat.lt_of_lt_of_le hi h.size) hn).trans (h.block i hi hn)⟩
theorem But.of_below (h : Below w.heap.size w w') : But b w w' := ⟨h.os, h.tape, h.output, h.size, fun k hk _ => h.block k hk⟩
theorem But.low {B : Nat} (h : Below B w w') (hB : w.heap.size ≤ B) : But b w w' := ⟨h.os, h.tape, h.output, h.size, fun k hk _ => h.block k (by omega)⟩
theorem But.below {B : Nat} (h : But b w w') (hb : B ≤ b) (hB : B ≤ w.heap.size) : Below B w w' := ⟨h.os, h.tape, h.output, h.size, fun k hk => h.block k (by omega) (by omega)⟩
theorem But.then_ (h : But b w w') (k : Below w'.heap.size w' w2) : But b w w2 := h.trans (But.of_below k)
theorem But.drew (h : But b w w') : But b w w'.drew := ⟨h.os, h.tape, h.output, h.size, h.block⟩
theorem But.alloc (h : But b w w') (o : Obj) : But b w (w'.alloc o) := h.then_ ((Below.refl _ _).alloc (Nat.le_refl _) o)
theorem But.set (h : But b w w') {p : Addr} (hp : p.block = b ∨ w.heap.size ≤ p.block) (u : Value) : But b w (w'.setCell p u) :=
  ⟨h.os, h.tape, h.output, by simpa [World.setCell] using h.size, fun i hi hn => (Below.heap_setCell w' p u i (by rcases hp with hp | hp <;> omega)).trans (h.block i hi hn)⟩
theorem But.cell (h : But b w w') {p : Addr} (hp : p.block < w.heap.size) (hn : p.block ≠ b) : w'.cell? p = w.cell? p := World.cell?_of_block (w := w) (h.block p.block hp hn)
theorem But.free (h : But b w w') {p : Addr} (hp : p.block < w.heap.size) (hn : p.block ≠ b) : w'.frozen? p = w.frozen? p := World.frozen?_of_block (w := w) (h.block p.block hp hn)
end
end Go.Proofs.Ytnifgkgdphlleaa
set_option linter.unusedSimpArgs false
set_option linter.unusedVariables false
namespace Go.Proofs.Ytnifgkgdphlleaa
open Go.RowKit

/-- w' is w with more blocks -/
def Ext (w w' : World) : Prop := Below w.heap.size w w'
theorem Ext.refl (w : World) : Ext w w := Below.refl _ _
theorem Ext.trans {a b c : World} (h : Ext a b) (k : Ext b c) : Ext a c := Below.trans h (Below.mono k h.size)
theorem Ext.drew (w : World) : Ext w w.drew := (Below.refl _ _).drew
theorem Ext.alloc (w : World) (o : Obj) : Ext w (w.alloc o) := (Below.refl _ _).alloc (Nat.le_refl _) o

/-- what is said of an operation that adds to the world: of its value, at once; of its value in the worlds behind it; the blocks that it owns -/
structure Sp where
  φ : Value → Prop
  Φ : Value → World → Prop := fun _ _ => True
  fp : Value → List Nat := fun _ => []
  mono : ∀ v w w', Ext w w' → Φ v w → Φ v w' := by intro _ _ _ _ _; trivial
instance : Inhabited Sp := ⟨{ φ := fun _ => True }⟩

def Sp.Good (s : Sp) (v : Value) (w w' : World) : Prop := s.φ v ∧ s.Φ v w' ∧ Ext w w' ∧ ∀ b ∈ s.fp v, w.heap.size ≤ b ∧ b < w'.heap.size

/-- what an operation yields, without its frame -/
def yieldsW (P : Program) (O : Prop) (G : Value → World → Prop) : Result Next → Prop
  | .ok (.value v) w' => G v w'
  | .ok .skip w' => G undef w'
  | .ok (.enter f args) w' => Calls P f args w' fun
      | .returned v, w'' => G v w''
      | .panicked _, _ => False
      | .outgrown, _ => O
  | .ok (.row row args) w' => Rows P row args w' fun v w'' => G v w''
  | _ => False

section
variable {P : Program} {ops : Array Oper} {S : Nat → Sp} {ws : World} {N : Act → World → Prop} {O : Prop}

def stepE (P : Program) (ops : Array Oper) (ws : World) (O : Prop) (s : Sp) (j : Nat) (o : Oper) (R : List (Nat × Value) → Act → Prop) (E : List (Nat × Value)) (a : Act) : Prop :=
  if Region.wanted o (yielded ops a.tmps) = true then
    (if isW o = true then (∃ v, s.φ v) ∧ (∀ w, Ext ws w → yieldsW P O (fun v w' => s.Good v w w') ((execOp a.eval o).run P w)) ∧ ∀ v, s.φ v → R ((j, v) :: E) (a.put o.dst v)
     else ∀ w, Ext ws w → ∃ v, (execOp a.eval o).run P w = .ok (.value v) w ∧ R E (a.put o.dst v))
  else R E (a.put o.dst undef)

def EndE (S : Nat → Sp) (ws : World) (N : Act → World → Prop) (E : List (Nat × Value)) (a : Act) : Prop :=
  ∀ w, Ext ws w → (∀ e ∈ E, (S e.1).Φ e.2 w) → (∀ e ∈ E, ∀ b ∈ (S e.1).fp e.2, ws.heap.size ≤ b ∧ b < w.heap.size) →
    (∀ e ∈ E, ∀ e' ∈ E, e.1 ≠ e'.1 → ∀ b ∈ (S e.1).fp e.2, b ∉ (S e'.1).fp e'.2) → N a w

def wpEI (P : Program) (ops : Array Oper) (S : Nat → Sp) (ws : World) (N : Act → World → Prop) (O : Prop) : List Nat → List (Nat × Value) → Act → Prop
  | [], E, a => EndE S ws N E a
  | j :: rest, E, a => match ops[j]? with
    | none => wpEI P ops S ws N O rest E a
    | some o => stepE P ops ws O (S j) j o (wpEI P ops S ws N O rest) E a

theorem stepE_mono {s : Sp} {j : Nat} {o : Oper} {R R' : List (Nat × Value) → Act → Prop} {E E' : List (Nat × Value)} {a : Act} (h : ∀ a, R E a → R' E' a) (h2 : ∀ v a, R ((j, v) :: E) a → R' ((j, v) :: E') a) (hh : stepE P ops ws O s j o R E a) : stepE P ops ws O s j o R' E' a := by
  unfold stepE at *
  by_cases hw : Region.wanted o (yielded ops a.tmps) = true
  · rw [if_pos hw] at *
    by_cases hW : isW o = true
    · rw [if_pos hW] at *
      exact ⟨hh.1, hh.2.1, fun v hv => h2 _ _ (hh.2.2 v hv)⟩
    · rw [if_neg hW] at *
      intro w hx
      obtain ⟨v, h1, h3⟩ := hh w hx
      exact ⟨v, h1, h _ h3⟩
  · rw [if_neg hw] at *
    exact h _ hh

theorem wpEI_perm : ∀ (c : List Nat) (E E' : List (Nat × Value)) (a : Act), (∀ e, e ∈ E ↔ e ∈ E') → wpEI P ops S ws N O c E a → wpEI P ops S ws N O c E' a
  | [], E, E', a, hE, h => fun w hx h1 h2 h3 => h w hx (fun e he => h1 e ((hE e).1 he)) (fun e he => h2 e ((hE e).1 he)) (fun e he e' he' => h3 e ((hE e).1 he) e' ((hE e').1 he'))
  | j :: rest, E, E', a, hE, h => by
    unfold wpEI at *
    split at h
    · exact wpEI_perm rest E E' a hE h
    · exact stepE_mono (fun a => wpEI_perm rest E E' a hE) (fun v a => wpEI_perm rest _ _ a (by intro e; simp only [List.mem_cons, hE])) h

theorem swapE {R : List (Nat × Value) → Act → Prop} (hR : ∀ E E' a, (∀ e, e ∈ E ↔ e ∈ E') → R E a → R E' a) {si sj : Sp} {i j : Nat} {oi oj : Oper} (hap : oi.apart ops oj = true) (hsi : ∀ cs b, oi.op ≠ .select cs b) (hsj : ∀ cs b, oj.op ≠ .select cs b)
    {E : List (Nat × Value)} {a : Act} (h : stepE P ops ws O sj j oj (stepE P ops ws O si i oi R) E a) : stepE P ops ws O si i oi (stepE P ops ws O sj j oj R) E a := by
  obtain ⟨h1, h2, h3⟩ := Oper.apart_spec hap
  have wi : ∀ v, Region.wanted oi (yielded ops (a.put oj.dst v).tmps) = Region.wanted oi (yielded ops a.tmps) := fun v => wanted_put oi a oj.dst v h3
  have ei : ∀ v, execOp (a.put oj.dst v).eval oi = execOp a.eval oi := fun v => execOp_put oi hsi a oj.dst v h3
  have wj : ∀ v, Region.wanted oj (yielded ops (a.put oi.dst v).tmps) = Region.wanted oj (yielded ops a.tmps) := fun v => wanted_put oj a oi.dst v h1
  have ej : ∀ v, execOp (a.put oi.dst v).eval oj = execOp a.eval oj := fun v => execOp_put oj hsj a oi.dst v h1
  have cm : ∀ u v, (a.put oj.dst v).put oi.dst u = (a.put oi.dst u).put oj.dst v := fun u v => (Act.put_comm a u v h2).symm
  simp only [stepE, wi, ei, wj, ej, cm] at *
  by_cases hwj : Region.wanted oj (yielded ops a.tmps) = true
  · by_cases hwi : Region.wanted oi (yielded ops a.tmps) = true
    · by_cases hWj : isW oj = true
      · by_cases hWi : isW oi = true
        · simp only [hwj, hwi, hWj, hWi, if_true] at *
          obtain ⟨⟨v0, hv0⟩, s1, s2⟩ := h
          refine ⟨(s2 v0 hv0).1, (s2 v0 hv0).2.1, fun u hu => ⟨⟨v0, hv0⟩, s1, fun v hv => hR _ _ _ ?_ ((s2 v hv).2.2 u hu)⟩⟩
          intro e; simp only [List.mem_cons]; exact ⟨fun h => by rcases h with h | h | h <;> simp [h], fun h => by rcases h with h | h | h <;> simp [h]⟩
        · simp only [hwj, hwi, hWj, hWi, if_true, if_false, Bool.false_eq_true] at *
          obtain ⟨⟨v0, hv0⟩, s1, s2⟩ := h
          intro w hx
          obtain ⟨u, hu, _⟩ := s2 v0 hv0 w hx
          refine ⟨u, hu, ⟨v0, hv0⟩, s1, fun v hv => ?_⟩
          obtain ⟨u', hu', hr⟩ := s2 v hv w hx
          rw [hu] at hu'
          injection hu' with hu'
          injection hu' with hu'
          subst hu'
          exact hr
      · by_cases hWi : isW oi = true
        · simp only [hwj, hwi, hWj, hWi, if_true, if_false, Bool.false_eq_true] at *
          obtain ⟨v0, _, hv⟩ := h ws (Ext.refl ws)
          refine ⟨hv.1, hv.2.1, fun u hu w hx => ?_⟩
          obtain ⟨v, hr, hk⟩ := h w hx
          exact ⟨v, hr, hk.2.2 u hu⟩
        · simp only [hwj, hwi, hWj, hWi, if_true, if_false, Bool.false_eq_true] at *
          intro w hx
          obtain ⟨v, hv, h4⟩ := h w hx
          obtain ⟨u, hu, h5⟩ := h4 w hx
          refine ⟨u, hu, fun w' hx' => ?_⟩
          obtain ⟨v', hv', h6⟩ := h w' hx'
          obtain ⟨u', hu', h7⟩ := h6 w hx
          rw [hu] at hu'
          injection hu' with hu'
          injection hu' with hu'
          subst hu'
          exact ⟨v', hv', h7⟩
    · simp only [hwj, hwi, if_true, if_false, Bool.false_eq_true] at *
      exact h
  · by_cases hwi : Region.wanted oi (yielded ops a.tmps) = true
    · simp only [hwj, hwi, if_true, if_false, Bool.false_eq_true] at *
      exact h
    · simp only [hwj, hwi, if_false, Bool.false_eq_true] at *
      exact h

theorem pullE {i : Nat} {oi : Oper} (hi : ops[i]? = some oi) (hs : Region.noSelect ops = true) {c2 : List Nat} :
    ∀ (c1 : List Nat), (∀ j ∈ c1, ∃ oj, ops[j]? = some oj ∧ oi.apart ops oj = true) → ∀ E a, wpEI P ops S ws N O (c1 ++ i :: c2) E a → stepE P ops ws O (S i) i oi (wpEI P ops S ws N O (c1 ++ c2)) E a
  | [], _, E, a, h => by simpa [wpEI, hi] using h
  | j :: c1, hc, E, a, h => by
    obtain ⟨oj, hj, hap⟩ := hc j (by simp)
    simp only [List.cons_append, wpEI, hj] at h
    have h' := stepE_mono (fun a => pullE hi hs c1 (fun j hj => hc j (by simp [hj])) E a) (fun v a => pullE hi hs c1 (fun j hj => hc j (by simp [hj])) ((j, v) :: E) a) h
    have h'' := swapE (fun E E' a => wpEI_perm (c1 ++ c2) E E' a) hap (fun cs b => Region.noSelect_spec hs i oi cs b hi) (fun cs b => Region.noSelect_spec hs j oj cs b hj) h'
    refine stepE_mono (fun a hh => ?_) (fun v a hh => ?_) h''
    all_goals
      simp only [List.cons_append, wpEI, hj]
      exact hh

/-- a step that is taken -/
theorem wpOp_of_E {Q : Exit → Act → World → Prop} {i : Nat} {oi : Oper} {R : List (Nat × Value) → Act → Prop} (hi : ops[i]? = some oi) {K : Act → World → Prop} (hO : O → LetsOut Q) {E : List (Nat × Value)} {a : Act} {w : World} (hx : Ext ws w)
    (h : stepE P ops ws O (S i) i oi R E a) (hq : ∀ a', R E a' → K a' w) (hw : ∀ v w', (S i).Good v w w' → R ((i, v) :: E) (a.put oi.dst v) → K (a.put oi.dst v) w') : wpOp P ops Q i K a w := by
  unfold wpOp
  simp only [hi]
  unfold stepE at h
  split
  · rename_i hwt
    rw [if_pos hwt] at h
    refine .inl ?_
    by_cases hW : isW oi = true
    · rw [if_pos hW] at h
      obtain ⟨_, h1, h2⟩ := h
      have h3 := h1 w hx
      unfold Oper.wp
      generalize (execOp a.eval oi).run P w = r at h3
      cases r with
      | halt x w' => exact absurd h3 (by simp [yieldsW])
      | ok n w' =>
        cases n <;> simp only [yieldsW, Oper.upon] at h3 ⊢
        case value v => exact hw _ _ h3 (h2 _ h3.1)
        case skip => exact hw _ _ h3 (h2 _ h3.1)
        case enter f args =>
          refine Calls.mono h3 fun e w'' he => ?_
          cases e with
          | returned u => exact hw _ _ he (h2 _ he.1)
          | panicked c => exact absurd he (by simp)
          | outgrown => exact hO he
        case row row args => exact Rows.mono h3 fun u w'' he => hw _ _ he (h2 _ he.1)
    · rw [if_neg hW] at h
      obtain ⟨v, hr, hk⟩ := h w hx
      unfold Oper.wp
      rw [hr]
      exact hq _ hk
  · rename_i hwt
    rw [if_neg hwt] at h
    exact hq _ h

/-- j stands ahead of i in the order of the heads -/
def pairH (ops : Array Oper) (T : List Nat) (j i : Nat) : Bool :=
  match ops[j]?, ops[i]? with
  | some oj, some oi => !(oj.after.any fun e => Region.binds .any e && e.on == i) && (j != i) && ((T.getD i 0).testBit j || oi.apart ops oj)
  | _, _ => false
def pairsH (ops : Array Oper) (T : List Nat) : List Nat → Bool
  | [] => true
  | x :: rest => rest.all (pairH ops T x) && pairsH ops T rest
theorem pairsH_iff {T : List Nat} : ∀ {c : List Nat}, pairsH ops T c = true ↔ c.Pairwise (fun j i => pairH ops T j i = true)
  | [] => by simp [pairsH]
  | x :: rest => by simp [pairsH, pairsH_iff]

/-- heads and tail are all operations; the heads are in an order that Go allows; each of the tail waits for all heads -/
def eB (ops : Array Oper) (c tail : List Nat) : Bool :=
  Region.noSelect ops && edgesOk ops && pairsH ops (waitTab ops) c && pairsOk ops (waitTab ops) (tail.map fun i => (0, i)) && c.all (fun x => decide (x < ops.size)) && tail.all (fun x => decide (x < ops.size)) &&
  c.all (fun x => tail.all fun z => ((waitTab ops).getD z 0).testBit x && x != z) &&
  c.all (fun x => tail.all fun z => match ops[x]? with | some o => o.after.all fun e => !Region.binds .any e || e.on != z | none => true) &&
  decide (c.length + tail.length = ops.size) && (List.range ops.size).all fun i => c.contains i || tail.contains i

end
section
variable {P : Program} {Q : Exit → Act → World → Prop} {a : Act} {w : World}
/-- the walk over the heads, with their numbers -/
def wpE (P : Program) (ops : Array Oper) (S : Nat → Sp) (ws : World) (N : Act → World → Prop) (O : Prop) : List (Nat × Oper) → List (Nat × Value) → Act → Prop
  | [], E, a => EndE S ws N E a
  | x :: rest, E, a => stepE P ops ws O (S x.1) x.1 x.2 (wpE P ops S ws N O rest) E a
def pickE (l : List Oper) : List Nat → List (Nat × Oper)
  | [] => []
  | i :: is => match l[i]? with
    | some o => (i, o) :: pickE l is
    | none => pickE l is
theorem wpEI_of_E {S : Nat → Sp} {ws : World} {N : Act → World → Prop} {O : Prop} (l : List Oper) : ∀ (c : List Nat) (E : List (Nat × Value)) (a : Act), wpE P l.toArray S ws N O (pickE l c) E a → wpEI P l.toArray S ws N O c E a
  | [], _, _, h => h
  | i :: is, E, a, h => by
    cases hi : l[i]? with
    | none =>
      simp only [pickE, hi] at h
      simp only [wpEI, List.getElem?_toArray, hi]
      exact wpEI_of_E l is E a h
    | some o =>
      simp only [pickE, hi, wpE] at h
      simp only [wpEI, List.getElem?_toArray, hi]
      exact stepE_mono (fun a => wpEI_of_E l is E a) (fun v a => wpEI_of_E l is _ a) h
/-- the walk over the tail -/
theorem tail_eq (l : List Oper) : ∀ (is : List Nat), (is.map fun i => ((0 : Nat), i)).filterMap (fun x : Nat × Nat => (l[x.2]?).map fun o => (x.1, o)) = inText (pickL l is)
  | [] => rfl
  | i :: is => by
    have hr := tail_eq l is
    cases hi : l[i]? with
    | none => simp only [List.map_cons, List.filterMap_cons, hi, Option.map_none, pickL, hr]
    | some o => simp only [List.map_cons, List.filterMap_cons, hi, Option.map_some, pickL, inText, hr]
end
section
variable {P : Program} {ops : Array Oper} {S : Nat → Sp} {ws : World} {N : Act → World → Prop} {O : Prop} {l : List (Nat × Oper)} {E : List (Nat × Value)} {a : Act} {j : Nat} {o : Oper}
theorem wpE_qg (hW : isW o = false) (hg : Region.wanted o (yielded ops a.tmps) = true) (h : ∀ w, Ext ws w → ∀ K : Act → World → Prop, (∀ a', wpE P ops S ws N O l E a' → K a' w) → o.wp P a w K (canQ O)) : wpE P ops S ws N O ((j, o) :: l) E a := by
  show stepE P ops ws O (S j) j o (wpE P ops S ws N O l) E a
  unfold stepE
  rw [if_pos hg, if_neg (by simp [hW])]
  intro w hx
  have h1 := h w hx (fun a' w' => w' = w ∧ wpE P ops S ws N O l E a') (fun a' ha => ⟨rfl, ha⟩)
  unfold Oper.wp at h1
  cases hr : (execOp a.eval o).run P w with
  | halt x w' =>
    rw [hr] at h1
    cases x <;> simp [Oper.upon, canQ] at h1
  | ok n w' =>
    obtain ⟨v, rfl⟩ := quiet_value hW hr
    rw [hr] at h1
    obtain ⟨rfl, h2⟩ := h1
    exact ⟨v, rfl, h2⟩
theorem wpE_q (hW : isW o = false) (hg : o.guard = none) (h : ∀ w, Ext ws w → ∀ K : Act → World → Prop, (∀ a', wpE P ops S ws N O l E a' → K a' w) → o.wp P a w K (canQ O)) : wpE P ops S ws N O ((j, o) :: l) E a := wpE_qg hW (by simp [Region.wanted, hg]) h
theorem wpE_no (hg : Region.wanted o (yielded ops a.tmps) = false) (h : wpE P ops S ws N O l E (a.put o.dst undef)) : wpE P ops S ws N O ((j, o) :: l) E a := by
  show stepE P ops ws O (S j) j o (wpE P ops S ws N O l) E a
  unfold stepE
  rw [if_neg (by simp [hg])]
  exact h
theorem wpE_s (hW : isW o = false) (h : ∀ w, Ext ws w → ∀ K : Act → World → Prop, (∀ a', wpE P ops S ws N O l E a' → K a' w) → if Region.wanted o (yielded ops a.tmps) = true then o.wp P a w K (canQ O) else K (a.put o.dst undef) w) : wpE P ops S ws N O ((j, o) :: l) E a := by
  by_cases hw : Region.wanted o (yielded ops a.tmps) = true
  · exact wpE_qg hW hw fun w hx K hK => by have := h w hx K hK; rwa [if_pos hw] at this
  · have h1 := h ws (Ext.refl _) (fun a' w' => wpE P ops S ws N O l E a') (fun a' h' => h')
    rw [if_neg hw] at h1
    exact wpE_no (by simpa using hw) h1
/-- an operation that adds to the world -/
theorem wpE_w (s : Sp) (d : Nat) (hS : S j = s) (hW : isW o = true) (hg : Region.wanted o (yielded ops a.tmps) = true) (hd : o.dst = some d) (hsz : decide (d < a.tmps.size) = true) (h0 : ∃ v, s.φ v)
    (h1 : ∀ w, Ext ws w → ∀ K : Act → World → Prop, (∀ v w', s.Good v w w' → K (a.put o.dst v) w') → o.wp P a w K (canQ O)) (h2 : ∀ v, s.φ v → wpE P ops S ws N O l ((j, v) :: E) (a.put o.dst v)) : wpE P ops S ws N O ((j, o) :: l) E a := by
  show stepE P ops ws O (S j) j o (wpE P ops S ws N O l) E a
  have hsz' : d < a.tmps.size := by simpa using hsz
  have inj : ∀ v v', a.put o.dst v = a.put o.dst v' → v = v' := by
    intro v v' he
    rw [hd] at he
    have : (a.put (some d) v).tmps[d]? = (a.put (some d) v').tmps[d]? := by rw [he]
    simpa [Act.put, hsz'] using this
  unfold stepE
  rw [if_pos hg, if_pos hW, hS]
  refine ⟨h0, fun w hx => ?_, h2⟩
  have h3 := h1 w hx (fun a' w' => ∃ v, a' = a.put o.dst v ∧ s.Good v w w') (fun v w' hg' => ⟨v, rfl, hg'⟩)
  unfold Oper.wp at h3
  generalize (execOp a.eval o).run P w = r at h3
  cases r with
  | halt x w' => cases x <;> simp only [Oper.upon] at h3 <;> first | exact h3.elim | (simp [canQ] at h3)
  | ok n w' =>
    cases n <;> simp only [Oper.upon] at h3
    case value v => obtain ⟨v', e, hgd⟩ := h3; rw [← inj _ _ e] at hgd; exact hgd
    case skip => obtain ⟨v', e, hgd⟩ := h3; rw [← inj _ _ e] at hgd; exact hgd
    case defer dd =>
      obtain ⟨v', e, hgd⟩ := h3
      exfalso
      have : ({ a with defers := dd :: a.defers } : Act).defers = a.defers := by
        have h4 := congrArg Act.defers e
        rw [hd] at h4
        simp only [Act.put] at h4; exact h4
      have := congrArg List.length this
      simp at this
    case enter f args =>
      refine Calls.mono h3 fun e w'' he => ?_
      cases e with
      | returned u => obtain ⟨v', e, hgd⟩ := he; rw [← inj _ _ e] at hgd; exact hgd
      | panicked c => simp [canQ] at he
      | outgrown => obtain ⟨_, _, ho⟩ := he; exact ho.2
    case row row args => exact Rows.mono h3 fun u w'' he => by obtain ⟨v', e, hgd⟩ := he; rw [← inj _ _ e] at hgd; exact hgd
/-- the end of the heads -/
theorem wpE_nil (h : ∀ w, Ext ws w → (∀ e ∈ E, (S e.1).Φ e.2 w) → (∀ e ∈ E, ∀ b ∈ (S e.1).fp e.2, ws.heap.size ≤ b ∧ b < w.heap.size) →
    (∀ e ∈ E, ∀ e' ∈ E, e.1 ≠ e'.1 → ∀ b ∈ (S e.1).fp e.2, b ∉ (S e'.1).fp e'.2) → N a w) : wpE P ops S ws N O [] E a := h
end

/-- the specifications of some operations, by their numbers -/
def spOf : List (Nat × Sp) → Nat → Sp
  | [], _ => default
  | (k, s) :: l, j => if j = k then s else spOf l j
/-- a value that is known -/
def spVal (v0 : Value) : Sp := { φ := fun v => v = v0 }
def blkAt (t : TypeId) (cs : Array Value) (v : Value) (w : World) : Prop := match v with | .pointer (some p) => Blk w p.block t cs | _ => True
def blkOf (v : Value) : List Nat := match v with | .pointer (some p) => [p.block] | _ => []
/-- a new block -/
def spNew (t : TypeId) (cs : Array Value) : Sp :=
  { φ := fun v => ∃ b, v = .pointer (some ⟨b, 0, none⟩), Φ := blkAt t cs, fp := blkOf,
    mono := fun v w w' hx h => by
      unfold blkAt at *
      split at h
      · exact Blk.low h hx
      · exact h }
theorem good_new (t : TypeId) (cs : Array Value) (w : World) : (spNew t cs).Good (.pointer (some ⟨w.heap.size, 0, none⟩)) w (w.alloc (.cells cs t)) :=
  ⟨⟨_, rfl⟩, Blk.fresh w t cs, Ext.alloc w _, fun b hb => by
    have : b = w.heap.size := by simpa [spNew, blkOf] using hb
    subst this
    simp⟩
theorem good_val {v : Value} {w w' : World} (h : Ext w w') : (spVal v).Good v w w' := ⟨rfl, trivial, h, fun b hb => by cases hb⟩
end Go.Proofs.Ytnifgkgdphlleaa
set_option linter.unusedSimpArgs false
set_option linter.unusedVariables false
namespace Go.Proofs.Ytnifgkgdphlleaa
open Go.RowKit

def wantT (tmps : Array Value) : Option (Option Tmp × Bool) → Bool
  | none => true
  | some (t, b) => match t.bind (tmps[·]?) with
    | some (.bool c) => c == b
    | _ => false
@[go_sem] theorem wantT_some (tmps : Array Value) (t : Tmp) (b : Bool) : wantT tmps (some (some t, b)) = (match tmps[t]? with | some (.bool c) => c == b | _ => false) := rfl
section
variable {P : Program} {S : Nat → Sp} {ws : World} {N : Act → World → Prop} {O : Prop} {l : List (Nat × Option (Option Tmp × Bool) × Oper)} {E : List (Nat × Value)} {a : Act} {j : Nat} {o : Oper} {g : Option (Option Tmp × Bool)}
end
end Go.Proofs.Ytnifgkgdphlleaa
set_option linter.unusedSimpArgs false
set_option linter.unusedVariables false
namespace Go.Proofs.Ytnifgkgdphlleaa
open Go.RowKit
theorem wp_region_o {P : Program} {Q : Exit → Act → World → Prop} {a : Act} {w : World} {id : Nat} {l : List Oper} (is : List Nat) (hm : P.follows .mixedOrders = true) (hB : canB l.toArray (is.map fun i => (0, i)) = true)
    (h : ∀ K : Act → World → Prop, (∀ a w, Q .normal a w → K a w) → wpTxt P l.toArray K (LetsOut Q) (pickL l is) a w.drew) : (Code.region id l.toArray true).wp P Q a w :=
  wp_region_can (fun _ _ => True) (fun _ => trivial) (fun _ _ _ _ _ => trivial) _ hm hB fun K hK => by
    rw [tail_eq]
    exact h K hK
end Go.Proofs.Ytnifgkgdphlleaa
set_option linter.unusedSimpArgs false
set_option linter.unusedVariables false
namespace Go.Proofs.Ytnifgkgdphlleaa
open Go.RowKit
section
variable {P : Program} {ops : Array Oper} {S : Nat → Sp} {ws : World} {N : Act → World → Prop} {O : Prop}
theorem can_of_E {Q : Exit → Act → World → Prop} {tail : List (Nat × Nat)} {w : World} {c0 : List Nat} (hq : ∀ x ∈ c0, ∀ o, ops[x]? = some o → isW o = false) (hx : Ext ws w) (hN : ∀ a w, N a w → wpCanI P ops (fun _ _ => True) (fun a w => Q .normal a w) O tail a w)
    {E : List (Nat × Value)} (h1 : ∀ e ∈ E, (S e.1).Φ e.2 w) (h2 : ∀ e ∈ E, ∀ b ∈ (S e.1).fp e.2, ws.heap.size ≤ b ∧ b < w.heap.size) (h3 : ∀ e ∈ E, ∀ e' ∈ E, e.1 ≠ e'.1 → ∀ b ∈ (S e.1).fp e.2, b ∉ (S e'.1).fp e'.2) :
    ∀ (a : Act), wpEI P ops S ws N O c0 E a → wpCanI P ops (fun _ _ => True) (fun a w => Q .normal a w) O ((c0.map fun i => ((0 : Nat), i)) ++ tail) a w := by
  induction c0 with
  | nil => intro a h; exact hN _ _ (h w hx h1 h2 h3)
  | cons j c ih =>
    intro a h
    have ih' := ih fun x hx' => hq x (by simp [hx'])
    simp only [wpEI] at h
    simp only [List.map_cons, List.cons_append, wpCanI]
    cases ho : ops[j]? with
    | none => rw [ho] at h; exact ih' a h
    | some o =>
      rw [ho] at h
      have hW := hq j (by simp) o ho
      simp only [stepE, hW, Bool.false_eq_true, if_false] at h
      simp only [canStep, hW, Bool.false_eq_true, if_false]
      split
      · rename_i hw
        rw [if_pos hw] at h
        obtain ⟨v, hr, hR⟩ := h w hx
        exact ⟨v, hr, ih' _ hR⟩
      · rename_i hw
        rw [if_neg hw] at h
        exact ih' _ h
theorem wpAny_of_E2 (fr : Nat → Bool) {Q : Exit → Act → World → Prop} (hs : Region.noSelect ops = true) (hE : edgesOk ops = true) (hO : O → LetsOut Q) {tail : List (Nat × Nat)}
    (ht : ∀ z ∈ tail, z.2 < ops.size) (hpt : tail.Pairwise (fun j i => pairOk ops (waitTab ops) j i = true)) (hN : ∀ a w, N a w → wpCanI P ops (fun _ _ => True) (fun a w => Q .normal a w) O tail a w) :
    ∀ (n : Nat) (c : List Nat) (listed : Array Bool) (E : List (Nat × Value)) (a : Act) (w : World), c.length = n → listed.size = ops.size →
      c.Pairwise (fun j i => pairH ops (waitTab ops) j i = true) → (∀ x ∈ c, x < ops.size) → (∀ x ∈ c, ∀ z ∈ tail, (((waitTab ops).getD z.2 0).testBit x = true ∨ fr x = true) ∧ x ≠ z.2) → (∀ x ∈ c, fr x = true → (∀ o, ops[x]? = some o → isW o = false) ∧ ∀ z ∈ tail, pairOk ops (waitTab ops) (0, x) z = true) → (∀ i, i < ops.size → (listed.getD i true = false ↔ (i ∈ c ∨ ∃ z ∈ tail, z.2 = i))) →
      (∀ j oj, ops[j]? = some oj → listed.getD j false = true → ∀ e ∈ oj.after, Region.binds .any e = true → listed.getD e.on false = true) →
      (∀ x ∈ c, ∀ z ∈ tail, ∀ o, ops[x]? = some o → ∀ e ∈ o.after, Region.binds .any e = true → e.on ≠ z.2) →
      Ext ws w → (∀ e ∈ E, (S e.1).Φ e.2 w) → (∀ e ∈ E, ∀ b ∈ (S e.1).fp e.2, ws.heap.size ≤ b ∧ b < w.heap.size) →
      (∀ e ∈ E, ∀ e' ∈ E, e.1 ≠ e'.1 → ∀ b ∈ (S e.1).fp e.2, b ∉ (S e'.1).fp e'.2) → (∀ e ∈ E, e.1 ∉ c) →
      wpEI P ops S ws N O c E a → wpAny P .any ops Q (n + tail.length) listed a w := by
  intro n
  induction n with
  | zero =>
    intro c listed E a w hc hz _ _ _ _ hl hcl _ hx h1 h2 h3 _ h
    have : c = [] := List.eq_nil_of_length_eq_zero hc
    subst this
    have hN' := hN _ _ (h w hx h1 h2 h3)
    rw [Nat.zero_add]
    exact wpAny_of_can (Kp := fun _ _ => True) (fun _ => trivial) (fun _ _ _ _ _ => trivial) hs hE (N := fun a w => Q .normal a w) (O := O) (fun _ _ h => h) hO tail.length tail listed a w rfl hz hpt ht (fun i hi => by rw [hl i hi]; simp) hcl hN'
  | succ n ih =>
    intro c listed E a w hc hz hp hlt hct hfr hl hcl hno hx h1 h2 h3 h4 h
    by_cases hall : ∀ x ∈ c, fr x = true
    · have hlen : ((c.map fun i => ((0 : Nat), i)) ++ tail).length = n + 1 + tail.length := by rw [List.length_append, List.length_map, hc]
      refine wpAny_of_can (Kp := fun _ _ => True) (fun _ => trivial) (fun _ _ _ _ _ => trivial) hs hE (N := fun a w => Q .normal a w) (O := O) (fun _ _ h => h) hO _ ((c.map fun i => ((0 : Nat), i)) ++ tail) listed a w hlen hz ?_ ?_ ?_ hcl ?_
      · refine List.pairwise_append.2 ⟨?_, hpt, ?_⟩
        · rw [List.pairwise_map]
          refine (List.pairwise_iff_forall_sublist.2 fun {x y} hxy => ?_)
          have hpy := List.pairwise_iff_forall_sublist.1 hp hxy
          have hxm : x ∈ c := hxy.subset (by simp)
          have hym : y ∈ c := hxy.subset (by simp)
          have hxo : ops[x]? = some (ops[x]'(hlt x hxm)) := Array.getElem?_eq_getElem _
          have hyo : ops[y]? = some (ops[y]'(hlt y hym)) := Array.getElem?_eq_getElem _
          have w1 := (hfr x hxm (hall x hxm)).1 _ hxo
          have w2 := (hfr y hym (hall y hym)).1 _ hyo
          simp only [pairH, hxo, hyo, Bool.and_eq_true] at hpy
          simp only [pairOk, hxo, hyo, Bool.and_eq_true]
          refine ⟨hpy.1, ?_⟩
          have h6 := hpy.2
          rw [Bool.or_eq_true] at h6 ⊢
          rcases h6 with h' | h'
          · exact .inl h'
          · right
            simp [h', w1, w2]
        · intro x hx' z hz'
          obtain ⟨i, hi, rfl⟩ := List.mem_map.1 hx'
          exact (hfr i hi (hall i hi)).2 z hz'
      · intro x hx'
        rcases List.mem_append.1 hx' with hx' | hx'
        · obtain ⟨i, hi, rfl⟩ := List.mem_map.1 hx'
          exact hlt i hi
        · exact ht x hx'
      · intro i hi
        rw [hl i hi]
        constructor
        · rintro (h' | ⟨z, hz', rfl⟩)
          · exact ⟨(0, i), List.mem_append.2 (.inl (List.mem_map.2 ⟨i, h', rfl⟩)), rfl⟩
          · exact ⟨z, List.mem_append.2 (.inr hz'), rfl⟩
        · rintro ⟨z, hz', rfl⟩
          rcases List.mem_append.1 hz' with hz' | hz'
          · obtain ⟨i, hi', rfl⟩ := List.mem_map.1 hz'
            exact .inl hi'
          · exact .inr ⟨z, hz', rfl⟩
      · exact can_of_E (fun x hx' => (hfr x hx' (hall x hx')).1) hx hN h1 h2 h3 a h
    obtain ⟨x0, hx0, hx0f⟩ : ∃ x ∈ c, fr x = false := by
      rcases Classical.em (∃ x ∈ c, fr x = false) with h' | h'
      · exact h'
      · exfalso
        refine hall fun x hx' => ?_
        cases hf : fr x with
        | true => rfl
        | false => exact absurd ⟨x, hx', hf⟩ h'
    have hsucc : n + 1 + tail.length = (n + tail.length) + 1 := by omega
    rw [hsucc]
    refine ⟨fun hr => ?_, fun i hi => ?_⟩
    · exfalso
      match c, hc with
      | x :: rest, _ =>
        have hxlt := hlt x (by simp)
        have hxo : ops[x]? = some ops[x] := Array.getElem?_eq_getElem hxlt
        have hmem : x ∈ Region.ready .any ops listed := by
          rw [mem_ready]
          refine ⟨(hl x hxlt).2 (.inl (by simp)), ops[x], hxo, fun e he hb => ?_⟩
          obtain ⟨hin, hself⟩ := edgesOk_spec hE hxo e he
          have hin' : e.on < listed.size := by omega
          cases hle : listed.getD e.on true with
          | true => simp [hin'] at hle ⊢; exact hle
          | false =>
            rcases (hl e.on hin).1 hle with hy | ⟨z, hz', hze⟩
            · rcases List.mem_cons.1 hy with hy | hy
              · exact absurd hy hself
              · have hpy := List.rel_of_pairwise_cons hp hy
                have hyo : ops[e.on]? = some (ops[e.on]'hin) := Array.getElem?_eq_getElem _
                simp only [pairH, hxo, hyo, Bool.and_eq_true, Bool.not_eq_true'] at hpy
                have hno' := hpy.1.1
                have hyes : (ops[x].after.any fun e' => Region.binds .any e' && e'.on == e.on) = true := Array.any_eq_true'.2 ⟨e, he, by simp [hb]⟩
                rw [hyes] at hno'
                cases hno'
            · exact absurd hze.symm (hno x (by simp) z hz' _ hxo e he hb)
        rw [hr] at hmem
        cases hmem
    · obtain ⟨h0, oi, hoi, hall'⟩ := mem_ready.1 hi
      have hilt : i < ops.size := (Array.getElem?_eq_some_iff.1 hoi).1
      have hic : i ∈ c := by
        rcases (hl i hilt).1 h0 with h' | ⟨z, hz', rfl⟩
        · exact h'
        · exfalso
          have hb : ((waitTab ops).getD z.2 0).testBit x0 = true := by
            rcases (hct x0 hx0 z hz').1 with hb | hb
            · exact hb
            · rw [hx0f] at hb; cases hb
          have := await_listed hoi hall' hcl (k := x0) ((hl x0 (hlt x0 hx0)).2 (.inl hx0))
          rw [hb] at this
          cases this
      obtain ⟨c1, c2, rfl⟩ := List.append_of_mem hic
      have hp' := List.pairwise_append.1 hp
      have hsub : (c1 ++ c2).Sublist (c1 ++ i :: c2) := (List.sublist_cons_self _ _).append_left _
      have hpull := pullE (P := P) (S := S) (ws := ws) (N := N) (O := O) hoi hs (c2 := c2) c1 (fun j hj => by
        have hpj := hp'.2.2 j hj i (by simp)
        have hjo : ops[j]? = some (ops[j]'(hlt j (by simp [hj]))) := Array.getElem?_eq_getElem _
        refine ⟨_, hjo, ?_⟩
        simp only [pairH, hjo, hoi, Bool.and_eq_true] at hpj
        have hre := await_listed hoi hall' hcl (k := j) ((hl j (hlt j (by simp [hj]))).2 (.inl (by simp [hj])))
        rw [hre] at hpj
        simpa using hpj.2) E a h
      have hxk : ∀ y ∈ c1 ++ c2, y ≠ i := by
        intro y hy heq
        subst heq
        rcases List.mem_append.1 hy with hy | hy
        · have hpj := hp'.2.2 y hy y (by simp)
          simp [pairH, hoi] at hpj
        · have hpj := List.rel_of_pairwise_cons hp'.2.1 hy
          simp [pairH, hoi] at hpj
      have nxt : ∀ (E' : List (Nat × Value)) (a' : Act) (w' : World), Ext ws w' → (∀ e ∈ E', (S e.1).Φ e.2 w') → (∀ e ∈ E', ∀ b ∈ (S e.1).fp e.2, ws.heap.size ≤ b ∧ b < w'.heap.size) →
          (∀ e ∈ E', ∀ e' ∈ E', e.1 ≠ e'.1 → ∀ b ∈ (S e.1).fp e.2, b ∉ (S e'.1).fp e'.2) → (∀ e ∈ E', e.1 ∉ c1 ++ c2) → wpEI P ops S ws N O (c1 ++ c2) E' a' → wpAny P .any ops Q (n + tail.length) (listed.setIfInBounds i true) a' w' := by
        intro E' a' w' g1 g2 g3 g4 g5 g6
        refine ih (c1 ++ c2) (listed.setIfInBounds i true) E' a' w' (by simp at hc ⊢; omega) (by simpa using hz) (hp.sublist hsub) (fun y hy => hlt y (hsub.subset hy)) (fun x hx => hct x (hsub.subset hx)) (fun x hx => hfr x (hsub.subset hx)) (fun k hk => ?_) (closed_step hoi hall' hcl) (fun x hx => hno x (hsub.subset hx)) g1 g2 g3 g4 g5 g6
        by_cases hki : k = i
        · subst hki
          constructor
          · intro hg
            simp [hz, hk] at hg
          · rintro (hy | ⟨z, hz', hze⟩)
            · exact absurd rfl (hxk k hy)
            · exact absurd hze.symm (hct k (by simp) z hz').2
        · rw [getD_set_ne true (Ne.symm hki), hl k hk]
          constructor
          · rintro (hy | hy)
            · left
              simp only [List.mem_append, List.mem_cons] at hy ⊢
              rcases hy with hy | rfl | hy
              · exact .inl hy
              · exact absurd rfl hki
              · exact .inr hy
            · exact .inr hy
          · rintro (hy | hy)
            · exact .inl (hsub.subset hy)
            · exact .inr hy
      refine wpOp_of_E hoi hO hx hpull (fun a' hR => nxt E a' w hx h1 h2 h3 (fun e he hm => h4 e he (hsub.subset hm)) hR) (fun v w' hg hR => ?_)
      obtain ⟨gφ, gΦ, gx, gf⟩ := hg
      refine nxt _ _ w' (hx.trans gx) (fun e he => ?_) (fun e he b hb => ?_) (fun e he e' he' hne b hb => ?_) (fun e he hm => ?_) hR
      · rcases List.mem_cons.1 he with rfl | he
        · exact gΦ
        · exact (S e.1).mono _ _ _ gx (h1 e he)
      · rcases List.mem_cons.1 he with rfl | he
        · have := gf b hb
          have := hx.size
          omega
        · have := h2 e he b hb
          have := gx.size
          omega
      · rcases List.mem_cons.1 he with rfl | he
        · rcases List.mem_cons.1 he' with rfl | he'
          · exact absurd rfl hne
          · intro hb'
            have := gf b hb
            have := h2 e' he' b hb'
            omega
        · rcases List.mem_cons.1 he' with rfl | he'
          · intro hb'
            have := gf b hb'
            have := h2 e he b hb
            omega
          · exact h3 e he e' he' hne b hb
      · rcases List.mem_cons.1 he with rfl | he
        · exact hxk _ hm rfl
        · exact h4 e he (hsub.subset hm)


/-- as eB; but heads of fr, which do not turn the world, may wait behind the tail -/
def eB2 (ops : Array Oper) (c fr tail : List Nat) : Bool :=
  Region.noSelect ops && edgesOk ops && pairsH ops (waitTab ops) c && pairsOk ops (waitTab ops) (tail.map fun i => (0, i)) && c.all (fun x => decide (x < ops.size)) && tail.all (fun x => decide (x < ops.size)) &&
  c.all (fun x => tail.all fun z => (((waitTab ops).getD z 0).testBit x || fr.contains x) && x != z) &&
  c.all (fun x => match ops[x]? with | some o => !fr.contains x || !isW o | none => true) &&
  c.all (fun x => tail.all fun z => !fr.contains x || pairOk ops (waitTab ops) (0, x) (0, z)) &&
  c.all (fun x => tail.all fun z => match ops[x]? with | some o => o.after.all fun e => !Region.binds .any e || e.on != z | none => true) &&
  decide (c.length + tail.length = ops.size) && (List.range ops.size).all fun i => c.contains i || tail.contains i
end
section
variable {P : Program} {Q : Exit → Act → World → Prop} {a : Act} {w : World}
theorem wp_region_h0 {id : Nat} {l : List Oper} (S : Nat → Sp) (c fr tail : List Nat) (hm : P.follows .mixedOrders = true) (hB : eB2 l.toArray c fr tail = true)
    (h : ∀ K : Act → World → Prop, (∀ a w, wpCanI P l.toArray (fun _ _ => True) (fun a w => Q .normal a w) (LetsOut Q) (tail.map fun i => (0, i)) a w → K a w) → wpEI P l.toArray S w.drew K (LetsOut Q) c [] a) : (Code.region id l.toArray true).wp P Q a w := by
  simp only [eB2, Bool.and_eq_true, decide_eq_true_eq] at hB
  obtain ⟨⟨⟨⟨⟨⟨⟨⟨⟨⟨⟨hs, hE⟩, hp⟩, hpt⟩, hlt⟩, hltt⟩, hct⟩, hfw⟩, hfp⟩, hno⟩, hlen⟩, hall⟩ := hB
  refine wp_region_any hm ?_
  have hsz : l.toArray.size = c.length + (tail.map fun i => (0, i)).length := by simp at hlen ⊢; omega
  rw [hsz]
  refine wpAny_of_E2 fr.contains (S := S) (ws := w.drew) (N := fun a w => wpCanI P l.toArray (fun _ _ => True) (fun a w => Q .normal a w) (LetsOut Q) (tail.map fun i => (0, i)) a w) (O := LetsOut Q) hs hE (fun h => h) (tail := tail.map fun i => (0, i)) (fun z hz => ?_) (pairsOk_iff.1 hpt) (fun _ _ h => h) c.length c _ [] a _ rfl (by simp at hlen ⊢; omega) (pairsH_iff.1 hp) (fun x hx => by simpa using List.all_eq_true.1 hlt x hx) (fun x hx z hz => ?_) (fun x hx hf => ⟨fun o ho => ?_, fun z hz => ?_⟩) (fun i hi => ?_) (fun j oj hj hl => ?_) (fun x hx z hz o ho e he hb => ?_) (Ext.refl _) (by simp) (by simp) (by simp) (by simp) (h _ fun _ _ h => h)
  · obtain ⟨i, hi, rfl⟩ := List.mem_map.1 hz
    simpa using List.all_eq_true.1 hltt i hi
  · obtain ⟨i, hi, rfl⟩ := List.mem_map.1 hz
    have := List.all_eq_true.1 (List.all_eq_true.1 hct x hx) i hi
    simp only [Bool.and_eq_true, Bool.or_eq_true, bne_iff_ne] at this
    exact this
  · have := List.all_eq_true.1 hfw x hx
    rw [ho] at this
    simp only [hf, Bool.not_true, Bool.false_or, Bool.not_eq_true'] at this
    exact this
  · obtain ⟨i, hi, rfl⟩ := List.mem_map.1 hz
    have := List.all_eq_true.1 (List.all_eq_true.1 hfp x hx) i hi
    simp only [hf, Bool.not_true, Bool.false_or] at this
    exact this
  · have h1 := List.all_eq_true.1 hall i (List.mem_range.2 hi)
    have hi2 : i < c.length + tail.length := by omega
    constructor
    · intro _
      simp only [Bool.or_eq_true, List.contains_iff_mem] at h1
      rcases h1 with h1 | h1
      · exact .inl h1
      · exact .inr ⟨(0, i), List.mem_map.2 ⟨i, h1, rfl⟩, rfl⟩
    · intro _
      simp [hi2]
  · exfalso
    have hj' : j < l.length := by simpa using (Array.getElem?_eq_some_iff.1 hj).1
    have hj2 : j < c.length + tail.length := by rw [hlen]; simpa using hj'
    simp [hj2] at hl
  · obtain ⟨i, hi, rfl⟩ := List.mem_map.1 hz
    have := List.all_eq_true.1 (List.all_eq_true.1 hno x hx) i hi
    rw [ho] at this
    have := Array.all_eq_true_iff_forall_mem.1 this e he
    rw [hb] at this
    simpa using this

theorem wp_region_h {id : Nat} {l : List Oper} (S : Nat → Sp) (c fr tail : List Nat) (hm : P.follows .mixedOrders = true) (hB : eB2 l.toArray c fr tail = true)
    (h : ∀ (K : Act → World → Prop) (ws : World), ws = w.drew → (∀ a w, wpTxt P l.toArray (fun a w => Q .normal a w) (LetsOut Q) (pickL l tail) a w → K a w) → wpE P l.toArray S ws K (LetsOut Q) (pickE l c) [] a) : (Code.region id l.toArray true).wp P Q a w :=
  wp_region_h0 S c fr tail hm hB fun K hK => wpEI_of_E l c [] a (h K _ rfl fun a w h' => hK a w (wpCanI_eq _ l rfl _ a w (by rw [tail_eq]; exact h')))
end
end Go.Proofs.Ytnifgkgdphlleaa
set_option linter.unusedSimpArgs false
set_option linter.unusedVariables false
namespace Go.Proofs.Ytnifgkgdphlleaa
open Go.RowKit
end Go.Proofs.Ytnifgkgdphlleaa
set_option linter.unusedSimpArgs false
set_option linter.unusedVariables false
namespace Go.Proofs.Ytnifgkgdphlleaa.Tk

/-- the number of a byte -/
def bi (c : UInt8) : Int := (c.toNat : Int)
theorem sz (s : ByteArray) : s.data.toList.length = s.size := Array.length_toList
/-- the position behind a byte -/
def aft (p : Int × Int) (c : UInt8) : Int × Int := if bi c = 10 then (p.1 + 1, 1) else (p.1, p.2 + 1)
/-- the position of the byte with index k -/
def loc (l : List UInt8) (k : Nat) : Int × Int := (l.take k).foldl aft (1, 1)
/-- what the scanner finds at the head of a list: an error and how far on it lies, or a kind and a length -/
inductive Res where
  | err (c : Int) (off : Nat)
  | ok (kind : Int) (n : Nat)
end Go.Proofs.Ytnifgkgdphlleaa.Tk
set_option linter.unusedSimpArgs false
set_option linter.unusedVariables false
namespace Go.Proofs.Ytnifgkgdphlleaa
open Go.RowKit Tk
theorem mixed : Try.prog.follows .mixedOrders = true := by kernel_rfl
@[go_sem] theorem wrap32_byte (c : UInt8) : wrap32 (c.toNat : Int) = (c.toNat : Int) := by
  have := c.toNat_lt; exact IntWalk.wrap32_in _ ⟨by omega, by omega⟩
@[go_sem] theorem wrap64_byte (c : UInt8) : wrap64 (c.toNat : Int) = (c.toNat : Int) := by
  have := c.toNat_lt; exact IntWalk.wrap64_in _ ⟨by omega, by omega⟩
@[go_sem] theorem kwrap32_byte (c : UInt8) : IntKind.i32.wrap (c.toNat : Int) = (c.toNat : Int) := by
  have := c.toNat_lt; exact IntWalk.i32_in _ ⟨by omega, by omega⟩
@[go_sem] theorem kwrap64_byte (c : UInt8) : IntKind.i64.wrap (c.toNat : Int) = (c.toNat : Int) := by
  have := c.toNat_lt; exact IntWalk.i64_in _ ⟨by omega, by omega⟩
theorem ret_bool {a b : Bool} (h : a = b) : Ending.returned (.bool a) = .returned (.bool b) := by rw [h]
theorem bl (s : ByteArray) : s.toList = s.data.toList := by rw [ByteArray.toList_eq]
end Go.Proofs.Ytnifgkgdphlleaa
set_option linter.unusedSimpArgs false
set_option linter.unusedVariables false
namespace Go.Proofs.Ytnifgkgdphlleaa
open Go.RowKit Tk
theorem txt_t {a b : ByteArray} (h : a = b) : (a.toList == b.toList) = true := by simp [h]
theorem txt_inj {a b : ByteArray} (h : a.toList = b.toList) : a = b := by
  rw [bl, bl] at h
  obtain ⟨⟨l⟩⟩ := a
  obtain ⟨⟨m⟩⟩ := b
  simp only at h
  rw [h]
theorem txt_f {a b : ByteArray} (h : ¬ a = b) : (a.toList == b.toList) = false := by
  rw [beq_eq_false_iff_ne]
  exact fun h' => h (txt_inj h')
theorem kd_t {a b : Int} (h : a = b) : (a == b) = true ∧ (a != b) = false := by simp [h]
theorem kd_f {a b : Int} (h : ¬ a = b) : (a == b) = false ∧ (a != b) = true := by simp [h]
/-- what an old cell holds, and whether it is frozen, in a world that has grown -/
theorem bcell {B : Nat} {W w1 : World} (hb : Below B W w1) : (∀ b o, b < B → w1.cell? ⟨b, o, none⟩ = W.cell? ⟨b, o, none⟩) ∧ (∀ b o, b < B → w1.frozen? ⟨b, o, none⟩ = W.frozen? ⟨b, o, none⟩) :=
  ⟨fun b o h => hb.cell (p := ⟨b, o, none⟩) h, fun b o h => hb.frozen (p := ⟨b, o, none⟩) h⟩
/-- none before k -/
theorem none_snoc {α : Type} {p : α → Prop} {l : List α} {k : Nat} (hall : ∀ j (_ : j < k) (h1 : j < l.length), ¬ p l[j]) (h : k < l.length) (hk : ¬ p l[k]) : ∀ j (_ : j < k + 1) (h1 : j < l.length), ¬ p l[j] := by
  intro j hj h1
  by_cases e : j = k
  · subst e; exact hk
  · exact hall j (by omega) h1
end Go.Proofs.Ytnifgkgdphlleaa
set_option linter.unusedSimpArgs false
set_option linter.unusedVariables false
namespace Go.Proofs.Ytnifgkgdphlleaa
open Go.RowKit Tk
def key (s : ByteArray) : List UInt8 := s.data.toList
def Asc (l : List ByteArray) : Prop := l.Pairwise fun a b => key a ≤ key b
/-- x goes in ahead of what is greater -/
theorem Asc.put {P S : List ByteArray} {x : ByteArray} (h : Asc (P ++ S)) (hS : ∀ y ∈ S, key x ≤ key y) (hP : ∀ y ∈ P.getLast?, key y ≤ key x) : Asc (P ++ x :: S) := by
  unfold Asc at *
  rw [List.pairwise_append] at h ⊢
  obtain ⟨h1, h2, h3⟩ := h
  refine ⟨h1, List.pairwise_cons.2 ⟨hS, h2⟩, fun a ha b hb => ?_⟩
  have hax : key a ≤ key x := by
    rcases List.eq_nil_or_concat P with rfl | ⟨P', z, rfl⟩
    · cases ha
    · have hz := hP z (by simp)
      rw [List.concat_eq_append, List.mem_append] at ha
      rcases ha with ha | ha
      · rw [List.concat_eq_append, List.pairwise_append] at h1
        exact List.le_trans (h1.2.2 a ha z (by simp)) hz
      · simp at ha; subst ha; exact hz
  rcases List.mem_cons.1 hb with rfl | hb
  · exact hax
  · exact h3 a ha b hb
end Go.Proofs.Ytnifgkgdphlleaa
set_option linter.unusedSimpArgs false
set_option linter.unusedVariables false
namespace Go.Proofs.Ytnifgkgdphlleaa
open Go.RowKit
section
variable {α : Type} {f : α → List Value} {k : Nat}
theorem flat_len (hf : ∀ x, (f x).length = k) : ∀ xs : List α, (xs.flatMap f).length = xs.length * k
  | [] => by simp
  | x :: xs => by rw [List.flatMap_cons, List.length_append, hf, flat_len hf xs, List.length_cons, Nat.succ_mul]; omega
theorem flat_get (hf : ∀ x, (f x).length = k) : ∀ (xs : List α) (i j : Nat) (hi : i < xs.length), j < k → (xs.flatMap f)[i * k + j]? = (f xs[i])[j]?
  | x :: xs, 0, j, _, hj => by rw [List.flatMap_cons, Nat.zero_mul, Nat.zero_add, List.getElem?_append_left (by rw [hf]; exact hj)]; rfl
  | x :: xs, i + 1, j, hi, hj => by
    rw [List.flatMap_cons, List.getElem?_append_right (by rw [hf, Nat.succ_mul]; omega), hf]
    have e : (i + 1) * k + j - k = i * k + j := by rw [Nat.succ_mul]; omega
    rw [e, flat_get hf xs i j (by simpa using hi) hj]
    rfl
/-- a slice that owns its row of records -/
def ORow (w : World) (t : TypeId) (k : Nat) (f : α → List Value) (v : Value) (xs : List α) : Prop := w.ownsRow 0 t k v xs.length (xs.flatMap f)
/-- a slice that reads as a list of records -/
def RRow (w : World) (k : Nat) (f : α → List Value) (v : Value) (xs : List α) : Prop :=
  ∃ ao cap, v = .slice ao xs.length cap ∧ xs.length ≤ cap ∧ cap ≤ maxLen ∧ (xs.length = 0 ∨ ∃ g o, ao = some ⟨g, o, none⟩ ∧ g < w.heap.size ∧ ∀ i (h : i < xs.length) j, j < k → w.cell? ⟨g, o + i * k + j, none⟩ = (f xs[i])[j]?)
variable {w w1 : World} {t : TypeId} {v : Value} {xs : List α}
theorem ORow.nil (w : World) (t : TypeId) (k : Nat) (f : α → List Value) : ORow w t k f (.slice none 0 0) [] := World.ownsRow_nil w 0 t k
theorem ORow.len (h : ORow w t k f v xs) : ∃ ao cap, v = .slice ao xs.length cap ∧ xs.length ≤ cap ∧ cap ≤ maxLen := by
  rcases h.2 with ⟨e, hn⟩ | ⟨g, cap, cur, e, hb, hgg, h1, h2, h3⟩
  · exact ⟨none, 0, by rw [e, hn], by omega, by decide⟩
  · exact ⟨_, cap, e, h1, h2⟩
theorem ORow.lt (h : ORow w t k f v xs) {x : Nat} (hx : v.ownBlock = some x) : x < w.heap.size := (World.ownsRow.lt h x hx).2
theorem ORow.at (hf : ∀ x, (f x).length = k) (h : ORow w t k f v xs) (h0 : 0 < xs.length) : ∃ g cap, v = .slice (some ⟨g, 0, none⟩) xs.length cap ∧ xs.length ≤ cap ∧ cap ≤ maxLen ∧ g < w.heap.size ∧ ∀ i (hi : i < xs.length) j, j < k → w.cell? ⟨g, i * k + j, none⟩ = (f xs[i])[j]? := by
  rcases h.2 with ⟨e, hn⟩ | ⟨g, cap, cur, e, hb, hgg, h1, h2, h3⟩
  · omega
  · subst e
    refine ⟨g, cap, rfl, h1, h2, Blk.lt hgg, fun i hi j hj => ?_⟩
    have hlt : i * k + j < xs.length * k := by
      have : (i + 1) * k ≤ xs.length * k := Nat.mul_le_mul_right k hi
      rw [Nat.succ_mul] at this; omega
    rw [World.ownsRow.cellAt (w := w) (base := 0) (e := t) (size := k) (g := g) (n := xs.length) (cap := cap) (xs := xs.flatMap f) h _ hlt]
    exact flat_get hf xs i j hi hj
theorem ORow.kept (h : ORow w t k f v xs) (hk : ∀ x, v.ownBlock = some x → w1.heap[x]? = w.heap[x]?) : ORow w1 t k f v xs := by
  refine ⟨h.1, ?_⟩
  rcases h.2 with hn | ⟨g, cap, cur, rfl, hb, hgg, rest⟩
  · exact .inl hn
  · exact .inr ⟨g, cap, cur, rfl, hb, (hk g rfl).trans hgg, rest⟩
theorem ORow.low (h : ORow w t k f v xs) (hb : Below w.heap.size w w1) : ORow w1 t k f v xs := h.kept fun x hx => hb.block x (h.lt hx)
theorem ORow.reads (hf : ∀ x, (f x).length = k) (h : ORow w t k f v xs) : RRow w k f v xs := by
  obtain ⟨ao, cap, e, h1, h2⟩ := h.len
  by_cases h0 : xs.length = 0
  · exact ⟨ao, cap, e, h1, h2, .inl h0⟩
  · obtain ⟨g, cap', e', _, _, hg, hc⟩ := h.at hf (by omega)
    rw [e] at e'
    injection e' with e1 e2 e3
    exact ⟨ao, cap, e, h1, h2, .inr ⟨g, 0, e1, hg, fun i hi j hj => by rw [Nat.zero_add]; exact hc i hi j hj⟩⟩
theorem RRow.nil (w : World) (k : Nat) (f : α → List Value) : RRow w k f (.slice none 0 0) [] := ⟨none, 0, rfl, Nat.le_refl _, by decide, .inl rfl⟩
theorem RRow.len (h : RRow w k f v xs) : ∃ ao cap, v = .slice ao xs.length cap ∧ xs.length ≤ cap ∧ cap ≤ maxLen := by
  obtain ⟨ao, cap, e, h1, h2, _⟩ := h; exact ⟨ao, cap, e, h1, h2⟩
theorem RRow.at (h : RRow w k f v xs) (h0 : 0 < xs.length) : ∃ g o cap, v = .slice (some ⟨g, o, none⟩) xs.length cap ∧ xs.length ≤ cap ∧ cap ≤ maxLen ∧ g < w.heap.size ∧ ∀ i (hi : i < xs.length) j, j < k → w.cell? ⟨g, o + i * k + j, none⟩ = (f xs[i])[j]? := by
  obtain ⟨ao, cap, e, h1, h2, hn | ⟨g, o, rfl, hg, hc⟩⟩ := h
  · omega
  · exact ⟨g, o, cap, e, h1, h2, hg, hc⟩
theorem RRow.kept (h : RRow w k f v xs) (hs : w.heap.size ≤ w1.heap.size) (hk : ∀ x, v.ownBlock = some x → x < w.heap.size → w1.heap[x]? = w.heap[x]?) : RRow w1 k f v xs := by
  obtain ⟨ao, cap, e, h1, h2, h3⟩ := h
  refine ⟨ao, cap, e, h1, h2, h3.imp id ?_⟩
  rintro ⟨g, o, rfl, hg, hc⟩
  exact ⟨g, o, rfl, Nat.lt_of_lt_of_le hg hs, fun i hi j hj => (World.cell?_of_block (w := w) (hk g (by rw [e]; rfl) hg)).trans (hc i hi j hj)⟩
theorem RRow.low (h : RRow w k f v xs) (hb : Below w.heap.size w w1) : RRow w1 k f v xs := h.kept hb.size fun x _ hx => hb.block x hx
theorem RRow.blk {g : Nat} {cs : Array Value} (hf : ∀ x, (f x).length = k) (h : Blk w g t cs) (hc : cs.toList = xs.flatMap f) (hl : xs.length ≤ maxLen) : RRow w k f (.slice (some ⟨g, 0, none⟩) xs.length xs.length) xs :=
  ⟨_, _, rfl, Nat.le_refl _, hl, .inr ⟨g, 0, rfl, h.lt, fun i hi j hj => by rw [h.cell, Nat.zero_add, ← Array.getElem?_toList, hc]; exact flat_get hf xs i j hi hj⟩⟩
theorem ORow.blk {g : Nat} {cs : Array Value} (hf : ∀ x, (f x).length = k) (h : Blk w g t cs) (hc : cs.toList = xs.flatMap f) (hl : xs.length ≤ maxLen) : ORow w t k f (.slice (some ⟨g, 0, none⟩) xs.length xs.length) xs := by
  have hsz : cs.size = xs.length * k := by rw [← flat_len hf xs, ← hc, Array.length_toList]
  exact ⟨flat_len hf xs, .inr ⟨g, xs.length, cs, rfl, Nat.zero_le _, h, Nat.le_refl _, hl, hsz, by rw [← hc, List.take_of_length_le (by rw [Array.length_toList, hsz]; exact Nat.le_refl _)]⟩⟩
end
end Go.Proofs.Ytnifgkgdphlleaa
set_option linter.unusedSimpArgs false
set_option linter.unusedVariables false
namespace Go.Proofs.Ytnifgkgdphlleaa
open Go.RowKit
structure AppPost {α : Type} (w w' : World) (e : TypeId) (k : Nat) (f : α → List Value) (v v' : Value) (zs : List α) : Prop where
  row : ORow w' e k f v' zs
  grown : w.grownBy w' v.ownBlock
  lies : v'.ownBlock = v.ownBlock ∨ v'.ownBlock = some w.heap.size
section
variable {α : Type} {f : α → List Value} {k bytes : Nat} {P : Program} {w : World} {t e : TypeId} {v u z : Value} {xs ys : List α}
theorem run_app (ty : TypeId) (hi : (P.info? e).map (fun i => (i.zero, i.size, i.bytes)) = some (some z, k, bytes)) (ht : P.underlying t = some (.slice e)) (hzs : z.cells.size = k) (hk0 : 0 < k) (hf : ∀ x, (f x).length = k) (h1 : ∀ x, ∀ c ∈ f x, Value.oneCell' c = true)
    (hv : ORow w e k f v xs) (hu : RRow w k f u ys) (h63 : xs.length + ys.length ≤ maxLen) (hb : (xs.length + ys.length) * bytes ≤ 140737488355328) :
    ∃ v' w', (Builtin.append_ #[t, t] ty #[v, u]).run P w = .ok v' w' ∧ AppPost w w' e k f v v' (xs ++ ys) := by
  obtain ⟨i, hi1, hi2, hi3, hi4⟩ := info_parts hi
  obtain ⟨ao, cap, rfl, n1, n2, hc⟩ := hu
  have one : ∀ c ∈ ys.flatMap f, Value.oneCell' c = true := fun c hc => by
    obtain ⟨x, _, hx⟩ := List.mem_flatMap.1 hc
    exact h1 x c hx
  by_cases h0 : ys.length = 0
  · have hy : ys = [] := List.eq_nil_of_length_eq_zero h0
    subst hy
    rw [List.append_nil]
    cases ao with
    | none =>
      have hr : (Builtin.append_ #[t, t] ty #[v, .slice none 0 cap]).run P w = .ok v w := by
        rcases hv.2 with ⟨rfl, hx⟩ | ⟨g, cap', cur, rfl, _, _, hnc, _⟩
        · simp [Builtin.append_, run_underlying ht, sizeOf, typeInfo, hi1, Builtin.lenOf, Builtin.firstCells]
        · simp [Builtin.append_, run_underlying ht, sizeOf, typeInfo, hi1, Builtin.lenOf, Builtin.firstCells, hnc, storeCells]
      exact ⟨v, w, hr, hv, World.grownBy.refl w _, .inl rfl⟩
    | some ad =>
      obtain ⟨v', w', hrun, h2, h3, _, h5⟩ := run_append_own_at (P := P) w 0 t ty e i z k bytes ht hi1 hi2 hi3 hi4 hzs hk0 v xs.length (xs.flatMap f) hv ad 0 cap [] (by simp) (by simp) (by simp) h63 hb (Nat.zero_le _)
      exact ⟨v', w', hrun, by simpa [ORow] using h2, h3, h5⟩
  · rcases hc with hc | ⟨g, o, rfl, hg, hc⟩
    · exact absurd hc h0
    · have hcells : ∀ j c, (ys.flatMap f)[j]? = some c → w.cell? ((⟨g, o, none⟩ : Addr).add j) = some c := by
        intro j c hj
        have hjl : j < ys.length * k := by
          rcases Nat.lt_or_ge j (ys.length * k) with h | h
          · exact h
          · rw [List.getElem?_eq_none (by rw [flat_len hf]; exact h)] at hj; cases hj
        have hq : j / k < ys.length := Nat.div_lt_of_lt_mul (by rw [Nat.mul_comm]; exact hjl)
        have hr : j % k < k := Nat.mod_lt _ hk0
        have ej : j / k * k + j % k = j := by rw [Nat.mul_comm]; exact Nat.div_add_mod j k
        have := hc (j / k) hq (j % k) hr
        rw [← flat_get hf ys (j / k) (j % k) hq hr, ej, hj, Nat.add_assoc, ej] at this
        have e : (⟨g, o, none⟩ : Addr).add j = ⟨g, o + j, none⟩ := by unfold Addr.add; split <;> simp_all
        rw [e]; exact this
      obtain ⟨v', w', hrun, h2, h3, _, h5⟩ := run_append_own_at (P := P) w 0 t ty e i z k bytes ht hi1 hi2 hi3 hi4 hzs hk0 v xs.length (xs.flatMap f) hv ⟨g, o, none⟩ ys.length cap (ys.flatMap f) (flat_len hf ys) hcells one h63 hb (Nat.zero_le _)
      refine ⟨v', w', hrun, ?_, h3, h5⟩
      unfold ORow
      rw [List.length_append, List.flatMap_append]
      exact h2
theorem wp_app {o : Oper} {a : Act} {K : Act → World → Prop} {Q : Exit → Act → World → Prop} (s x : Operand) (ho : o.op = .call { callee := .builtin .append, args := #[s, x], argTypes := #[t, t] })
    (hi : (P.info? e).map (fun i => (i.zero, i.size, i.bytes)) = some (some z, k, bytes)) (ht : P.underlying t = some (.slice e)) (hzs : z.cells.size = k) (hk0 : 0 < k) (hf : ∀ x, (f x).length = k) (h1 : ∀ x, ∀ c ∈ f x, Value.oneCell' c = true)
    (v u : Value) (xs ys : List α) (hs : a.eval s = v) (hx : a.eval x = u) (hv : ORow w e k f v xs) (hu : RRow w k f u ys) (h63 : xs.length + ys.length ≤ maxLen) (hb : (xs.length + ys.length) * bytes ≤ 140737488355328)
    (h : ∀ v' w', AppPost w w' e k f v v' (xs ++ ys) → K (a.put o.dst v') w') : o.wp P a w K Q := by
  obtain ⟨v', w', hr, hp⟩ := run_app (P := P) o.type hi ht hzs hk0 hf h1 hv hu h63 hb
  unfold Oper.wp execOp
  simp only [ho, resolve, invoke, builtin, Sem.run_bind, Sem.run_pure, Result.andThen_ok, List.map_toArray, List.map_cons, List.map_nil, hs, hx, hr]
  exact h _ _ hp
end
section
variable {α : Type} {f : α → List Value} {k B : Nat} {w w0 w' : World} {e : TypeId} {v v' : Value} {zs : List α}
/-- what lay below a bound has been kept, if the row lay above it -/
theorem AppPost.below (h : AppPost w w' e k f v v' zs) (hb : Below B w0 w) (hv : ∀ x, v.ownBlock = some x → B ≤ x) (hB : B ≤ w.heap.size) : Below B w0 w' ∧ ∀ x, v'.ownBlock = some x → B ≤ x :=
  ⟨hb.grown h.grown hB (fun x hx => hv x hx), fun x hx => by
    rcases h.lies with h1 | h1
    · exact hv x (h1 ▸ hx)
    · rw [h1] at hx; injection hx with hx; omega⟩
end
end Go.Proofs.Ytnifgkgdphlleaa
set_option linter.unusedSimpArgs false
set_option linter.unusedVariables false
namespace Go.Proofs.Ytnifgkgdphlleaa
open Go.RowKit

/-- keys and values, in the order of the entries -/
def entsOf (m : List (ByteArray × Value)) (es : List MapEntry) : Prop := es.map (fun e => (e.key, e.val)) = m.map (fun p => (Value.string p.1, p.2))
def StrMap (w : World) (r : Nat) (m : List (ByteArray × Value)) : Prop :=
  ∃ es clock, w.heap[r]? = some (.map es clock) ∧ entsOf m es.toList ∧ MapKept.Stamped es clock
section
variable {P : Program} {kt et T : TypeId}
theorem run_getObj_map (w : World) {r : Nat} {es : Array MapEntry} {clock : Nat} (h : w.heap[r]? = some (.map es clock)) : (getObj r).run P w = .ok (.map es clock) w := by
  unfold getObj
  simp [Sem.run, h]
end
/-- w' is w but for block r, which is a map in both -/
structure MapTurned (r : Nat) (w w' : World) : Prop where
  os : w'.os = w.os
  tape : w'.tape = w.tape
  output : w'.output = w.output
  size : w'.heap.size = w.heap.size
  block : ∀ i, i ≠ r → w'.heap[i]? = w.heap[i]?
theorem MapTurned.but {r : Nat} {w w' : World} (h : MapTurned r w w') : But r w w' := ⟨h.os, h.tape, h.output, Nat.le_of_eq h.size.symm, fun k _ hk => h.block k hk⟩
section
variable {P : Program} {kt et T : TypeId}
theorem run_setObj_map (w : World) {r : Nat} {es : Array MapEntry} {clock : Nat} (h : w.heap[r]? = some (.map es clock)) (o : Obj) : (setObj r o).run P w = .ok () { w with heap := w.heap.setIfInBounds r o } := by
  unfold setObj
  simp [Sem.run, h]
theorem turned_set (w : World) {r : Nat} (hr : r < w.heap.size) (o : Obj) : MapTurned r w { w with heap := w.heap.setIfInBounds r o } ∧ ({ w with heap := w.heap.setIfInBounds r o } : World).heap[r]? = some o := by
  refine ⟨⟨rfl, rfl, rfl, by simp, fun i hi => ?_⟩, ?_⟩
  · simp only [Array.getElem?_setIfInBounds]
    rw [if_neg (fun e => hi e.symm)]
  · simp [Array.getElem?_setIfInBounds, hr]
theorem heap_lt {w : World} {r : Nat} {o : Obj} (h : w.heap[r]? = some o) : r < w.heap.size := by
  rcases Nat.lt_or_ge r w.heap.size with hlt | hge
  · exact hlt
  · rw [Array.getElem?_eq_none hge] at h; cases h
end
theorem StrMap.of {w w' : World} {r : Nat} {m : List (ByteArray × Value)} (h : StrMap w r m) (he : w'.heap[r]? = w.heap[r]?) : StrMap w' r m := by
  obtain ⟨es, clock, h1, h2⟩ := h
  exact ⟨es, clock, he.trans h1, h2⟩
theorem StrMap.lt {w : World} {r : Nat} {m : List (ByteArray × Value)} (h : StrMap w r m) : r < w.heap.size := by
  obtain ⟨es, clock, h1, _⟩ := h
  exact heap_lt h1
theorem StrMap.low {w w' : World} {r : Nat} {m : List (ByteArray × Value)} (h : StrMap w r m) (hb : Below w.heap.size w w') : StrMap w' r m := h.of (hb.block r h.lt)
theorem StrMap.but {w w' : World} {r b : Nat} {m : List (ByteArray × Value)} (h : StrMap w r m) (hb : But b w w') (hn : r ≠ b) : StrMap w' r m := h.of (hb.block r h.lt hn)
theorem StrMap.made (w : World) : StrMap (w.alloc (.map #[] 0)) w.heap.size [] :=
  ⟨#[], 0, (MapKept.heap_alloc w _).1, rfl, MapKept.stamped_empty 0⟩

/-! ### going through a map -/
/-- block it goes through the map r, which still has these entries to come -/
def MIter (w : World) (it r : Nat) (left : List (ByteArray × Value)) : Prop :=
  ∃ (es : Array MapEntry) (clock since : Nat) (seen : Array Nat) (last : Nat), w.heap[r]? = some (.map es clock) ∧ w.heap[it]? = some (.mapIter (some r) since seen last) ∧ MapKept.Stamped es clock ∧ (∀ e ∈ es.toList, e.born < since ∧ e.born < last) ∧
    entsOf left (es.toList.filter fun e => !seen.contains e.born)
/-- behind a step: p is the entry at which it stands -/
def MAt (w : World) (it r : Nat) (p : ByteArray × Value) (left : List (ByteArray × Value)) : Prop :=
  ∃ (es : Array MapEntry) (clock since : Nat) (seen : Array Nat), w.heap[r]? = some (.map es clock) ∧ w.heap[it]? = some (.mapIter (some r) since seen clock) ∧ MapKept.Stamped es clock ∧ (∀ e ∈ es.toList, e.born < since ∧ e.born < clock) ∧
    entsOf left (es.toList.filter fun e => !seen.contains e.born) ∧ ∃ e ∈ es.toList, seen.back? = some e.born ∧ e.key = .string p.1 ∧ e.val = p.2
theorem MAt.of {w w' : World} {it r : Nat} {p : ByteArray × Value} {left : List (ByteArray × Value)} (h : MAt w it r p left) (hr : w'.heap[r]? = w.heap[r]?) (hi : w'.heap[it]? = w.heap[it]?) : MAt w' it r p left := by
  obtain ⟨es, clock, since, seen, h1, h2, h3⟩ := h
  exact ⟨es, clock, since, seen, hr.trans h1, hi.trans h2, h3⟩
theorem MIter.of {w w' : World} {it r : Nat} {left : List (ByteArray × Value)} (h : MIter w it r left) (hr : w'.heap[r]? = w.heap[r]?) (hi : w'.heap[it]? = w.heap[it]?) : MIter w' it r left := by
  obtain ⟨es, clock, since, seen, last, h1, h2, h3⟩ := h
  exact ⟨es, clock, since, seen, last, hr.trans h1, hi.trans h2, h3⟩
theorem MIter.lt {w : World} {it r : Nat} {left : List (ByteArray × Value)} (h : MIter w it r left) : it < w.heap.size ∧ r < w.heap.size ∧ it ≠ r := by
  obtain ⟨es, clock, since, seen, last, h1, h2, h3⟩ := h
  refine ⟨heap_lt h2, heap_lt h1, ?_⟩
  rintro rfl
  rw [h1] at h2
  cases h2
section
variable {P : Program}
end
end Go.Proofs.Ytnifgkgdphlleaa
set_option linter.unusedSimpArgs false
set_option linter.unusedVariables false
namespace Go.Proofs.Ytnifgkgdphlleaa
open Go.RowKit Tk
/-! ### memory -/
/-- all blocks but those of F are as they were -/
structure Only (F : List Nat) (w w' : World) : Prop where
  os : w'.os = w.os
  tape : w'.tape = w.tape
  output : w'.output = w.output
  size : w.heap.size ≤ w'.heap.size
  block : ∀ k, k < w.heap.size → k ∉ F → w'.heap[k]? = w.heap[k]?
section
variable {F F' : List Nat} {w w1 w2 : World}
theorem Only.refl (F : List Nat) (w : World) : Only F w w := ⟨rfl, rfl, rfl, Nat.le_refl _, fun _ _ _ => rfl⟩
theorem Only.trans (h : Only F w w1) (k : Only F' w1 w2) (hF : ∀ x ∈ F', x ∈ F ∨ w.heap.size ≤ x) : Only F w w2 :=
  ⟨k.os.trans h.os, k.tape.trans h.tape, k.output.trans h.output, Nat.le_trans h.size k.size, fun i hi hn => (k.block i (Nat.lt_of_lt_of_le hi h.size) fun hm => by
    rcases hF i hm with h1 | h1
    · exact hn h1
    · omega).trans (h.block i hi hn)⟩
theorem Only.then_ (h : Only F w w1) (k : Only F w1 w2) : Only F w w2 := h.trans k fun _ hx => .inl hx
theorem Only.mono (h : Only F w w1) (hF : ∀ x ∈ F, x ∈ F' ∨ w.heap.size ≤ x) : Only F' w w1 := (Only.refl F' w).trans h hF
theorem Only.of_below (h : Below w.heap.size w w1) : Only F w w1 := ⟨h.os, h.tape, h.output, h.size, fun k hk _ => h.block k hk⟩
theorem Only.of_but {b : Nat} (h : But b w w1) (hb : b ∈ F) : Only F w w1 := ⟨h.os, h.tape, h.output, h.size, fun k hk hn => h.block k hk fun e => hn (e ▸ hb)⟩
theorem Only.of_grown {r : Option Nat} (h : w.grownBy w1 r) (hr : ∀ b, r = some b → b ∈ F) : Only F w w1 :=
  ⟨h.os, h.tape, h.output, h.size, fun k hk hn => h.block k hk fun e => hn (hr k e.symm)⟩
theorem Only.below {B : Nat} (h : Only F w w1) (hF : ∀ x ∈ F, B ≤ x) (hB : B ≤ w.heap.size) : Below B w w1 :=
  ⟨h.os, h.tape, h.output, h.size, fun k hk => h.block k (by omega) fun hm => by have := hF k hm; omega⟩
theorem Only.grown (h : Only F w w1) (hF : F = []) : Below w.heap.size w w1 := h.below (by simp [hF]) (Nat.le_refl _)
end
def ownB (v : Value) : List Nat := v.ownBlock.toList
/-- a slice that owns its row of strings -/
def Row (w : World) (v : Value) (xs : List ByteArray) : Prop := w.ownsRow 0 9 1 v xs.length (xs.map Value.string)
section
variable {F F' : List Nat} {w w1 w2 : World} {v : Value} {xs : List ByteArray}
theorem Row.lt (h : Row w v xs) : ∀ x ∈ ownB v, x < w.heap.size := fun x hx => by
  have : v.ownBlock = some x := by simpa [ownB] using hx
  exact (World.ownsRow.lt h x this).2
theorem Row.len (h : Row w v xs) : ∃ ao cap, v = .slice ao xs.length cap ∧ xs.length ≤ cap ∧ cap ≤ maxLen := by
  rcases h.2 with ⟨e, hn⟩ | ⟨g, cap, cur, e, hb, hgg, h1, h2, h3⟩
  · exact ⟨none, 0, by rw [e, hn], by omega, by decide⟩
  · exact ⟨_, cap, e, h1, h2⟩
theorem Row.at (h : Row w v xs) (h0 : 0 < xs.length) : ∃ g cap, v = .slice (some ⟨g, 0, none⟩) xs.length cap ∧ xs.length ≤ cap ∧ cap ≤ maxLen ∧ ∀ i (hi : i < xs.length), w.cell? ⟨g, i, none⟩ = some (.string xs[i]) := by
  rcases h.2 with ⟨e, hn⟩ | ⟨g, cap, cur, e, hb, hgg, h1, h2, h3⟩
  · omega
  · subst e
    refine ⟨g, cap, rfl, h1, h2, fun i hi => ?_⟩
    have := World.ownsRow.cellAt (w := w) (base := 0) (e := 9) (size := 1) (g := g) (n := xs.length) (cap := cap) (xs := xs.map Value.string) h i (by omega)
    rw [this]; simp [hi]
theorem Row.kept (h : Row w v xs) (hk : ∀ x ∈ ownB v, w1.heap[x]? = w.heap[x]?) : Row w1 v xs := by
  refine ⟨h.1, ?_⟩
  rcases h.2 with hn | ⟨g, cap, cur, rfl, hb, hgg, rest⟩
  · exact .inl hn
  · exact .inr ⟨g, cap, cur, rfl, hb, (hk g (by simp [ownB, Value.ownBlock])).trans hgg, rest⟩
theorem Row.only (h : Row w v xs) (ho : Only F w w1) (hF : ∀ x ∈ ownB v, x ∉ F) : Row w1 v xs := h.kept fun x hx => ho.block x (h.lt x hx) (hF x hx)
theorem Row.low (h : Row w v xs) (hb : Below w.heap.size w w1) : Row w1 v xs := h.kept fun x hx => hb.block x (h.lt x hx)
end
theorem info_str : (Try.prog.info? 9).map (fun i => (i.zero, i.size, i.bytes)) = some (some (.string ⟨#[]⟩), 1, 16) := by kernel_rfl
theorem und_strs : Try.prog.underlying 34 = some (.slice 9) := by kernel_rfl
def strC (s : ByteArray) : List Value := [.string s]
theorem strC_l (s : ByteArray) : (strC s).length = 1 := rfl
theorem strC_one (s : ByteArray) : ∀ c ∈ strC s, Value.oneCell' c = true := by intro c hc; simp [strC] at hc; subst hc; rfl
theorem flat_str (xs : List ByteArray) : xs.flatMap strC = xs.map Value.string := by
  induction xs with
  | nil => rfl
  | cons x xs ih => rw [List.flatMap_cons, ih]; rfl
theorem Row.o {w : World} {v : Value} {xs : List ByteArray} (h : Row w v xs) : ORow w 9 1 strC v xs := by unfold ORow; rw [flat_str]; exact h
theorem Row.of {w : World} {v : Value} {xs : List ByteArray} (h : ORow w 9 1 strC v xs) : Row w v xs := by unfold ORow at h; rw [flat_str] at h; exact h
theorem mem_ownB {v : Value} {x : Nat} : x ∈ ownB v ↔ v.ownBlock = some x := by simp [ownB]
theorem Row.drew {w : World} {v : Value} {xs : List ByteArray} (h : Row w v xs) : Row w.drew v xs := h
theorem Row.set {w : World} {g n cap : Nat} {xs : List ByteArray} (h : Row w (.slice (some ⟨g, 0, none⟩) n cap) xs) (hn : n = xs.length) (i : Nat) (y : ByteArray) : Row (w.setCell ⟨g, i, none⟩ (.string y)) (.slice (some ⟨g, 0, none⟩) n cap) (xs.set i y) := by
  subst hn
  obtain ⟨this, -⟩ := World.ownsRow.stored (w := w) (base := 0) (e := 9) (size := 1) (g := g) (n := xs.length) (cap := cap) (xs := xs.map Value.string) h i (.string y)
  unfold Row
  rw [List.length_set, List.map_set]
  exact this
@[go_sem] theorem mk_map (P : Program) (t : TypeId) (w : World) : (Instr.makeMap t none).run P w = .ok (.map (some w.heap.size)) (w.alloc (.map #[] 0)) := rfl
def Reads (w : World) (v : Value) (xs : List ByteArray) : Prop := RRow w 1 strC v xs
theorem Row.reads {w : World} {v : Value} {xs : List ByteArray} (h : Row w v xs) : Reads w v xs := h.o.reads strC_l
def BPost (b : Bool) (w : World) (e : Ending) (w' : World) : Prop := e = .returned (.bool b) ∧ Below w.heap.size w w'
theorem Only.turned {F : List Nat} {it : Nat} {w w1 w2 : World} (h : Only F w w1) (k : MapTurned it w1 w2) (hi : it ∈ F) : Only F w w2 :=
  h.then_ ⟨k.os, k.tape, k.output, Nat.le_of_eq k.size.symm, fun x _ hn => k.block x fun e => hn (e ▸ hi)⟩
theorem Blk.c3 {w : World} {g : Nat} {t : TypeId} {x y z : Value} (h : Blk w g t #[x, y, z]) : w.cell? ⟨g, 0, none⟩ = some x ∧ w.cell? ⟨g, 1, none⟩ = some y ∧ w.cell? ⟨g, 2, none⟩ = some z ∧ w.frozen? ⟨g, 0, none⟩ = false ∧ w.frozen? ⟨g, 1, none⟩ = false ∧ w.frozen? ⟨g, 2, none⟩ = false :=
  ⟨h.cell 0, h.cell 1, h.cell 2, h.free 0, h.free 1, h.free 2⟩
theorem ORow.ne {α : Type} {w : World} {t t' : TypeId} {k : Nat} {f : α → List Value} {v : Value} {xs : List α} {g : Nat} {cs : Array Value} (h : ORow w t k f v xs) (hb : Blk w g t' cs) (hne : t ≠ t') : g ∉ ownB v := by
  intro hm
  rcases h.2 with ⟨rfl, _⟩ | ⟨g', cap, cur, rfl, _, hg, _⟩
  · simp [ownB, Value.ownBlock] at hm
  · have : g = g' := by simpa [ownB, Value.ownBlock] using hm
    subst this
    exact Blk.ne_ (show Blk w g t cur from hg) hb hne rfl
end Go.Proofs.Ytnifgkgdphlleaa
set_option linter.unusedSimpArgs false
set_option linter.unusedVariables false
namespace Go.Proofs.Ytnifgkgdphlleaa
open Go.RowKit Tk
/-- block X holds cs, and the call may write there -/
structure Loc (F : List Nat) (w0 w : World) (X : Nat) (t : TypeId) (cs : Array Value) : Prop where
  blk : Blk w X t cs
  may : X ∈ F ∨ w0.heap.size ≤ X
def putA (cs : Array Value) (o : Nat) (vs : Array Value) : Array Value := (cs.toList.take o ++ vs.toList ++ cs.toList.drop (o + vs.size)).toArray
section
variable {F : List Nat} {w0 w w1 : World} {X Y : Nat} {t t' : TypeId} {cs ds : Array Value}
theorem Loc.ext (h : Loc F w0 w X t cs) (hx : Ext w w1) : Loc F w0 w1 X t cs := ⟨h.blk.low hx, h.may⟩
theorem Loc.but (h : Loc F w0 w X t cs) (hb : But Y w w1) (hn : X ≠ Y) : Loc F w0 w1 X t cs := ⟨h.blk.but hb hn, h.may⟩
theorem Loc.lt (h : Loc F w0 w X t cs) : X < w.heap.size := h.blk.lt
theorem Loc.cell (h : Loc F w0 w X t cs) (i : Nat) : w.cell? ⟨X, i, none⟩ = cs[i]? := h.blk.cell i
theorem Loc.free (h : Loc F w0 w X t cs) (i : Nat) : w.frozen? ⟨X, i, none⟩ = false := h.blk.free i
theorem Loc.ne (h : Loc F w0 w X t cs) (hY : w.heap.size = Y) : X ≠ Y ∧ Y ≠ X := by have := h.lt; omega
theorem Only.more {G : List Nat} (h : Only F w0 w) (hx : Only G w w1) (hG : ∀ x ∈ G, x ∈ F ∨ w0.heap.size ≤ x) : Only F w0 w1 := h.trans hx hG
theorem Loc.only {G : List Nat} (h : Loc F w0 w X t cs) (hx : Only G w w1) (hG : X ∉ G) : Loc F w0 w1 X t cs := ⟨h.blk.of (hx.block X h.blk.lt hG), h.may⟩
theorem Only.ext (h : Only F w0 w) (hx : Ext w w1) : Only F w0 w1 := h.then_ (Only.of_below hx)
theorem Only.put (h : Only F w0 w) (b : Loc F w0 w X t cs) (hb : But X w w1) : Only F w0 w1 :=
  h.trans (Only.of_but hb (List.mem_singleton.2 rfl)) fun x hx => by rw [List.mem_singleton.1 hx]; exact b.may
theorem ORow.only {α : Type} {k : Nat} {f : α → List Value} {v : Value} {xs : List α} (h : ORow w t k f v xs) (E : Only F w w1) (hF : ∀ x ∈ F, x ∉ ownB v) : ORow w1 t k f v xs :=
  h.kept fun x hx => E.block x (h.lt hx) fun hm => hF x hm (mem_ownB.2 hx)
theorem Loc.ge (h : Loc [] w0 w X t cs) : w0.heap.size ≤ X := by
  rcases h.may with h | h
  · cases h
  · exact h
theorem Only.after (h : Only [] w0 w) (k : Only F w w1) (hF : ∀ x ∈ F, w0.heap.size ≤ x) : Below w0.heap.size w0 w1 := (h.trans k fun x hx => .inr (hF x hx) : Only [] w0 w1).grown rfl
theorem Only.low (h : Only [] w0 w) : Below w0.heap.size w0 w := h.grown rfl
theorem Loc.new (h : Blk w1 X t cs) (E : Only F w0 w) (hX : w.heap.size = X) : Loc F w0 w1 X t cs := ⟨h, .inr (hX ▸ E.size)⟩
theorem Loc.later {w2 : World} (E : Only F w0 w) (h : Blk w2 X t cs) (hX : w.heap.size ≤ X) : Loc F w0 w2 X t cs := ⟨h, .inr (Nat.le_trans E.size hX)⟩
theorem ORow.ext {α : Type} {k : Nat} {f : α → List Value} {v : Value} {xs : List α} (h : ORow w t k f v xs) (hx : Ext w w1) : ORow w1 t k f v xs := ORow.low h hx
theorem RRow.ext {α : Type} {k : Nat} {f : α → List Value} {v : Value} {xs : List α} (h : RRow w k f v xs) (hx : Ext w w1) : RRow w1 k f v xs := h.low hx
theorem StrMap.ext {r : Nat} {m : List (ByteArray × Value)} (h : StrMap w r m) (hx : Ext w w1) : StrMap w1 r m := h.low hx
theorem Ext.ext {w2 : World} (h : Ext w w1) (hx : Ext w1 w2) : Ext w w2 := h.trans hx
/-- an owned row and a block of another type -/
theorem ORow.but {α : Type} {k : Nat} {f : α → List Value} {v : Value} {xs : List α} (h : ORow w t k f v xs) (hb : But X w w1) (b : Blk w X t' cs) (hne : t ≠ t') : ORow w1 t k f v xs :=
  h.kept fun x hx => hb.block x (h.lt hx) fun e => h.ne b hne (e ▸ mem_ownB.2 hx)
end
section
variable {P : Program} {F : List Nat} {w0 w : World} {X : Nat} {t : TypeId} {cs : Array Value} {K : Act → World → Prop} {a : Act} {Q : Exit → Act → World → Prop}
/-- picks a store -/
theorem at_store (n : Tmp) {ty pty : TypeId} {y : Operand} {pos : String} {af : Array Edge} {gd : Option (Nat × Bool)} (h : Oper.wp P ⟨none, .store pty (.tmp n) y, ty, pos, af, gd⟩ a w K Q) : Oper.wp P ⟨none, .store pty (.tmp n) y, ty, pos, af, gd⟩ a w K Q := h
theorem at_j (j : Nat) {ops : Array Oper} {S : Nat → Sp} {ws : World} {O : Prop} {o : Oper} {l : List (Nat × Oper)} {E : List (Nat × Value)} (h : wpE P ops S ws K O ((j, o) :: l) E a) : wpE P ops S ws K O ((j, o) :: l) E a := h
theorem at_reg (id : Nat) {ops : Array Oper} {b : Bool} (h : (Code.region id ops b).wp P Q a w) : (Code.region id ops b).wp P Q a w := h
theorem at_nil (n : Nat) {ops : Array Oper} {S : Nat → Sp} {ws : World} {O : Prop} {E : List (Nat × Value)} (h : wpE P ops S ws K O [] E a) : wpE P ops S ws K O [] E a := h
/-- a region whose order Go leaves open -/
theorem wp_region_x {id : Nat} {l : List Oper} (S : Nat → Sp) (c fr tail : List Nat) (hm : P.follows .mixedOrders = true) (hB : eB2 l.toArray c fr tail = true)
    (h : ∀ (K : Act → World → Prop) (ws : World), Ext w ws → (∀ a w, wpTxt P l.toArray (fun a w => Q .normal a w) (LetsOut Q) (pickL l tail) a w → K a w) → wpE P l.toArray S ws K (LetsOut Q) (pickE l c) [] a) : (Code.region id l.toArray true).wp P Q a w :=
  wp_region_h S c fr tail hm hB fun K ws hws hK => h K ws (hws ▸ Ext.drew w) hK
/-- picks an operation by its slot -/
theorem at_dst (d : Tmp) {op : Op} {ty : TypeId} {pos : String} {af : Array Edge} {gd : Option (Nat × Bool)} (h : Oper.wp P ⟨some d, op, ty, pos, af, gd⟩ a w K Q) : Oper.wp P ⟨some d, op, ty, pos, af, gd⟩ a w K Q := h
theorem new_block (hX : w.heap.size = X) (h : ∀ w', Blk w' X t cs → Ext w w' → K a w') : K a (w.alloc (.cells cs t)) := h _ (hX ▸ Blk.fresh w t cs) (Ext.alloc w _)
/-- a store into a block -/
theorem wp_put {o : Oper} {ty : TypeId} {x y : Operand} {off : Nat} (b : Loc F w0 w X t cs) (ho : o.op = .store ty x y) (hx : a.eval x = .pointer (some ⟨X, off, none⟩))
    (hi : (P.info? ty).map (·.size) = some (a.eval y).cells.size) (h1 : (a.eval y).cells.all (·.oneCell') = true) (hle : off + (a.eval y).cells.size ≤ cs.size)
    (h : ∀ w', Loc F w0 w' X t (putA cs off (a.eval y).cells) → But X w w' → K (a.put o.dst undef) w') : o.wp P a w K Q := by
  obtain ⟨v, hy⟩ : ∃ v, a.eval y = v := ⟨_, rfl⟩
  rw [hy] at hi h1 hle h
  have hg : w.heap[X]? = some (.cells cs t (0, 0)) := b.blk
  have hr := run_storeCells_at (P := P) X off t v.cells.toList 0 cs w hg (by simpa using hle) (fun u hu => (Array.all_eq_true_iff_forall_mem.1 h1) u (by simpa using hu))
  have hs : (Instr.storeAt ty (.pointer (some ⟨X, off, none⟩)) v).run P w = .ok () (w.setRow X (putA cs off v.cells)) := by
    cases hq : P.info? ty with
    | none => simp [hq] at hi
    | some i =>
      have hs : v.cells.size = i.size := by simp [hq] at hi; omega
      simp only [Nat.add_zero, Array.length_toList] at hr
      simp [Instr.storeAt, Instr.sureAddr, storeVar, sizeOf, typeInfo, hq, hs, hr, putA]
  have hlt : X < w.heap.size := b.blk.lt
  have hw := setRow_heap w X cs (putA cs off v.cells) t (0, 0) hg
  unfold Oper.wp execOp
  simp only [ho, hx, hy, Sem.run_bind, hs, Result.andThen_ok, Sem.run_pure, Oper.upon_skip]
  exact h _ ⟨hw, b.may⟩ ⟨rfl, rfl, rfl, by simp [World.setRow], fun k hk hn => by simp [World.setRow, Array.getElem?_modify, Ne.symm hn]⟩
end
section
variable {α : Type} {F : List Nat} {w0 w w1 : World} {X k : Nat} {e t : TypeId} {cs : Array Value} {f : α → List Value} {v v' : Value} {xs ys : List α}
/-- a slice that the call has made, and may append to -/
structure OwnR (w0 w : World) (e : TypeId) (k : Nat) (f : α → List Value) (v : Value) (xs : List α) : Prop where
  row : ORow w e k f v xs
  new : ∀ x ∈ ownB v, w0.heap.size ≤ x
theorem OwnR.nil (w0 w : World) (e : TypeId) (k : Nat) (f : α → List Value) : OwnR w0 w e k f (.slice none 0 0) [] := ⟨ORow.nil _ _ _ _, by simp [ownB, Value.ownBlock]⟩
theorem OwnR.ext (h : OwnR w0 w e k f v xs) (hx : Ext w w1) : OwnR w0 w1 e k f v xs := ⟨h.row.low hx, h.new⟩
theorem OwnR.but (h : OwnR w0 w e k f v xs) (hb : But X w w1) (b : Blk w X t cs) (hne : e ≠ t) : OwnR w0 w1 e k f v xs := ⟨h.row.but hb b hne, h.new⟩
theorem OwnR.notin (h : OwnR w0 w e k f v xs) (hX : w.heap.size ≤ X) : X ∉ ownB v := fun hm => by have := h.row.lt (mem_ownB.1 hm); omega
theorem OwnR.but0 (h : OwnR w0 w e k f v xs) (hb : But X w w1) (hn : X ∉ ownB v) : OwnR w0 w1 e k f v xs := ⟨h.row.kept fun x hx => hb.block x (h.row.lt hx) fun e => hn (e ▸ mem_ownB.2 hx), h.new⟩
theorem OwnR.app (h : OwnR w0 w e k f v xs) (E : Only F w0 w) (hA : AppPost w w1 e k f v v' ys) : OwnR w0 w1 e k f v' ys ∧ Only F w0 w1 := by
  refine ⟨⟨hA.row, fun x hx => ?_⟩, E.trans (Only.of_grown (F := ownB v) hA.grown fun b hb => mem_ownB.2 hb) fun x hx => .inr (h.new x hx)⟩
  have hx' := mem_ownB.1 hx
  rcases hA.lies with h1 | h1
  · exact h.new x (mem_ownB.2 (h1 ▸ hx'))
  · rw [h1] at hx'
    injection hx' with hx'
    have := E.size
    omega
theorem Loc.grow (b : Loc F w0 w X t cs) (h : OwnR w0 w e k f v xs) (hA : AppPost w w1 e k f v v' ys) (hne : e ≠ t) : Loc F w0 w1 X t cs :=
  ⟨b.blk.grown hA.grown fun h1 => h.row.ne b.blk hne (mem_ownB.2 h1.symm), b.may⟩
end
section
variable {α : Type} {f : α → List Value} {k bytes : Nat} {P : Program} {w w0 : World} {F : List Nat} {t e : TypeId} {v u z : Value} {xs ys : List α}
theorem wp_own {o : Oper} {a : Act} {K : Act → World → Prop} {Q : Exit → Act → World → Prop} (s x : Operand) (ho : o.op = .call { callee := .builtin .append, args := #[s, x], argTypes := #[t, t] })
    (hi : (P.info? e).map (fun i => (i.zero, i.size, i.bytes)) = some (some z, k, bytes)) (ht : P.underlying t = some (.slice e)) (hzs : z.cells.size = k) (hk0 : 0 < k) (hf : ∀ x, (f x).length = k) (h1 : ∀ x, ∀ c ∈ f x, Value.oneCell' c = true)
    (r : OwnR w0 w e k f v xs) (E : Only F w0 w) (hu : RRow w k f u ys) (hs : a.eval s = v) (hx : a.eval x = u) (h63 : xs.length + ys.length ≤ maxLen) (hb : (xs.length + ys.length) * bytes ≤ 140737488355328)
    (h : ∀ zs, xs ++ ys = zs → zs.length ≤ xs.length + ys.length → ∀ v' w', OwnR w0 w' e k f v' zs → Only F w0 w' → AppPost w w' e k f v v' zs → K (a.put o.dst v') w') : o.wp P a w K Q :=
  wp_app s x ho hi ht hzs hk0 hf h1 v u xs ys hs hx r.row hu h63 hb fun v' w' hA => h _ rfl (by simp) v' w' (r.app E hA).1 (r.app E hA).2 hA
end
section
variable {α : Type} {f : α → List Value} {k : Nat} {P : Program} {w0 w : World} {t e : TypeId} {xs : List α}
theorem flat_put (hf : ∀ x, (f x).length = k) : ∀ (xs : List α) (i : Nat) (y : α), i < xs.length → (xs.flatMap f).take (i * k) ++ f y ++ (xs.flatMap f).drop (i * k + k) = (xs.set i y).flatMap f
  | x :: xs, 0, y, _ => by simp [List.drop_append, hf]
  | x :: xs, i + 1, y, hi => by
    have ih := flat_put hf xs i y (by simpa using hi)
    have e1 : (i + 1) * k = (f x).length + i * k := by rw [hf, Nat.succ_mul]; omega
    rw [List.flatMap_cons, List.set_cons_succ, List.flatMap_cons, e1, List.take_length_add_append, Nat.add_assoc, List.drop_length_add_append, ← ih]
    simp only [List.append_assoc]
theorem take_put {β : Type} (A V : List β) {a N : Nat} (h1 : a + V.length ≤ N) (h2 : N ≤ A.length) : (A.take a ++ V ++ A.drop (a + V.length)).take N = (A.take N).take a ++ V ++ (A.take N).drop (a + V.length) := by
  have e1 : (A.take a).length = a := by rw [List.length_take]; omega
  rw [List.take_append, List.take_append, e1, List.take_take, List.take_take, List.drop_take, List.length_append, e1]
  rw [show min N a = a by omega, show min a N = a by omega, List.take_of_length_le (l := V) (by omega), show N - (a + V.length) = N - (a + V.length) from rfl]
end
section
variable {α : Type} {f : α → List Value} {k : Nat} {F : List Nat} {w0 w w1 : World} {t e : TypeId} {xs : List α} {g n c X : Nat} {cs : Array Value}
theorem OwnR.put (r : OwnR w0 w e k f (.slice (some ⟨g, 0, none⟩) n c) xs) (E : Only F w0 w) (hb : But g w w1) : Only F w0 w1 :=
  E.trans (Only.of_but hb (List.mem_singleton.2 rfl)) fun x hx => .inr (r.new x (by rw [List.mem_singleton.1 hx]; simp [ownB, Value.ownBlock]))
theorem OwnR.ne (r : OwnR w0 w e k f (.slice (some ⟨g, 0, none⟩) n c) xs) (b : Blk w X t cs) (hne : e ≠ t) : X ≠ g := fun h => r.row.ne b hne (by rw [h]; simp [ownB, Value.ownBlock])
theorem OwnR.ofBlk (b : Loc F w0 w X e cs) (hF : F = []) (hf : ∀ x, (f x).length = k) (hc : cs.toList = xs.flatMap f) (hl : xs.length ≤ maxLen) : OwnR w0 w e k f (.slice (some ⟨X, 0, none⟩) xs.length xs.length) xs :=
  ⟨ORow.blk hf b.blk hc hl, fun x hx => by
    have : x = X := by simpa [ownB, Value.ownBlock] using hx
    subst this; subst hF; exact b.ge⟩
end
theorem actL : (∀ (l : List Value) (i : Nat) (v : Value), l.toArray.setIfInBounds i v = (l.set i v).toArray) ∧ (∀ (x : Value) (l : List Value) (v : Value), (x :: l).set 0 v = v :: l) ∧ (∀ (x : Value) (l : List Value) (i : Nat) (v : Value), (x :: l).set (i + 1) v = x :: l.set i v) := ⟨fun _ _ _ => List.setIfInBounds_toArray .., fun _ _ _ => rfl, fun _ _ _ _ => rfl⟩
theorem putL : (∀ (xs : Array Value) (i : Nat) (d : Value), xs.getD i d = xs[i]?.getD d) ∧ (∀ (l : List Value) (i : Nat), l.toArray[i]? = l[i]?) ∧ (∀ (a : Value) (l : List Value) (i : Nat), (a :: l)[i + 1]? = l[i]?) ∧ (∀ (a : Value) (l : List Value), (a :: l)[0]? = some a) ∧ (∀ (a b : Value), (some a).getD b = a) ∧ (∀ l : List Value, l.toArray.toList = l) ∧ (∀ l : List Value, l.toArray.size = l.length) ∧ (∀ (a : Value) (l : List Value), (a :: l).length = l.length + 1) ∧ (([] : List Value).length = 0) ∧ (∀ (a : Value) (l : List Value) (i : Nat), (a :: l).take (i + 1) = a :: l.take i) ∧ (∀ l : List Value, l.take 0 = []) ∧ (∀ (a : Value) (l : List Value) (i : Nat), (a :: l).drop (i + 1) = l.drop i) ∧ (∀ l : List Value, l.drop 0 = l) ∧ (∀ i : Nat, ([] : List Value).drop i = []) ∧ (∀ (a : Value) (l m : List Value), (a :: l) ++ m = a :: (l ++ m)) ∧ (∀ l : List Value, [] ++ l = l) ∧ (∀ l : List Value, l ++ [] = l) :=
  ⟨fun _ _ _ => Array.getD_eq_getD_getElem? .., fun _ _ => List.getElem?_toArray .., fun _ _ _ => List.getElem?_cons_succ .., fun _ _ => List.getElem?_cons_zero .., fun _ _ => rfl, fun _ => rfl, fun _ => rfl, fun _ _ => rfl, rfl, fun _ _ _ => rfl, fun _ => List.take_zero .., fun _ _ _ => rfl, fun _ => rfl, fun _ => List.drop_nil .., fun _ _ _ => rfl, fun _ => rfl, fun _ => List.append_nil ..⟩
end Go.Proofs.Ytnifgkgdphlleaa
set_option linter.unusedSimpArgs false
set_option linter.unusedVariables false
namespace Go.Proofs.Ytnifgkgdphlleaa
open Go.RowKit Tk
section
variable {P : Program} {Q : Exit → Act → World → Prop} {a : Act} {w : World}
theorem wp_region_s {id : Nat} {l : List Oper} (ts is : List Nat) (hm : P.follows .mixedOrders = true) (hB : (canB l.toArray (zipT ts is) && is.all fun i => decide (i < l.length)) = true)
    (h : ∀ K : Act → World → Prop, (∀ a w, Q .normal a w → K a w) → ∀ w', Ext w w' → wpTag P l.toArray Ext K (LetsOut Q) ts (pickL l is) a w') : (Code.region id l.toArray true).wp P Q a w := by
  rw [Bool.and_eq_true] at hB
  refine wp_region_can Ext Ext.refl (fun _ _ _ => Ext.trans) _ hm hB.1 fun K hK => ?_
  rw [pick_eq l is ts fun i hi => by simpa using List.all_eq_true.1 hB.2 i hi]
  exact h K hK _ (Ext.drew w)
theorem wp_region_t2 {id : Nat} {l : List Oper} (is : List Nat) (hm : P.follows .mixedOrders = true) (hB : canB l.toArray (is.map fun i => (0, i)) = true)
    (h : ∀ K : Act → World → Prop, (∀ a w, Q .normal a w → K a w) → ∀ w', Ext w w' → wpTxt P l.toArray K (LetsOut Q) (pickL l is) a w') : (Code.region id l.toArray true).wp P Q a w := wp_region_o is hm hB fun K hK => h K hK _ (Ext.drew w)
theorem at_tag (n : Nat) {ops : Array Oper} {Kp : World → World → Prop} {N : Act → World → Prop} {O : Prop} {ts : List Nat} {l : List Oper} (h : wpTag P ops Kp N O (n :: ts) l a w) : wpTag P ops Kp N O (n :: ts) l a w := h
theorem at_tagn {ops : Array Oper} {Kp : World → World → Prop} {N : Act → World → Prop} {O : Prop} (h : wpTag P ops Kp N O [] [] a w) : wpTag P ops Kp N O [] [] a w := h
theorem at_and {w w' : World} {p : Prop} (h1 : Ext w w') (h2 : p) : Ext w w' ∧ p := ⟨h1, h2⟩
end
section
variable {α : Type} {k : Nat} {f : α → List Value} {F : List Nat} {w w1 : World} {v : Value} {xs : List α}
theorem RRow.only (h : RRow w k f v xs) (E : Only F w w1) (hF : xs.length = 0 ∨ ∀ x ∈ ownB v, x ∉ F) : RRow w1 k f v xs := by
  obtain ⟨ao, cap, e, h1, h2, h3⟩ := h
  refine ⟨ao, cap, e, h1, h2, ?_⟩
  rcases h3 with h3 | ⟨g, o, ho, hg, hc⟩
  · exact .inl h3
  · rcases hF with hF | hF
    · exact .inl hF
    refine .inr ⟨g, o, ho, Nat.lt_of_lt_of_le hg E.size, fun i hi j hj => ?_⟩
    have hn : g ∉ F := hF g (by rw [e, ho]; simp [ownB, Value.ownBlock])
    rw [World.cell?_of_block (w := w) (E.block g hg hn)]
    exact hc i hi j hj
theorem RRow.lt (h : RRow w k f v xs) : xs.length = 0 ∨ ∀ x ∈ ownB v, x < w.heap.size := by
  obtain ⟨ao, cap, rfl, h1, h2, h3 | ⟨g, o, rfl, hg, hc⟩⟩ := h
  · exact .inl h3
  · exact .inr fun x hx => by
      have : x = g := by simpa [ownB, Value.ownBlock] using hx
      rw [this]; exact hg
end
end Go.Proofs.Ytnifgkgdphlleaa
