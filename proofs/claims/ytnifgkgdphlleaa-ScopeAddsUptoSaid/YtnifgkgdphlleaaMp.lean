/- Maps whose keys are strings, as they lie in memory: what lookup and store do. No program in sight. -/
import Derived.Test.YtnifgkgdphlleaaWo
import Derived.WalkKit
import Derived.Laws.NewBlocks
import Derived.MapKept
set_option linter.unusedSimpArgs false
set_option linter.unusedVariables false
namespace Go.Proofs.Ytnifgkgdphlleaa
open Go.RowKit

/-- keys and values, in the order of the entries -/
def entsOf (m : List (ByteArray × Value)) (es : List MapEntry) : Prop := es.map (fun e => (e.key, e.val)) = m.map (fun p => (Value.string p.1, p.2))
def StrMap (w : World) (r : Nat) (m : List (ByteArray × Value)) : Prop :=
  ∃ es clock, w.heap[r]? = some (.map es clock) ∧ entsOf m es.toList ∧ MapKept.Stamped es clock
/-- the first value of a key, and its index -/
def mfind (k : ByteArray) : List (ByteArray × Value) → Nat → Option (Nat × Value)
  | [], _ => none
  | p :: m, i => if k = p.1 then some (i, p.2) else mfind k m (i + 1)
def mget (k : ByteArray) (m : List (ByteArray × Value)) : Option Value := (m.find? fun p => decide (k = p.1)).map (·.2)
def mput (k : ByteArray) (v : Value) : List (ByteArray × Value) → List (ByteArray × Value)
  | [] => [(k, v)]
  | p :: m => if k = p.1 then (k, v) :: m else p :: mput k v m
theorem mfind_get (k : ByteArray) : ∀ (m : List (ByteArray × Value)) (i : Nat), (mfind k m i).map (·.2) = mget k m
  | [], _ => rfl
  | p :: m, i => by
    unfold mfind mget
    by_cases h : k = p.1
    · simp [h]
    · have := mfind_get k m (i + 1)
      simp only [mget] at this
      simp [h, this]
theorem mget_put (k k' : ByteArray) (v : Value) : ∀ m : List (ByteArray × Value), mget k' (mput k v m) = if k' = k then some v else mget k' m
  | [] => by
    by_cases h : k' = k
    · simp [mput, mget, h]
    · simp [mput, mget, h]
  | p :: m => by
    have ih := mget_put k k' v m
    unfold mget at ih ⊢
    unfold mput
    by_cases h : k = p.1
    · rw [if_pos h]
      by_cases h2 : k' = k
      · simp [h2]
      · have h3 : ¬ k' = p.1 := fun h4 => h2 (h4.trans h.symm)
        simp [h2, h3]
    · rw [if_neg h]
      by_cases h2 : k' = p.1
      · have h3 : ¬ k' = k := fun h4 => h (h4.symm.trans h2)
        have h4 : ¬ p.1 = k := fun h5 => h h5.symm
        simp [h2, h4]
      · simp [h2, ih]
theorem mput_len (k : ByteArray) (v : Value) : ∀ m : List (ByteArray × Value), (mput k v m).length = if (mget k m).isSome then m.length else m.length + 1
  | [] => rfl
  | p :: m => by
    have ih := mput_len k v m
    unfold mget at ih ⊢
    unfold mput
    by_cases h : k = p.1
    · simp [h]
    · rw [if_neg h, List.length_cons, ih]
      simp only [List.find?_cons, h, decide_false, List.length_cons]
      split <;> rfl
section
variable {P : Program} {kt et T : TypeId}
theorem find_str (k : ByteArray) : ∀ (m : List (ByteArray × Value)) (es : List MapEntry) (i : Nat), entsOf m es → Instr.findNow .string (.string k) es i = some (mfind k m i)
  | [], [], _, _ => rfl
  | [], _ :: _, _, h => by simp [entsOf] at h
  | _ :: _, [], _, h => by simp [entsOf] at h
  | p :: m, e :: es, i, h => by
    simp only [entsOf, List.map_cons, List.cons.injEq, Prod.mk.injEq] at h
    obtain ⟨⟨h1, h2⟩, h3⟩ := h
    have ih := find_str k m es (i + 1) h3
    unfold Instr.findNow mfind
    rw [h1]
    simp only [Instr.sameNow]
    by_cases hk : k = p.1
    · have : (k == p.1) = true := (MapKept.bytes_beq k p.1).2 hk
      rw [this, if_pos hk, h2]
    · have : (k == p.1) = false := by
        cases hb : k == p.1
        · rfl
        · exact absurd ((MapKept.bytes_beq k p.1).1 hb) hk
      rw [this, if_neg hk]
      exact ih
theorem run_findKey (w : World) (hk : P.underlying kt = some .string) (k : ByteArray) {m : List (ByteArray × Value)} {es : List MapEntry} (h : entsOf m es) : (Instr.findKey kt (.string k) es).run P w = .ok (mfind k m 0) w := by
  unfold Instr.findKey
  rw [Sem.run_bind, run_underlying hk, Result.andThen_ok, find_str k m es 0 h]
  rfl
theorem run_checkKey (w : World) (hk : P.underlying kt = some .string) (em : Bool) (k : ByteArray) : (Instr.checkKey em 10000 kt (.string k)).run P w = .ok () w := by
  unfold Instr.checkKey
  rw [Sem.run_bind, run_underlying hk, Result.andThen_ok]
  rfl
theorem run_getObj_map (w : World) {r : Nat} {es : Array MapEntry} {clock : Nat} (h : w.heap[r]? = some (.map es clock)) : (getObj r).run P w = .ok (.map es clock) w := by
  unfold getObj
  simp [Sem.run, h]
theorem run_lookup_str (w : World) (hT : P.underlying T = some (.map kt et)) (hk : P.underlying kt = some .string) {z : Value} (hz : (zeroValue et).run P w = .ok z w) {r : Nat} {m : List (ByteArray × Value)} (h : StrMap w r m) (k : ByteArray) (ok : Bool) :
    (Instr.lookup T (.map (some r)) (.string k) ok).run P w = .ok (if ok = true then .tuple #[(mget k m).getD z, .bool (mget k m).isSome] else (mget k m).getD z) w := by
  obtain ⟨es, clock, h1, h2, _⟩ := h
  have h3 := mfind_get k m 0
  unfold Instr.lookup
  rw [Sem.run_bind, run_underlying hT, Result.andThen_ok]
  simp only [Sem.run_bind, run_getObj_map w h1, Result.andThen_ok, Sem.run_pure, run_checkKey w hk, run_findKey w hk k h2]
  cases hf : mfind k m 0 with
  | none =>
    rw [hf] at h3
    rw [← h3]
    simp only [Sem.run_bind, hz, Result.andThen_ok, Sem.run_pure]
    cases ok <;> rfl
  | some x =>
    obtain ⟨i, v⟩ := x
    rw [hf] at h3
    rw [← h3]
    cases ok <;> rfl
end
/-- w' is w but for block r, which is a map in both -/
structure MapTurned (r : Nat) (w w' : World) : Prop where
  os : w'.os = w.os
  tape : w'.tape = w.tape
  output : w'.output = w.output
  size : w'.heap.size = w.heap.size
  block : ∀ i, i ≠ r → w'.heap[i]? = w.heap[i]?
theorem MapTurned.but {r : Nat} {w w' : World} (h : MapTurned r w w') : But r w w' := ⟨h.os, h.tape, h.output, Nat.le_of_eq h.size.symm, fun k _ hk => h.block k hk⟩
theorem mfind_at (k : ByteArray) (v v' : Value) : ∀ (m : List (ByteArray × Value)) (i j : Nat), mfind k m i = some (j, v') → i ≤ j ∧ (∃ p, m[j - i]? = some p ∧ p.1 = k) ∧ mput k v m = m.set (j - i) (k, v)
  | [], _, _, h => by cases h
  | p :: m, i, j, h => by
    unfold mfind at h
    unfold mput
    by_cases hk : k = p.1
    · rw [if_pos hk] at h ⊢
      injection h with h
      injection h with h1 h2
      subst h1
      exact ⟨Nat.le_refl _, ⟨p, by simp, hk.symm⟩, by simp⟩
    · rw [if_neg hk] at h ⊢
      obtain ⟨h1, ⟨q, h2, h3⟩, h4⟩ := mfind_at k v v' m (i + 1) j h
      refine ⟨by omega, ⟨q, ?_, h3⟩, ?_⟩
      · rw [show j - i = (j - (i + 1)) + 1 by omega, List.getElem?_cons_succ]; exact h2
      · rw [h4, show j - i = (j - (i + 1)) + 1 by omega, List.set_cons_succ]
theorem mfind_none (k : ByteArray) (v : Value) : ∀ (m : List (ByteArray × Value)) (i : Nat), mfind k m i = none → mput k v m = m ++ [(k, v)]
  | [], _, _ => rfl
  | p :: m, i, h => by
    unfold mfind at h
    unfold mput
    by_cases hk : k = p.1
    · rw [if_pos hk] at h; cases h
    · rw [if_neg hk] at h ⊢
      rw [mfind_none k v m (i + 1) h]
      rfl
theorem mfind_not (k : ByteArray) : ∀ (m : List (ByteArray × Value)) (i : Nat), mfind k m i = none → ∀ p ∈ m, ¬ k = p.1
  | [], _, _, p, hp => by cases hp
  | q :: m, i, h, p, hp => by
    unfold mfind at h
    by_cases hk : k = q.1
    · rw [if_pos hk] at h; cases h
    · rw [if_neg hk] at h
      rcases List.mem_cons.1 hp with rfl | hp
      · exact hk
      · exact mfind_not k m (i + 1) h p hp
theorem sameBits_str (k : ByteArray) : Instr.sameBits 10000 (.string k) (.string k) = true := by
  unfold Instr.sameBits
  exact (MapKept.bytes_beq k k).2 rfl
section
variable {P : Program} {kt et T : TypeId}
theorem run_setObj_map (w : World) {r : Nat} {es : Array MapEntry} {clock : Nat} (h : w.heap[r]? = some (.map es clock)) (o : Obj) : (setObj r o).run P w = .ok () { w with heap := w.heap.setIfInBounds r o } := by
  unfold setObj
  simp [Sem.run, h]
theorem turned_set (w : World) {r : Nat} (hr : r < w.heap.size) (o : Obj) : MapTurned r w { w with heap := w.heap.setIfInBounds r o } ∧ ({ w with heap := w.heap.setIfInBounds r o } : World).heap[r]? = some o := by
  refine ⟨⟨rfl, rfl, rfl, by simp, fun i hi => ?_⟩, ?_⟩
  · simp only [Array.getElem?_setIfInBounds]
    rw [if_neg (fun e => hi e.symm)]
  · simp [Array.getElem?_setIfInBounds, hr]
theorem heap_lt {w : World} {r : Nat} {o : Obj} (h : w.heap[r]? = some o) : r < w.heap.size := by
  rcases Nat.lt_or_ge r w.heap.size with hlt | hge
  · exact hlt
  · rw [Array.getElem?_eq_none hge] at h; cases h
theorem run_update_str (w : World) (hT : P.underlying T = some (.map kt et)) (hk : P.underlying kt = some .string) {r : Nat} {m : List (ByteArray × Value)} (h : StrMap w r m) (k : ByteArray) (v : Value) :
    ∃ w', (Instr.mapUpdate T (.map (some r)) (.string k) v).run P w = .ok () w' ∧ StrMap w' r (mput k v m) ∧ MapTurned r w w' := by
  obtain ⟨es, clock, h1, h2, h3⟩ := h
  have hr := heap_lt h1
  unfold Instr.mapUpdate
  simp only [Sem.run_bind, run_underlying hT, Result.andThen_ok, run_getObj_map w h1, run_checkKey w hk, run_findKey w hk k h2]
  cases hf : mfind k m 0 with
  | none =>
    obtain ⟨t1, t2⟩ := turned_set w hr (.map (es.push { key := .string k, val := v, born := clock }) (clock + 1))
    refine ⟨_, run_setObj_map w h1 _, ⟨_, _, t2, ?_, MapKept.stamped_push h3 fun x hx => ?_⟩, t1⟩
    · rw [mfind_none k v m 0 hf]
      unfold entsOf at h2 ⊢
      simp [h2]
    · intro he
      have hmem : (x.key, x.val) ∈ m.map (fun p => (Value.string p.1, p.2)) := by rw [← h2]; exact List.mem_map.2 ⟨x, hx, rfl⟩
      obtain ⟨p, hp, e1⟩ := List.mem_map.1 hmem
      injection e1 with e1 e2
      rw [he] at e1
      injection e1 with e1
      exact mfind_not k m 0 hf p hp e1.symm
  | some x =>
    obtain ⟨i, v0⟩ := x
    obtain ⟨_, ⟨p, g2, g3⟩, g4⟩ := mfind_at k v v0 m 0 i hf
    rw [Nat.sub_zero] at g2 g4
    have hlen : es.toList.length = m.length := by
      have := congrArg List.length h2
      simpa using this
    have hi : i < m.length := by
      rcases Nat.lt_or_ge i m.length with hlt | hge
      · exact hlt
      · rw [List.getElem?_eq_none hge] at g2; cases g2
    have hie : i < es.size := by rw [Array.length_toList] at hlen; omega
    have hkey : (es[i]'hie).key = .string k := by
      have := congrArg (fun l => l[i]?) h2
      simp only [List.getElem?_map, g2, Option.map_some] at this
      rw [Array.getElem?_toList, Array.getElem?_eq_getElem hie] at this
      simp only [Option.map_some, Option.some.injEq, Prod.mk.injEq] at this
      rw [this.1, g3]
    have hstay : (Instr.keyThatStays (((es[i]?).map (·.key)).getD (.string k)) (.string k)).run P w = .ok (.string k) w := by
      rw [Array.getElem?_eq_getElem hie]
      simp only [Option.map_some, Option.getD_some, hkey]
      unfold Instr.keyThatStays
      rw [if_pos (sameBits_str k)]
      rfl
    simp only [Sem.run_bind, hstay, Result.andThen_ok]
    obtain ⟨t1, t2⟩ := turned_set w hr (.map (es.modify i fun e => { e with key := .string k, val := v }) clock)
    refine ⟨_, run_setObj_map w h1 _, ⟨_, _, t2, ?_, MapKept.stamped_modify h3 _ _ (fun e _ => rfl) fun e _ he => ?_⟩, t1⟩
    · rw [g4]
      unfold entsOf at h2 ⊢
      apply List.ext_getElem?
      intro j
      have hj := congrArg (fun l => l[j]?) h2
      simp only [List.getElem?_map, Array.getElem?_toList, Array.getElem?_modify, List.getElem?_set] at hj ⊢
      by_cases hij : i = j
      · subst hij
        rw [if_pos rfl, if_pos rfl, if_pos hi, Array.getElem?_eq_getElem hie]
        rfl
      · rw [if_neg hij, if_neg hij]
        exact hj
    · rw [Array.getElem?_eq_getElem hie] at he
      injection he with he
      rw [← he, hkey]
end
theorem StrMap.of {w w' : World} {r : Nat} {m : List (ByteArray × Value)} (h : StrMap w r m) (he : w'.heap[r]? = w.heap[r]?) : StrMap w' r m := by
  obtain ⟨es, clock, h1, h2⟩ := h
  exact ⟨es, clock, he.trans h1, h2⟩
theorem StrMap.lt {w : World} {r : Nat} {m : List (ByteArray × Value)} (h : StrMap w r m) : r < w.heap.size := by
  obtain ⟨es, clock, h1, _⟩ := h
  exact heap_lt h1
theorem StrMap.low {w w' : World} {r : Nat} {m : List (ByteArray × Value)} (h : StrMap w r m) (hb : Below w.heap.size w w') : StrMap w' r m := h.of (hb.block r h.lt)
theorem StrMap.but {w w' : World} {r b : Nat} {m : List (ByteArray × Value)} (h : StrMap w r m) (hb : But b w w') (hn : r ≠ b) : StrMap w' r m := h.of (hb.block r h.lt hn)
theorem StrMap.made (w : World) : StrMap (w.alloc (.map #[] 0)) w.heap.size [] :=
  ⟨#[], 0, (MapKept.heap_alloc w _).1, rfl, MapKept.stamped_empty 0⟩

/-! ### going through a map -/
/-- block it goes through the map r, which still has these entries to come -/
def MIter (w : World) (it r : Nat) (left : List (ByteArray × Value)) : Prop :=
  ∃ (es : Array MapEntry) (clock since : Nat) (seen : Array Nat) (last : Nat), w.heap[r]? = some (.map es clock) ∧ w.heap[it]? = some (.mapIter (some r) since seen last) ∧ MapKept.Stamped es clock ∧ (∀ e ∈ es.toList, e.born < since ∧ e.born < last) ∧
    entsOf left (es.toList.filter fun e => !seen.contains e.born)
/-- behind a step: p is the entry at which it stands -/
def MAt (w : World) (it r : Nat) (p : ByteArray × Value) (left : List (ByteArray × Value)) : Prop :=
  ∃ (es : Array MapEntry) (clock since : Nat) (seen : Array Nat), w.heap[r]? = some (.map es clock) ∧ w.heap[it]? = some (.mapIter (some r) since seen clock) ∧ MapKept.Stamped es clock ∧ (∀ e ∈ es.toList, e.born < since ∧ e.born < clock) ∧
    entsOf left (es.toList.filter fun e => !seen.contains e.born) ∧ ∃ e ∈ es.toList, seen.back? = some e.born ∧ e.key = .string p.1 ∧ e.val = p.2
theorem MAt.iter {w : World} {it r : Nat} {p : ByteArray × Value} {left : List (ByteArray × Value)} (h : MAt w it r p left) : MIter w it r left := by
  obtain ⟨es, clock, since, seen, h1, h2, h3, h4, h5, _⟩ := h
  exact ⟨es, clock, since, seen, clock, h1, h2, h3, h4, h5⟩
theorem MAt.of {w w' : World} {it r : Nat} {p : ByteArray × Value} {left : List (ByteArray × Value)} (h : MAt w it r p left) (hr : w'.heap[r]? = w.heap[r]?) (hi : w'.heap[it]? = w.heap[it]?) : MAt w' it r p left := by
  obtain ⟨es, clock, since, seen, h1, h2, h3⟩ := h
  exact ⟨es, clock, since, seen, hr.trans h1, hi.trans h2, h3⟩
theorem MIter.of {w w' : World} {it r : Nat} {left : List (ByteArray × Value)} (h : MIter w it r left) (hr : w'.heap[r]? = w.heap[r]?) (hi : w'.heap[it]? = w.heap[it]?) : MIter w' it r left := by
  obtain ⟨es, clock, since, seen, last, h1, h2, h3⟩ := h
  exact ⟨es, clock, since, seen, last, hr.trans h1, hi.trans h2, h3⟩
theorem MIter.lt {w : World} {it r : Nat} {left : List (ByteArray × Value)} (h : MIter w it r left) : it < w.heap.size ∧ r < w.heap.size ∧ it ≠ r := by
  obtain ⟨es, clock, since, seen, last, h1, h2, h3⟩ := h
  refine ⟨heap_lt h2, heap_lt h1, ?_⟩
  rintro rfl
  rw [h1] at h2
  cases h2
/-- how many entries are to come -/
def remains (w : World) (it : Nat) : Nat :=
  match w.heap[it]? with
  | some (.mapIter (some r) _ seen _) => match w.heap[r]? with
    | some (.map es _) => (es.toList.filter fun e => !seen.contains e.born).length
    | _ => 0
  | _ => 0
theorem MIter.remains {w : World} {it r : Nat} {left : List (ByteArray × Value)} (h : MIter w it r left) : remains w it = left.length := by
  obtain ⟨es, clock, since, seen, last, h1, h2, h3, h4, h5⟩ := h
  unfold Go.Proofs.Ytnifgkgdphlleaa.remains
  rw [h2]
  simp only [h1]
  have := congrArg List.length h5
  simpa using this
theorem mget_mem {k : ByteArray} {v : Value} : ∀ {m : List (ByteArray × Value)}, (m.map (·.1)).Nodup → (mget k m = some v ↔ (k, v) ∈ m)
  | [], _ => by simp [mget]
  | p :: m, hn => by
    simp only [List.map_cons, List.nodup_cons] at hn
    have ih := mget_mem (k := k) (v := v) hn.2
    unfold mget at ih ⊢
    rw [List.find?_cons, List.mem_cons]
    by_cases h : k = p.1
    · subst h
      simp only [decide_true, Option.map_some, Option.some.injEq]
      constructor
      · intro e; left; rw [← e]
      · rintro (e | e)
        · rw [← e]
        · exact absurd (List.mem_map.2 ⟨_, e, rfl⟩) hn.1
    · simp only [h, decide_false]
      rw [ih]
      constructor
      · exact .inr
      · rintro (e | e)
        · exact absurd (by rw [← e]) h
        · exact e
theorem mget_perm {k : ByteArray} {l m : List (ByteArray × Value)} (hp : l.Perm m) (hn : (m.map (·.1)).Nodup) : mget k l = mget k m := by
  have hl : (l.map (·.1)).Nodup := (hp.map _).nodup_iff.2 hn
  cases h : mget k m with
  | some v => exact (mget_mem hl).2 (hp.mem_iff.2 ((mget_mem hn).1 h))
  | none =>
    cases h2 : mget k l with
    | none => rfl
    | some v =>
      have := (mget_mem hn).2 (hp.mem_iff.1 ((mget_mem hl).1 h2))
      rw [h] at this; cases this
theorem erase_perm {α : Type} : ∀ (l : List α) (i : Nat) (hi : i < l.length), (l[i] :: l.eraseIdx i).Perm l
  | x :: l, 0, _ => List.Perm.refl _
  | x :: l, i + 1, hi => (List.Perm.swap x (l[i]'(by simpa using hi)) _).trans ((erase_perm l i (by simpa using hi)).cons x)
theorem mput_new {k : ByteArray} {v : Value} {m : List (ByteArray × Value)} (h : k ∉ m.map (·.1)) : mput k v m = m ++ [(k, v)] := by
  induction m with
  | nil => rfl
  | cons p m ih =>
    simp only [List.map_cons, List.mem_cons, not_or] at h
    simp only [mput, if_neg h.1, ih h.2, List.cons_append]
section
variable {P : Program}
theorem run_getObj_iter (w : World) {r : Nat} {o : Obj} (h : w.heap[r]? = some o) (hn : ∀ c e f, o ≠ .cells c e f) : (getObj r).run P w = .ok o w := by
  unfold getObj
  simp only [Sem.run, h]
theorem run_setObj_any (w : World) {r : Nat} {o : Obj} (h : w.heap[r]? = some o) (hn : ∀ c e f, o ≠ .cells c e f) (o' : Obj) : (setObj r o').run P w = .ok () { w with heap := w.heap.setIfInBounds r o' } := by
  unfold setObj
  simp only [Sem.run, h]
theorem map_erase {α β : Type} (f : α → β) : ∀ (l : List α) (i : Nat), (l.eraseIdx i).map f = (l.map f).eraseIdx i
  | [], _ => rfl
  | _ :: _, 0 => rfl
  | x :: l, i + 1 => by simp only [List.eraseIdx_cons_succ, List.map_cons, map_erase f l i]
theorem filter_erase {α : Type} (f : α → Nat) : ∀ (l : List α) (i : Nat) (hi : i < l.length), (l.map f).Nodup → l.filter (fun e => !(f e == f l[i])) = l.eraseIdx i
  | x :: l, 0, _, hn => by
    simp only [List.map_cons, List.nodup_cons] at hn
    simp only [List.getElem_cons_zero, List.eraseIdx_cons_zero]
    rw [List.filter_cons_of_neg (by simp), List.filter_eq_self]
    intro e he
    have : f e ≠ f x := fun h => hn.1 (h ▸ List.mem_map.2 ⟨e, he, rfl⟩)
    simpa using this
  | x :: l, i + 1, hi, hn => by
    simp only [List.map_cons, List.nodup_cons] at hn
    have hi' : i < l.length := by simpa using hi
    have : f x ≠ f l[i] := fun h => hn.1 (h ▸ List.mem_map.2 ⟨l[i], List.getElem_mem hi', rfl⟩)
    simp only [List.getElem_cons_succ, List.eraseIdx_cons_succ]
    rw [List.filter_cons_of_pos (by simpa using this), filter_erase f l i hi' hn.2]
theorem nodup_inj {α : Type} (f : α → Nat) : ∀ (l : List α), (l.map f).Nodup → ∀ x ∈ l, ∀ y ∈ l, f x = f y → x = y
  | [], _, x, hx, _, _, _ => by cases hx
  | a :: l, hn, x, hx, y, hy, e => by
    simp only [List.map_cons, List.nodup_cons] at hn
    rcases List.mem_cons.1 hx with rfl | hx' <;> rcases List.mem_cons.1 hy with rfl | hy'
    · rfl
    · exact absurd (List.mem_map.2 ⟨y, hy', e.symm⟩) hn.1
    · exact absurd (List.mem_map.2 ⟨x, hx', e⟩) hn.1
    · exact nodup_inj f l hn.2 x hx' y hy' e
theorem contains_push (a : Array Nat) (b x : Nat) : (a.push b).contains x = (a.contains x || x == b) := by
  rw [Bool.eq_iff_iff]
  simp [Array.contains_iff_mem, Array.mem_push]
theorem filter_born {es : Array MapEntry} {since : Nat} {seen : Array Nat} (h : ∀ e ∈ es.toList, e.born < since) :
    ((es.filter fun e => !seen.contains e.born).filter fun e => decide (e.born < since)) = es.filter (fun e => !seen.contains e.born) ∧ ((es.filter fun e => !seen.contains e.born).filter fun e => decide (e.born ≥ since)) = #[] := by
  constructor
  · rw [Array.filter_eq_self]
    intro e he
    have := (Array.mem_filter.1 he).1
    simpa using h e (Array.mem_toList_iff.2 this)
  · rw [Array.filter_eq_empty_iff]
    intro e he
    have := (Array.mem_filter.1 he).1
    have := h e (Array.mem_toList_iff.2 this)
    simp; omega
theorem run_next_end (w : World) {it r : Nat} (ty : TypeId) (h : MIter w it r []) : (Instr.next (.pointer (some ⟨it, 0, none⟩)) false ty).run P w = .ok (.tuple #[.bool false]) w := by
  obtain ⟨es, clock, since, seen, last, h1, h2, h3, h4, h5⟩ := h
  have hl : es.filter (fun e => !seen.contains e.born) = #[] := by
    have : (es.filter (fun e => !seen.contains e.born)).toList = [] := by
      rw [Array.toList_filter]
      unfold entsOf at h5
      simpa using h5
    simpa using this
  obtain ⟨f1, f2⟩ := filter_born (es := es) (since := since) (seen := seen) fun e he => (h4 e he).1
  have hall : (!seen.isEmpty && !es.isEmpty && es.all fun e => decide (e.born ≥ last)) = false := by
    cases hes : es.isEmpty with
    | true => simp
    | false =>
      simp only [Bool.not_false, Bool.and_true, Bool.and_eq_false_iff]
      right
      have hne : es ≠ #[] := by intro e; subst e; simp at hes
      obtain ⟨x, hx⟩ := Array.exists_mem_of_ne_empty es hne
      cases ha : es.all fun e => decide (e.born ≥ last) with
      | false => rfl
      | true =>
        have h6 := Array.all_eq_true_iff_forall_mem.1 ha x hx
        have h7 := (h4 x (Array.mem_toList_iff.2 hx)).2
        simp at h6
        omega
  unfold Instr.next
  simp only [Sem.run_bind, run_getObj_iter w h2 (by intro _ _ _ h; cases h), Result.andThen_ok, run_getObj_map w h1, hall, Bool.false_eq_true, if_false, hl]
  simp [choose, Sem.run, Question.forced]
/-- the next entry: any one of those to come -/
theorem run_next_some (w : World) {it r : Nat} {left : List (ByteArray × Value)} (h : MIter w it r left) (hne : left ≠ []) :
    ∃ (i : Nat) (hi : i < left.length) (w' : World), (∀ ty : TypeId, (Instr.next (.pointer (some ⟨it, 0, none⟩)) false ty).run P w = .ok (.tuple #[.bool true, .string left[i].1, left[i].2]) w') ∧ MAt w' it r left[i] (left.eraseIdx i) ∧ MapTurned it w w' := by
  obtain ⟨es, clock, since, seen, last, h1, h2, h3, h4, h5⟩ := h
  obtain ⟨f1, f2⟩ := filter_born (es := es) (since := since) (seen := seen) fun e he => (h4 e he).1
  obtain ⟨L, hL⟩ : ∃ L, es.filter (fun e => !seen.contains e.born) = L := ⟨_, rfl⟩
  have hLl : L.toList = es.toList.filter fun e => !seen.contains e.born := by rw [← hL, Array.toList_filter]
  rw [← hLl] at h5
  rw [hL] at f1 f2
  have hsz : L.size = left.length := by
    have := congrArg List.length h5
    simpa using this
  have hpos : 0 < L.size := by rw [hsz]; exact List.length_pos_iff.2 hne
  have hLe : L.isEmpty = false := by
    cases hb : L.isEmpty with
    | false => rfl
    | true => rw [Array.isEmpty_iff] at hb; rw [hb] at hpos; simp at hpos
  have hall : (!seen.isEmpty && !es.isEmpty && es.all fun e => decide (e.born ≥ last)) = false := by
    cases hes : es.isEmpty with
    | true => simp
    | false =>
      simp only [Bool.not_false, Bool.and_true, Bool.and_eq_false_iff]
      right
      have hne : es ≠ #[] := by intro e; subst e; simp at hes
      obtain ⟨x, hx⟩ := Array.exists_mem_of_ne_empty es hne
      cases ha : es.all fun e => decide (e.born ≥ last) with
      | false => rfl
      | true =>
        have h6 := Array.all_eq_true_iff_forall_mem.1 ha x hx
        have h7 := (h4 x (Array.mem_toList_iff.2 hx)).2
        simp at h6
        omega
  have hit : it < w.heap.size := heap_lt h2
  -- the index that is drawn
  obtain ⟨i, w1, hi, hch, hheap⟩ : ∃ (i : Nat) (w1 : World), i < L.size ∧ (choose (.mapNext L.size)).run P w = .ok i w1 ∧ (w1.heap = w.heap ∧ w1.os = w.os ∧ w1.tape = w.tape ∧ w1.output = w.output) := by
    by_cases hf : L.size ≤ 1
    · exact ⟨0, w, hpos, by simp [choose, Sem.run, Question.forced, hf], rfl, rfl, rfl, rfl⟩
    · exact ⟨w.tape w.drawn (.mapNext L.size) % L.size, { w with drawn := w.drawn + 1 }, Nat.mod_lt _ hpos, by simp [choose, Sem.run, Question.forced, hf, Question.cut], rfl, rfl, rfl, rfl⟩
  have hil : i < left.length := by rw [← hsz]; exact hi
  have hkey : (L[i]'hi).key = .string left[i].1 ∧ (L[i]'hi).val = left[i].2 := by
    have := congrArg (fun l => l[i]?) h5
    simp only [List.getElem?_map, Array.getElem?_toList, Array.getElem?_eq_getElem hi, List.getElem?_eq_getElem hil, Option.map_some, Option.some.injEq, Prod.mk.injEq] at this
    exact this
  refine ⟨i, hil, { w1 with heap := w1.heap.setIfInBounds it (.mapIter (some r) since (seen.push (L[i]'hi).born) clock) }, ?_, ?_, ?_⟩
  · intro ty
    unfold Instr.next
    simp only [Sem.run_bind, run_getObj_iter w h2 (by intro _ _ _ h; cases h), Result.andThen_ok, run_getObj_map w h1, hall, Bool.false_eq_true, if_false, hL, f1, f2]
    have hc : ((if L.isEmpty = true then #[none] else #[]) ++ Array.map some (L ++ #[])) = L.map some := by rw [hLe]; simp
    rw [hc, Array.size_map, hch]
    simp only [Result.andThen_ok, Array.getElem?_map, Array.getElem?_eq_getElem hi, Option.map_some, Sem.run_bind]
    rw [run_setObj_any w1 (o := .mapIter (some r) since seen last) (by rw [hheap.1]; exact h2) (by intro _ _ _ h; cases h)]
    simp only [Result.andThen_ok, Sem.run_pure, hkey.1, hkey.2]
  · have hrn : r ≠ it := by
      intro e
      rw [e] at h1
      rw [h1] at h2
      cases h2
    have hmem : L[i]'hi ∈ es.toList := by
      have h8 : ∀ x ∈ L, x ∈ es := fun x hx => by rw [← hL] at hx; exact (Array.mem_filter.1 hx).1
      exact Array.mem_toList_iff.2 (h8 _ (Array.getElem_mem hi))
    refine ⟨es, clock, since, seen.push (L[i]'hi).born, ?_, ?_, h3, fun e he => ⟨(h4 e he).1, h3.1 e he⟩, ?_, L[i]'hi, hmem, by simp, hkey.1, hkey.2⟩
    · simp only [Array.getElem?_setIfInBounds, hheap.1]
      rw [if_neg (fun e => hrn e.symm)]
      exact h1
    · simp [Array.getElem?_setIfInBounds, hheap.1, hit]
    · unfold entsOf
      have hborn := h3.2.1
      have hLn : (L.toList.map (·.born)).Nodup := by
        rw [hLl]; exact (List.filter_sublist.map _).nodup hborn
      have e1 : (es.toList.filter fun e => !(seen.push (L[i]'hi).born).contains e.born) = L.toList.eraseIdx i := by
        have e2 : (es.toList.filter fun e => !(seen.push (L[i]'hi).born).contains e.born) = L.toList.filter fun e => !(e.born == (L[i]'hi).born) := by
          rw [hLl, List.filter_filter]
          apply List.filter_congr
          intro e _
          rw [contains_push, Bool.not_or, Bool.and_comm]
        rw [e2]
        have hi2 : i < L.toList.length := by simpa using hi
        have := filter_erase (fun e : MapEntry => e.born) L.toList i hi2 hLn
        simpa using this
      rw [e1, map_erase, h5, ← map_erase]
  · refine ⟨hheap.2.1, hheap.2.2.1, hheap.2.2.2, by simp [hheap.1], fun j hj => ?_⟩
    simp only [Array.getElem?_setIfInBounds, hheap.1]
    rw [if_neg (fun e => hj e.symm)]
theorem run_entry (w : World) {it r : Nat} {p : ByteArray × Value} {left : List (ByteArray × Value)} (h : MAt w it r p left) : (Instr.entry (.pointer (some ⟨it, 0, none⟩))).run P w = .ok (.tuple #[.string p.1, p.2]) w := by
  obtain ⟨es, clock, since, seen, h1, h2, h3, h4, h5, e, he, hb, hk, hv⟩ := h
  have hf : es.find? (fun x => x.born == e.born) = some e := by
    have hn := h3.2.1
    cases hq : es.find? (fun x => x.born == e.born) with
    | none =>
      have := Array.find?_eq_none.1 hq e (Array.mem_toList_iff.1 he)
      simp at this
    | some x =>
      have h6 := Array.find?_some hq
      have h7 := Array.mem_of_find?_eq_some hq
      have h8 : x.born = e.born := by simpa using h6
      have : x = e := nodup_inj MapEntry.born es.toList hn x (Array.mem_toList_iff.2 h7) e he h8
      rw [this]
  unfold Instr.entry
  simp only [Sem.run_bind, run_getObj_iter w h2 (by intro _ _ _ h; cases h), Result.andThen_ok, hb, run_getObj_map w h1, bne_self_eq_false, Bool.false_eq_true, if_false, hf, Sem.run_pure, hk, hv]
theorem run_range_map (w : World) {T kt et : TypeId} (hT : P.underlying T = some (.map kt et)) {r : Nat} {m : List (ByteArray × Value)} (h : StrMap w r m) :
    ∃ w', (Instr.range T (.map (some r))).run P w = .ok (.pointer (some ⟨w.heap.size, 0, none⟩)) w' ∧ MIter w' w.heap.size r m ∧ Below w.heap.size w w' ∧ w'.heap.size = w.heap.size + 1 := by
  obtain ⟨es, clock, h1, h2, h3⟩ := h
  refine ⟨w.alloc (.mapIter (some r) clock #[] clock), ?_, ?_, (Below.refl _ _).alloc (Nat.le_refl _) _, by simp⟩
  · unfold Instr.range
    rw [Sem.run_bind, run_underlying hT]
    simp [Sem.run_bind, run_getObj_map w h1, Sem.run_pure, newObj, Sem.run]
  · refine ⟨es, clock, clock, #[], clock, ?_, ?_, h3, fun e he => ⟨h3.1 e he, h3.1 e he⟩, ?_⟩
    · exact (Below.heap_alloc w _ r (heap_lt h1)).trans h1
    · exact (MapKept.heap_alloc w _).1
    · have : (es.toList.filter fun e => !(#[] : Array Nat).contains e.born) = es.toList := by
        rw [List.filter_eq_self]; intro a _; simp
      rw [this]; exact h2
end
end Go.Proofs.Ytnifgkgdphlleaa
