/- Tables of names: what they hold (plain), and how they lie in memory. -/
import Derived.Test.YtjpgnadfbejihaaMp
import Derived.Test.YtjpgnadfbejihaaId
import Derived.Maps.AppendAt
set_option linter.unusedSimpArgs false
set_option linter.unusedVariables false
namespace Go.Proofs.Ytjpgnadfbejihaa
open Go.RowKit Tk

/-! ### plain -/
structure TS where
  lim : Int
  names : List ByteArray
  als : List (ByteArray × Int)
def numb : List ByteArray → Nat → List (ByteArray × Int)
  | [], _ => []
  | x :: l, i => (x, (i : Int)) :: numb l (i + 1)
def look (k : ByteArray) (l : List (ByteArray × Int)) : Option Int := (l.find? fun p => decide (k = p.1)).map (·.2)
def TS.find (T : TS) (k : ByteArray) : Option Int := look k (numb T.names 0 ++ T.als)
def idB (s : ByteArray) : Bool := nameB s.data.toList && !kwB s.data.toList
def TS.add (T : TS) (s : ByteArray) : TS × Int × Int :=
  if idB s = false then (T, 0, 10) else if (T.find s).isSome = true then (T, 0, 12) else if T.lim ≤ T.names.length then (T, 0, 25)
  else ({ T with names := T.names ++ [s] }, T.names.length, 0)
def TS.also (T : TS) (s : ByteArray) (n : Int) : TS × Int :=
  if idB s = false then (T, 10) else if n < 0 ∨ (T.names.length : Int) ≤ n then (T, 3) else if (T.find s).isSome = true then (T, 12) else if 4096 ≤ T.als.length then (T, 25)
  else ({ T with als := T.als ++ [(s, n)] }, 0)
def TS.name (T : TS) (n : Int) : Option ByteArray := if n < 0 then none else T.names[n.toNat]?
structure TS.ok (T : TS) : Prop where
  lo : 0 ≤ T.lim
  hi : T.lim ≤ 4096
  len : (T.names.length : Int) ≤ T.lim
  als : T.als.length ≤ 4096
theorem look_app (k : ByteArray) (a b : List (ByteArray × Int)) : look k (a ++ b) = (look k a).or (look k b) := by
  unfold look; rw [List.find?_append]; cases a.find? (fun p => decide (k = p.1)) <;> rfl
theorem look_one (k s : ByteArray) (n : Int) : look k [(s, n)] = if k = s then some n else none := by
  unfold look; by_cases h : k = s <;> simp [h]
theorem numb_app (a b : List ByteArray) : ∀ i, numb (a ++ b) i = numb a i ++ numb b (i + a.length) := by
  induction a with
  | nil => intro i; rfl
  | cons x a ih => intro i; simp only [List.cons_append, numb, ih, List.length_cons]; rw [show i + 1 + a.length = i + (a.length + 1) by omega]
theorem find_added (T : TS) (s k : ByteArray) (h : T.find s = none) : ({ T with names := T.names ++ [s] } : TS).find k = if k = s then some (T.names.length : Int) else T.find k := by
  unfold TS.find at h ⊢
  rw [look_app] at h ⊢
  rw [look_app]
  simp only [numb_app, look_app, numb, look_one, Nat.zero_add]
  by_cases hk : k = s
  · subst hk
    cases h1 : look k (numb T.names 0) with
    | some x => rw [h1] at h; cases h
    | none => simp
  · simp only [if_neg hk]; cases look k (numb T.names 0) <;> rfl
theorem find_also (T : TS) (s k : ByteArray) (n : Int) (h : T.find s = none) : ({ T with als := T.als ++ [(s, n)] } : TS).find k = if k = s then some n else T.find k := by
  unfold TS.find at h ⊢
  rw [← List.append_assoc, look_app, look_one]
  by_cases hk : k = s
  · subst hk; rw [h]; simp
  · simp only [if_neg hk]; cases look k (numb T.names 0 ++ T.als) <;> rfl
theorem TS.ok.add {T : TS} (h : T.ok) (s : ByteArray) : (T.add s).1.ok := by
  unfold TS.add
  split
  · exact h
  · split
    · exact h
    · split
      · exact h
      · refine ⟨h.lo, h.hi, ?_, h.als⟩
        show (((T.names ++ [s]).length : Nat) : Int) ≤ T.lim
        rw [List.length_append]; simp; omega
theorem TS.ok.also {T : TS} (h : T.ok) (s : ByteArray) (n : Int) : (T.also s n).1.ok := by
  unfold TS.also
  split
  · exact h
  · split
    · exact h
    · split
      · exact h
      · split
        · exact h
        · refine ⟨h.lo, h.hi, h.len, ?_⟩
          show (T.als ++ [(s, n)]).length ≤ 4096
          rw [List.length_append]; simp; omega

/-! ### memory -/
/-- all blocks but those of F are as they were -/
structure Only (F : List Nat) (w w' : World) : Prop where
  os : w'.os = w.os
  tape : w'.tape = w.tape
  output : w'.output = w.output
  size : w.heap.size ≤ w'.heap.size
  block : ∀ k, k < w.heap.size → k ∉ F → w'.heap[k]? = w.heap[k]?
section
variable {F F' : List Nat} {w w1 w2 : World}
theorem Only.refl (F : List Nat) (w : World) : Only F w w := ⟨rfl, rfl, rfl, Nat.le_refl _, fun _ _ _ => rfl⟩
theorem Only.trans (h : Only F w w1) (k : Only F' w1 w2) (hF : ∀ x ∈ F', x ∈ F ∨ w.heap.size ≤ x) : Only F w w2 :=
  ⟨k.os.trans h.os, k.tape.trans h.tape, k.output.trans h.output, Nat.le_trans h.size k.size, fun i hi hn => (k.block i (Nat.lt_of_lt_of_le hi h.size) fun hm => by
    rcases hF i hm with h1 | h1
    · exact hn h1
    · omega).trans (h.block i hi hn)⟩
theorem Only.then_ (h : Only F w w1) (k : Only F w1 w2) : Only F w w2 := h.trans k fun _ hx => .inl hx
theorem Only.mono (h : Only F w w1) (hF : ∀ x ∈ F, x ∈ F' ∨ w.heap.size ≤ x) : Only F' w w1 := (Only.refl F' w).trans h hF
theorem Only.of_below (h : Below w.heap.size w w1) : Only F w w1 := ⟨h.os, h.tape, h.output, h.size, fun k hk _ => h.block k hk⟩
theorem Only.of_but {b : Nat} (h : But b w w1) (hb : b ∈ F) : Only F w w1 := ⟨h.os, h.tape, h.output, h.size, fun k hk hn => h.block k hk fun e => hn (e ▸ hb)⟩
theorem Only.of_grown {r : Option Nat} (h : w.grownBy w1 r) (hr : ∀ b, r = some b → b ∈ F) : Only F w w1 :=
  ⟨h.os, h.tape, h.output, h.size, fun k hk hn => h.block k hk fun e => hn (hr k e.symm)⟩
theorem Only.below {B : Nat} (h : Only F w w1) (hF : ∀ x ∈ F, B ≤ x) (hB : B ≤ w.heap.size) : Below B w w1 :=
  ⟨h.os, h.tape, h.output, h.size, fun k hk => h.block k (by omega) fun hm => by have := hF k hm; omega⟩
theorem Only.grown (h : Only F w w1) (hF : F = []) : Below w.heap.size w w1 := h.below (by simp [hF]) (Nat.le_refl _)
end
def ownB (v : Value) : List Nat := v.ownBlock.toList
/-- a slice that owns its row of strings -/
def Row (w : World) (v : Value) (xs : List ByteArray) : Prop := w.ownsRow 0 9 1 v xs.length (xs.map Value.string)
section
variable {F F' : List Nat} {w w1 w2 : World} {v : Value} {xs : List ByteArray}
theorem Row.lt (h : Row w v xs) : ∀ x ∈ ownB v, x < w.heap.size := fun x hx => by
  have : v.ownBlock = some x := by simpa [ownB] using hx
  exact (World.ownsRow.lt h x this).2
theorem Row.len (h : Row w v xs) : ∃ ao cap, v = .slice ao xs.length cap ∧ xs.length ≤ cap ∧ cap ≤ maxLen := by
  rcases h.2 with ⟨e, hn⟩ | ⟨g, cap, cur, e, hb, hgg, h1, h2, h3⟩
  · exact ⟨none, 0, by rw [e, hn], by omega, by decide⟩
  · exact ⟨_, cap, e, h1, h2⟩
theorem Row.at (h : Row w v xs) (h0 : 0 < xs.length) : ∃ g cap, v = .slice (some ⟨g, 0, none⟩) xs.length cap ∧ xs.length ≤ cap ∧ cap ≤ maxLen ∧ ∀ i (hi : i < xs.length), w.cell? ⟨g, i, none⟩ = some (.string xs[i]) := by
  rcases h.2 with ⟨e, hn⟩ | ⟨g, cap, cur, e, hb, hgg, h1, h2, h3⟩
  · omega
  · subst e
    refine ⟨g, cap, rfl, h1, h2, fun i hi => ?_⟩
    have := World.ownsRow.cellAt (w := w) (base := 0) (e := 9) (size := 1) (g := g) (n := xs.length) (cap := cap) (xs := xs.map Value.string) h i (by omega)
    rw [this]; simp [hi]
theorem Row.kept (h : Row w v xs) (hk : ∀ x ∈ ownB v, w1.heap[x]? = w.heap[x]?) : Row w1 v xs := by
  refine ⟨h.1, ?_⟩
  rcases h.2 with hn | ⟨g, cap, cur, rfl, hb, hgg, rest⟩
  · exact .inl hn
  · exact .inr ⟨g, cap, cur, rfl, hb, (hk g (by simp [ownB, Value.ownBlock])).trans hgg, rest⟩
theorem Row.only (h : Row w v xs) (ho : Only F w w1) (hF : ∀ x ∈ ownB v, x ∉ F) : Row w1 v xs := h.kept fun x hx => ho.block x (h.lt x hx) (hF x hx)
theorem Row.low (h : Row w v xs) (hb : Below w.heap.size w w1) : Row w1 v xs := h.kept fun x hx => hb.block x (h.lt x hx)
end
/-- a table: its block, its map, its rows -/
structure TabAt (w : World) (b m : Nat) (nv av : Value) (ml : List (ByteArray × Value)) (T : TS) : Prop where
  blk : Blk w b 58 #[.int .i64 T.lim, nv, av, .map (some m)]
  names : Row w nv T.names
  als : Row w av (T.als.map (·.1))
  map : StrMap w m ml
  keys : (ml.map (·.1)).Nodup
  get : ∀ k, mget k ml = (T.find k).map (Value.int .i64)
  nodup : (b :: m :: (ownB nv ++ ownB av)).Nodup
  ok : T.ok
def Tab (w : World) (b : Nat) (F : List Nat) (T : TS) : Prop := ∃ m nv av ml, F = b :: m :: (ownB nv ++ ownB av) ∧ TabAt w b m nv av ml T
theorem TabAt.kept {w w1 : World} {b m : Nat} {nv av : Value} {ml : List (ByteArray × Value)} {T : TS} (h : TabAt w b m nv av ml T) (hk : ∀ x ∈ b :: m :: (ownB nv ++ ownB av), w1.heap[x]? = w.heap[x]?) : TabAt w1 b m nv av ml T :=
  ⟨h.blk.of (hk b (by simp)), h.names.kept fun x hx => hk x (by simp [hx]), h.als.kept fun x hx => hk x (by simp [hx]), h.map.of (hk m (by simp)), h.keys, h.get, h.nodup, h.ok⟩
theorem TabAt.lt {w : World} {b m : Nat} {nv av : Value} {ml : List (ByteArray × Value)} {T : TS} (h : TabAt w b m nv av ml T) : ∀ x ∈ b :: m :: (ownB nv ++ ownB av), x < w.heap.size := by
  intro x hx
  simp only [List.mem_cons, List.mem_append] at hx
  rcases hx with rfl | rfl | hx | hx
  · exact h.blk.lt
  · exact h.map.lt
  · exact h.names.lt x hx
  · exact h.als.lt x hx
theorem Tab.lt {w : World} {b : Nat} {F : List Nat} {T : TS} (h : Tab w b F T) : ∀ x ∈ F, x < w.heap.size := by
  obtain ⟨m, nv, av, ml, rfl, h⟩ := h; exact h.lt
theorem Tab.only {w w1 : World} {b : Nat} {F G : List Nat} {T : TS} (h : Tab w b F T) (ho : Only G w w1) (hG : ∀ x ∈ F, x ∉ G) : Tab w1 b F T := by
  obtain ⟨m, nv, av, ml, rfl, h⟩ := h
  exact ⟨m, nv, av, ml, rfl, h.kept fun x hx => ho.block x (h.lt x hx) (hG x hx)⟩
theorem Tab.low {w w1 : World} {b : Nat} {F : List Nat} {T : TS} (h : Tab w b F T) (hb : Below w.heap.size w w1) : Tab w1 b F T := h.only (G := []) (Only.of_below hb) (by simp)
end Go.Proofs.Ytjpgnadfbejihaa
