/- A slice that reads as a list of tokens; what Check, Same, Equal and Text say of such lists, as plain functions. -/
import Derived.Test.YtffflmghfcgkfaaBu
set_option linter.unusedSimpArgs false
set_option linter.unusedVariables false
namespace Go.Proofs.Ytffflmghfcgkfaa
open Go.RowKit Tk

/-- the cells from offset o of block g on are those of these tokens -/
def TokCells (w : World) (g o : Nat) (ts : List Tok) : Prop :=
  ∀ i (h : i < ts.length), w.cell? ⟨g, o + i * 4, none⟩ = some (.int .i64 ts[i].kind) ∧ w.cell? ⟨g, o + i * 4 + 1, none⟩ = some (.string ts[i].text) ∧
    w.cell? ⟨g, o + i * 4 + 2, none⟩ = some (.int .i64 ts[i].pos.1) ∧ w.cell? ⟨g, o + i * 4 + 3, none⟩ = some (.int .i64 ts[i].pos.2)
/-- a slice value reads as a list of tokens -/
def Toks (w : World) (v : Value) (ts : List Tok) : Prop :=
  ∃ ao cap, v = .slice ao ts.length cap ∧ ts.length ≤ cap ∧ cap ≤ maxLen ∧ (ts.length = 0 ∨ ∃ g o, ao = some ⟨g, o, none⟩ ∧ g < w.heap.size ∧ TokCells w g o ts)
theorem TokCells.of {w w' : World} {g o : Nat} {ts : List Tok} (h : TokCells w g o ts) (hg : w'.heap[g]? = w.heap[g]?) : TokCells w' g o ts := by
  intro i hi
  have e : ∀ k, w'.cell? ⟨g, k, none⟩ = w.cell? ⟨g, k, none⟩ := fun k => World.cell?_of_block hg
  rw [e, e, e, e]
  exact h i hi
theorem Toks.below {w w' : World} {v : Value} {ts : List Tok} (h : Toks w v ts) (hb : Below w.heap.size w w') : Toks w' v ts := by
  obtain ⟨ao, cap, h1, h2, h3, h4⟩ := h
  refine ⟨ao, cap, h1, h2, h3, h4.imp id ?_⟩
  rintro ⟨g, o, e, hg, hc⟩
  exact ⟨g, o, e, Nat.lt_of_lt_of_le hg hb.size, hc.of (hb.block g hg)⟩
theorem Toks.drew {w : World} {v : Value} {ts : List Tok} (h : Toks w v ts) : Toks w.drew v ts := h
theorem Toks.nil (w : World) : Toks w (.slice none 0 0) [] := ⟨none, 0, rfl, Nat.le_refl _, by decide, .inl rfl⟩
theorem TokCells.take {w : World} {g o : Nat} {ts : List Tok} (h : TokCells w g o ts) (n : Nat) : TokCells w g o (ts.take n) := by
  intro i hi
  have hi' : i < ts.length := by rw [List.length_take] at hi; omega
  have := h i hi'
  simpa [List.getElem_take] using this
theorem TokCells.drop {w : World} {g o : Nat} {ts : List Tok} (h : TokCells w g o ts) (n : Nat) : TokCells w g (o + n * 4) (ts.drop n) := by
  intro i hi
  have hi' : n + i < ts.length := by rw [List.length_drop] at hi; omega
  have := h (n + i) hi'
  rw [List.getElem_drop]
  rw [show o + n * 4 + i * 4 = o + (n + i) * 4 by omega]
  exact this
theorem cellsT_get (ts : List Tok) (i : Nat) (h : i < ts.length) : (cellsT ts)[i * 4]? = some (.int .i64 ts[i].kind) ∧ (cellsT ts)[i * 4 + 1]? = some (.string ts[i].text) ∧ (cellsT ts)[i * 4 + 2]? = some (.int .i64 ts[i].pos.1) ∧ (cellsT ts)[i * 4 + 3]? = some (.int .i64 ts[i].pos.2) := by
  induction ts generalizing i with
  | nil => simp at h
  | cons t ts ih =>
    have e : cellsT (t :: ts) = [.int .i64 t.kind, .string t.text, .int .i64 t.pos.1, .int .i64 t.pos.2] ++ cellsT ts := rfl
    cases i with
    | zero => rw [e]; exact ⟨rfl, rfl, rfl, rfl⟩
    | succ i =>
      have h' : i < ts.length := by simpa using h
      have := ih i h'
      rw [e, show (i + 1) * 4 = i * 4 + 4 by omega]
      simpa using this
theorem Toks.of_own {w : World} {base : Nat} {e : TypeId} {v : Value} {ts : List Tok} (h : w.ownsRow base e 4 v ts.length (cellsT ts)) : Toks w v ts := by
  rcases h.2 with ⟨hv, hn⟩ | ⟨g, cap, cur, hv, hg, hb, hn, hc, hs, ht⟩
  · exact ⟨none, 0, by rw [hv, hn], by omega, by decide, .inl hn⟩
  · refine ⟨_, cap, hv, hn, hc, .inr ⟨g, 0, rfl, Blk.lt hb, fun i hi => ?_⟩⟩
    have hB : Blk w g e cur := hb
    have hcur : ∀ k, k < ts.length * 4 → cur[k]? = (cellsT ts)[k]? := fun k hk => by
      rw [← ht, List.getElem?_take, if_pos hk, Array.getElem?_toList]
    have hl : i * 4 + 3 < ts.length * 4 := by omega
    have hk := cellsT_get ts i hi
    refine ⟨?_, ?_, ?_, ?_⟩ <;> (rw [hB.cell, hcur _ (by omega)]; rw [Nat.zero_add]; first | exact hk.1 | exact hk.2.1 | exact hk.2.2.1 | exact hk.2.2.2)

/-! ### what is said of tokens -/
def markL : List UInt8 := [123, 32, 125, 32, 40, 32, 41, 32, 59, 32, 58, 32, 44, 32, 46, 32, 45, 32, 126, 32, 42, 32, 33, 32, 61, 61, 32, 33, 61, 32, 38, 38, 32, 124, 124, 32, 94, 32]
def checkB (kd : Int) (l : List UInt8) : Bool :=
  if kd = 0 then l.isEmpty else if kd = 1 then nameB l else if kd = 2 then numB l else if kd = 3 then quoB l else if kd = 4 then inWords l markL else false
def Tok.ok (t : Tok) : Bool := checkB t.kind t.text.data.toList
def Tok.src (t : Tok) : List UInt8 := if t.kind = 3 then 34 :: (t.text.data.toList ++ [34]) else t.text.data.toList
/-- the text of a list of tokens behind another one -/
def joinF : Bool → List Tok → List UInt8
  | _, [] => []
  | b, t :: ts => (if b then [32] else []) ++ (t.src ++ joinF true ts)
def body (ts : List Tok) : List Tok := ts.takeWhile fun t => decide (t.kind ≠ 0)
def textS (ts : List Tok) : List UInt8 × Int :=
  if (body ts).all Tok.ok = false then ([], 2) else if 65536 < (joinF false (body ts)).length then ([], 4) else (joinF false (body ts), 0)
def Tok.like (a b : Tok) : Bool := decide (a.kind = b.kind) && decide (a.text = b.text)
def sameB : List Tok → List Tok → Bool
  | [], [] => true
  | a :: l, b :: m => a.like b && sameB l m
  | _, _ => false
theorem sameB_len : ∀ {a b : List Tok}, ¬ a.length = b.length → sameB a b = false
  | [], [], h => absurd rfl h
  | [], _ :: _, _ => rfl
  | _ :: _, [], _ => rfl
  | a :: l, b :: m, h => by
    have : ¬ l.length = m.length := fun h' => h (by simp [h'])
    simp [sameB, sameB_len this]
theorem sameB_iff : ∀ {a b : List Tok}, a.length = b.length → (sameB a b = true ↔ ∀ i (h : i < a.length) (h' : i < b.length), (a[i].like b[i]) = true)
  | [], [], _ => by simp [sameB]
  | a :: l, b :: m, h => by
    have hl : l.length = m.length := by simpa using h
    simp only [sameB, Bool.and_eq_true, sameB_iff hl]
    constructor
    · rintro ⟨h1, h2⟩ i hi hi'
      cases i with
      | zero => exact h1
      | succ i => exact h2 i (by simpa using hi) (by simpa using hi')
    · intro h1
      exact ⟨h1 0 (by simp) (by simp), fun i hi hi' => h1 (i + 1) (by simpa using hi) (by simpa using hi')⟩
end Go.Proofs.Ytffflmghfcgkfaa
