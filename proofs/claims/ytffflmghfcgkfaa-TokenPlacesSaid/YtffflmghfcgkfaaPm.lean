/- Plain law: texts that are woven of gaps and tokens are scanned again; two sources on different lines; each token stands at its place. No program in sight. -/
import Derived.Test.YtffflmghfcgkfaaPl
set_option linter.unusedSimpArgs false
set_option linter.unusedVariables false
namespace Go.Proofs.Ytffflmghfcgkfaa
open Go.RowKit Tk

def Gap (g : List UInt8) : Prop := ∀ x, Tk.skipL false (g ++ x) = g.length + Tk.skipL false x
theorem gap_nil : Gap [] := fun x => by simp
theorem gap_gap (n : Nat) : Gap (gapL n) := by
  intro x
  unfold gapL
  repeat' split
  all_goals (simp [Tk.skipL, bi]; try omega)
theorem gap_sp : Gap [32] := by intro x; simp [Tk.skipL, bi]; omega
theorem gap_sep (n : Nat) (x : List UInt8) : Sep (gapL n ++ x) := by
  unfold gapL
  repeat' split
  all_goals exact .inr ⟨_, _, rfl, by decide⟩
theorem drop_app {α : Type} (a b : List α) : (a ++ b).drop a.length = b := List.drop_left
theorem drop_app2 {α : Type} (a b : List α) (n : Nat) (h : n = a.length) : (a ++ b).drop n = b := by subst h; exact List.drop_left

def weave : List (List UInt8 × Tok) → List UInt8 → List UInt8
  | [], z => z
  | (g, t) :: ps, z => g ++ (t.src ++ weave ps z)
def Woven : List (List UInt8 × Tok) → List UInt8 → Prop
  | [], z => Gap z
  | (g, t) :: ps, z => Gap g ∧ ¬ t.kind = 0 ∧ t.ok = true ∧ Sep (weave ps z) ∧ Woven ps z
/-- kinds and texts -/
def LTok.like (a : LTok) (b : Tok) : Prop := a.kind = b.kind ∧ a.text = b.text.data.toList
inductive Likes : List LTok → List Tok → Prop where
  | nil : Likes [] []
  | cons {a : LTok} {b : Tok} {l : List LTok} {m : List Tok} : a.like b → Likes l m → Likes (a :: l) (b :: m)
theorem src_eq (t : Tok) : t.src = srcL t.kind t.text.data.toList := rfl
theorem weave_scan : ∀ (ps : List (List UInt8 × Tok)) (z : List UInt8) (o : Nat), Woven ps z → ∃ ts e, scanA o (weave ps z) = .ok (ts ++ [⟨0, [], e⟩]) ∧ Likes ts (ps.map (·.2))
  | [], z, o, h => by
    have : Tk.skipL false z = z.length := by have := h []; simpa [Tk.skipL] using this
    refine ⟨[], o + z.length, ?_, .nil⟩
    rw [scanA_eq, weave, if_pos (by omega)]
    rfl
  | (g, t) :: ps, z, o, ⟨hg, h0, hok, hsep, hr⟩ => by
    obtain ⟨k1, k2, k3, k4⟩ := tok_one (kd := t.kind) (l := t.text.data.toList) hok h0 hsep
    rw [← src_eq] at k1 k2 k3 k4
    have hs : Tk.skipL false (g ++ (t.src ++ weave ps z)) = g.length := by rw [hg, k3]; rfl
    obtain ⟨ts, e, h1, h2⟩ := weave_scan ps z (o + g.length + t.src.length) hr
    refine ⟨⟨t.kind, t.text.data.toList, o + g.length⟩ :: ts, e, ?_, .cons ⟨rfl, rfl⟩ h2⟩
    rw [scanA_eq, weave, hs, if_neg (by simp only [List.length_append]; omega), drop_app, k1]
    simp only
    rw [k2]
    have hd : (g ++ (t.src ++ weave ps z)).drop (g.length + t.src.length) = weave ps z := by rw [← List.append_assoc]; exact drop_app2 _ _ _ (by simp)
    rw [hd, h1]
    rfl
theorem likes_at (src : List UInt8) : ∀ {ts : List LTok} {l : List Tok}, Likes ts l → sameB (ts.map (LTok.at src)) l = true ∧ (ts.map (LTok.at src)).length = l.length
  | _, _, .nil => ⟨rfl, rfl⟩
  | _, _, .cons (a := a) (b := b) h hs => by
    have ih := likes_at src hs
    obtain ⟨h1, h2⟩ := h
    refine ⟨?_, by simp [ih.2]⟩
    simp only [List.map_cons, sameB, ih.1, Bool.and_true]
    have : (⟨a.text.toArray⟩ : ByteArray) = b.text := by rw [h2]
    simp only [Tok.like, LTok.at, this, h1, decide_true, Bool.and_self]

/-- the tokens of a list, a space between two -/
def pairs : Bool → List Tok → List (List UInt8 × Tok)
  | _, [] => []
  | b, t :: ts => ((if b then [32] else []), t) :: pairs true ts
theorem pairs_snd : ∀ (b : Bool) (ts : List Tok), (pairs b ts).map (·.2) = ts
  | _, [] => rfl
  | b, t :: ts => by simp [pairs, pairs_snd true ts]
theorem join_weave : ∀ (b : Bool) (ts : List Tok), joinF b ts = weave (pairs b ts) []
  | _, [] => rfl
  | b, t :: ts => by simp only [joinF, pairs, weave]; rw [join_weave true ts]
theorem pairs_sep (ts : List Tok) : Sep (weave (pairs true ts) []) := by
  cases ts with
  | nil => exact .inl rfl
  | cons t ts => exact .inr ⟨32, _, rfl, .inl rfl⟩
theorem pairs_woven : ∀ (b : Bool) (ts : List Tok), (∀ t ∈ ts, ¬ t.kind = 0 ∧ t.ok = true) → Woven (pairs b ts) []
  | _, [], _ => gap_nil
  | b, t :: ts, h => ⟨by cases b <;> first | exact gap_nil | exact gap_sp, (h t (by simp)).1, (h t (by simp)).2, pairs_sep ts, pairs_woven true ts (fun x hx => h x (by simp [hx]))⟩
theorem body_kind {ts : List Tok} : ∀ t ∈ body ts, ¬ t.kind = 0 := fun t ht => by
  unfold body at ht
  have := List.all_eq_true.1 (List.all_takeWhile (p := fun t : Tok => decide (t.kind ≠ 0)) (l := ts)) t ht
  simpa using this
/-- tokens that are written are scanned again -/
theorem text_scan {ts : List Tok} {s : ByteArray} (h : textS ts = (s.data.toList, 0)) : ∃ m e, scanS s = .ok (m ++ [⟨0, ⟨#[]⟩, e⟩]) ∧ sameB m (body ts) = true ∧ m.length = (body ts).length ∧ s.size ≤ 65536 ∧ s.data.toList = joinF false (body ts) ∧ (body ts).all Tok.ok = true := by
  unfold textS at h
  split at h
  · (have := congrArg Prod.snd h; simp at this)
  · rename_i hall
    split at h
    · (have := congrArg Prod.snd h; simp at this)
    · rename_i hl
      have hs : joinF false (body ts) = s.data.toList := congrArg Prod.fst h
      have hz : s.size ≤ 65536 := by rw [← sz, ← hs]; omega
      have hall' : (body ts).all Tok.ok = true := by simpa using hall
      obtain ⟨us, e, h1, h2⟩ := weave_scan (pairs false (body ts)) [] 0 (pairs_woven false _ fun t ht => ⟨body_kind t ht, List.all_eq_true.1 hall' t ht⟩)
      rw [pairs_snd] at h2
      rw [← join_weave, hs] at h1
      obtain ⟨g1, g2⟩ := likes_at s.data.toList h2
      refine ⟨us.map (LTok.at s.data.toList), loc s.data.toList e, ?_, g1, g2, hz, hs.symm, hall'⟩
      rw [scanS_L s hz, h1, toSR, List.map_append]
      rfl
theorem same_kind : ∀ {a b : List Tok}, sameB a b = true → (∀ t ∈ b, ¬ t.kind = 0) → body a = a ∧ a.all Tok.ok = b.all Tok.ok ∧ ∀ c, joinF c a = joinF c b
  | [], [], _, _ => ⟨rfl, rfl, fun _ => rfl⟩
  | [], _ :: _, h, _ => by cases h
  | _ :: _, [], h, _ => by cases h
  | x :: a, y :: b, h, hk => by
    simp only [sameB, Bool.and_eq_true, Tok.like, decide_eq_true_eq] at h
    obtain ⟨⟨h1, h2⟩, h3⟩ := h
    obtain ⟨i1, i2, i3⟩ := same_kind h3 (fun t ht => hk t (by simp [ht]))
    have hy := hk y (by simp)
    refine ⟨?_, ?_, fun c => ?_⟩
    · unfold body at i1 ⊢
      rw [List.takeWhile_cons, if_pos (by rw [h1]; simpa using hy), i1]
    · simp only [List.all_cons, i2, Tok.ok, h1, h2]
    · simp only [joinF, i3, Tok.src, h1, h2]
/-- what was scanned is written as it was -/
theorem text_again {ts m : List Tok} {s : ByteArray} {e : Int × Int} (h : textS ts = (s.data.toList, 0)) (hm : sameB m (body ts) = true) : textS (m ++ [⟨0, ⟨#[]⟩, e⟩]) = (s.data.toList, 0) := by
  obtain ⟨i1, i2, i3⟩ := same_kind hm body_kind
  have hb : body (m ++ [⟨0, ⟨#[]⟩, e⟩]) = m := by
    unfold body at i1 ⊢
    rw [List.takeWhile_append_of_pos (by
      intro t ht
      have : t ∈ m.takeWhile fun t => decide (t.kind ≠ 0) := by rw [i1]; exact ht
      exact List.all_eq_true.1 (List.all_takeWhile (p := fun t : Tok => decide (t.kind ≠ 0)) (l := m)) t this)]
    simp
  unfold textS at h ⊢
  rw [hb, i2, i3]
  exact h
end Go.Proofs.Ytffflmghfcgkfaa
