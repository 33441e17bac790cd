/- N1, N2, N3, N4, N5, N6, M9, Fs, Ob -/
import Derived.Test.YtbobbbhgdfapjaaZR1
import Derived.Test.YtbobbbhgdfapjaaZR2
import Derived.Test.YtbobbbhgdfapjaaZR3
import Derived.Test.YtbobbbhgdfapjaaZR4
import Derived.Test.YtbobbbhgdfapjaaZR5
import Derived.Test.YtbobbbhgdfapjaaZR6
import Derived.Test.YtbobbbhgdfapjaaZR7
import Derived.Test.YtbobbbhgdfapjaaZR9
import Derived.Test.YtbobbbhgdfapjaaZR10
import Derived.Test.YtbobbbhgdfapjaaZR11
import Derived.Test.YtbobbbhgdfapjaaZR12
import Derived.Test.YtbobbbhgdfapjaaZR13
import Derived.Test.YtbobbbhgdfapjaaZR14
import Derived.Test.YtbobbbhgdfapjaaZR15
import Derived.Test.YtbobbbhgdfapjaaZR16
import Derived.Test.YtbobbbhgdfapjaaZR17
import Derived.Test.YtbobbbhgdfapjaaZR18
import Derived.Test.YtbobbbhgdfapjaaZR19
import Derived.Test.YtbobbbhgdfapjaaZR31
import Derived.Test.YtbobbbhgdfapjaaZR8
import Derived.Test.YtbobbbhgdfapjaaZR20
import Derived.Test.YtbobbbhgdfapjaaZR21
import Derived.Test.YtbobbbhgdfapjaaZR22
import Derived.Test.YtbobbbhgdfapjaaZR23
import Derived.Test.YtbobbbhgdfapjaaZR24
import Derived.Test.YtbobbbhgdfapjaaZR25
import Derived.Test.YtbobbbhgdfapjaaZR26
import Derived.Test.YtbobbbhgdfapjaaZR27
import Derived.Test.YtbobbbhgdfapjaaZR28
import Derived.Test.YtbobbbhgdfapjaaZR29
import Derived.Test.YtbobbbhgdfapjaaZR30
import Derived.Test.YtbobbbhgdfapjaaZR32
import Derived.Test.YtbobbbhgdfapjaaZR33
import Derived.Test.YtbobbbhgdfapjaaZR34
import Derived.Test.YtbobbbhgdfapjaaZR35
import Derived.Test.YtbobbbhgdfapjaaZR36
import Derived.Test.YtbobbbhgdfapjaaZR37
import Derived.ProofKit
import Derived.OpenShut
import Derived.Deep.Slices
import Derived.Deep.Fields
import Derived.Test.YtbobbbhgdfapjaaRows
set_option linter.unusedSimpArgs false
set_option linter.unusedVariables false
namespace Go.Proofs.Ytbobbbhgdfapjaa
set_option maxHeartbeats 8000000
set_option maxRecDepth 100000
open Go.RowKit Tk
/-! ### the parser without its fuel -/
theorem prs_more (ts : List Tok) : ∀ f : Nat, (∀ n i d, prs ts f n i d ≠ .none → prs ts (f + 1) n i d = prs ts f n i d) ∧ (∀ n x j d, plp ts f n x j d ≠ .none → plp ts (f + 1) n x j d = plp ts f n x j d)
 | 0 => ⟨fun n i d h => absurd (by rw [prs]) h, fun n x j d h => absurd (by rw [plp]) h⟩
 | f + 1 => by
   obtain ⟨ihp, ihl⟩ := prs_more ts f
   refine ⟨fun n i d h => ?_, fun n x j d h => ?_⟩
   · unfold prs at h ⊢
     by_cases hn : n = 5
     · rw [if_pos hn] at h ⊢
       rw [if_pos hn]
       cases hm : nameAt ts i with
       | some s => rfl
       | none =>
         rw [hm] at h
         dsimp only at h ⊢
         by_cases h1 : isM ts i ⟨#[33]⟩ = true
         · rw [if_pos h1] at h
           rw [if_pos h1, if_pos h1]
           by_cases hd : 12 ≤ d
           · rw [if_pos hd, if_pos hd]
           · rw [if_neg hd] at h
             rw [if_neg hd, if_neg hd]
             by_cases hr : prs ts f 5 (i + 1) (d + 1) = .none
             · rw [hr] at h; exact absurd rfl h
             · rw [ihp _ _ _ hr]
         · rw [if_neg h1] at h
           rw [if_neg h1, if_neg h1]
           by_cases h2 : isM ts i ⟨#[40]⟩ = true
           · rw [if_pos h2] at h
             rw [if_pos h2, if_pos h2]
             by_cases hd : 12 ≤ d
             · rw [if_pos hd, if_pos hd]
             · rw [if_neg hd] at h
               rw [if_neg hd, if_neg hd]
               by_cases hr : prs ts f 1 (i + 1) (d + 1) = .none
               · rw [hr] at h; exact absurd rfl h
               · rw [ihp _ _ _ hr]
           · rw [if_neg h2, if_neg h2]
     · rw [if_neg hn] at h ⊢
       rw [if_neg hn]
       by_cases hr : prs ts f (n + 1) i d = .none
       · rw [hr] at h; exact absurd rfl h
       · rw [ihp _ _ _ hr]
         cases hq : prs ts f (n + 1) i d with
         | none => exact absurd hq hr
         | err c k => rfl
         | ok x k =>
           rw [hq] at h
           exact ihl _ _ _ _ h
   · unfold plp at h ⊢
     by_cases ho : opAt ts j n = 0
     · rw [if_pos ho, if_pos ho]
     · rw [if_neg ho] at h ⊢
       rw [if_neg ho]
       by_cases hr : prs ts f (n + 1) (j + 1) d = .none
       · rw [hr] at h; exact absurd rfl h
       · rw [ihp _ _ _ hr]
         cases hq : prs ts f (n + 1) (j + 1) d with
         | none => exact absurd hq hr
         | err c k => rfl
         | ok y k =>
           rw [hq] at h
           exact ihl _ _ _ _ h
theorem prs_plus (ts : List Tok) (f n i d : Nat) (h : prs ts f n i d ≠ .none) : ∀ k, prs ts (f + k) n i d = prs ts f n i d
 | 0 => rfl
 | k + 1 => by
   have := prs_plus ts f n i d h k
   rw [← Nat.add_assoc, (prs_more ts (f + k)).1 n i d (by rw [this]; exact h), this]
def Prs (ts : List Tok) (n i d : Nat) (r : PR) : Prop := ∃ f0, ∀ f, f0 ≤ f → prs ts f n i d = r
def Plp (ts : List Tok) (n : Nat) (x : Ex) (j d : Nat) (r : PR) : Prop := ∃ f0, ∀ f, f0 ≤ f → plp ts f n x j d = r
theorem Prs.fuel {ts : List Tok} {r : PR} (h : Prs ts 1 0 0 r) : prs ts (fuelP ts) 1 0 0 = r := by
 obtain ⟨f0, h0⟩ := h
 have hn := ((prs_fuel ts (fuelP ts)).1 1 0 0 (by decide) (by decide) (by unfold fuelP; omega)).1
 rw [← prs_plus ts _ _ _ _ hn f0]
 exact h0 _ (by omega)
theorem Prs.name {ts : List Tok} {i d : Nat} {s : ByteArray} (h : nameAt ts i = some s) : Prs ts 5 i d (.ok (nmX s) (i + 1)) :=
 ⟨1, fun f hf => by obtain ⟨g, rfl⟩ : ∃ g, f = g + 1 := ⟨f - 1, by omega⟩; rw [prs, if_pos rfl, h]⟩
theorem Prs.bang {ts : List Tok} {i d j : Nat} {x : Ex} (h0 : nameAt ts i = none) (h : isM ts i ⟨#[33]⟩ = true) (hd : d < 12) (hp : Prs ts 5 (i + 1) (d + 1) (.ok x j)) : Prs ts 5 i d (.ok (opX 2 [x]) j) := by
 obtain ⟨f0, hf⟩ := hp
 refine ⟨f0 + 1, fun f hf2 => ?_⟩
 obtain ⟨g, rfl⟩ : ∃ g, f = g + 1 := ⟨f - 1, by omega⟩
 rw [prs, if_pos rfl, h0]
 dsimp only
 rw [if_pos h, if_neg (by omega), hf g (by omega)]
theorem Prs.par {ts : List Tok} {i d j : Nat} {x : Ex} (h0 : nameAt ts i = none) (h1 : ¬ isM ts i ⟨#[33]⟩ = true) (h : isM ts i ⟨#[40]⟩ = true) (hd : d < 12) (hp : Prs ts 1 (i + 1) (d + 1) (.ok x j)) (hc : isM ts j ⟨#[41]⟩ = true) : Prs ts 5 i d (.ok x (j + 1)) := by
 obtain ⟨f0, hf⟩ := hp
 refine ⟨f0 + 1, fun f hf2 => ?_⟩
 obtain ⟨g, rfl⟩ : ∃ g, f = g + 1 := ⟨f - 1, by omega⟩
 rw [prs, if_pos rfl, h0]
 dsimp only
 rw [if_neg h1, if_pos h, if_neg (by omega), hf g (by omega)]
 dsimp only
 rw [if_pos hc]
theorem Prs.down {ts : List Tok} {n i d j : Nat} {x : Ex} {r : PR} (hn : ¬ n = 5) (hp : Prs ts (n + 1) i d (.ok x j)) (hl : Plp ts n x j d r) : Prs ts n i d r := by
 obtain ⟨f0, hf⟩ := hp
 obtain ⟨f1, hg⟩ := hl
 refine ⟨f0 + f1 + 1, fun f hf2 => ?_⟩
 obtain ⟨g, rfl⟩ : ∃ g, f = g + 1 := ⟨f - 1, by omega⟩
 rw [prs, if_neg hn, hf g (by omega)]
 exact hg g (by omega)
theorem Plp.stop {ts : List Tok} {n j d : Nat} {x : Ex} (h : opAt ts j n = 0) : Plp ts n x j d (.ok x j) :=
 ⟨1, fun f hf => by obtain ⟨g, rfl⟩ : ∃ g, f = g + 1 := ⟨f - 1, by omega⟩; rw [plp, if_pos h]⟩
theorem Plp.step {ts : List Tok} {n j d k : Nat} {x y : Ex} {r : PR} (h : ¬ opAt ts j n = 0) (hp : Prs ts (n + 1) (j + 1) d (.ok y k)) (hl : Plp ts n (opX (opAt ts j n) [x, y]) k d r) : Plp ts n x j d r := by
 obtain ⟨f0, hf⟩ := hp
 obtain ⟨f1, hg⟩ := hl
 refine ⟨f0 + f1 + 1, fun f hf2 => ?_⟩
 obtain ⟨g, rfl⟩ : ∃ g, f = g + 1 := ⟨f - 1, by omega⟩
 rw [plp, if_neg h, hf g (by omega)]
 exact hg g (by omega)
/-! ### the tokens of a condition -/
abbrev KT := Int × ByteArray
def tkP (b : Bool) (l : List KT) : List KT := if b then (4, ⟨#[40]⟩) :: (l ++ [(4, ⟨#[41]⟩)]) else l
def tkB (h : ExH) (n : Nat) (ts : List (List KT)) : List KT :=
 if n = 0 then [(1, firstN h.names)] else if n = 1 then (4, ⟨#[33]⟩) :: ts.headD [] else ts.headD [] ++ (4, signM h.op) :: ts.getD 1 []
mutual
def tkE : Ex → Int → List KT
 | .mk h k, least => tkP (decide (strB h.op < least)) (tkB h k.length (tkEs k (if k.length = 1 then 5 else signN h.op)))
def tkEs : List Ex → Int → List (List KT)
 | [], _ => []
 | e :: l, n => tkE e n :: tkEs l (n + 1)
end
theorem tkE_eq (x : Ex) (l : Int) : tkE x l = tkP (decide (strB x.h.op < l)) (tkB x.h x.kids.length (tkEs x.kids (if x.kids.length = 1 then 5 else signN x.h.op))) := by cases x; rw [tkE]; rfl
def isK (o : Option KT) (m : ByteArray) : Bool := match o with
 | some t => decide (t.1 = 4) && decide (t.2 = m)
 | none => false
def opK (o : Option KT) (n : Nat) : Int :=
 if n = 4 then (if isK o ⟨#[61, 61]⟩ = true then 6 else if isK o ⟨#[33, 61]⟩ = true then 7 else 0)
 else if n = 3 then (if isK o ⟨#[38, 38]⟩ = true then 3 else 0)
 else if n = 2 then (if isK o ⟨#[94]⟩ = true then 5 else 0)
 else if n = 1 then (if isK o ⟨#[124, 124]⟩ = true then 4 else 0)
 else 0
def nameK (o : Option KT) : Option ByteArray := match o with
 | some t => if t.1 = 1 ∧ identB t.2 = true then some t.2 else none
 | none => none
def kt (ts : List Tok) : List KT := ts.map fun t => (t.kind, t.text)
theorem isM_kt (ts : List Tok) (i : Nat) (m : ByteArray) : isM ts i m = isK (kt ts)[i]? m := by
 unfold isM isK kt
 rw [List.getElem?_map]
 cases ts[i]? <;> rfl
theorem nameAt_kt (ts : List Tok) (i : Nat) : nameAt ts i = nameK (kt ts)[i]? := by
 unfold nameAt nameK kt
 rw [List.getElem?_map]
 cases ts[i]? <;> rfl
theorem opAt_kt (ts : List Tok) (i n : Nat) : opAt ts i n = opK (kt ts)[i]? n := by
 unfold opAt opK
 simp only [isM_kt]
def Stop (n : Nat) (R : List KT) : Prop := ∀ k, n < k → k ≤ 4 → opK R.head? k = 0
theorem at_pre {pre R : List KT} : (pre ++ R)[pre.length]? = R.head? := by
 rw [List.getElem?_append_right (Nat.le_refl _), Nat.sub_self]
 cases R <;> rfl
theorem at_pre2 {pre L R : List KT} : (pre ++ (L ++ R))[pre.length + L.length]? = R.head? := by
 rw [← List.append_assoc, ← List.length_append]; exact at_pre
open Go.RowKit Tk
theorem kq1 {x : Ex} (hg : x.good) (ho : x.h.op = 2) : ∃ a, x.kids = [a] ∧ a.good := by
 obtain ⟨h, k⟩ := x
 unfold Ex.good at hg
 have hk := hg.1.1
 rw [show h.op = 2 from ho, show opn 2 = 1 from rfl] at hk
 match k, hk, hg.2 with
 | [a], _, hg => unfold Ex.goods at hg; exact ⟨a, rfl, hg.1⟩
theorem kq2 {x : Ex} (hg : x.good) (h1 : ¬ x.h.op = 1) (h2 : ¬ x.h.op = 2) : (x.h.op = 3 ∨ x.h.op = 4 ∨ x.h.op = 5 ∨ x.h.op = 6 ∨ x.h.op = 7) ∧ ∃ a b, x.kids = [a, b] ∧ a.good ∧ b.good := by
 obtain ⟨h, k⟩ := x
 unfold Ex.good at hg
 have hk := hg.1.1
 have h1' : ¬ h.op = 1 := h1
 have h2' : ¬ h.op = 2 := h2
 have ho : h.op = 3 ∨ h.op = 4 ∨ h.op = 5 ∨ h.op = 6 ∨ h.op = 7 := by
  unfold opn at hk
  rw [if_neg h1', if_neg h2'] at hk
  split at hk
  · assumption
  · omega
 refine ⟨ho, ?_⟩
 have hk2 : opn h.op = 2 := by rcases ho with h | h | h | h | h <;> rw [h] <;> rfl
 rw [hk2] at hk
 match k, hk, hg.2 with
 | [a, b], _, hg =>
   unfold Ex.goods at hg
   obtain ⟨g1, g2⟩ := hg
   unfold Ex.goods at g2
   exact ⟨a, b, rfl, g1, g2.1⟩
theorem kq0 {x : Ex} (hg : x.good) (h1 : x.h.op = 1) : x.kids = [] ∧ ∃ s, x.h.names = [s] ∧ identB s = true := by
 obtain ⟨h, k⟩ := x
 unfold Ex.good at hg
 have hk := hg.1.1
 have h9 := hg.1.2.2.2.2.2.2.2.2.1
 have h10 := hg.1.2.2.2.2.2.2.2.2.2
 have h1' : h.op = 1 := h1
 rw [h1', show opn 1 = 0 from rfl] at hk
 rw [h1', show namedE 1 = 1 from rfl] at h9
 rw [h1'] at h10
 refine ⟨show k = [] from List.eq_nil_of_length_eq_zero (by omega), ?_⟩
 show ∃ s, h.names = [s] ∧ identB s = true
 match hn : h.names, h9 with
 | [s], _ => exact ⟨s, rfl, by have := h10 rfl; rw [hn] at this; exact this⟩
/-- what a good condition is without its heads -/
theorem bare_good {x : Ex} (hg : x.good) (hn : ¬ x.h.op = 1 → x.h.names = []) : x.bare = .mk { zH with op := x.h.op, names := x.h.names } (x.kids.map Ex.bare) := by
 obtain ⟨⟨op, a, rel, b, hn', names, s0, s1, s2, s3, hk⟩, k⟩ := x
 unfold Ex.good at hg
 obtain ⟨⟨-, e1, e2, e3, e4, e5, e6, e7, -, -⟩, -⟩ := hg
 rw [Ex.bare_eq]
 simp only at e1 e2 e3 e4 e5 e6 e7
 subst e1 e2 e3 e4 e5 e6 e7
 rfl
theorem names_op {x : Ex} (hg : x.good) (h1 : ¬ x.h.op = 1) : x.h.names = [] := by
 obtain ⟨h, k⟩ := x
 have h1' : ¬ h.op = 1 := h1
 unfold Ex.good at hg
 have h9 := hg.1.2.2.2.2.2.2.2.2.1
 unfold namedE at h9
 rw [if_neg (by unfold opn; rw [if_neg h1']; split <;> (try split) <;> omega)] at h9
 show h.names = []
 exact List.eq_nil_of_length_eq_zero (by omega)
theorem bare_name {x : Ex} (hg : x.good) (h1 : x.h.op = 1) {s : ByteArray} (hs : x.h.names = [s]) : x.bare = nmX s := by
 rw [bare_good hg (fun h => absurd h1 h), (kq0 hg h1).1, h1, hs]; rfl
theorem bare_op {x : Ex} (hg : x.good) (h1 : ¬ x.h.op = 1) : x.bare = opX x.h.op (x.kids.map Ex.bare) := by
 rw [bare_good hg (fun _ => names_op hg h1), names_op hg h1]; rfl
/-! ### the tokens of each kind of node -/
theorem tk_name {x : Ex} (hg : x.good) (h1 : x.h.op = 1) {s : ByteArray} (hs : x.h.names = [s]) {n : Int} (hn : n ≤ 5) : tkE x n = [(1, s)] := by
 rw [tkE_eq, (kq0 hg h1).1, h1, show strB 1 = 5 from rfl, decide_eq_false (by omega)]
 simp [tkP, tkB, hs, firstN]
theorem tk_not {x a : Ex} (h2 : x.h.op = 2) (hk : x.kids = [a]) {n : Int} (hn : n ≤ 5) : tkE x n = (4, ⟨#[33]⟩) :: tkE a 5 := by
 rw [tkE_eq, hk, h2, show strB 2 = 5 from rfl, decide_eq_false (by omega)]
 show tkB x.h 1 (tkEs [a] 5) = _
 unfold tkB
 rw [if_neg (by decide), if_pos rfl, tkEs]; rfl
theorem tk_two {x a b : Ex} (ho : x.h.op = 3 ∨ x.h.op = 4 ∨ x.h.op = 5 ∨ x.h.op = 6 ∨ x.h.op = 7) (hk : x.kids = [a, b]) (n : Int) :
    tkE x n = tkP (decide (signN x.h.op < n)) (tkE a (signN x.h.op) ++ (4, signM x.h.op) :: tkE b (signN x.h.op + 1)) := by
 have e : strB x.h.op = signN x.h.op := by rcases ho with h | h | h | h | h <;> rw [h] <;> rfl
 rw [tkE_eq, hk, e]
 show tkP _ (tkB x.h 2 (tkEs [a, b] (signN x.h.op))) = _
 unfold tkB
 rw [if_neg (by decide), if_neg (by decide), tkEs, tkEs]; rfl
theorem opK_sign {o : Int} (ho : o = 3 ∨ o = 4 ∨ o = 5 ∨ o = 6 ∨ o = 7) : ∃ s : Nat, 1 ≤ s ∧ s ≤ 4 ∧ signN o = s ∧ opK (some (4, signM o)) s = o ∧ ∀ k, s < k → k ≤ 4 → opK (some (4, signM o)) k = 0 := by
 rcases ho with rfl | rfl | rfl | rfl | rfl
 · exact ⟨3, by decide, by decide, rfl, by decide, fun k h1 h2 => by obtain rfl : k = 4 := (by omega); decide⟩
 · exact ⟨1, by decide, by decide, rfl, by decide, fun k h1 h2 => by obtain rfl | rfl | rfl : k = 2 ∨ k = 3 ∨ k = 4 := (by omega); all_goals decide⟩
 · exact ⟨2, by decide, by decide, rfl, by decide, fun k h1 h2 => by obtain rfl | rfl : k = 3 ∨ k = 4 := (by omega); all_goals decide⟩
 · exact ⟨4, by decide, by decide, rfl, by decide, fun k h1 h2 => by omega⟩
 · exact ⟨4, by decide, by decide, rfl, by decide, fun k h1 h2 => by omega⟩
/-! ### what the parser reads -/
def Rds (ts : List Tok) (n : Nat) (x : Ex) (i j d : Nat) : Prop := (n ≤ 4 → ∀ r, Plp ts n x j d r → Prs ts n i d r) ∧ (n = 5 → Prs ts 5 i d (.ok x j))
theorem Rds.all {ts : List Tok} {n i j d : Nat} {x : Ex} (h : Rds ts n x i j d) (h5 : n ≤ 5) (hs : n ≤ 4 → opAt ts j n = 0) : Prs ts n i d (.ok x j) := by
 by_cases h4 : n ≤ 4
 · exact h.1 h4 _ (Plp.stop (hs h4))
 · obtain rfl : n = 5 := by omega
   exact h.2 rfl
theorem lift_prs {ts : List Tok} {x : Ex} {i j d n : Nat} : ∀ k : Nat, n + (k + 1) ≤ 5 → Prs ts (n + (k + 1)) i d (.ok x j) → (∀ q, n < q → q ≤ 4 → opAt ts j q = 0) → ∀ r, Plp ts n x j d r → Prs ts n i d r
 | 0, h5, h, _, r, hr => Prs.down (by omega) h hr
 | k + 1, h5, h, hs, r, hr => lift_prs k (by omega) (Prs.down (by omega) h (Plp.stop (hs _ (by omega) (by omega)))) hs r hr
theorem Rds.lower {ts : List Tok} {n s i j d : Nat} {x : Ex} (h : Rds ts s x i j d) (hn : n ≤ s) (h5 : s ≤ 5) (hs : ∀ q, n < q → q ≤ 4 → opAt ts j q = 0) : Rds ts n x i j d := by
 by_cases e : n = s
 · subst e; exact h
 · have h1 := h.all h5 (fun h4 => hs s (by omega) h4)
   refine ⟨fun _ r hr => ?_, fun h => by omega⟩
   obtain ⟨k, rfl⟩ : ∃ k, s = n + (k + 1) := ⟨s - n - 1, by omega⟩
   exact lift_prs k h5 h1 hs r hr
theorem Rds.of5 {ts : List Tok} {i j d : Nat} {x : Ex} (h : Prs ts 5 i d (.ok x j)) : Rds ts 5 x i j d := ⟨fun h => by omega, fun _ => h⟩
theorem lev_kid1 {x a : Ex} (hk : x.kids = [a]) : levE a < levE x := by
 rw [levE_eq x, hk, levs, levs]; omega
theorem lev_kid2 {x a b : Ex} (hk : x.kids = [a, b]) : levE a < levE x ∧ levE b < levE x := by
 rw [levE_eq x, hk, levs, levs, levs]; omega
theorem prs_tk (ts : List Tok) : ∀ m x, levE x ≤ m → x.good → ∀ (n d : Nat) (pre R : List KT), 1 ≤ n → n ≤ 5 → kt ts = pre ++ (tkE x n ++ R) → d + levE x ≤ 12 → Stop n R →
    Rds ts n x.bare pre.length (pre.length + (tkE x n).length) d
 | 0, x, hm, _, _, _, _, _, _, _, _, _, _ => by rw [levE_eq] at hm; omega
 | m + 1, x, hm, hg, n, d, pre, R, h1, h5, hT, hd, hS => by
   have stop : ∀ q, n < q → q ≤ 4 → opAt ts (pre.length + (tkE x n).length) q = 0 := fun q ha hb => by
    rw [opAt_kt, hT, at_pre2]; exact hS q ha hb
   by_cases o1 : x.h.op = 1
   · obtain ⟨hk, s, hs, hi⟩ := kq0 hg o1
     have e := tk_name hg o1 hs (n := (n : Int)) (by omega)
     refine Rds.lower (Rds.of5 ?_) h5 (by decide) stop
     rw [bare_name hg o1 hs, e]
     refine Prs.name ?_
     rw [nameAt_kt, hT, at_pre, e]
     show nameK (some (1, s)) = some s
     show (if (1 : Int) = 1 ∧ identB s = true then some s else none) = some s
     rw [if_pos ⟨rfl, hi⟩]
   by_cases o2 : x.h.op = 2
   · obtain ⟨a, hk, hga⟩ := kq1 hg o2
     have e := tk_not o2 hk (n := (n : Int)) (by omega)
     have hl := lev_kid1 hk
     have hl0 := levE_eq a
     have hT2 : kt ts = (pre ++ [(4, ⟨#[33]⟩)]) ++ (tkE a ((5 : Nat) : Int) ++ R) := by
      rw [hT, e, List.append_assoc]; rfl
     have ih := prs_tk ts m a (by omega) hga 5 (d + 1) (pre ++ [(4, ⟨#[33]⟩)]) R (by decide) (by decide) hT2 (by omega) (fun k ha hb => by omega)
     refine Rds.lower (Rds.of5 ?_) h5 (by decide) stop
     have h5' := ih.2 rfl
     rw [List.length_append] at h5'
     have hh : (kt ts)[pre.length]? = some (4, ⟨#[33]⟩) := by rw [hT, at_pre, e]; rfl
     have := Prs.bang (ts := ts) (i := pre.length) (d := d) (by rw [nameAt_kt, hh]; rfl) (by rw [isM_kt, hh]; rfl) (by omega) h5'
     rw [bare_op hg o1, o2, hk, e]
     have e2 : pre.length + ((4, (⟨#[33]⟩ : ByteArray)) :: tkE a 5 : List KT).length = pre.length + [((4 : Int), (⟨#[33]⟩ : ByteArray))].length + (tkE a ((5 : Nat) : Int)).length := by
      simp only [List.length_cons, List.length_nil]; show _ = _ + (tkE a 5).length; omega
     rw [e2]
     exact this
   · obtain ⟨ho, a, b, hk, hga, hgb⟩ := kq2 hg o1 o2
     obtain ⟨s, s1, s4, hs, hop, hno⟩ := opK_sign ho
     obtain ⟨hla, hlb⟩ := lev_kid2 hk
     have two : ∀ (n' d' : Nat) (pre' R' : List KT), n' ≤ s → kt ts = pre' ++ ((tkE a (signN x.h.op) ++ (4, signM x.h.op) :: tkE b (signN x.h.op + 1)) ++ R') → d' + levE x ≤ 13 → Stop n' R' →
         Rds ts n' x.bare pre'.length (pre'.length + (tkE a (signN x.h.op) ++ (4, signM x.h.op) :: tkE b (signN x.h.op + 1)).length) d' := by
      intro n' d' pre' R' hn hT' hd' hS'
      refine Rds.lower (s := s) ⟨fun _ r hr => ?_, fun h => by omega⟩ hn (by omega) (fun q ha hb => by rw [opAt_kt, hT', at_pre2]; exact hS' q ha hb)
      have hT1 : kt ts = pre' ++ (tkE a ((s : Nat) : Int) ++ ((4, signM x.h.op) :: (tkE b (signN x.h.op + 1) ++ R'))) := by
       rw [hT', ← hs, List.append_assoc]; rfl
      have iha := prs_tk ts m a (by omega) hga s d' pre' ((4, signM x.h.op) :: (tkE b (signN x.h.op + 1) ++ R')) s1 (by omega) hT1 (by omega) (fun k ha hb => hno k ha hb)
      refine iha.1 s4 r ?_
      have hat : opAt ts (pre'.length + (tkE a ((s : Nat) : Int)).length) s = x.h.op := by rw [opAt_kt, hT1, at_pre2]; exact hop
      have hT2 : kt ts = (pre' ++ (tkE a ((s : Nat) : Int) ++ [(4, signM x.h.op)])) ++ (tkE b ((s + 1 : Nat) : Int) ++ R') := by
       rw [hT1, hs]; simp only [List.append_assoc, List.cons_append, List.nil_append]; rfl
      have ihb := prs_tk ts m b (by omega) hgb (s + 1) d' _ R' (by omega) (by omega) hT2 (by omega) (fun k ha hb => hS' k (by omega) hb)
      have hb := ihb.all (by omega) (fun h4 => by rw [opAt_kt, hT2, at_pre2]; exact hS' (s + 1) (by omega) h4)
      have e1 : (pre' ++ (tkE a ((s : Nat) : Int) ++ [(4, signM x.h.op)])).length = pre'.length + (tkE a ((s : Nat) : Int)).length + 1 := by simp only [List.length_append, List.length_cons, List.length_nil]; omega
      rw [e1] at hb
      refine Plp.step (by rw [hat]; omega) hb ?_
      rw [hat]
      have e2 : pre'.length + (tkE a ((s : Nat) : Int)).length + 1 + (tkE b ((s + 1 : Nat) : Int)).length = pre'.length + (tkE a (signN x.h.op) ++ (4, signM x.h.op) :: tkE b (signN x.h.op + 1)).length := by
       rw [hs]; simp only [List.length_append, List.length_cons]; show _ = pre'.length + ((tkE a (s : Int)).length + ((tkE b ((s : Int) + 1)).length + 1)); rw [show (((s + 1 : Nat) : Int)) = (s : Int) + 1 from rfl]; omega
      rw [e2]
      have e3 : x.bare = opX x.h.op [a.bare, b.bare] := by rw [bare_op hg o1, hk]; rfl
      rw [← e3]
      exact hr
     have e := tk_two ho hk (n : Int)
     by_cases hp : signN x.h.op < (n : Int)
     · rw [decide_eq_true hp] at e
       have e' : tkE x n = (4, ⟨#[40]⟩) :: ((tkE a (signN x.h.op) ++ (4, signM x.h.op) :: tkE b (signN x.h.op + 1)) ++ [(4, ⟨#[41]⟩)]) := e
       have hT2 : kt ts = (pre ++ [(4, ⟨#[40]⟩)]) ++ ((tkE a (signN x.h.op) ++ (4, signM x.h.op) :: tkE b (signN x.h.op + 1)) ++ ((4, ⟨#[41]⟩) :: R)) := by
        rw [hT, e']; simp only [List.append_assoc, List.cons_append, List.nil_append]
       have hc : ∀ k, opK (some (4, (⟨#[41]⟩ : ByteArray))) k = 0 := fun k => by
        unfold opK
        have h1 : ∀ m : ByteArray, ¬ (⟨#[41]⟩ : ByteArray) = m → isK (some (4, (⟨#[41]⟩ : ByteArray))) m = false := fun m hm => by
         unfold isK; simp [hm]
        rw [h1 _ (by decide), h1 _ (by decide), h1 _ (by decide), h1 _ (by decide), h1 _ (by decide)]
        simp
       have h2 := two 1 (d + 1) _ _ s1 hT2 (by omega) (fun k _ _ => hc k)
       have h3 := h2.all (by decide) (fun _ => by rw [opAt_kt, hT2, at_pre2]; exact hc 1)
       have hh : (kt ts)[pre.length]? = some (4, ⟨#[40]⟩) := by rw [hT, at_pre, e']; rfl
       rw [List.length_append] at h3
       have h4 := Prs.par (ts := ts) (i := pre.length) (d := d) (by rw [nameAt_kt, hh]; rfl) (by rw [isM_kt, hh]; decide) (by rw [isM_kt, hh]; rfl) (by omega) h3
        (by rw [isM_kt, hT2, ← List.length_append, at_pre2]; rfl)
       refine Rds.lower (Rds.of5 ?_) h5 (by decide) stop
       have e2 : pre.length + (tkE x n).length = pre.length + [((4 : Int), (⟨#[40]⟩ : ByteArray))].length + (tkE a (signN x.h.op) ++ (4, signM x.h.op) :: tkE b (signN x.h.op + 1)).length + 1 := by
        rw [e']; simp only [List.length_append, List.length_cons, List.length_nil]; omega
       rw [e2]
       exact h4
     · rw [decide_eq_false hp] at e
       have e' : tkE x n = tkE a (signN x.h.op) ++ (4, signM x.h.op) :: tkE b (signN x.h.op + 1) := e
       rw [e'] at hT ⊢
       exact two n d pre R (by omega) hT (by omega) hS
open Go.RowKit Tk
theorem baq_eq {s : ByteArray} {l : List UInt8} (h : s.data.toList = l) : s = ⟨l.toArray⟩ := by
 obtain ⟨⟨m⟩⟩ := s
 simp only at h
 rw [h]
theorem oneq_3 (l : List UInt8) (kd : Int) (n : Nat) (h : oneR l = .ok kd n) (h3 : kd = 3) : 2 ≤ n := by
 unfold oneR nameR numR Tk.textR markR at h
 split at h
 · split at h
   · cases h
   · injection h with h1 h2; omega
 · split at h
   · split at h
     · cases h
     · split at h
       · cases h
       · injection h with h1 h2; omega
   · split at h
     · split at h
       · cases h
       · split at h
         · cases h
         · split at h
           · cases h
           · injection h with h1 h2; omega
     · split at h
       · cases h
       · injection h with h1 h2; omega
structure LTok where
 kind : Int
 text : List UInt8
 off : Nat
inductive LR where
 | err (c : Int) (off : Nat)
 | ok (ts : List LTok)
def LR.app (us : List LTok) : LR → LR
 | .err c o => .err c o
 | .ok ts => .ok (us ++ ts)
theorem LR.app_app (a b : List LTok) (r : LR) : LR.app a (LR.app b r) = LR.app (a ++ b) r := by cases r <;> simp [LR.app]
def textL (kd : Int) (n : Nat) (l : List UInt8) : List UInt8 := if kd = 3 then (l.drop 1).take (n - 2) else l.take n
def scanL : Nat → Nat → List UInt8 → LR
 | 0, _, _ => .ok []
 | f + 1, o, l =>
   if l.length ≤ skipL false l then .ok [⟨0, [], o + l.length⟩]
   else match oneR (l.drop (skipL false l)) with
    | .err c x => .err c (o + skipL false l + x)
    | .ok kd n => LR.app [⟨kd, textL kd n (l.drop (skipL false l)), o + skipL false l⟩] (scanL f (o + skipL false l + n) (l.drop (skipL false l + n)))
def LTok.at (src : List UInt8) (t : LTok) : Tok := ⟨t.kind, ⟨t.text.toArray⟩, loc src t.off⟩
def toSR (src : List UInt8) : LR → SR
 | .err c o => .err c (loc src o)
 | .ok ts => .ok (ts.map (LTok.at src))
theorem toSR_app (src : List UInt8) (us : List LTok) (r : LR) : toSR src (LR.app us r) = SR.add (us.map (LTok.at src)) (toSR src r) := by cases r <;> simp [LR.app, toSR, SR.add]
theorem extract_list (s : ByteArray) (a b : Nat) (h : b ≤ s.size) : (s.extract a b).data.toList = (s.data.toList.drop a).take (b - a) := by
 simp [ByteArray.data_extract, Array.toList_extract, List.extract, Nat.min_eq_left h]
theorem tokT_list (s : ByteArray) (k : Nat) (kd : Int) (n : Nat) (h : k + n ≤ s.size) (h2 : kd = 3 → 2 ≤ n) : tokT s k kd n = ⟨(textL kd n (s.data.toList.drop k)).toArray⟩ := by
 apply baq_eq
 unfold tokT textL
 split
 · have := h2 (by assumption)
   rw [extract_list _ _ _ (by omega), List.drop_drop]
   congr 1
   omega
 · rw [extract_list _ _ _ (by omega)]
   congr 1
   omega
theorem scanF_L (s : ByteArray) : ∀ (f k : Nat), k ≤ s.size → scanF s f k = toSR s.data.toList (scanL f k (s.data.toList.drop k))
 | 0, k, _ => rfl
 | f + 1, k, hk => by
   have hlen : (s.data.toList.drop k).length = s.size - k := by rw [List.length_drop, sz]
   have hle := Tk.skipL_le false (s.data.toList.drop k)
   rw [scanF, scanL]
   by_cases h : s.size ≤ k + Tk.skipL false (s.data.toList.drop k)
   · rw [if_pos h, if_pos (by omega), toSR, hlen, show k + (s.size - k) = s.size by omega]
     rfl
   · rw [if_neg h, if_neg (by omega), List.drop_drop]
     cases ho : oneR (s.data.toList.drop (k + Tk.skipL false (s.data.toList.drop k))) with
     | err c x => rfl
     | ok kd n =>
       have hlen2 : (s.data.toList.drop (k + Tk.skipL false (s.data.toList.drop k))).length = s.size - (k + Tk.skipL false (s.data.toList.drop k)) := by rw [List.length_drop, sz]
       obtain ⟨h1, h2⟩ := oneR_ok _ _ _ (by omega) ho
       have h3 : kd = 3 → 2 ≤ n := oneq_3 _ _ _ ho
       simp only
       rw [toSR_app, scanF_L s f _ (by omega), tokT_list _ _ _ _ (by omega) h3]
       simp only [List.drop_drop, Nat.add_assoc]
       rfl
/-- the fuel does not matter -/
theorem scanL_fuel : ∀ (f g o : Nat) (l : List UInt8), l.length < f → l.length < g → scanL f o l = scanL g o l
 | 0, _, _, _, h, _ => absurd h (by omega)
 | _, 0, _, _, _, h => absurd h (by omega)
 | f + 1, g + 1, o, l, h, h' => by
   rw [scanL, scanL]
   by_cases hs : l.length ≤ Tk.skipL false l
   · rw [if_pos hs, if_pos hs]
   · rw [if_neg hs, if_neg hs]
     cases ho : oneR (l.drop (Tk.skipL false l)) with
     | err c x => rfl
     | ok kd n =>
       have h1 := (oneR_ok _ _ _ (by rw [List.length_drop]; omega) ho).1
       simp only
       rw [scanL_fuel f g _ _ (by rw [List.length_drop]; omega) (by rw [List.length_drop]; omega)]
def scanA (o : Nat) (l : List UInt8) : LR := scanL (l.length + 1) o l
theorem scanA_eq (o : Nat) (l : List UInt8) : scanA o l =
    if l.length ≤ Tk.skipL false l then .ok [⟨0, [], o + l.length⟩]
    else match oneR (l.drop (Tk.skipL false l)) with
     | .err c x => .err c (o + Tk.skipL false l + x)
     | .ok kd n => LR.app [⟨kd, textL kd n (l.drop (Tk.skipL false l)), o + Tk.skipL false l⟩] (scanA (o + Tk.skipL false l + n) (l.drop (Tk.skipL false l + n))) := by
 unfold scanA
 rw [scanL]
 by_cases hs : l.length ≤ Tk.skipL false l
 · rw [if_pos hs, if_pos hs]
 · rw [if_neg hs, if_neg hs]
   cases ho : oneR (l.drop (Tk.skipL false l)) with
   | err c x => rfl
   | ok kd n =>
     have h1 := (oneR_ok _ _ _ (by rw [List.length_drop]; omega) ho).1
     simp only
     rw [scanL_fuel l.length ((l.drop (Tk.skipL false l + n)).length + 1) _ _ (by rw [List.length_drop]; omega) (by omega)]
theorem scanS_L (s : ByteArray) (h : s.size ≤ 65536) : scanS s = toSR s.data.toList (scanA 0 s.data.toList) := by
 unfold scanS scanA
 rw [if_neg (by omega), scanF_L s _ 0 (by omega), sz]
 rfl

theorem tw_app {p : UInt8 → Bool} {l r : List UInt8} (h : l.all p = true) (hr : r = [] ∨ ∃ c r', r = c :: r' ∧ p c = false) : tw p (l ++ r) = l.length := by
 unfold tw
 rw [List.all_eq_true] at h
 rw [List.takeWhile_append_of_pos h]
 rcases hr with rfl | ⟨c, r', rfl, hc⟩
 · simp
 · rw [List.takeWhile_cons_of_neg (by simp [hc])]; simp
theorem skip0 {c : UInt8} {l : List UInt8} (h1 : ¬ bi c = 10) (h2 : ¬ bi c = 35) (h3 : ¬ bi c = 32) (h4 : ¬ bi c = 9) : Tk.skipL false (c :: l) = 0 := by
 unfold Tk.skipL
 rw [if_neg h1, if_neg h2, if_neg (by simp [h3, h4])]
/-- a text of a token, and what follows it -/
theorem scanA_skip {x : List UInt8} {j : Nat} (o : Nat) (hj : j ≤ x.length) (h : Tk.skipL false x = j + Tk.skipL false (x.drop j)) : scanA o x = scanA (o + j) (x.drop j) := by
 rw [scanA_eq o, scanA_eq (o + j), h]
 by_cases hs : x.length ≤ j + Tk.skipL false (x.drop j)
 · rw [if_pos hs, if_pos (by rw [List.length_drop]; omega), List.length_drop, show o + j + (x.length - j) = o + x.length by omega]
 · rw [if_neg hs, if_neg (by rw [List.length_drop]; omega)]
   simp only [List.drop_drop, Nat.add_assoc]
/-! ### one token -/
theorem scan_tok {tok r : List UInt8} {kd : Int} (o : Nat) (h1 : oneR (tok ++ r) = .ok kd tok.length) (h2 : textL kd tok.length (tok ++ r) = tok) (h3 : Tk.skipL false (tok ++ r) = 0) (h4 : 0 < tok.length) :
    scanA o (tok ++ r) = LR.app [⟨kd, tok, o⟩] (scanA (o + tok.length) r) := by
 rw [scanA_eq, h3, if_neg (by rw [List.length_append]; omega), List.drop_zero, h1]
 dsimp only
 rw [h2, Nat.add_zero, Nat.zero_add, List.drop_left]
theorem scan_name {l r : List UInt8} (o : Nat) (hn : nameB l = true) (hr : r = [] ∨ ∃ c r', r = c :: r' ∧ nmB c = false) : scanA o (l ++ r) = LR.app [⟨1, l, o⟩] (scanA (o + l.length) r) := by
 unfold nameB at hn
 simp only [Bool.and_eq_true, Bool.not_eq_true', decide_eq_true_eq] at hn
 obtain ⟨⟨⟨n0, n1⟩, n2⟩, n3⟩ := hn
 cases l with
 | nil => cases n0
 | cons c l =>
   have ht : tw nmB ((c :: l) ++ r) = (c :: l).length := tw_app n3 hr
   have hcn : nmB c = true := by simp at n3; exact n3.1
   have hcd : digB (bi c) = false := by simpa [dgB] using n2
   have hcl : letB (bi c) = true := by unfold nmB at hcn; rw [hcd] at hcn; simpa using hcn
   have hb : (97 ≤ bi c ∧ bi c ≤ 122) ∨ (65 ≤ bi c ∧ bi c ≤ 90) ∨ bi c = 95 := by simpa [letB, or_assoc] using hcl
   refine scan_tok o ?_ ?_ (skip0 (by omega) (by omega) (by omega) (by omega)) (by simp)
   · unfold oneR
     rw [show ((c :: l) ++ r).getD 0 0 = c from rfl, if_pos hcl]
     unfold nameR
     rw [ht, if_neg (by omega)]
   · unfold textL; rw [if_neg (by decide)]; simp
/-- a mark of one byte -/
theorem scan_mark1 {c : UInt8} {r : List UInt8} (o : Nat) (hc : c = 40 ∨ c = 41 ∨ c = 94 ∨ (c = 33 ∧ ∃ d r', r = d :: r' ∧ ¬ d = 61)) : scanA o (c :: r) = LR.app [⟨4, [c], o⟩] (scanA (o + 1) r) := by
 have hm : markN (c :: r) = 1 := by
  unfold markN
  rcases hc with rfl | rfl | rfl | ⟨rfl, d, r', rfl, hd⟩
  · cases r <;> simp [marks2, marks1]
  · cases r <;> simp [marks2, marks1]
  · cases r <;> simp [marks2, marks1]
  · simp [marks2, marks1, hd]
 have hl : letB (bi c) = false ∧ digB (bi c) = false ∧ ¬ bi c = 34 ∧ ¬ bi c = 10 ∧ ¬ bi c = 35 ∧ ¬ bi c = 32 ∧ ¬ bi c = 9 := by
  rcases hc with rfl | rfl | rfl | ⟨rfl, -⟩ <;> decide
 obtain ⟨l1, l2, l3, l4, l5, l6, l7⟩ := hl
 refine scan_tok (tok := [c]) o ?_ ?_ (skip0 l4 l5 l6 l7) (by simp)
 · unfold oneR
   rw [show ([c] ++ r).getD 0 0 = c from rfl, l1, l2]
   simp only [Bool.false_eq_true, if_false]
   rw [if_neg l3]
   unfold markR
   rw [show [c] ++ r = c :: r from rfl, hm]; rfl
 · unfold textL; rw [if_neg (by decide)]; simp
theorem scan_mark2 {c d : UInt8} {r : List UInt8} (o : Nat) (hc : [c, d] ∈ marks2) : scanA o (c :: d :: r) = LR.app [⟨4, [c, d], o⟩] (scanA (o + 2) r) := by
 have hm : markN (c :: d :: r) = 2 := by
  unfold markN
  rw [if_pos (by simpa using hc)]
 have hl : letB (bi c) = false ∧ digB (bi c) = false ∧ ¬ bi c = 34 ∧ ¬ bi c = 10 ∧ ¬ bi c = 35 ∧ ¬ bi c = 32 ∧ ¬ bi c = 9 := by
  simp only [marks2, List.mem_cons, List.cons.injEq, and_true, List.not_mem_nil, or_false] at hc
  rcases hc with ⟨rfl, -⟩ | ⟨rfl, -⟩ | ⟨rfl, -⟩ | ⟨rfl, -⟩ <;> decide
 obtain ⟨l1, l2, l3, l4, l5, l6, l7⟩ := hl
 refine scan_tok (tok := [c, d]) o ?_ ?_ (skip0 l4 l5 l6 l7) (by simp)
 · unfold oneR
   rw [show ([c, d] ++ r).getD 0 0 = c from rfl, l1, l2]
   simp only [Bool.false_eq_true, if_false]
   rw [if_neg l3]
   unfold markR
   rw [show [c, d] ++ r = c :: d :: r from rfl, hm]; rfl
 · unfold textL; rw [if_neg (by decide)]; simp
theorem scan_sp {r : List UInt8} (o : Nat) : scanA o (32 :: r) = scanA (o + 1) r :=
 scanA_skip (j := 1) o (by simp) (by simp [Tk.skipL, bi]; omega)
open Go.RowKit Tk
def TX (x : Ex) (n : Int) : List UInt8 := (textB x n).data.toList
theorem ba_app (a b : ByteArray) : (a ++ b).data.toList = a.data.toList ++ b.data.toList := by
 rw [ByteArray.data_append, Array.toList_append]
theorem textq_eq (x : Ex) (l : Int) : textB x l = paren (decide (strB x.h.op < l)) (bodyT x.h x.kids.length (textBs x.kids (if x.kids.length = 1 then 5 else signN x.h.op))) := by cases x; rw [textB]; rfl
theorem tx_name {x : Ex} (hg : x.good) (h1 : x.h.op = 1) {s : ByteArray} (hs : x.h.names = [s]) {n : Int} (hn : n ≤ 5) : TX x n = s.data.toList := by
 unfold TX
 rw [textq_eq, (kq0 hg h1).1, h1, show strB 1 = 5 from rfl, decide_eq_false (by omega)]
 simp [paren, bodyT, hs, firstN]
theorem tx_not {x a : Ex} (h2 : x.h.op = 2) (hk : x.kids = [a]) {n : Int} (hn : n ≤ 5) : TX x n = 33 :: TX a 5 := by
 unfold TX
 rw [textq_eq, hk, h2, show strB 2 = 5 from rfl, decide_eq_false (by omega)]
 show (bodyT x.h 1 (textBs [a] 5)).data.toList = _
 unfold bodyT
 rw [if_neg (by decide), if_pos rfl, textBs, ba_app]; rfl
theorem tx_two {x a b : Ex} (ho : x.h.op = 3 ∨ x.h.op = 4 ∨ x.h.op = 5 ∨ x.h.op = 6 ∨ x.h.op = 7) (hk : x.kids = [a, b]) (n : Int) :
    TX x n = if signN x.h.op < n then 40 :: ((TX a (signN x.h.op) ++ 32 :: ((signM x.h.op).data.toList ++ 32 :: TX b (signN x.h.op + 1))) ++ [41]) else TX a (signN x.h.op) ++ 32 :: ((signM x.h.op).data.toList ++ 32 :: TX b (signN x.h.op + 1)) := by
 have e : strB x.h.op = signN x.h.op := by rcases ho with h | h | h | h | h <;> rw [h] <;> rfl
 have hb : (bodyT x.h 2 (textBs [a, b] (signN x.h.op))).data.toList = TX a (signN x.h.op) ++ 32 :: ((signM x.h.op).data.toList ++ 32 :: TX b (signN x.h.op + 1)) := by
  unfold bodyT
  rw [if_neg (by decide), if_neg (by decide), textBs, textBs]
  rw [ba_app, ba_app, ba_app, ba_app]
  simp only [List.append_assoc]
  rfl
 unfold TX at *
 rw [textq_eq, hk, e]
 show (paren _ (bodyT x.h 2 (textBs [a, b] (signN x.h.op)))).data.toList = _
 unfold paren
 by_cases hp : signN x.h.op < n
 · rw [decide_eq_true hp, if_pos rfl, if_pos hp, ba_app, ba_app, hb]; rfl
 · rw [decide_eq_false hp, if_neg (by decide), if_neg hp, hb]
theorem head_tk : ∀ m x, levE x ≤ m → x.good → ∀ n : Int, n ≤ 5 → ∃ d l, TX x n = d :: l ∧ ¬ d = 61
 | 0, x, hm, _, _, _ => by rw [levE_eq] at hm; omega
 | m + 1, x, hm, hg, n, hn => by
   by_cases o1 : x.h.op = 1
   · obtain ⟨hk, s, hs, hi⟩ := kq0 hg o1
     rw [tx_name hg o1 hs hn]
     unfold identB nameB at hi
     simp only [Bool.and_eq_true, Bool.not_eq_true', decide_eq_true_eq] at hi
     obtain ⟨⟨⟨⟨n0, n1⟩, n2⟩, n3⟩, -⟩ := hi
     cases hl : s.data.toList with
     | nil => rw [hl] at n0; cases n0
     | cons c l =>
       rw [hl] at n3
       refine ⟨c, l, rfl, fun h => ?_⟩
       subst h
       simp [nmB, letB, digB, bi] at n3
   by_cases o2 : x.h.op = 2
   · obtain ⟨a, hk, hga⟩ := kq1 hg o2
     exact ⟨33, _, tx_not o2 hk hn, by decide⟩
   · obtain ⟨ho, a, b, hk, hga, hgb⟩ := kq2 hg o1 o2
     obtain ⟨hla, -⟩ := lev_kid2 hk
     rw [tx_two ho hk]
     split
     · exact ⟨40, _, rfl, by decide⟩
     · obtain ⟨d, l, h1, h2⟩ := head_tk m a (by omega) hga (signN x.h.op) (by rcases ho with h | h | h | h | h <;> rw [h] <;> decide)
       exact ⟨d, _, by rw [h1]; rfl, h2⟩
def Stp (r : List UInt8) : Prop := r = [] ∨ ∃ c r', r = c :: r' ∧ (c = 32 ∨ c = 41)
def ktL (us : List LTok) : List KT := us.map fun t => (t.kind, (⟨t.text.toArray⟩ : ByteArray))
theorem scan_sign {op : Int} (ho : op = 3 ∨ op = 4 ∨ op = 5 ∨ op = 6 ∨ op = 7) (o : Nat) (r : List UInt8) :
    ∃ u, scanA o ((signM op).data.toList ++ 32 :: r) = LR.app [u] (scanA (o + (signM op).data.toList.length + 1) r) ∧ ktL [u] = [(4, signM op)] := by
 rcases ho with rfl | rfl | rfl | rfl | rfl
 · exact ⟨_, by rw [show (signM 3).data.toList ++ 32 :: r = 38 :: 38 :: 32 :: r from rfl, scan_mark2 o (by decide), scan_sp]; rfl, rfl⟩
 · exact ⟨_, by rw [show (signM 4).data.toList ++ 32 :: r = 124 :: 124 :: 32 :: r from rfl, scan_mark2 o (by decide), scan_sp]; rfl, rfl⟩
 · exact ⟨_, by rw [show (signM 5).data.toList ++ 32 :: r = 94 :: 32 :: r from rfl, scan_mark1 o (.inr (.inr (.inl rfl))), scan_sp]; rfl, rfl⟩
 · exact ⟨_, by rw [show (signM 6).data.toList ++ 32 :: r = 61 :: 61 :: 32 :: r from rfl, scan_mark2 o (by decide), scan_sp]; rfl, rfl⟩
 · exact ⟨_, by rw [show (signM 7).data.toList ++ 32 :: r = 33 :: 61 :: 32 :: r from rfl, scan_mark2 o (by decide), scan_sp]; rfl, rfl⟩
theorem ktL_app (a b : List LTok) : ktL (a ++ b) = ktL a ++ ktL b := by unfold ktL; rw [List.map_append]
theorem scan_tk : ∀ m x, levE x ≤ m → x.good → ∀ n : Int, n ≤ 5 → ∀ (o : Nat) (r : List UInt8), Stp r → ∃ us, scanA o (TX x n ++ r) = LR.app us (scanA (o + (TX x n).length) r) ∧ ktL us = tkE x n
 | 0, x, hm, _, _, _, _, _, _ => by rw [levE_eq] at hm; omega
 | m + 1, x, hm, hg, n, hn, o, r, hr => by
   by_cases o1 : x.h.op = 1
   · obtain ⟨hk, s, hs, hi⟩ := kq0 hg o1
     rw [tx_name hg o1 hs hn, tk_name hg o1 hs hn]
     have hnm : nameB s.data.toList = true := by unfold identB at hi; simp only [Bool.and_eq_true] at hi; exact hi.1
     refine ⟨[⟨1, s.data.toList, o⟩], scan_name o hnm ?_, rfl⟩
     rcases hr with h | ⟨c, r', h, rfl | rfl⟩
     · exact .inl h
     · exact .inr ⟨_, _, h, rfl⟩
     · exact .inr ⟨_, _, h, rfl⟩
   by_cases o2 : x.h.op = 2
   · obtain ⟨a, hk, hga⟩ := kq1 hg o2
     have hl := lev_kid1 hk
     rw [tx_not o2 hk hn, tk_not o2 hk hn]
     obtain ⟨d, l, h1, h2⟩ := head_tk m a (by omega) hga 5 (by decide)
     obtain ⟨us, h3, h4⟩ := scan_tk m a (by omega) hga 5 (by decide) (o + 1) r hr
     refine ⟨[⟨4, [33], o⟩] ++ us, ?_, ?_⟩
     · rw [show (33 :: TX a 5) ++ r = 33 :: (TX a 5 ++ r) from rfl, scan_mark1 o (.inr (.inr (.inr ⟨rfl, d, l ++ r, by rw [h1]; rfl, h2⟩))), h3, LR.app_app, List.length_cons, show o + 1 + (TX a 5).length = o + ((TX a 5).length + 1) by omega]
     · rw [ktL_app, h4]; rfl
   · obtain ⟨ho, a, b, hk, hga, hgb⟩ := kq2 hg o1 o2
     obtain ⟨hla, hlb⟩ := lev_kid2 hk
     have hs5 : signN x.h.op ≤ 4 := by rcases ho with h | h | h | h | h <;> rw [h] <;> decide
     have two : ∀ (o : Nat) (r : List UInt8), Stp r → ∃ us, scanA o ((TX a (signN x.h.op) ++ 32 :: ((signM x.h.op).data.toList ++ 32 :: TX b (signN x.h.op + 1))) ++ r) =
         LR.app us (scanA (o + (TX a (signN x.h.op) ++ 32 :: ((signM x.h.op).data.toList ++ 32 :: TX b (signN x.h.op + 1))).length) r) ∧ ktL us = tkE a (signN x.h.op) ++ (4, signM x.h.op) :: tkE b (signN x.h.op + 1) := by
      intro o r hr
      obtain ⟨ua, ha1, ha2⟩ := scan_tk m a (by omega) hga (signN x.h.op) (by omega) o (32 :: ((signM x.h.op).data.toList ++ 32 :: (TX b (signN x.h.op + 1) ++ r))) (.inr ⟨_, _, rfl, .inl rfl⟩)
      obtain ⟨u, hu1, hu2⟩ := scan_sign ho (o + (TX a (signN x.h.op)).length + 1) (TX b (signN x.h.op + 1) ++ r)
      obtain ⟨ub, hb1, hb2⟩ := scan_tk m b (by omega) hgb (signN x.h.op + 1) (by omega) (o + (TX a (signN x.h.op)).length + 1 + (signM x.h.op).data.toList.length + 1) r hr
      refine ⟨ua ++ ([u] ++ ub), ?_, ?_⟩
      · rw [List.append_assoc, List.cons_append, List.append_assoc, List.cons_append, ha1, scan_sp, hu1, hb1, LR.app_app, LR.app_app, List.append_assoc]
        refine congrArg (fun q => LR.app (ua ++ ([u] ++ ub)) (scanA q r)) ?_
        simp only [List.length_append, List.length_cons]
        omega
      · rw [ktL_app, ktL_app, ha2, hu2, hb2]; rfl
     rw [tx_two ho hk, tk_two ho hk]
     by_cases hp : signN x.h.op < n
     · rw [if_pos hp, decide_eq_true hp]
       obtain ⟨us, h1, h2⟩ := two (o + 1) (41 :: r) (.inr ⟨_, _, rfl, .inr rfl⟩)
       refine ⟨[⟨4, [40], o⟩] ++ (us ++ [⟨4, [41], o + 1 + (TX a (signN x.h.op) ++ 32 :: ((signM x.h.op).data.toList ++ 32 :: TX b (signN x.h.op + 1))).length⟩]), ?_, ?_⟩
       · rw [List.cons_append, List.append_assoc, scan_mark1 o (.inl rfl), show [41] ++ r = 41 :: r from rfl, h1, scan_mark1 _ (.inr (.inl rfl)), LR.app_app, LR.app_app, List.append_assoc]
         generalize ([⟨4, [40], o⟩] ++ (us ++ [⟨4, [41], _⟩]) : List LTok) = L
         refine congrArg (fun q => LR.app L (scanA q r)) ?_
         simp only [List.length_append, List.length_cons, List.length_nil]
         omega
       · rw [ktL_app, ktL_app, h2]; rfl
     · rw [if_neg hp, decide_eq_false hp]
       exact two o r hr
open Go.RowKit Tk
theorem text01 (x : Ex) : textB x 0 = textB x 1 := by
 have h : 1 ≤ strB x.h.op := by unfold strB signN; repeat' split <;> omega
 rw [textq_eq x 0, textq_eq x 1, decide_eq_false (by omega), decide_eq_false (by omega)]
theorem kt_at (src : List UInt8) (us : List LTok) : kt (us.map (LTok.at src)) = ktL us := by
 unfold kt ktL LTok.at
 rw [List.map_map]; rfl
theorem parse_text {x : Ex} (hg : x.good) (hl : levE x ≤ 12) (hs : (textB x 0).size ≤ 65536) : parseR (textB x 0) = .ok x.bare 0 := by
 obtain ⟨us, h1, h2⟩ := scan_tk _ x (Nat.le_refl _) hg 1 (by decide) 0 [] (.inl rfl)
 rw [List.append_nil, show scanA (0 + (TX x 1).length) [] = .ok [⟨0, [], 0 + (TX x 1).length + 0⟩] by rw [scanA_eq]; rfl] at h1
 have hsc : scanS (textB x 0) = .ok ((us ++ [(⟨0, [], 0 + (TX x 1).length + 0⟩ : LTok)]).map (LTok.at (TX x 1))) := by
  rw [scanS_L _ hs, text01]
  show toSR (TX x 1) (scanA 0 (TX x 1)) = _
  rw [h1]; rfl
 generalize hts : (us ++ [(⟨0, [], 0 + (TX x 1).length + 0⟩ : LTok)]).map (LTok.at (TX x 1)) = ts at hsc
 have hk : kt ts = [] ++ (tkE x ((1 : Nat) : Int) ++ [(0, (⟨#[]⟩ : ByteArray))]) := by
  rw [← hts, kt_at, ktL_app, h2]; rfl
 have hz : ∀ k, opK (some (0, (⟨#[]⟩ : ByteArray))) k = 0 := fun k => by
  unfold opK isK; simp
 have hr := prs_tk ts _ x (Nat.le_refl _) hg 1 0 [] [(0, ⟨#[]⟩)] (by decide) (by decide) hk (by omega) (fun k _ _ => hz k)
 have hp := hr.all (by decide) (fun _ => by rw [opAt_kt, hk, at_pre2]; exact hz 1)
 have hf := Prs.fuel hp
 have ht : toksR ts = .ok x.bare (([] : List KT).length + (tkE x ((1 : Nat) : Int)).length) := by
  unfold toksR
  rw [show ([] : List KT).length = 0 from rfl] at hf
  rw [hf]
  dsimp only
  rw [if_neg (by rw [levE_bare]; omega)]; rfl
 have hat : (kt ts)[([] : List KT).length + (tkE x ((1 : Nat) : Int)).length]? = some (0, ⟨#[]⟩) := by rw [hk, at_pre2]; rfl
 unfold parseR
 rw [hsc]
 dsimp only
 rw [ht]
 dsimp only
 unfold kt at hat
 rw [List.getElem?_map] at hat
 cases hq : ts[([] : List KT).length + (tkE x ((1 : Nat) : Int)).length]? with
 | none => rfl
 | some t =>
   rw [hq] at hat
   simp only [Option.map_some, Option.some.injEq, Prod.mk.injEq] at hat
   dsimp only
   rw [if_pos hat.1]
open Go.RowKit Tk
theorem scanL_len : ∀ (f o : Nat) (l : List UInt8) (ts : List LTok), scanL f o l = .ok ts → ts.length ≤ l.length + 1
 | 0, _, _, ts, h => by rw [scanL] at h; injection h with h; subst h; exact Nat.zero_le _
 | f + 1, o, l, ts, h => by
   rw [scanL] at h
   by_cases hs : l.length ≤ Tk.skipL false l
   · rw [if_pos hs] at h; injection h with h; subst h; simp
   · rw [if_neg hs] at h
     cases ho : oneR (l.drop (Tk.skipL false l)) with
     | err c x => rw [ho] at h; cases h
     | ok kd n =>
       rw [ho] at h
       dsimp only at h
       have h1 := (oneR_ok _ _ _ (by rw [List.length_drop]; omega) ho)
       rw [List.length_drop] at h1
       cases hq : scanL f (o + Tk.skipL false l + n) (l.drop (Tk.skipL false l + n)) with
       | err c x => rw [hq] at h; cases h
       | ok us =>
         rw [hq] at h
         have ih := scanL_len f _ _ _ hq
         rw [List.length_drop] at ih
         unfold LR.app at h
         injection h with h
         subst h
         simp only [List.length_append, List.length_cons, List.length_nil]
         omega
theorem scanS_len {s : ByteArray} {ts : List Tok} (h : scanS s = .ok ts) (hs : s.size ≤ 65536) : ts.length ≤ s.size + 1 := by
 rw [scanS_L s hs] at h
 unfold scanA at h
 cases hq : scanL (s.data.toList.length + 1) 0 s.data.toList with
 | err c x => rw [hq] at h; cases h
 | ok us =>
   rw [hq] at h
   have := scanL_len _ _ _ _ hq
   unfold toSR at h
   injection h with h
   subst h
   rw [List.length_map]
   rw [sz] at this
   exact this
mutual
theorem wz_few : ∀ x : Ex, x.good → x.wz ≤ 40 * x.sz
 | .mk h k, hg => by
   have hg2 := hg
   unfold Ex.good at hg2
   rw [Ex.wz, Ex.sz]
   have ih := wzs_few k hg2.2
   have hn : (h.names.map ByteArray.size).sum ≤ 32 := by
    by_cases h1 : h.op = 1
    · obtain ⟨-, s, hs, hi⟩ := kq0 hg (show (Ex.mk h k).h.op = 1 from h1)
      rw [show h.names = [s] from hs]
      have := identB_size hi
      simpa using this
    · rw [show h.names = [] from names_op hg (show ¬ (Ex.mk h k).h.op = 1 from h1)]; simp
   omega
theorem wzs_few : ∀ k : List Ex, Ex.goods k → Ex.wzs k ≤ 40 * Ex.szs k
 | [], _ => by rw [Ex.wzs]; exact Nat.zero_le _
 | e :: r, hg => by
   unfold Ex.goods at hg
   rw [Ex.wzs, Ex.szs]
   have h1 := wz_few e hg.1
   have h2 := wzs_few r hg.2
   omega
end
theorem text_few {x : Ex} (hg : x.good) (hz : x.sz ≤ 1000) : (textB x 0).size ≤ 40000 := by
 have h1 := textB_size x 0
 have h2 := wz_few x hg
 omega
/-- a good condition comes back from its text -/
theorem back {x : Ex} (hz : x.sz ≤ 1000) {t : ByteArray} {k : Int} (h : textR x = (t, k)) (hk : k = 0) : x.good ∧ t = textB x 0 ∧ parseR t = .ok x.bare 0 := by
 unfold textR at h
 by_cases hc : chk x 1 = 0
 · rw [if_neg (by simpa using hc)] at h
   injection h with h1 h2
   subst h1
   obtain ⟨hg, hl⟩ := (chk_iff x).1 hc
   exact ⟨hg, rfl, parse_text hg hl (by have := text_few hg hz; omega)⟩
 · rw [if_pos hc] at h
   injection h with h1 h2
   omega
/-- what is read is a good condition and comes back from its text -/
theorem again_ok {s : ByteArray} (hs : s.size ≤ 400) {y : Ex} {n : Nat} (h : parseR s = .ok y n) : y.good ∧ y.sz ≤ 401 ∧ textR y = (textB y 0, 0) ∧ parseR (textB y 0) = .ok y.bare 0 := by
 unfold parseR at h
 cases hq : scanS s with
 | err c p => rw [hq] at h; cases h
 | ok ts =>
   rw [hq] at h
   dsimp only at h
   have hlen := scanS_len hq (by omega)
   cases hr : toksR ts with
   | err c p => rw [hr] at h; cases h
   | ok x m =>
     rw [hr] at h
     dsimp only at h
     have hxy : x = y := by
      split at h
      · split at h
        · injection h
        · cases h
      · injection h
     subst hxy
     unfold toksR at hr
     cases hp : prs ts (fuelP ts) 1 0 0 with
     | none => rw [hp] at hr; cases hr
     | err c i => rw [hp] at hr; cases hr
     | ok z i =>
       rw [hp] at hr
       dsimp only at hr
       by_cases hl : 12 < levE z
       · rw [if_pos hl] at hr; cases hr
       · rw [if_neg hl] at hr
         injection hr with hz hi
         subst hz
         have hg := (prs_good ts (fuelP ts)).1 _ _ _ _ _ hp
         have hsz := (prs_sz ts (fuelP ts)).1 _ _ _ _ _ hp
         have hj := (((prs_fuel ts (fuelP ts)).1 1 0 0 (by decide) (by decide) (by unfold fuelP; omega)).2 _ _ hp).2
         have hc : chk z 1 = 0 := (chk_iff z).2 ⟨hg, by omega⟩
         refine ⟨hg, by omega, ?_, parse_text hg (by omega) (by have := text_few hg (by omega); omega)⟩
         unfold textR
         rw [if_neg (by simpa using hc)]
open Go.RowKit Tk
theorem parse_err {s : ByteArray} {c : Int} {q : Int × Int} (h : parseR s = .err c q) : ¬ c = 0 := by
 unfold parseR at h
 cases hs : scanS s with
 | err c' q' => rw [hs] at h; injection h with h1 _; subst h1; exact scanS_err hs
 | ok ts =>
   rw [hs] at h
   dsimp only at h
   cases ht : toksR ts with
   | err c' q' => rw [ht] at h; injection h with h1 _; subst h1; exact toks_err ht
   | ok x n =>
     rw [ht] at h
     dsimp only at h
     split at h
     · split at h
       · cases h
       · injection h with h1 _; subst h1; decide
     · cases h
theorem lawRoundTrip {x : Ex} {w : World} (s : ByteArray) (hxo : x.ok w) (hsmx : x.small) (hss : s.size ≤ maxLen) : Calls Try.prog 3 #[.agg (exC x).toArray, .string s] w (BPost true w) := by
 have hi : -9000000000000000000 ≤ (200 : Int) ∧ (200 : Int) ≤ 9000000000000000000 := by omega
 obtain ⟨bx, hbx⟩ : ∃ b, decide (0 ≤ cntE x 200) = b := ⟨_, rfl⟩
 have HFX := Lib.hid hbx
 unfold maxLen at hss
 cases bx
 case' false =>
  clear hbx
 case' true =>
  have hsx : x.sz ≤ 200 := by have h0 := of_decide_eq_true hbx; have := (cntE_le x 200).2 h0; omega
  have hzx : x.sz ≤ 1000000000 := by omega
  clear hbx
  refine Classical.byCases (p := 400 < s.size) (fun h4 => ?k1p) (fun h4 => ?k1n)
  case' k1p =>
   have g1 : decide ((400 : Int) < (s.size : Int)) = true := decide_eq_true (by omega)
  case' k1n =>
   have g1 : decide ((400 : Int) < (s.size : Int)) = false := decide_eq_false (by omega)
   obtain ⟨r, hr⟩ : ∃ r, textR x = r := ⟨_, rfl⟩
   obtain ⟨tx, k⟩ := r
   have HT := Lib.hid hr
   obtain ⟨p, hp⟩ : ∃ p, parseR s = p := ⟨_, rfl⟩
   have HP := Lib.hid hp
   refine Classical.byCases (p := k = 0) (fun hk => ?k2p) (fun hk => ?k2n)
   case' k2p =>
    have HPX : Hid (parseR tx = .ok x.bare 0) := Lib.hid (back (by omega) hr hk).2.2
    subst hk
    clear hr
    cases p
    case' err c q =>
     obtain ⟨s1, s2⟩ := kd_f (parse_err hp)
     clear hp
    case' ok y n =>
     obtain ⟨hgy, hzy0, hty0, hpz⟩ := again_ok (by omega) hp
     have hzy : y.sz ≤ 1000000000 := by omega
     clear hp
     obtain ⟨ty, hte⟩ : ∃ t, textB y 0 = t := ⟨_, rfl⟩
     rw [hte] at hty0 hpz
     clear hte hzy0
     have hty := Lib.hid hty0
     have HPZ := Lib.hid hpz
     clear hty0 hpz
   case' k2n =>
    obtain ⟨k1, k2⟩ := kd_f hk
    clear hr hk
    cases p
    case' err c q =>
     obtain ⟨s1, s2⟩ := kd_f (parse_err hp)
     clear hp
    case' ok y n =>
     obtain ⟨hgy, hzy0, hty0, hpz⟩ := again_ok (by omega) hp
     have hzy : y.sz ≤ 1000000000 := by omega
     clear hp
     obtain ⟨ty, hte⟩ : ∃ t, textB y 0 = t := ⟨_, rfl⟩
     rw [hte] at hty0 hpz
     clear hte hzy0
     have hty := Lib.hid hty0
     have HPZ := Lib.hid hpz
     clear hty0 hpz
 all_goals
  go_enter Try.func3, Try.ntmps3
  have E := Only.refl [] w
  go_upto_region 9999 with (first | ((first | ((with_reducible refine at_dst 16 ?_); go_simp; (have hc := few_any (hxo.ext E.low) 200 hi); (first | with_reducible refine hc.mono ?_ | refine hc.mono ?_); clear hc; unfold BPost; rw [HFX.out]; rintro e wn ⟨rfl, hx⟩) | ((with_reducible refine at_dst 23 ?_); go_simp; ((with_reducible refine (awake_any _).mono ?_)); unfold BPost; rintro e wn ⟨rfl, hx⟩) | ((with_reducible refine at_dst 26 ?_); go_simp; (have hc := bText_law (hxo.ext E.low) hsmx hzx); (first | with_reducible refine hc.mono ?_ | refine hc.mono ?_); clear hc; unfold TIPost; rw [HT.out]; dsimp only; rintro e wn ⟨rfl, hx⟩) | ((with_reducible refine at_dst 33 ?_); go_simp; (have hc := bParse_any tx wn); (first | with_reducible refine hc.mono ?_ | refine hc.mono ?_); clear hc; unfold PaPost; rw [HPX.out]; dsimp only [fltV]; rintro e wn ⟨u, rfl, hu, hub, hx⟩) | ((with_reducible refine at_dst 47 ?_); go_simp; (have hc := bParse_any s wn); (first | with_reducible refine hc.mono ?_ | refine hc.mono ?_); clear hc; unfold PaPost; rw [HP.out]; dsimp only [fltV]; rintro e wn ⟨rfl, hx⟩) | ((with_reducible refine at_dst 47 ?_); go_simp; (have hc := bParse_any s wn); (first | with_reducible refine hc.mono ?_ | refine hc.mono ?_); clear hc; unfold PaPost; rw [HP.out]; dsimp only [fltV]; rintro e wn ⟨v, rfl, hv, hvb, hx⟩) | ((with_reducible refine at_dst 53 ?_); go_simp; ((with_reducible refine (awake_any _).mono ?_)); unfold BPost; rintro e wn ⟨rfl, hx⟩) | ((with_reducible refine at_dst 56 ?_); go_simp; (have hc := bText_of hv (pbare hvb) hgy hzy hty.out); (first | with_reducible refine hc.mono ?_ | refine hc.mono ?_); clear hc; unfold TIPost; dsimp only; rintro e wn ⟨rfl, hx⟩) | ((with_reducible refine at_dst 61 ?_); go_simp; (have hc := bParse_any ty wn); (first | with_reducible refine hc.mono ?_ | refine hc.mono ?_); clear hc; unfold PaPost; rw [HPZ.out]; dsimp only [fltV]; rintro e wn ⟨z3, rfl, hz3, hzb, hx⟩) | ((first | ((with_reducible refine at_store 7 ?_); have bo := b7; refine wp_put bo rfl rfl ?_ ?_ ?_ ?_) | ((with_reducible refine at_store 8 ?_); have bo := b8; refine wp_put bo rfl rfl ?_ ?_ ?_ ?_) | ((with_reducible refine at_store 9 ?_); have bo := b9; refine wp_put bo rfl rfl ?_ ?_ ?_ ?_) | ((with_reducible refine at_store 10 ?_); have bo := b10; refine wp_put bo rfl rfl ?_ ?_ ?_ ?_) | ((with_reducible refine at_store 13 ?_); have bo := b13; refine wp_put bo rfl rfl ?_ ?_ ?_ ?_) | ((with_reducible refine at_store 14 ?_); have bo := b14; refine wp_put bo rfl rfl ?_ ?_ ?_ ?_)); (· kernel_rfl); (· first | rfl | kernel_rfl); (· first | decide | exact Nat.le_refl _ | simp [Act.eval, Value.cells] | (simp [Act.eval, Act.put, Value.cells]; done)); intro wn bn hb; dsimp only [Act.put]; simp only [putA, Act.eval, Value.cells, Nat.reduceAdd, putL, exC_size] at bn; have E2 := E.put bo hb; (try replace b2 := b2.but hb (by assumption)); (try replace b7 := b7.but hb (by assumption)); (try replace b8 := b8.but hb (by assumption)); (try replace b9 := b9.but hb (by assumption)); (try replace b10 := b10.but hb (by assumption)); (try replace b13 := b13.but hb (by assumption)); (try replace b14 := b14.but hb (by assumption)); (first | (replace hu := hu.but hb bo.blk (of_decide_eq_true rfl)) | (replace hu := hu.but0 hb (by assumption)) | skip); (first | (replace hv := hv.but hb bo.blk (of_decide_eq_true rfl)) | (replace hv := hv.but0 hb (by assumption)) | skip); (first | (replace hz3 := hz3.but hb bo.blk (of_decide_eq_true rfl)) | (replace hz3 := hz3.but0 hb (by assumption)) | skip); clear E bo; have E := E2; clear E2; (try replace b7 := b7.re bn); (try replace b8 := b8.re bn); (try replace b9 := b9.re bn); (try replace b10 := b10.re bn); (try replace b13 := b13.re bn); (try replace b14 := b14.re bn); clear bn hb) | ((first | ((with_reducible refine at_dst 2 ?_); go_simp; (generalize hXn : Array.size (World.heap _) = X2); refine new_block hXn ?_; intro wn bb hx; have b2 := Loc.new bb E hXn) | ((with_reducible refine at_dst 7 ?_); go_simp; (generalize hXn : Array.size (World.heap _) = X7); refine new_block hXn ?_; intro wn bb hx; have b7 := Loc.new bb E hXn) | ((with_reducible refine at_dst 8 ?_); go_simp; (generalize hXn : Array.size (World.heap _) = X8); refine new_block hXn ?_; intro wn bb hx; have b8 := Loc.new bb E hXn) | ((with_reducible refine at_dst 9 ?_); go_simp; (generalize hXn : Array.size (World.heap _) = X9); refine new_block hXn ?_; intro wn bb hx; have b9 := Loc.new bb E hXn) | ((with_reducible refine at_dst 10 ?_); go_simp; (generalize hXn : Array.size (World.heap _) = X10); refine new_block hXn ?_; intro wn bb hx; have b10 := Loc.new bb E hXn) | ((with_reducible refine at_dst 13 ?_); go_simp; (generalize hXn : Array.size (World.heap _) = X13); refine new_block hXn ?_; intro wn bb hx; have b13 := Loc.new bb E hXn) | ((with_reducible refine at_dst 14 ?_); go_simp; (generalize hXn : Array.size (World.heap _) = X14); refine new_block hXn ?_; intro wn bb hx; have b14 := Loc.new bb E hXn)); (try have ⟨nn, nm⟩ := b7.ne hXn); (try have ⟨nn, nm⟩ := b8.ne hXn); (try have ⟨nn, nm⟩ := b9.ne hXn); (try have ⟨nn, nm⟩ := b10.ne hXn); (try have ⟨nn, nm⟩ := b13.ne hXn); (try have ⟨nn, nm⟩ := b14.ne hXn); (try have ⟨nn, nm⟩ := b2.ne hXn); have zz := Nat.le_trans E.size (Nat.le_of_eq hXn); (try have mm := hu.notin (Nat.le_of_eq hXn)); (try have mm := hv.notin (Nat.le_of_eq hXn)); (try have mm := hz3.notin (Nat.le_of_eq hXn)); clear bb hXn)); (try replace E := E.ext hx); (try replace b2 := b2.ext hx); (try replace b7 := b7.ext hx); (try replace b8 := b8.ext hx); (try replace b9 := b9.ext hx); (try replace b10 := b10.ext hx); (try replace b13 := b13.ext hx); (try replace b14 := b14.ext hx); (try replace hu := hu.ext hx); (try replace hv := hv.ext hx); (try replace hz3 := hz3.ext hx); (try replace hcE := bcell E.low); (try replace c2 := b2.cf); (try replace c7 := b7.cf); (try replace c8 := b8.cf); (try replace c9 := b9.cf); (try replace c10 := b10.cf); (try replace c13 := b13.cf); (try replace c14 := b14.cf)) | ((with_reducible refine at_dsts [15, 25, 36, 40, 41, 55, 72, 73] ?_ ?_); (· rfl); (refine wp_all (Loc.blk (by assumption)) rfl rfl ?_ ?_ ?_); (· kernel_rfl); (· kernel_rfl)) | (go_at_call 5; ((have hc := awake_any wn); (first | with_reducible refine hc.mono ?_ | refine hc.mono ?_); clear hc; unfold BPost); rintro e9 wn ⟨rfl, hx⟩; (try replace E := E.ext hx); (try replace b2 := b2.ext hx); (try replace b7 := b7.ext hx); (try replace b8 := b8.ext hx); (try replace b9 := b9.ext hx); (try replace b10 := b10.ext hx); (try replace b13 := b13.ext hx); (try replace b14 := b14.ext hx); (try replace hu := hu.ext hx); (try replace hv := hv.ext hx); (try replace hz3 := hz3.ext hx); (try replace hcE := bcell E.low); (try replace c2 := b2.cf); (try replace c7 := b7.cf); (try replace c8 := b8.cf); (try replace c9 := b9.cf); (try replace c10 := b10.cf); (try replace c13 := b13.cf); (try replace c14 := b14.cf)) | (go_at_call 8; (first | ((have hc := qsame_true hv hz3 ((pbare hvb).trans hzb.symm)); (first | with_reducible refine hc.mono ?_ | refine hc.mono ?_); clear hc; unfold BPost) | ((have hc := qsame_true hu (hxo.ext E.low) hub); (first | with_reducible refine hc.mono ?_ | refine hc.mono ?_); clear hc; unfold BPost)); rintro e9 wn ⟨rfl, hx⟩; (try replace E := E.ext hx); (try replace b2 := b2.ext hx); (try replace b7 := b7.ext hx); (try replace b8 := b8.ext hx); (try replace b9 := b9.ext hx); (try replace b10 := b10.ext hx); (try replace b13 := b13.ext hx); (try replace b14 := b14.ext hx); (try replace hu := hu.ext hx); (try replace hv := hv.ext hx); (try replace hz3 := hz3.ext hx); (try replace hcE := bcell E.low); (try replace c2 := b2.cf); (try replace c7 := b7.cf); (try replace c8 := b8.cf); (try replace c9 := b9.cf); (try replace c10 := b10.cf); (try replace c13 := b13.cf); (try replace c14 := b14.cf)) | ((with_reducible refine wpTxt_q ?_ ?_ ?_); rfl; rfl; intro _ _) | ((with_reducible refine wpTxt_w0 ?_ ?_ ?_); rfl; rfl; intro _ _) | ((with_reducible refine wpTxt_s ?_ ?_); rfl; intro _ _; go_simp) | ((with_reducible refine wpTxt_sw ?_ ?_); rfl; intro _ _; go_simp) | (with_reducible refine wpTxt_nil ?_) | ((with_reducible refine wp_region_t mixed ?_ ?_); decide +kernel; intro _ _))
  first
   | (go_ret
      exact ⟨rfl, E.low⟩)
open Go.ChangeShapes Go.WideShapes Go.ChangeAt Go.RowKit
theorem own : ownKnob Try.prog.godebug = none := by kernel_rfl
theorem laidOut : laidOutB Try.prog = true := by kernel_rfl
section
variable {H : Type} {enc : TypeId × Value → H} {P : Program}
/-- the row's last step where the call leaves a world that has grown: each argument reads as it did -/
theorem post_grown {f : Func} {s : ChangeSpec} {apart fresh handsOn again : Bool} {W W' : World} {args : Array Value} {v : Value} {ds gs : List (DataW H)} {before pa pv : List MemPlace}
    (hW : DataW.Whole enc P f.params.toList s.vars apart W args.toList ds gs before)
    (hres : ∀ (b : Nat) (sp : Nat → Bool) (hd : Bool), DataW.TrodAll enc P W' b sp hd f.resultTypes.toList (v.resultList f.resultTypes.size) (s.fn H (ds ++ gs)).results [])
    (hargs : ∀ sp : Nat → Bool, (∀ p ∈ before, sp p.block = true) → DataW.TrodAll enc P W' 0 sp true f.params.toList args.toList (s.fn H (ds ++ gs)).args pa)
    (hvars : ∀ sp : Nat → Bool, (∀ p ∈ before, sp p.block = true) → DataW.TrodVars enc P W' sp s.vars (s.fn H (ds ++ gs)).vars pv)
    (hps : before = pa ++ pv) (hb : Below W.heap.size W W')
    (hok : ∀ (j : Nat) (t : TypeId) (r : Value), f.resultTypes[j]? = some t → (v.resultList f.resultTypes.size)[j]? = some r → Value.okWide P W' .any 0 t r) :
    s.post enc P f apart fresh handsOn again W args v W' := by
 have hlt : ∀ p ∈ before, p.block < W.heap.size := fun p hp => hW.lt p hp
 have hold : ∀ p ∈ before, (fun b => decide (b < W.heap.size)) p.block = true := fun p hp => by simpa using hlt p hp
 refine ⟨ds, gs, before, [], pa, pv, hW, hres _ _ _, hargs _ hold, hvars _ hold, World.keptBut_mono (fun p hp => ⟨hp, ?_⟩) (hb.frame (· ∈ before)), fun _ => ?_⟩
 · rw [hps, List.mem_append] at hp
   exact Or.inr hp
 · obtain ⟨_, _, _, _, _, hz, hn⟩ := hW
   refine ⟨hok, _, _, ([] ++ pa) ++ pv, ⟨[] ++ pa, pv, trodAll_append (hargs _ (fun _ _ => rfl)) (hres _ _ _), hvars _ (fun _ _ => rfl), rfl, ?_, ?_⟩, ?_⟩
   · intro b off hp
     have hin : MemPlace.cell b off ∈ before := by rw [hps]; simpa using hp
     rw [hb.frozen (hlt _ hin)]
     exact hz b off hin
   · intro ha
     have := hn ha
     rw [hps] at this
     simpa using this
   · intro p hp _
     rw [hps]
     simpa using hp
theorem trod_grown {t : TypeId} (hl : laidOutB P = true) (hr : P.readableRec t = true) (hrow : t < P.types.size) {W W' : World} {sp : Nat → Bool} {v : Value} {d : DataW H} {ps : List MemPlace}
    (h : DataW.Trod enc P W 0 (fun _ => true) true t v d ps) (hb : Below W.heap.size W W') (hlt : ∀ x ∈ ps, x.block < W.heap.size) (hs : ∀ x ∈ ps, sp x.block = true) : DataW.Trod enc P W' 0 sp true t v d ps :=
 WideElems.Trod_stays hl hr hrow h (fun x hx => hb.same (hlt x hx)) hs
end
section
open Tk
variable {H : Type} {enc : TypeId × Value → H} {W : World}
theorem one_int : Try.prog.cellsOf 3 = 1 := by kernel_rfl
theorem one_string : Try.prog.cellsOf 9 = 1 := by kernel_rfl
theorem field_at {fs : Array Field} {l : List (TypeId × Nat)} (h : fs.toList.map (fun f => (f.type, f.offset)) = l) (i : Nat) (p : TypeId × Nat) (hp : l[i]? = some p) : ∃ f, fs[i]? = some f ∧ f.type = p.1 ∧ f.offset = p.2 := by
 subst h
 rw [List.getElem?_map, Array.getElem?_toList] at hp
 cases hf : fs[i]? with
 | none => rw [hf] at hp; cases hp
 | some f => rw [hf] at hp; injection hp with hp; subst hp; exact ⟨f, rfl, rfl, rfl⟩
theorem some_len {α : Type} {xs : List α} {i : Nat} {n : Nat} (h : xs.length = n) (hi : i < n) : ∃ x, xs[i]? = some x := ⟨_, List.getElem?_eq_getElem (by omega)⟩
theorem add_add (b o i j : Nat) : ((⟨b, o, none⟩ : Addr).add i).add j = ⟨b, o + i + j, none⟩ := by
 have e : ∀ o j, (⟨b, o, none⟩ : Addr).add j = ⟨b, o + j, none⟩ := fun o j => by unfold Addr.add; split <;> simp_all
 rw [e, e]
end
open Go.ChangeShapes Go.WideShapes Go.ChangeAt Go.RowKit Tk
def sB (s : ByteArray) : Nat := s.size + 1
def nB (l : List ByteArray) : Nat := (l.map sB).sum + 1
mutual
def Ex.bk : Ex → Nat
 | .mk h kids => 6 + nB h.names + (Ex.bks kids + 1)
def Ex.bks : List Ex → Nat
 | [] => 0
 | e :: l => e.bk + Ex.bks l
end
theorem Ex.bks_sum : ∀ l : List Ex, Ex.bks l = (l.map Ex.bk).sum
 | [] => by rw [Ex.bks]; rfl
 | e :: l => by rw [Ex.bks, Ex.bks_sum l]; rfl
theorem Ex.smalls_of : ∀ {l : List Ex}, (∀ x ∈ l, x.small) → Ex.smalls l
 | [], _ => by unfold Ex.smalls; trivial
 | e :: l, h => by unfold Ex.smalls; exact ⟨h e (by simp), Ex.smalls_of fun x hx => h x (by simp [hx])⟩
section
variable {W : World}
theorem Ex.oks_of : ∀ {l : List Ex}, (∀ x ∈ l, x.ok W) → Ex.oks W l
 | [], _ => by unfold Ex.oks; trivial
 | e :: l, h => by unfold Ex.oks; exact ⟨h e (by simp), Ex.oks_of fun x hx => h x (by simp [hx])⟩
end
section
variable {H : Type} {enc : TypeId × Value → H} {W : World}
theorem bulk_all : ∀ l : List (DataW H), Rows.uptoBulkAll l = (l.map Rows.uptoBulk).sum
 | [] => by rw [Rows.uptoBulkAll]; rfl
 | d :: l => by rw [Rows.uptoBulkAll, bulk_all l]; rfl
theorem chunk {cs p : List Value} {o n : Nat} (h : (cs.drop o).take n = p) : cs.drop o = p ++ cs.drop (o + n) := by
 have := (List.take_append_drop n (cs.drop o)).symm
 rw [h, List.drop_drop] at this
 exact this
theorem sum_le {α β : Type} {b : α → Nat} {c : β → Nat} : ∀ {xs : List α} {ys : List β}, xs.length = ys.length → (∀ (i : Nat) (x : α) (y : β), xs[i]? = some x → ys[i]? = some y → b x ≤ c y) → (xs.map b).sum ≤ (ys.map c).sum
 | [], [], _, _ => Nat.le_refl _
 | x :: xs, y :: ys, hl, h => by
   have h0 := h 0 x y rfl rfl
   have ih := sum_le (b := b) (c := c) (xs := xs) (ys := ys) (by simpa using hl) (fun i x y h1 h2 => h (i + 1) x y (by simpa using h1) (by simpa using h2))
   simp only [List.map_cons, List.sum_cons]; omega
theorem choose_list {α : Type} {p : Nat → α → Prop} : ∀ (n : Nat), (∀ i, i < n → ∃ x, p i x) → ∃ xs : List α, xs.length = n ∧ ∀ i x, xs[i]? = some x → p i x
 | 0, _ => ⟨[], rfl, by simp⟩
 | n + 1, h => by
   obtain ⟨xs, h1, h2⟩ := choose_list n fun i hi => h i (by omega)
   obtain ⟨x, hx⟩ := h n (by omega)
   refine ⟨xs ++ [x], by simp [h1], fun i y hy => ?_⟩
   by_cases hi : i < n
   · rw [List.getElem?_append_left (by omega)] at hy
     exact h2 i y hy
   · have hlt := (List.getElem?_eq_some_iff.1 hy).1
     simp only [List.length_append, List.length_cons, List.length_nil] at hlt
     have : i = n := by omega
     subst this
     rw [List.getElem?_append_right (by omega), h1, Nat.sub_self] at hy
     injection hy with hy
     subst hy; exact hx
theorem slice_open {P : Program} {α : Type} {f : α → List Value} {ok : α → Prop} {B : α → Nat} {k : Nat} {T E : TypeId} (N : Nat) (und : P.underlying T = some (.slice E)) (hE : P.cellsOf E = k) (hk : 0 < k) (hf : ∀ x, (f x).length = k)
    (cells : ∀ {fuel : Nat} {base : Nat} {sp : Nat → Bool} {held : Bool} {cs : List Value} {x : DataW H × List MemPlace}, fuel < N → DataW.trod enc P W base sp held fuel E cs = some x → ∃ a : α, cs = f a ∧ ok a ∧ B a ≤ Rows.uptoBulk x.1)
    {sp : Nat → Bool} {held : Bool} {base fuel : Nat} {cs : List Value} {x : DataW H × List MemPlace} (hN : fuel ≤ N) (hh : DataW.trod enc P W base sp held fuel T cs = some x) :
    ∃ (h : Hd) (xs : List α), cs = [.slice h.a xs.length h.c] ∧ RRow W k f (h.v xs.length) xs ∧ (∀ x ∈ xs, ok x) ∧ (xs.map B).sum + 1 ≤ Rows.uptoBulk x.1 := by
 rcases DataW.trod_slice und hh with ⟨hc, hx⟩ | ⟨a, len, cap, elems, rest, n, hn, rfl, rfl, _, hle, hm, hlen, hat, _, _⟩
 · refine ⟨⟨none, 0⟩, [], hc, RRow.nil _ _ _, by simp, ?_⟩
   rw [hx]
   show 0 + 1 ≤ _
   rw [Rows.uptoBulk]
   exact Nat.le_refl _
 · have each : ∀ i, i < len → ∃ x : α, ok x ∧ (∃ y, elems[i]? = some y ∧ B x ≤ Rows.uptoBulk y.1) ∧ ∀ j, j < k → W.cell? ((a.add (i * k)).add j) = (f x)[j]? := by
     intro i hi
     have h1 := hat i hi
     obtain ⟨y, hy⟩ := some_len hlen hi
     rw [hy, Option.bind_eq_some_iff] at h1
     obtain ⟨cs', hcs, ht⟩ := h1
     obtain ⟨x, rfl, hox, hB⟩ := cells (by omega) ht
     rw [hE] at hcs
     obtain ⟨_, _, hcell⟩ := World.cells?_some hcs
     exact ⟨x, hox, ⟨y, hy, hB⟩, fun j hj => hcell j (by omega)⟩
   obtain ⟨xs, hxl, hxs⟩ := choose_list len each
   obtain ⟨b, o, sp'⟩ := a
   have first : ∀ (h0 : 0 < xs.length), W.cell? ((⟨b, o, sp'⟩ : Addr).add 0) = some ((f xs[0])[0]'(by rw [hf]; exact hk)) := fun h0 => by
    have h1 := (hxs 0 _ (List.getElem?_eq_getElem h0)).2.2 0 hk
    rw [Nat.zero_mul] at h1
    have e : ((⟨b, o, sp'⟩ : Addr).add 0).add 0 = (⟨b, o, sp'⟩ : Addr).add 0 := by cases sp' <;> rfl
    rw [e] at h1
    rw [h1]
    exact List.getElem?_eq_getElem _
   have hnone : 0 < xs.length → sp' = none := fun h0 => by
    cases sp' with
    | none => rfl
    | some q =>
      exfalso
      have h1 := first h0
      have e : (⟨b, o, some q⟩ : Addr).add 0 = ⟨b, o, some q⟩ := rfl
      rw [e] at h1
      unfold World.cell? at h1
      split at h1
      · simp at h1
      · cases h1
   refine ⟨⟨some ⟨b, o, sp'⟩, cap⟩, xs, by rw [hxl], ⟨some ⟨b, o, sp'⟩, cap, rfl, by omega, hm, ?_⟩, fun x hx => ?_, ?_⟩
   · by_cases h0 : xs.length = 0
     · exact .inl h0
     · right
       have hs := hnone (by omega)
       subst hs
       refine ⟨b, o, rfl, World.block_lt_of_cell? W _ (first (by omega)), fun i hi j hj => ?_⟩
       have := (hxs i _ (List.getElem?_eq_getElem hi)).2.2 j hj
       rw [add_add] at this
       exact this
   · obtain ⟨i, hi, rfl⟩ := List.getElem_of_mem hx
     exact (hxs i _ (List.getElem?_eq_getElem hi)).1
   · show _ ≤ Rows.uptoBulk (DataW.slice (elems.map (·.1)) (rest.map (·.1)))
     rw [Rows.uptoBulk, bulk_all, bulk_all, List.map_map]
     have := sum_le (b := B) (c := fun y : DataW H × List MemPlace => Rows.uptoBulk y.1) (xs := xs) (ys := elems) (by omega) (fun i x y h1 h2 => by
      obtain ⟨_, ⟨y', hy', hb⟩, _⟩ := hxs i x h1
      rw [hy'] at h2; injection h2 with h2; subst h2; exact hb)
     have e : (Rows.uptoBulk ∘ fun x : DataW H × List MemPlace => x.1) = fun y : DataW H × List MemPlace => Rows.uptoBulk y.1 := rfl
     rw [e]; omega

theorem one_u64 : Try.prog.cellsOf 23 = 1 := by kernel_rfl
theorem one_names : Try.prog.cellsOf 22 = 1 := by kernel_rfl
theorem one_ex : Try.prog.cellsOf 28 = 10 := by kernel_rfl
theorem one_pos : Try.prog.cellsOf 35 = 2 := by kernel_rfl
theorem one_set : Try.prog.cellsOf 25 = 4 := by kernel_rfl
theorem one_kids : Try.prog.cellsOf 26 = 1 := by kernel_rfl
theorem und_set : Try.prog.underlying 25 = some (.array 4 23) := by kernel_rfl
theorem string_open {fuel : Nat} {base : Nat} {sp : Nat → Bool} {held : Bool} {cs : List Value} {x : DataW H × List MemPlace} (h : DataW.trod enc Try.prog W base sp held fuel 9 cs = some x) : ∃ s : ByteArray, cs = strC s ∧ s.size ≤ maxLen ∧ sB s ≤ Rows.uptoBulk x.1 := by
 obtain ⟨s, hs, hx, h2⟩ := DataW.trod_string Try.underlying9 h
 refine ⟨s, hs, h2, ?_⟩
 rw [hx]
 show s.size + 1 ≤ Rows.uptoBulk (DataW.lit (.string s.data.toList))
 rw [Rows.uptoBulk, Array.length_toList]
 exact Nat.le_refl _
theorem one_le (d : DataW H) : 1 ≤ Rows.uptoBulk d := by
 cases d with
 | lit l => cases l <;> simp [Rows.uptoBulk]
 | _ => simp [Rows.uptoBulk]
theorem names_open {fuel : Nat} {base : Nat} {sp : Nat → Bool} {held : Bool} {cs : List Value} {x : DataW H × List MemPlace} (h : DataW.trod enc Try.prog W base sp held fuel 22 cs = some x) : ∃ (h : Hd) (l : List ByteArray), cs = [.slice h.a l.length h.c] ∧ Reads W (h.v l.length) l ∧ (∀ s ∈ l, s.size ≤ maxLen) ∧ nB l ≤ Rows.uptoBulk x.1 :=
 slice_open (f := strC) (ok := fun s => s.size ≤ maxLen) (B := sB) fuel und_strs one_string (by omega) strC_l (fun _ h => string_open h) (Nat.le_refl _) h
theorem set_open {fuel : Nat} {base : Nat} {sp : Nat → Bool} {held : Bool} {cs : List Value} {x : DataW H × List MemPlace} (h : DataW.trod enc Try.prog W base sp held fuel 25 cs = some x) : ∃ a b c d : Int, cs = [.int .u64 a, .int .u64 b, .int .u64 c, .int .u64 d] := by
 obtain ⟨xs, n, _, _, hl, hxl, hat⟩ := DataW.trod_array und_set h
 rw [one_set] at hl
 obtain ⟨x0, g0⟩ := some_len hxl (i := 0) (by omega)
 have h0 := (hat 0 (by omega)).trans g0
 rw [one_u64] at h0
 obtain ⟨m0, c0, d0, r0⟩ := DataW.trod_int Try.underlying23 h0
 have p0 := chunk c0
 obtain ⟨x1, g1⟩ := some_len hxl (i := 1) (by omega)
 have h1 := (hat 1 (by omega)).trans g1
 rw [one_u64] at h1
 obtain ⟨m1, c1, d1, r1⟩ := DataW.trod_int Try.underlying23 h1
 have p1 := chunk c1
 obtain ⟨x2, g2⟩ := some_len hxl (i := 2) (by omega)
 have h2 := (hat 2 (by omega)).trans g2
 rw [one_u64] at h2
 obtain ⟨m2, c2, d2, r2⟩ := DataW.trod_int Try.underlying23 h2
 have p2 := chunk c2
 obtain ⟨x3, g3⟩ := some_len hxl (i := 3) (by omega)
 have h3 := (hat 3 (by omega)).trans g3
 rw [one_u64] at h3
 obtain ⟨m3, c3, d3, r3⟩ := DataW.trod_int Try.underlying23 h3
 have p3 := chunk c3
 have hend : cs.drop 4 = [] := List.drop_of_length_le (by omega)
 refine ⟨m0, m1, m2, m3, ?_⟩
 rw [show cs = cs.drop (0 * 1) from rfl, p0, show cs.drop (0 * 1 + 1) = cs.drop (1 * 1) from rfl, p1, show cs.drop (1 * 1 + 1) = cs.drop (2 * 1) from rfl, p2, show cs.drop (2 * 1 + 1) = cs.drop (3 * 1) from rfl, p3, show cs.drop (3 * 1 + 1) = [] from hend]
 rfl
theorem undf_ex : ∃ fs, Try.prog.underlying 28 = some (.struct fs) ∧ fs.toList.map (fun f => (f.type, f.offset)) = [(3, 0), (3, 1), (3, 2), (3, 3), (22, 4), (25, 5), (26, 9)] := ⟨_, Try.underlying28, by kernel_rfl⟩
theorem ex_open0 (N : Nat) (ih : ∀ {fuel : Nat} {base : Nat} {sp : Nat → Bool} {held : Bool} {cs : List Value} {x : DataW H × List MemPlace}, fuel < N → DataW.trod enc Try.prog W base sp held fuel 28 cs = some x → ∃ a : Ex, cs = exC a ∧ (a.ok W ∧ a.small) ∧ a.bk ≤ Rows.uptoBulk x.1) {fuel : Nat} {base : Nat} {sp : Nat → Bool} {held : Bool} {cs : List Value} {x : DataW H × List MemPlace} (hN : fuel ≤ N) (h : DataW.trod enc Try.prog W base sp held fuel 28 cs = some x) : ∃ a : Ex, cs = exC a ∧ (a.ok W ∧ a.small) ∧ a.bk ≤ Rows.uptoBulk x.1 := by
 obtain ⟨fs, hu, hf⟩ := undf_ex
 obtain ⟨xs, n, hn, hx, hl, hxl, hat⟩ := DataW.trod_struct hu h
 rw [one_ex] at hl
 have hsz : fs.size = 7 := by have := congrArg List.length hf; simpa using this
 rw [hsz] at hxl
 obtain ⟨f0, e0, t0, o0⟩ := field_at hf 0 _ rfl
 obtain ⟨x0, g0⟩ := some_len hxl (i := 0) (by omega)
 have h0 := (hat 0 f0 e0).trans g0
 rw [t0, o0] at h0
 dsimp only at h0
 rw [one_int] at h0
 obtain ⟨m0, c0, d0, r0⟩ := DataW.trod_int Try.underlying3 h0
 have p0 := chunk c0
 have b0 := one_le x0.1
 obtain ⟨f1, e1, t1, o1⟩ := field_at hf 1 _ rfl
 obtain ⟨x1, g1⟩ := some_len hxl (i := 1) (by omega)
 have h1 := (hat 1 f1 e1).trans g1
 rw [t1, o1] at h1
 dsimp only at h1
 rw [one_int] at h1
 obtain ⟨m1, c1, d1, r1⟩ := DataW.trod_int Try.underlying3 h1
 have p1 := chunk c1
 have b1 := one_le x1.1
 obtain ⟨f2, e2, t2, o2⟩ := field_at hf 2 _ rfl
 obtain ⟨x2, g2⟩ := some_len hxl (i := 2) (by omega)
 have h2 := (hat 2 f2 e2).trans g2
 rw [t2, o2] at h2
 dsimp only at h2
 rw [one_int] at h2
 obtain ⟨m2, c2, d2, r2⟩ := DataW.trod_int Try.underlying3 h2
 have p2 := chunk c2
 have b2 := one_le x2.1
 obtain ⟨f3, e3, t3, o3⟩ := field_at hf 3 _ rfl
 obtain ⟨x3, g3⟩ := some_len hxl (i := 3) (by omega)
 have h3 := (hat 3 f3 e3).trans g3
 rw [t3, o3] at h3
 dsimp only at h3
 rw [one_int] at h3
 obtain ⟨m3, c3, d3, r3⟩ := DataW.trod_int Try.underlying3 h3
 have p3 := chunk c3
 have b3 := one_le x3.1
 obtain ⟨f4, e4, t4, o4⟩ := field_at hf 4 _ rfl
 obtain ⟨x4, g4⟩ := some_len hxl (i := 4) (by omega)
 have h4 := (hat 4 f4 e4).trans g4
 rw [t4, o4] at h4
 dsimp only at h4
 rw [one_names] at h4
 obtain ⟨q4, m4, c4, k4, r4, b4⟩ := names_open h4
 have p4 := chunk c4
 obtain ⟨f5, e5, t5, o5⟩ := field_at hf 5 _ rfl
 obtain ⟨x5, g5⟩ := some_len hxl (i := 5) (by omega)
 have h5 := (hat 5 f5 e5).trans g5
 rw [t5, o5] at h5
 dsimp only at h5
 rw [one_set] at h5
 obtain ⟨u0, u1, u2, u3, c5⟩ := set_open h5
 have p5 := chunk c5
 have b5 := one_le x5.1
 obtain ⟨f6, e6, t6, o6⟩ := field_at hf 6 _ rfl
 obtain ⟨x6, g6⟩ := some_len hxl (i := 6) (by omega)
 have h6 := (hat 6 f6 e6).trans g6
 rw [t6, o6] at h6
 dsimp only at h6
 rw [one_kids] at h6
 obtain ⟨q6, m6, c6, k6, r6, b6⟩ := slice_open (f := exC) (ok := fun e => e.ok W ∧ e.small) (B := Ex.bk) N und_kids one_ex (by omega) exC_len (fun hlt hh => ih hlt hh) (by omega) h6
 have p6 := chunk c6
 have hend : cs.drop 10 = [] := List.drop_of_length_le (by omega)
 have hend2 : xs.drop 7 = [] := List.drop_of_length_le (by omega)
 have hxs : xs = [x0, x1, x2, x3, x4, x5, x6] := by
  rw [show xs = xs.drop 0 from rfl, drop_at g0, drop_at g1, drop_at g2, drop_at g3, drop_at g4, drop_at g5, drop_at g6, hend2]
 have hb : Rows.uptoBulk x.1 = Rows.uptoBulk x0.1 + Rows.uptoBulk x1.1 + Rows.uptoBulk x2.1 + Rows.uptoBulk x3.1 + Rows.uptoBulk x4.1 + Rows.uptoBulk x5.1 + Rows.uptoBulk x6.1 + 1 := by
  rw [hx, Rows.uptoBulk, bulk_all, hxs]
  simp only [List.map_cons, List.map_nil, List.sum_cons, List.sum_nil]; omega
 refine ⟨.mk ⟨m0, m1, m2, m3, q4, m4, u0, u1, u2, u3, q6⟩ m6, ?_, ⟨?_, ?_⟩, ?_⟩
 · rw [show cs = cs.drop 0 from rfl, p0, show cs.drop (0 + 1) = cs.drop 1 from rfl, p1, show cs.drop (1 + 1) = cs.drop 2 from rfl, p2, show cs.drop (2 + 1) = cs.drop 3 from rfl, p3, show cs.drop (3 + 1) = cs.drop 4 from rfl, p4, show cs.drop (4 + 1) = cs.drop 5 from rfl, p5, show cs.drop (5 + 4) = cs.drop 9 from rfl, p6, show cs.drop (9 + 1) = [] from hend]
   rfl
 · unfold Ex.ok; exact ⟨k4, k6, Ex.oks_of fun x hx => (r6 x hx).1⟩
 · unfold Ex.small; exact ⟨r4, Ex.smalls_of fun x hx => (r6 x hx).2⟩
 · rw [hb]
   rw [Ex.bk, Ex.bks_sum]
   show 6 + nB m4 + _ ≤ _
   omega
theorem ex_open1 : ∀ (N : Nat) {fuel : Nat} {base : Nat} {sp : Nat → Bool} {held : Bool} {cs : List Value} {x : DataW H × List MemPlace}, fuel < N → DataW.trod enc Try.prog W base sp held fuel 28 cs = some x → ∃ a : Ex, cs = exC a ∧ (a.ok W ∧ a.small) ∧ a.bk ≤ Rows.uptoBulk x.1
 | 0, _, _, _, _, _, _, h, _ => absurd h (Nat.not_lt_zero _)
 | N + 1, _, _, _, _, _, _, hl, h => ex_open0 N (fun h1 h2 => ex_open1 N h1 h2) (by omega) h
theorem ex_open {fuel : Nat} {base : Nat} {sp : Nat → Bool} {held : Bool} {cs : List Value} {x : DataW H × List MemPlace} (h : DataW.trod enc Try.prog W base sp held fuel 28 cs = some x) : ∃ a : Ex, cs = exC a ∧ (a.ok W ∧ a.small) ∧ a.bk ≤ Rows.uptoBulk x.1 := ex_open1 (fuel + 1) (Nat.lt_succ_self _) h
theorem open_ex {sp : Nat → Bool} {held : Bool} {base : Nat} {r : Reach} {b0 : Nat} {v : Value} {d : DataW H} {ps : List MemPlace} (hval : Value.okWide Try.prog W r b0 28 v) (h : DataW.Trod enc Try.prog W base sp held 28 v d ps) :
    ∃ x : Ex, v = .agg (exC x).toArray ∧ x.ok W ∧ x.small := by
 obtain ⟨fs, hu, -⟩ := undf_ex
 obtain ⟨cs, rfl, _⟩ := okWide_struct hu hval
 obtain ⟨fuel, hf⟩ := h
 obtain ⟨x, hc, ho, -⟩ := ex_open hf
 refine ⟨x, ?_, ho.1, ho.2⟩
 have : cs.toList = exC x := by simpa [Value.cells] using hc
 rw [← Array.toArray_toList (xs := cs), this]
end
end Go.Proofs.Ytbobbbhgdfapjaa
