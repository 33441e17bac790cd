/- J8, J9, K5 -/
import Derived.Test.YtbobbbhgdfapjaaZR1
import Derived.Test.YtbobbbhgdfapjaaZR2
import Derived.Test.YtbobbbhgdfapjaaZR3
import Derived.Test.YtbobbbhgdfapjaaZR4
import Derived.Test.YtbobbbhgdfapjaaZR5
import Derived.Test.YtbobbbhgdfapjaaZR6
import Derived.Test.YtbobbbhgdfapjaaZR7
import Derived.Test.YtbobbbhgdfapjaaZR8
import Derived.Test.YtbobbbhgdfapjaaZR9
import Derived.Test.YtbobbbhgdfapjaaZR10
import Derived.Test.YtbobbbhgdfapjaaZR11
import Derived.Test.YtbobbbhgdfapjaaZR12
import Derived.Test.YtbobbbhgdfapjaaZR13
import Derived.Test.YtbobbbhgdfapjaaZR14
import Derived.Test.YtbobbbhgdfapjaaZR15
import Derived.Test.YtbobbbhgdfapjaaZR16
import Derived.Test.YtbobbbhgdfapjaaZR17
import Derived.Test.YtbobbbhgdfapjaaZR18
import Derived.Test.YtbobbbhgdfapjaaZR19
import Derived.Test.YtbobbbhgdfapjaaZR20
import Derived.Test.YtbobbbhgdfapjaaZR21
import Derived.Test.YtbobbbhgdfapjaaZR22
import Derived.Test.YtbobbbhgdfapjaaZR23
import Derived.Test.YtbobbbhgdfapjaaZR24
import Derived.Test.YtbobbbhgdfapjaaZR25
set_option linter.unusedSimpArgs false
set_option linter.unusedVariables false
namespace Go.Proofs.Ytbobbbhgdfapjaa
set_option maxHeartbeats 8000000
set_option maxRecDepth 100000
open Go.RowKit Tk
/-! ### what does not depend on where an expression lies -/
mutual
theorem names_bare : ∀ x : Ex, namesE x.bare = namesE x
 | .mk h k => by rw [Ex.bare, namesE, namesE, namess_bare k]
theorem namess_bare : ∀ k : List Ex, namesEs (Ex.bares k) = namesEs k
 | [] => by rw [Ex.bares]
 | e :: r => by rw [Ex.bares, namesEs, namesEs, names_bare e, namess_bare r]
end
mutual
theorem val_bare (l : List (ByteArray × Bool)) : ∀ x : Ex, valE l x.bare = valE l x
 | .mk h k => by
   rw [Ex.bare, valE, valE, vals_bare l k]
   exact rfl
theorem vals_bare (l : List (ByteArray × Bool)) : ∀ k : List Ex, valEs l (Ex.bares k) = valEs l k
 | [] => by rw [Ex.bares]
 | e :: r => by rw [Ex.bares, valEs, valEs, val_bare l e, vals_bare l r]
end
theorem bares_len (k : List Ex) : (Ex.bares k).length = k.length := by rw [Ex.bares_map, List.length_map]
theorem node_bare (h : ExH) (k : List Ex) (l : Int) : nodeE (.mk { h with hn := ⟨none, 0⟩, hk := ⟨none, 0⟩ } (Ex.bares k)) l = nodeE (.mk h k) l := by
 unfold nodeE
 rw [Ex.kids_mk, Ex.kids_mk, bares_len]
 exact rfl
mutual
theorem chk_bare : ∀ (x : Ex) (l : Int), chk x.bare l = chk x l
 | .mk h k, l => by rw [Ex.bare, chk, chk, node_bare, chks_bare k (l + 1)]
theorem chks_bare : ∀ (k : List Ex) (l : Int), chks (Ex.bares k) l = chks k l
 | [], _ => by rw [Ex.bares]
 | e :: r, l => by rw [Ex.bares, chks, chks, chk_bare e l, chks_bare r l]
end
theorem namesR_bare (x : Ex) : namesR x.bare = namesR x := by unfold namesR namesS; rw [chk_bare, names_bare]
theorem rowV_bare (ns : List ByteArray) (x : Ex) : rowV ns x.bare = rowV ns x := by funext r; unfold rowV; rw [val_bare]
theorem constR_bare (x : Ex) : constR x.bare = constR x := by unfold constR; rw [namesR_bare, rowV_bare]
theorem names2_bare (x y : Ex) : names2 x.bare y.bare = names2 x y := by unfold names2; rw [names_bare, names_bare]
theorem equalR_bare (x y : Ex) : equalR x.bare y.bare = equalR x y := by unfold equalR eqV; rw [chk_bare, chk_bare, names2_bare, rowV_bare, rowV_bare]
theorem equalB_bare (x y : Ex) : equalB x.bare y.bare = equalB x y := by unfold equalB; rw [equalR_bare]
theorem evalR_bare (x : Ex) (l : List (ByteArray × Bool)) : evalR x.bare l = evalR x l := by unfold evalR; rw [chk_bare, names_bare, val_bare]
theorem opX_bare (o : Int) (k : List Ex) : (opX o k).bare = opX o (Ex.bares k) := by unfold opX zH; rw [Ex.bare]
theorem negX_mk (h : ExH) (k : List Ex) : negX (.mk h k) = if h.op = 2 ∧ k.length = 1 then k.headD zX else opX 2 [.mk h k] := rfl
theorem negX_bare (x : Ex) : negX x.bare = (negX x).bare := by
 obtain ⟨h, k⟩ := x
 rw [negX_mk, Ex.bare, negX_mk, bares_len]
 by_cases hc : h.op = 2 ∧ k.length = 1
 · rw [if_pos hc, if_pos (by exact hc)]
   match k, hc.2 with
   | [a], _ => rw [Ex.bares]; exact rfl
 · rw [if_neg hc, if_neg (by exact hc), opX_bare, Ex.bares, Ex.bares, Ex.bare]
theorem simS_bare (op : Int) (x y : Ex) : simS op x.bare y.bare = (simS op x y).map Ex.bare := by
 unfold simS simT domS
 rw [constR_bare, constR_bare, equalB_bare, negX_bare, negX_bare]
 simp only [apply_ite (Option.map Ex.bare), Option.map_some, Option.map_none]
/-! ### simple -/
def simC (h : ExH) (ks : List Ex) (x : Ex) : Ex :=
 match ks with
 | [] => x
 | [a] => negX a
 | a :: b :: _ => (simS h.op a b).getD (opX h.op [a, b])
mutual
def simE : Ex → Ex
 | .mk h k => simC h (simL k) (.mk h k)
def simL : List Ex → List Ex
 | [] => []
 | e :: l => simE e :: simL l
end
theorem simE_eq (x : Ex) : simE x = simC x.h (simL x.kids) x := by cases x; rw [simE]; rfl
theorem simC_bare (h h' : ExH) (ho : h'.op = h.op) (ks : List Ex) (x : Ex) : simC h' (Ex.bares ks) x.bare = (simC h ks x).bare := by
 match ks with
 | [] => rw [Ex.bares]; rfl
 | [a] => rw [Ex.bares, Ex.bares]; exact negX_bare a
 | a :: b :: r =>
   rw [Ex.bares, Ex.bares]
   unfold simC
   dsimp only
   rw [simS_bare, ho]
   cases simS h.op a b with
   | some z => rfl
   | none =>
     show opX h.op [a.bare, b.bare] = (opX h.op [a, b]).bare
     rw [opX_bare, Ex.bares, Ex.bares, Ex.bares]
mutual
theorem simE_bare : ∀ x : Ex, simE x.bare = (simE x).bare
 | .mk h k => by
   have hb : (Ex.mk h k).bare = .mk { h with hn := ⟨none, 0⟩, hk := ⟨none, 0⟩ } (Ex.bares k) := by rw [Ex.bare]
   have := simC_bare h { h with hn := ⟨none, 0⟩, hk := ⟨none, 0⟩ } rfl (simL k) (.mk h k)
   rw [hb] at this
   rw [hb, simE, simE, simL_bare k, this]
theorem simL_bare : ∀ k : List Ex, simL (Ex.bares k) = Ex.bares (simL k)
 | [] => by rw [Ex.bares, simL, Ex.bares]
 | e :: r => by rw [Ex.bares, simL, simL, Ex.bares, simE_bare e, simL_bare r]
end
/-! ### it does not change its own result -/
theorem simS_one {op : Int} {x y z : Ex} (h : simS op x y = some z) : z = x ∨ z = y ∨ z = negX x ∨ z = negX y := by
 unfold simS simT domS at h
 repeat' split at h
 all_goals (first | (injection h with h; subst h; first | exact .inl rfl | exact .inr (.inl rfl) | exact .inr (.inr (.inl rfl)) | exact .inr (.inr (.inr rfl))) | cases h)
/-! ### a good condition stays one -/
theorem kids1 {x : Ex} (hg : x.good) (ho : x.h.op = 2) : ∃ a, x.kids = [a] ∧ a.good := by
 obtain ⟨h, k⟩ := x
 unfold Ex.good at hg
 have hk := hg.1.1
 rw [show h.op = 2 from ho, show opn 2 = 1 from rfl] at hk
 match k, hk, hg.2 with
 | [a], _, hg => unfold Ex.goods at hg; exact ⟨a, rfl, hg.1⟩
theorem kids2 {x : Ex} (hg : x.good) (h1 : ¬ x.h.op = 1) (h2 : ¬ x.h.op = 2) : (x.h.op = 3 ∨ x.h.op = 4 ∨ x.h.op = 5 ∨ x.h.op = 6 ∨ x.h.op = 7) ∧ ∃ a b, x.kids = [a, b] ∧ a.good ∧ b.good := by
 obtain ⟨h, k⟩ := x
 unfold Ex.good at hg
 have hk := hg.1.1
 have h1' : ¬ h.op = 1 := h1
 have h2' : ¬ h.op = 2 := h2
 have ho : h.op = 3 ∨ h.op = 4 ∨ h.op = 5 ∨ h.op = 6 ∨ h.op = 7 := by
  unfold opn at hk
  rw [if_neg h1', if_neg h2'] at hk
  split at hk
  · assumption
  · omega
 refine ⟨ho, ?_⟩
 have hk2 : opn h.op = 2 := by rcases ho with h | h | h | h | h <;> rw [h] <;> rfl
 rw [hk2] at hk
 match k, hk, hg.2 with
 | [a, b], _, hg =>
   unfold Ex.goods at hg
   obtain ⟨g1, g2⟩ := hg
   unfold Ex.goods at g2
   exact ⟨a, b, rfl, g1, g2.1⟩
theorem kids0 {x : Ex} (hg : x.good) (h1 : x.h.op = 1) : x.kids = [] := by
 obtain ⟨h, k⟩ := x
 unfold Ex.good at hg
 have hk := hg.1.1
 rw [show h.op = 1 from h1, show opn 1 = 0 from rfl] at hk
 show k = []
 exact List.eq_nil_of_length_eq_zero (by omega)
theorem good_neg {x : Ex} (h : x.good) : (negX x).good := by
 unfold negX
 by_cases hc : x.h.op = 2 ∧ x.kids.length = 1
 · rw [if_pos hc]
   obtain ⟨a, ha, hg⟩ := kids1 h hc.1
   rw [ha]; exact hg
 · rw [if_neg hc]; exact opX_good1 h
/-- what simple does at a condition, by its operator -/
theorem simE_name {x : Ex} (hg : x.good) (h1 : x.h.op = 1) : simE x = x := by rw [simE_eq, kids0 hg h1, simL]; rfl
theorem simE_not {x a : Ex} (hk : x.kids = [a]) : simE x = negX (simE a) := by rw [simE_eq, hk, simL, simL]; rfl
theorem simE_two {x a b : Ex} (hk : x.kids = [a, b]) : simE x = (simS x.h.op (simE a) (simE b)).getD (opX x.h.op [simE a, simE b]) := by rw [simE_eq, hk, simL, simL, simL]; rfl
/-- by the operators -/
theorem Ex.good_ind {P : Ex → Prop} (hn : ∀ x : Ex, x.good → x.h.op = 1 → P x) (h1 : ∀ x a : Ex, x.good → x.h.op = 2 → x.kids = [a] → a.good → P a → P x)
    (h2 : ∀ x a b : Ex, x.good → (x.h.op = 3 ∨ x.h.op = 4 ∨ x.h.op = 5 ∨ x.h.op = 6 ∨ x.h.op = 7) → x.kids = [a, b] → a.good → b.good → P a → P b → P x) : ∀ (N : Nat) (x : Ex), x.sz < N → x.good → P x
 | 0, _, h, _ => absurd h (Nat.not_lt_zero _)
 | N + 1, x, hz, hg => by
   rw [Ex.sz_kids] at hz
   by_cases o1 : x.h.op = 1
   · exact hn x hg o1
   by_cases o2 : x.h.op = 2
   · obtain ⟨a, ha, hga⟩ := kids1 hg o2
     rw [ha, Ex.szs, Ex.szs] at hz
     exact h1 x a hg o2 ha hga (Ex.good_ind hn h1 h2 N a (by omega) hga)
   · obtain ⟨ho, a, b, hab, hga, hgb⟩ := kids2 hg o1 o2
     rw [hab, Ex.szs, Ex.szs, Ex.szs] at hz
     exact h2 x a b hg ho hab hga hgb (Ex.good_ind hn h1 h2 N a (by omega) hga) (Ex.good_ind hn h1 h2 N b (by omega) hgb)
theorem Ex.good.ind {P : Ex → Prop} {x : Ex} (hg : x.good) (hn : ∀ x : Ex, x.good → x.h.op = 1 → P x) (h1 : ∀ x a : Ex, x.good → x.h.op = 2 → x.kids = [a] → a.good → P a → P x)
    (h2 : ∀ x a b : Ex, x.good → (x.h.op = 3 ∨ x.h.op = 4 ∨ x.h.op = 5 ∨ x.h.op = 6 ∨ x.h.op = 7) → x.kids = [a, b] → a.good → b.good → P a → P b → P x) : P x := Ex.good_ind hn h1 h2 (x.sz + 1) x (Nat.lt_succ_self _) hg
theorem good_simE {x : Ex} (h : x.good) : (simE x).good := by
 refine h.ind (P := fun x => (simE x).good) (fun x hg h1 => ?_) (fun x a hg h1 hk hga iha => ?_) (fun x a b hg ho hk hga hgb iha ihb => ?_)
 · rw [simE_name hg h1]; exact hg
 · rw [simE_not hk]; exact good_neg iha
 · rw [simE_two hk]
   cases hs : simS x.h.op (simE a) (simE b) with
   | none => exact opX_good2 ho iha ihb
   | some z =>
     rcases simS_one hs with rfl | rfl | rfl | rfl
     · exact iha
     · exact ihb
     · exact good_neg iha
     · exact good_neg ihb
theorem good_four {x : Ex} (h : x.good) : x.four := by
 refine h.ind (P := fun x => x.four) (fun x hg h1 => ?_) (fun x a hg h1 hk hga iha => ?_) (fun x a b hg ho hk hga hgb iha ihb => ?_)
 all_goals
  obtain ⟨h, k⟩ := x
  have hl : h.names.length ≤ 4 := by
   unfold Ex.good at hg
   have := hg.1.2.2.2.2.2.2.2.2.1
   unfold namedE at this
   split at this <;> omega
 · have := kids0 hg h1
   rw [show k = [] from this]
   unfold Ex.four Ex.fours
   exact ⟨hl, trivial⟩
 · rw [show k = [a] from hk]
   unfold Ex.four Ex.fours Ex.fours
   exact ⟨hl, iha, trivial⟩
 · rw [show k = [a, b] from hk]
   unfold Ex.four Ex.fours Ex.fours Ex.fours
   exact ⟨hl, iha, ihb, trivial⟩
/-! ### levels and sizes do not grow -/
theorem lev_eq (x : Ex) : levE x = levs x.kids 0 + 1 := by cases x; rw [levE]; rfl
theorem lev_op1 (o : Int) (a : Ex) : levE (opX o [a]) = levE a + 1 := by unfold opX; rw [levE, levs, levs]; omega
theorem lev_op2 (o : Int) (a b : Ex) : levE (opX o [a, b]) = max (levE a) (levE b) + 1 := by unfold opX; rw [levE, levs, levs, levs]; omega
theorem sz_op1 (o : Int) (a : Ex) : (opX o [a]).sz = a.sz + 1 := by unfold opX; rw [Ex.sz, Ex.szs, Ex.szs]; omega
theorem sz_op2 (o : Int) (a b : Ex) : (opX o [a, b]).sz = a.sz + b.sz + 1 := by unfold opX; rw [Ex.sz, Ex.szs, Ex.szs, Ex.szs]; omega
theorem neg_lev {x : Ex} (hg : x.good) : levE (negX x) ≤ levE x + 1 ∧ (negX x).sz ≤ x.sz + 1 := by
 unfold negX
 by_cases hc : x.h.op = 2 ∧ x.kids.length = 1
 · rw [if_pos hc]
   obtain ⟨a, ha, -⟩ := kids1 hg hc.1
   rw [lev_eq x, Ex.sz_kids x, ha]
   show levE a ≤ _ ∧ a.sz ≤ _
   rw [levs, levs, Ex.szs, Ex.szs]
   omega
 · rw [if_neg hc, lev_op1, sz_op1]; omega
theorem simE_lev {x : Ex} (h : x.good) : levE (simE x) ≤ levE x ∧ (simE x).sz ≤ x.sz := by
 refine h.ind (P := fun x => levE (simE x) ≤ levE x ∧ (simE x).sz ≤ x.sz) (fun x hg h1 => ?_) (fun x a hg h1 hk hga iha => ?_) (fun x a b hg ho hk hga hgb iha ihb => ?_)
 · rw [simE_name hg h1]; exact ⟨Nat.le_refl _, Nat.le_refl _⟩
 · rw [simE_not hk, lev_eq x, Ex.sz_kids x, hk, levs, levs, Ex.szs, Ex.szs]
   have := neg_lev (good_simE hga)
   omega
 · rw [simE_two hk, lev_eq x, Ex.sz_kids x, hk, levs, levs, levs, Ex.szs, Ex.szs, Ex.szs]
   have na := neg_lev (good_simE hga)
   have nb := neg_lev (good_simE hgb)
   cases hs : simS x.h.op (simE a) (simE b) with
   | none => rw [Option.getD_none, lev_op2, sz_op2]; omega
   | some z =>
     rw [Option.getD_some]
     rcases simS_one hs with rfl | rfl | rfl | rfl <;> omega
/-! ### names -/
open Go.RowKit Tk
/-! ### what Simplify returns -/
def simR (x : Ex) : Ex × Int := if chk x 1 ≠ 0 then (zX, chk x 1) else if 16 < (namesR x).length then (zX, 4) else (simE x, 0)
/-- a condition's result, if it is good: its copy or what became of it -/
theorem good_of_bare {u x : Ex} (h : u.bare = x.bare) (hg : x.good) : u.good := (good_bare u).1 (h ▸ (good_bare x).2 hg)
theorem sz_of_bare {u x : Ex} (h : u.bare = x.bare) : u.sz = x.sz := by rw [← sz_bare u, h, sz_bare]
theorem simE_of_bare {u x : Ex} (h : u.bare = x.bare) : (simE u).bare = (simE x).bare := by rw [← simE_bare, h, simE_bare]
theorem simS_of_bare {o : Int} {u v x y : Ex} (h : u.bare = x.bare) (k : v.bare = y.bare) : (simS o u v).map Ex.bare = (simS o x y).map Ex.bare := by rw [← simS_bare, h, k, simS_bare]
theorem negX_of_bare {u x : Ex} (h : u.bare = x.bare) : (negX u).bare = (negX x).bare := by rw [← negX_bare, h, negX_bare]
/-- what has the same structure is the same -/
theorem head_bare {x y : Ex} (h : x.bare = y.bare) : headSame x y = true := by
 rw [Ex.bare_eq, Ex.bare_eq] at h
 injection h with h1 h2
 have hl := congrArg List.length h2
 rw [List.length_map, List.length_map] at hl
 have e1 := congrArg ExH.op h1
 have e2 := congrArg ExH.a h1
 have e3 := congrArg ExH.rel h1
 have e4 := congrArg ExH.b h1
 have e5 := congrArg ExH.s0 h1
 have e6 := congrArg ExH.s1 h1
 have e7 := congrArg ExH.s2 h1
 have e8 := congrArg ExH.s3 h1
 have e9 := congrArg ExH.names h1
 unfold headSame
 simp only [Bool.and_eq_true, decide_eq_true_eq]
 exact ⟨⟨⟨e1, e2, e3, e4, e5, e6, e7, e8⟩, e9⟩, by first | exact hl | exact_mod_cast hl⟩
mutual
theorem same_bare : ∀ x y : Ex, x.bare = y.bare → sameE x y = true
 | .mk h k, y, hb => by
   rw [sameE, head_bare hb, Bool.true_and]
   refine sames_bare k y.kids ?_
   rw [Ex.bare_eq, Ex.bare_eq] at hb
   injection hb
theorem sames_bare : ∀ k r : List Ex, k.map Ex.bare = r.map Ex.bare → sames k r = true
 | [], _, _ => by rw [sames]
 | e :: l, [], h => by cases h
 | e :: l, y :: r, h => by
   rw [List.map_cons, List.map_cons] at h
   injection h with h1 h2
   rw [sames, same_bare e y h1, sames_bare l r h2]; rfl
end
theorem Ex.away.kid {x a : Ex} {X : Nat} (h : x.away X) (ha : a ∈ x.kids) : a.away X := by
 obtain ⟨hh, k⟩ := x
 unfold Ex.away at h
 have key : ∀ l : List Ex, Ex.aways X l → a ∈ l → a.away X := by
  intro l
  induction l with
  | nil => intro _ h; cases h
  | cons e r ih =>
    intro h hm
    unfold Ex.aways at h
    rcases List.mem_cons.1 hm with rfl | hm
    · exact h.1
    · exact ih h.2 hm
 exact key k h.2.2 ha
def UPost (x z : Ex) (w : World) (e : Ending) (w' : World) : Prop := ∃ u, e = .returned (.agg (exC u).toArray) ∧ u.ok w' ∧ u.bare = z.bare ∧ (∀ X, X < w.heap.size → x.away X → u.away X) ∧ Ext w w'
theorem lt_ge {n m k : Nat} (h : n < m) (h2 : m ≤ k) : n < k := Nat.lt_of_lt_of_le h h2
open Go.RowKit Tk
theorem good_names {x : Ex} (hg : x.good) : namesE x ≠ [] := by
 refine hg.ind (P := fun x => namesE x ≠ []) (fun x hg h1 => ?_) (fun x a hg h1 hk hga iha => ?_) (fun x a b hg ho hk hga hgb iha ihb => ?_)
 · have hw := wf_good x hg
   have hl := hw.names
   rw [h1, show namedE 1 = 1 from rfl] at hl
   rw [namesE_eq]
   intro h
   have := (List.append_eq_nil_iff.1 h).1
   rw [this] at hl; simp at hl
 · rw [namesE_eq, hk, namesEs]
   intro h
   exact iha (List.append_eq_nil_iff.1 (List.append_eq_nil_iff.1 h).2).1
 · rw [namesE_eq, hk, namesEs]
   intro h
   exact iha (List.append_eq_nil_iff.1 (List.append_eq_nil_iff.1 h).2).1
/-! ### always -/
end Go.Proofs.Ytbobbbhgdfapjaa
