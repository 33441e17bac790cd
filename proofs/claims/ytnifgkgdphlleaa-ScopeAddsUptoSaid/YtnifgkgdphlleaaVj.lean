/- The iterator over the symbols that statements write. -/
import Derived.Test.YtnifgkgdphlleaaVi
import Derived.RangeFuncNested
import Derived.RangeFuncBound
import Derived.OwnWalkIn
import Derived.TacticsInMore
set_option linter.unusedSimpArgs false
set_option linter.unusedVariables false
namespace Go.Proofs.Ytnifgkgdphlleaa
open Go.RowKit Tk
theorem Ext.notin {w w1 : World} {X : Nat} (h : Ext w w1) (hX : w1.heap.size ≤ X) : w.heap.size ≤ X := Nat.le_trans h.size hX
theorem Ext.but0 {w w1 w2 : World} {X : Nat} (h : Ext w w1) (hb : But X w1 w2) (hX : w.heap.size ≤ X) : Ext w w2 :=
  ⟨hb.os.trans h.os, hb.tape.trans h.tape, hb.output.trans h.output, Nat.le_trans h.size hb.size, fun i hi => (hb.block i (Nat.lt_of_lt_of_le hi h.size) (by omega)).trans (h.block i hi)⟩
theorem wp_rec0 {P : Program} {w : World} {K : Act → World → Prop} {a : Act} {Q : Exit → Act → World → Prop} {α : Type} {k : Nat} {f : α → List Value} {xs : List α} {y : α} {o : Oper} {ty : TypeId} {x : Operand} {g n c i : Nat} (r : RRow w k f (.slice (some ⟨g, 0, none⟩) n c) xs) (hy : xs[i]? = some y)
    (hf : ∀ x, (f x).length = k) (ho : o.op = .load ty x) (hx : a.eval x = .pointer (some ⟨g, i * k, none⟩))
    (hu : aggB P ty = true) (hk : (P.info? ty).map (·.size) = some k)
    (h : K (a.put o.dst (.agg (f y).toArray)) w) : o.wp P a w K Q := wp_rec2 r hy hf ho (by rw [hx, Nat.zero_add]) hu hk h
/-- rows that rounds may not write -/
structure Safe (W : World) (O : List Nat) (a : Option Addr) (c : Nat) (xs : List Sy) : Prop where
  row : ORow W 57 6 syC (.slice a xs.length c) xs
  perms : PermsOk W xs
  out : ∀ g ∈ O, g ∉ ownB (.slice a xs.length c) ∧ ∀ x ∈ xs, g ∉ ownB (x.hp.v x.perms.length)
theorem Safe.ext {W W' : World} {O : List Nat} {a : Option Addr} {c : Nat} {xs : List Sy} (h : Safe W O a c xs) (hx : Ext W W') : Safe W' O a c xs := ⟨h.row.low hx, h.perms.ext hx, h.out⟩
theorem Safe.step {W W' : World} {O O' : List Nat} {a : Option Addr} {c : Nat} {xs : List Sy} (h : Safe W O a c xs) (ho : Only O W W') (hO' : ∀ b ∈ O', b ∈ O ∨ W.heap.size ≤ b) : Safe W' O' a c xs :=
  ⟨ORow.only h.row ho fun g hg => (h.out g hg).1, fun x hx => ORow.only (h.perms x hx) ho fun g hg => (h.out g hg).2 x hx, fun g hg => by
    rcases hO' g hg with h1 | h1
    · exact h.out g h1
    · exact ⟨fun hm => by have := ORow.lt h.row (mem_ownB.1 hm); omega, fun x hx hm => by have := ORow.lt (h.perms x hx) (mem_ownB.1 hm); omega⟩⟩
theorem Safe.made {w W : World} {O : List Nat} {a : Option Addr} {c : Nat} {xs : List Sy} (h : YRow w W (.slice a xs.length c) xs) (hO : ∀ b ∈ O, b < w.heap.size) : Safe W O a c xs :=
  ⟨h.row.row, h.perms.ok, fun g hg => ⟨fun hm => by have := h.row.new g hm; have := hO g hg; omega, fun x hx hm => by have := (h.perms x hx).new g hm; have := hO g hg; omega⟩⟩
theorem Safe.but {W W' : World} {O : List Nat} {a : Option Addr} {c X : Nat} {xs : List Sy} {t : TypeId} {cs : Array Value} (h : Safe W O a c xs) (hb : But X W W') (k : Blk W X t cs) (ht : t ≠ 57 ∧ t ≠ 9) : Safe W' O a c xs :=
  ⟨ORow.but h.row hb k ht.1.symm, fun x hx => (h.perms x hx).but hb k ht.2.symm, h.out⟩
theorem Safe.notin {W : World} {O : List Nat} {a : Option Addr} {c X : Nat} {xs : List Sy} (h : Safe W O a c xs) (hX : W.heap.size ≤ X) : X ∉ ownB (.slice a xs.length c) ∧ ∀ x ∈ xs, X ∉ ownB (x.hp.v x.perms.length) :=
  ⟨fun hm => by have := ORow.lt h.row (mem_ownB.1 hm); omega, fun x hx hm => by have := ORow.lt (h.perms x hx) (mem_ownB.1 hm); omega⟩
theorem Safe.but0 {W W' : World} {O : List Nat} {a : Option Addr} {c X : Nat} {xs : List Sy} (h : Safe W O a c xs) (hb : But X W W') (hX : X ∉ ownB (.slice a xs.length c) ∧ ∀ x ∈ xs, X ∉ ownB (x.hp.v x.perms.length)) : Safe W' O a c xs :=
  ⟨ORow.kept h.row fun g hg => hb.block g (ORow.lt h.row hg) fun e => hX.1 (e ▸ mem_ownB.2 hg), fun x hx => ORow.kept (h.perms x hx) fun g hg => hb.block g (ORow.lt (h.perms x hx) hg) fun e => hX.2 x hx (e ▸ mem_ownB.2 hg), h.out⟩
theorem Safe.cells {W : World} {O : List Nat} {a : Option Addr} {c : Nat} {xs : List Sy} (h : Safe W O a c xs) : RRow W 6 syC (.slice a xs.length c) xs := h.row.reads syC_len
def allS (l : List St) : List PS := l.flatMap fun s => symsP s.h
theorem allS_take {l : List St} {j : Nat} {y : St} (h : l[j]? = some y) : allS (l.take (j + 1)) = allS (l.take j) ++ symsP y.h := by
  unfold allS; rw [take_at h, List.flatMap_append]; simp
theorem pre_of {l : List St} {j : Nat} {y : St} {k : Nat} {V : List PS} (h : l[j]? = some y) (hV : V = allS (l.take j) ++ (symsP y.h).take k) : V <+: allS l := by
  subst hV
  have h1 : allS l = allS (l.take (j + 1)) ++ allS (l.drop (j + 1)) := by
    unfold allS; rw [← List.flatMap_append, List.take_append_drop]
  rw [h1, allS_take h, List.append_assoc]
  exact List.prefix_append_right_inj _ |>.2 ((List.take_prefix _ _).trans (List.prefix_append _ _))
end Go.Proofs.Ytnifgkgdphlleaa
