/- The uses of the program: adding one. -/
import Derived.Test.YtnifgkgdphlleaaV7
set_option linter.unusedSimpArgs false
set_option linter.unusedVariables false
namespace Go.Proofs.Ytnifgkgdphlleaa
open Go.RowKit Tk
/-- all blocks but rows of strings are as they were -/
structure KT (w w' : World) : Prop where
  size : w.heap.size ≤ w'.heap.size
  block : ∀ k, k < w.heap.size → (∀ cs f, w.heap[k]? ≠ some (.cells cs 9 f)) → w'.heap[k]? = w.heap[k]?
theorem KT.refl (w : World) : KT w w := ⟨Nat.le_refl _, fun _ _ _ => rfl⟩
theorem KT.trans {a b c : World} (h : KT a b) (k : KT b c) : KT a c := ⟨Nat.le_trans h.size k.size, fun i hi hn => by
  have e := h.block i hi hn
  exact (k.block i (Nat.lt_of_lt_of_le hi h.size) (by rw [e]; exact hn)).trans e⟩
theorem KT.of_ext {w w' : World} (h : Ext w w') : KT w w' := ⟨h.size, fun k hk _ => h.block k hk⟩
theorem Blk.kt {w w' : World} {X : Nat} {t : TypeId} {cs : Array Value} (h : Blk w X t cs) (k : KT w w') (ht : t ≠ 9) : Blk w' X t cs := h.of (k.block X h.lt fun cs' f e => by
  unfold Blk at h; rw [h] at e; injection e with e; injection e with _ e; exact ht e)
theorem Loc.kt {F : List Nat} {w0 w w' : World} {X : Nat} {t : TypeId} {cs : Array Value} (h : Loc F w0 w X t cs) (k : KT w w') (ht : t ≠ 9) : Loc F w0 w' X t cs := ⟨h.blk.kt k ht, h.may⟩
theorem ORow.kt {α : Type} {w w' : World} {t : TypeId} {k : Nat} {f : α → List Value} {v : Value} {xs : List α} (h : ORow w t k f v xs) (hk : KT w w') (ht : t ≠ 9) : ORow w' t k f v xs := by
  obtain ⟨hl, h1 | ⟨g, cap, cur, e1, hb, hg, h2⟩⟩ := h
  · exact ⟨hl, .inl h1⟩
  · exact ⟨hl, .inr ⟨g, cap, cur, e1, hb, (Blk.kt (show Blk w g t cur from hg) hk ht), h2⟩⟩
theorem OwnR.kt {α : Type} {w0 w w' : World} {t : TypeId} {k : Nat} {f : α → List Value} {v : Value} {xs : List α} (h : OwnR w0 w t k f v xs) (hk : KT w w') (ht : t ≠ 9) : OwnR w0 w' t k f v xs := ⟨h.row.kt hk ht, h.new⟩
theorem ORow.kta {w w' : World} {k : Nat} {α : Type} {f : α → List Value} {v v' : Value} {xs zs : List α} (h : ORow w 9 k f v xs) (hA : AppPost w w' 9 k f v v' zs) : KT w w' :=
  ⟨hA.grown.size, fun i hi hn => hA.grown.block i hi fun e => by
    obtain ⟨hl, ⟨e1, e2⟩ | ⟨g, cap, cur, e1, hb, hg, h2⟩⟩ := h
    · subst e1; simp [Value.ownBlock] at e
    · subst e1
      have : i = g := by simpa [Value.ownBlock] using e
      subst this
      exact hn _ _ hg⟩
theorem at_andk {w w' : World} {p : Prop} (h1 : KT w w') (h2 : p) : KT w w' ∧ p := ⟨h1, h2⟩
theorem wp_region_kt {P : Program} {Q : Exit → Act → World → Prop} {a : Act} {w : World} {id : Nat} {l : List Oper} (ts is : List Nat) (hm : P.follows .mixedOrders = true) (hB : (canB l.toArray (zipT ts is) && is.all fun i => decide (i < l.length)) = true)
    (h : ∀ K : Act → World → Prop, (∀ a w, Q .normal a w → K a w) → ∀ w', Ext w w' → wpTag P l.toArray KT K (LetsOut Q) ts (pickL l is) a w') : (Code.region id l.toArray true).wp P Q a w := by
  rw [Bool.and_eq_true] at hB
  refine wp_region_can KT KT.refl (fun _ _ _ => KT.trans) _ hm hB.1 fun K hK => ?_
  rw [pick_eq l is ts fun i hi => by simpa using List.all_eq_true.1 hB.2 i hi]
  exact h K hK _ (Ext.drew w)
/-- what calls that add uses may write -/
structure UFr (b m : Nat) (w w' : World) : Prop where
  os : w'.os = w.os
  tape : w'.tape = w.tape
  output : w'.output = w.output
  size : w.heap.size ≤ w'.heap.size
  block : ∀ k, k < w.heap.size → k ≠ b → k ≠ m → (∀ cs f, w.heap[k]? ≠ some (.cells cs 57 f)) → w'.heap[k]? = w.heap[k]?
section
variable {b m X : Nat} {w0 w w' w2 : World} {t : TypeId} {cs : Array Value} {F : List Nat}
theorem UFr.refl : UFr b m w w := ⟨rfl, rfl, rfl, Nat.le_refl _, fun _ _ _ _ _ => rfl⟩
theorem UFr.trans (h : UFr b m w w') (k : UFr b m w' w2) : UFr b m w w2 :=
  ⟨k.os.trans h.os, k.tape.trans h.tape, k.output.trans h.output, Nat.le_trans h.size k.size, fun i hi h1 h2 h3 => by
    have e := h.block i hi h1 h2 h3
    exact (k.block i (Nat.lt_of_lt_of_le hi h.size) h1 h2 (by rw [e]; exact h3)).trans e⟩
theorem UFr.of_ext (h : Ext w w') : UFr b m w w' := ⟨h.os, h.tape, h.output, h.size, fun k hk _ _ _ => h.block k hk⟩
theorem UFr.ext (h : UFr b m w w') (hx : Ext w' w2) : UFr b m w w2 := h.trans (.of_ext hx)
theorem UFr.notin (h : UFr b m w w') (hX : w'.heap.size ≤ X) : w.heap.size ≤ X := Nat.le_trans h.size hX
theorem UFr.but0 (h : UFr b m w w') (hb : But X w' w2) (hX : w.heap.size ≤ X) : UFr b m w w2 :=
  ⟨hb.os.trans h.os, hb.tape.trans h.tape, hb.output.trans h.output, Nat.le_trans h.size hb.size, fun i hi h1 h2 h3 => (hb.block i (Nat.lt_of_lt_of_le hi h.size) (by omega)).trans (h.block i hi h1 h2 h3)⟩
theorem UFr.butb (h : UFr b m w w') (hb : But b w' w2) : UFr b m w w2 :=
  ⟨hb.os.trans h.os, hb.tape.trans h.tape, hb.output.trans h.output, Nat.le_trans h.size hb.size, fun i hi h1 h2 h3 => (hb.block i (Nat.lt_of_lt_of_le hi h.size) h1).trans (h.block i hi h1 h2 h3)⟩
theorem UFr.turned (h : UFr b m w w') (ht : MapTurned m w' w2) : UFr b m w w2 :=
  ⟨ht.os.trans h.os, ht.tape.trans h.tape, ht.output.trans h.output, Nat.le_trans h.size (Nat.le_of_eq ht.size.symm), fun i hi h1 h2 h3 => (ht.block i h2).trans (h.block i hi h1 h2 h3)⟩
theorem Blk.ufr (h : Blk w X t cs) (k : UFr b m w w') (hb : X ≠ b) (hm : X ≠ m) (ht : t ≠ 57) : Blk w' X t cs := h.of (k.block X h.lt hb hm fun cs' f e => by
  unfold Blk at h; rw [h] at e; injection e with e; injection e with _ e; exact ht e)
theorem KMap.neB {ml : List ((Int × ByteArray) × Value)} (h : KMap w m ml) (k : Blk w X t cs) : m ≠ X := by
  rintro rfl
  obtain ⟨es, cl, h1, -⟩ := h
  unfold Blk at k
  rw [k] at h1; cases h1
theorem KMap.ext {ml : List ((Int × ByteArray) × Value)} (h : KMap w m ml) (hx : Ext w w') : KMap w' m ml := h.low hx
theorem KMap.butB {ml : List ((Int × ByteArray) × Value)} (h : KMap w m ml) (hb : But X w w') (k : Blk w X t cs) : KMap w' m ml := h.but hb (h.neB k)
theorem KMap.notin {ml : List ((Int × ByteArray) × Value)} (h : KMap w m ml) (hX : w.heap.size ≤ X) : m ≠ X := by have := h.lt; omega
theorem KMap.but0 {ml : List ((Int × ByteArray) × Value)} (h : KMap w m ml) (hb : But X w w') (k : m ≠ X) : KMap w' m ml := h.but hb k
theorem KMap.ownN {α : Type} {k : Nat} {f : α → List Value} {v : Value} {xs : List α} {ml : List ((Int × ByteArray) × Value)} (h : KMap w m ml) (r : ORow w t k f v xs) : m ∉ ownB v := by
  intro hm
  obtain ⟨hl, ⟨e1, e2⟩ | ⟨g, cap, cur, e1, hb, hg, h2⟩⟩ := r
  · subst e1; simp [ownB, Value.ownBlock] at hm
  · subst e1
    have : m = g := by simpa [ownB, Value.ownBlock] using hm
    subst this
    exact h.neB (show Blk w m t cur from hg) rfl
theorem KMap.grow {α : Type} {k : Nat} {f : α → List Value} {v v' : Value} {xs ys : List α} {ml : List ((Int × ByteArray) × Value)} (h : KMap w m ml) (r : OwnR w0 w t k f v xs) (hA : AppPost w w' t k f v v' ys) (_ : True) : KMap w' m ml :=
  h.of (hA.grown.block m h.lt fun e => h.ownN r.row (mem_ownB.2 e.symm))
/-- the permissions of symbols, each list in a row of its own -/
def PermsOk (w : World) (xs : List Sy) : Prop := ∀ x ∈ xs, ORow w 9 1 strC (x.hp.v x.perms.length) x.perms
theorem PermsOk.ext {xs : List Sy} (h : PermsOk w xs) (hx : Ext w w') : PermsOk w' xs := fun x hm => (h x hm).low hx
theorem PermsOk.but {xs : List Sy} (h : PermsOk w xs) (hb : But X w w') (k : Blk w X t cs) (ht : 9 ≠ t) : PermsOk w' xs := fun x hm => (h x hm).but hb k ht
theorem ORow.turned {α : Type} {k : Nat} {f : α → List Value} {v : Value} {xs : List α} {ml : List ((Int × ByteArray) × Value)} (h : ORow w t k f v xs) (hM : KMap w m ml) (ht : MapTurned m w w') : ORow w' t k f v xs :=
  h.kept fun x hx => ht.block x fun e => hM.ownN h (by rw [← e]; exact mem_ownB.2 hx)
theorem Blk.turned {ml : List ((Int × ByteArray) × Value)} (h : Blk w X t cs) (hM : KMap w m ml) (ht : MapTurned m w w') : Blk w' X t cs := h.of (ht.block X fun e => hM.neB h e.symm)
theorem Loc.turned {ml : List ((Int × ByteArray) × Value)} (h : Loc F w0 w X t cs) (hM : KMap w m ml) (ht : MapTurned m w w') : Loc F w0 w' X t cs := ⟨h.blk.turned hM ht, h.may⟩
theorem Only.turnedM (h : Only [] w0 w) (hm : w0.heap.size ≤ m) (ht : MapTurned m w w') : Only [] w0 w' :=
  h.trans (F' := [m]) ⟨ht.os, ht.tape, ht.output, Nat.le_of_eq ht.size.symm, fun k _ hk => ht.block k fun e => hk (by simp [e])⟩ fun x hx => .inr (by rw [List.mem_singleton.1 hx]; exact hm)
theorem PermsOk.turned {xs : List Sy} {ml : List ((Int × ByteArray) × Value)} (h : PermsOk w xs) (hM : KMap w m ml) (ht : MapTurned m w w') : PermsOk w' xs := fun x hx => (h x hx).turned hM ht
theorem ORow.grow {α β : Type} {k k2 : Nat} {f : α → List Value} {f2 : β → List Value} {v v2 v' : Value} {xs : List α} {ys zs : List β} {t2 : TypeId} (h : ORow w t k f v xs) (r : ORow w t2 k2 f2 v2 ys) (hA : AppPost w w' t2 k2 f2 v2 v' zs) (hne : t ≠ t2) : ORow w' t k f v xs :=
  h.kept fun x hx => hA.grown.block x (h.lt hx) fun e => by
    obtain ⟨hl, ⟨e1, e2⟩ | ⟨g, cap, cur, e1, hb, hg, h2⟩⟩ := r
    · subst e1; simp [Value.ownBlock] at e
    · subst e1
      have : x = g := by simpa [Value.ownBlock] using e
      subst this
      exact h.ne (show Blk w x t2 cur from hg) hne (mem_ownB.2 hx)
theorem PermsOk.grow {α : Type} {k : Nat} {f : α → List Value} {v v' : Value} {ys zs : List α} {xs : List Sy} (h : PermsOk w xs) (r : OwnR w0 w 57 k f v ys) (hA : AppPost w w' 57 k f v v' zs) : PermsOk w' xs :=
  fun x hx => (h x hx).grow r.row hA (of_decide_eq_true rfl)
theorem OwnR.old {α : Type} {k : Nat} {f : α → List Value} {v : Value} {xs : List α} (h : OwnR w w' t k f v xs) (E : Only [] w0 w) : OwnR w0 w' t k f v xs := ⟨h.row, fun x hx => Nat.le_trans E.size (h.new x hx)⟩
structure UAt (w0 w : World) (b m : Nat) (U : List PS) (p : Int × Int) : Prop where
  only : Only [] w0 w
  ex : ∃ (xs : List Sy) (a : Option Addr) (c : Nat), xs.map Sy.ps = U ∧ Loc [] w0 w b 96 #[.slice a xs.length c, .map (some m), .int .i64 p.1, .int .i64 p.2] ∧ OwnR w0 w 57 6 syC (.slice a xs.length c) xs ∧ PermsOk w xs
  map : KMap w m (kidx U 0)
  hm : w0.heap.size ≤ m
  nd : ndU U
theorem UAt.ext {U : List PS} {p : Int × Int} (h : UAt w0 w b m U p) (hx : Ext w w') : UAt w0 w' b m U p := by
  obtain ⟨h1, ⟨xs, a, c, e, h2, h3, h4⟩, h5, h6, h7⟩ := h
  exact ⟨h1.ext hx, ⟨xs, a, c, e, h2.ext hx, h3.ext hx, h4.ext hx⟩, h5.ext hx, h6, h7⟩
theorem UAt.but {U : List PS} {p : Int × Int} (h : UAt w0 w b m U p) (k : Loc [] w0 w X t cs) (hb : But X w w') (ht : t ≠ 96 ∧ t ≠ 9 ∧ t ≠ 57) : UAt w0 w' b m U p := by
  obtain ⟨h1, ⟨xs, a, c, e, h2, h3, h4⟩, h5, h6, h7⟩ := h
  exact ⟨h1.put k hb, ⟨xs, a, c, e, h2.but hb (h2.blk.ne_ k.blk ht.1.symm), h3.but hb k.blk ht.2.2.symm, h4.but hb k.blk ht.2.1.symm⟩, h5.butB hb k.blk, h6, h7⟩
/-- what a call that adds uses leaves -/
def UPost (w0 : World) (b m : Nat) (U : List PS) (p : Int × Int) (w : World) (e : Ending) (w' : World) : Prop := e = .returned (.tuple #[]) ∧ UAt w0 w' b m U p ∧ UFr b m w w'
end
theorem isz {s : ByteArray} (h : s = ⟨#[]⟩) : (s.toList == []) = true := by subst h; rw [ByteArray.toList_eq]; rfl
theorem isz_no {s : ByteArray} (h : ¬ s = ⟨#[]⟩) : (s.toList == []) = false := by
  have := txt_f (a := s) (b := ⟨#[]⟩) h
  rw [show (⟨#[]⟩ : ByteArray).toList = [] from by rw [ByteArray.toList_eq]] at this
  exact this
end Go.Proofs.Ytnifgkgdphlleaa
