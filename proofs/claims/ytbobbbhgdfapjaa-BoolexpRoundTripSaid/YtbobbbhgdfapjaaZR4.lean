/- C4, C5, C6, Tk, Ba, Ut, Or, Ro, Ap, On, En, Em, V1, H1 -/
import Derived.WalkKit
import Derived.Test.YtbobbbhgdfapjaaZR1
import Derived.Test.YtbobbbhgdfapjaaZR2
import Derived.Test.YtbobbbhgdfapjaaZR3
import Derived.Test.YtbobbbhgdfapjaaRows
import Derived.WalkSpells
import Derived.WalkLawsBesides
import Derived.Lib.Hide
import Derived.Maps.AppendAt
import Derived.Laws.CopyRow
import Derived.Deep.Cut
import Derived.Outline
import Derived.Laws.StructEq
set_option linter.unusedSimpArgs false
set_option linter.unusedVariables false
namespace Go.Proofs.Ytbobbbhgdfapjaa
set_option maxHeartbeats 8000000
set_option maxRecDepth 100000
open Go.RowKit

def bare (o : Oper) : Oper := ⟨o.dst, o.op, o.type, "", #[], none⟩
section
variable {P : Program} {S : Nat → Sp} {ws : World} {N : Act → World → Prop} {O : Prop} {l : List (Nat × Option (Option Tmp × Bool) × Oper)} {E : List (Nat × Value)} {a : Act} {j : Nat} {o : Oper} {g : Option (Option Tmp × Bool)}
end
open Go.RowKit
theorem wp_region_o {P : Program} {Q : Exit → Act → World → Prop} {a : Act} {w : World} {id : Nat} {l : List Oper} (is : List Nat) (hm : P.follows .mixedOrders = true) (hB : canB l.toArray (is.map fun i => (0, i)) = true)
    (h : ∀ K : Act → World → Prop, (∀ a w, Q .normal a w → K a w) → wpTxt P l.toArray K (LetsOut Q) (pickL l is) a w.drew) : (Code.region id l.toArray true).wp P Q a w :=
 wp_region_can (fun _ _ => True) (fun _ => trivial) (fun _ _ _ _ _ => trivial) _ hm hB fun K hK => by
  rw [tail_eq]
  exact h K hK
open Go.RowKit
section
variable {P : Program} {ops : Array Oper} {S : Nat → Sp} {ws : World} {N : Act → World → Prop} {O : Prop}
theorem can_of_E {Q : Exit → Act → World → Prop} {tail : List (Nat × Nat)} {w : World} {c0 : List Nat} (hq : ∀ x ∈ c0, ∀ o, ops[x]? = some o → isW o = false) (hx : Ext ws w) (hN : ∀ a w, N a w → wpCanI P ops (fun _ _ => True) (fun a w => Q .normal a w) O tail a w)
    {E : List (Nat × Value)} (h1 : ∀ e ∈ E, (S e.1).Φ e.2 w) (h2 : ∀ e ∈ E, ∀ b ∈ (S e.1).fp e.2, ws.heap.size ≤ b ∧ b < w.heap.size) (h3 : ∀ e ∈ E, ∀ e' ∈ E, e.1 ≠ e'.1 → ∀ b ∈ (S e.1).fp e.2, b ∉ (S e'.1).fp e'.2) :
    ∀ (a : Act), wpEI P ops S ws N O c0 E a → wpCanI P ops (fun _ _ => True) (fun a w => Q .normal a w) O ((c0.map fun i => ((0 : Nat), i)) ++ tail) a w := by
 induction c0 with
 | nil => intro a h; exact hN _ _ (h w hx h1 h2 h3)
 | cons j c ih =>
   intro a h
   have ih' := ih fun x hx' => hq x (by simp [hx'])
   simp only [wpEI] at h
   simp only [List.map_cons, List.cons_append, wpCanI]
   cases ho : ops[j]? with
   | none => rw [ho] at h; exact ih' a h
   | some o =>
     rw [ho] at h
     have hW := hq j (by simp) o ho
     simp only [stepE, hW, Bool.false_eq_true, if_false] at h
     simp only [canStep, hW, Bool.false_eq_true, if_false]
     split
     · rename_i hw
       rw [if_pos hw] at h
       obtain ⟨v, hr, hR⟩ := h w hx
       exact ⟨v, hr, ih' _ hR⟩
     · rename_i hw
       rw [if_neg hw] at h
       exact ih' _ h
theorem wpAny_of_E2 (fr : Nat → Bool) {Q : Exit → Act → World → Prop} (hs : Region.noSelect ops = true) (hE : edgesOk ops = true) (hO : O → LetsOut Q) {tail : List (Nat × Nat)}
    (ht : ∀ z ∈ tail, z.2 < ops.size) (hpt : tail.Pairwise (fun j i => pairOk ops (waitTab ops) j i = true)) (hN : ∀ a w, N a w → wpCanI P ops (fun _ _ => True) (fun a w => Q .normal a w) O tail a w) :
    ∀ (n : Nat) (c : List Nat) (listed : Array Bool) (E : List (Nat × Value)) (a : Act) (w : World), c.length = n → listed.size = ops.size →
      c.Pairwise (fun j i => pairH ops (waitTab ops) j i = true) → (∀ x ∈ c, x < ops.size) → (∀ x ∈ c, ∀ z ∈ tail, (((waitTab ops).getD z.2 0).testBit x = true ∨ fr x = true) ∧ x ≠ z.2) → (∀ x ∈ c, fr x = true → (∀ o, ops[x]? = some o → isW o = false) ∧ ∀ z ∈ tail, pairOk ops (waitTab ops) (0, x) z = true) → (∀ i, i < ops.size → (listed.getD i true = false ↔ (i ∈ c ∨ ∃ z ∈ tail, z.2 = i))) →
      (∀ j oj, ops[j]? = some oj → listed.getD j false = true → ∀ e ∈ oj.after, Region.binds .any e = true → listed.getD e.on false = true) →
      (∀ x ∈ c, ∀ z ∈ tail, ∀ o, ops[x]? = some o → ∀ e ∈ o.after, Region.binds .any e = true → e.on ≠ z.2) →
      Ext ws w → (∀ e ∈ E, (S e.1).Φ e.2 w) → (∀ e ∈ E, ∀ b ∈ (S e.1).fp e.2, ws.heap.size ≤ b ∧ b < w.heap.size) →
      (∀ e ∈ E, ∀ e' ∈ E, e.1 ≠ e'.1 → ∀ b ∈ (S e.1).fp e.2, b ∉ (S e'.1).fp e'.2) → (∀ e ∈ E, e.1 ∉ c) →
      wpEI P ops S ws N O c E a → wpAny P .any ops Q (n + tail.length) listed a w := by
 intro n
 induction n with
 | zero =>
   intro c listed E a w hc hz _ _ _ _ hl hcl _ hx h1 h2 h3 _ h
   have : c = [] := List.eq_nil_of_length_eq_zero hc
   subst this
   have hN' := hN _ _ (h w hx h1 h2 h3)
   rw [Nat.zero_add]
   exact wpAny_of_can (Kp := fun _ _ => True) (fun _ => trivial) (fun _ _ _ _ _ => trivial) hs hE (N := fun a w => Q .normal a w) (O := O) (fun _ _ h => h) hO tail.length tail listed a w rfl hz hpt ht (fun i hi => by rw [hl i hi]; simp) hcl hN'
 | succ n ih =>
   intro c listed E a w hc hz hp hlt hct hfr hl hcl hno hx h1 h2 h3 h4 h
   by_cases hall : ∀ x ∈ c, fr x = true
   · have hlen : ((c.map fun i => ((0 : Nat), i)) ++ tail).length = n + 1 + tail.length := by rw [List.length_append, List.length_map, hc]
     refine wpAny_of_can (Kp := fun _ _ => True) (fun _ => trivial) (fun _ _ _ _ _ => trivial) hs hE (N := fun a w => Q .normal a w) (O := O) (fun _ _ h => h) hO _ ((c.map fun i => ((0 : Nat), i)) ++ tail) listed a w hlen hz ?_ ?_ ?_ hcl ?_
     · refine List.pairwise_append.2 ⟨?_, hpt, ?_⟩
       · rw [List.pairwise_map]
         refine (List.pairwise_iff_forall_sublist.2 fun {x y} hxy => ?_)
         have hpy := List.pairwise_iff_forall_sublist.1 hp hxy
         have hxm : x ∈ c := hxy.subset (by simp)
         have hym : y ∈ c := hxy.subset (by simp)
         have hxo : ops[x]? = some (ops[x]'(hlt x hxm)) := Array.getElem?_eq_getElem _
         have hyo : ops[y]? = some (ops[y]'(hlt y hym)) := Array.getElem?_eq_getElem _
         have w1 := (hfr x hxm (hall x hxm)).1 _ hxo
         have w2 := (hfr y hym (hall y hym)).1 _ hyo
         simp only [pairH, hxo, hyo, Bool.and_eq_true] at hpy
         simp only [pairOk, hxo, hyo, Bool.and_eq_true]
         refine ⟨hpy.1, ?_⟩
         have h6 := hpy.2
         rw [Bool.or_eq_true] at h6 ⊢
         rcases h6 with h' | h'
         · exact .inl h'
         · right
           simp [h', w1, w2]
       · intro x hx' z hz'
         obtain ⟨i, hi, rfl⟩ := List.mem_map.1 hx'
         exact (hfr i hi (hall i hi)).2 z hz'
     · intro x hx'
       rcases List.mem_append.1 hx' with hx' | hx'
       · obtain ⟨i, hi, rfl⟩ := List.mem_map.1 hx'
         exact hlt i hi
       · exact ht x hx'
     · intro i hi
       rw [hl i hi]
       constructor
       · rintro (h' | ⟨z, hz', rfl⟩)
         · exact ⟨(0, i), List.mem_append.2 (.inl (List.mem_map.2 ⟨i, h', rfl⟩)), rfl⟩
         · exact ⟨z, List.mem_append.2 (.inr hz'), rfl⟩
       · rintro ⟨z, hz', rfl⟩
         rcases List.mem_append.1 hz' with hz' | hz'
         · obtain ⟨i, hi', rfl⟩ := List.mem_map.1 hz'
           exact .inl hi'
         · exact .inr ⟨z, hz', rfl⟩
     · exact can_of_E (fun x hx' => (hfr x hx' (hall x hx')).1) hx hN h1 h2 h3 a h
   obtain ⟨x0, hx0, hx0f⟩ : ∃ x ∈ c, fr x = false := by
    rcases Classical.em (∃ x ∈ c, fr x = false) with h' | h'
    · exact h'
    · exfalso
      refine hall fun x hx' => ?_
      cases hf : fr x with
      | true => rfl
      | false => exact absurd ⟨x, hx', hf⟩ h'
   have hsucc : n + 1 + tail.length = (n + tail.length) + 1 := by omega
   rw [hsucc]
   refine ⟨fun hr => ?_, fun i hi => ?_⟩
   · exfalso
     match c, hc with
     | x :: rest, _ =>
       have hxlt := hlt x (by simp)
       have hxo : ops[x]? = some ops[x] := Array.getElem?_eq_getElem hxlt
       have hmem : x ∈ Region.ready .any ops listed := by
        rw [mem_ready]
        refine ⟨(hl x hxlt).2 (.inl (by simp)), ops[x], hxo, fun e he hb => ?_⟩
        obtain ⟨hin, hself⟩ := edgesOk_spec hE hxo e he
        have hin' : e.on < listed.size := by omega
        cases hle : listed.getD e.on true with
        | true => simp [hin'] at hle ⊢; exact hle
        | false =>
          rcases (hl e.on hin).1 hle with hy | ⟨z, hz', hze⟩
          · rcases List.mem_cons.1 hy with hy | hy
            · exact absurd hy hself
            · have hpy := List.rel_of_pairwise_cons hp hy
              have hyo : ops[e.on]? = some (ops[e.on]'hin) := Array.getElem?_eq_getElem _
              simp only [pairH, hxo, hyo, Bool.and_eq_true, Bool.not_eq_true'] at hpy
              have hno' := hpy.1.1
              have hyes : (ops[x].after.any fun e' => Region.binds .any e' && e'.on == e.on) = true := Array.any_eq_true'.2 ⟨e, he, by simp [hb]⟩
              rw [hyes] at hno'
              cases hno'
          · exact absurd hze.symm (hno x (by simp) z hz' _ hxo e he hb)
       rw [hr] at hmem
       cases hmem
   · obtain ⟨h0, oi, hoi, hall'⟩ := mem_ready.1 hi
     have hilt : i < ops.size := (Array.getElem?_eq_some_iff.1 hoi).1
     have hic : i ∈ c := by
      rcases (hl i hilt).1 h0 with h' | ⟨z, hz', rfl⟩
      · exact h'
      · exfalso
        have hb : ((waitTab ops).getD z.2 0).testBit x0 = true := by
         rcases (hct x0 hx0 z hz').1 with hb | hb
         · exact hb
         · rw [hx0f] at hb; cases hb
        have := await_listed hoi hall' hcl (k := x0) ((hl x0 (hlt x0 hx0)).2 (.inl hx0))
        rw [hb] at this
        cases this
     obtain ⟨c1, c2, rfl⟩ := List.append_of_mem hic
     have hp' := List.pairwise_append.1 hp
     have hsub : (c1 ++ c2).Sublist (c1 ++ i :: c2) := (List.sublist_cons_self _ _).append_left _
     have hpull := pullE (P := P) (S := S) (ws := ws) (N := N) (O := O) hoi hs (c2 := c2) c1 (fun j hj => by
      have hpj := hp'.2.2 j hj i (by simp)
      have hjo : ops[j]? = some (ops[j]'(hlt j (by simp [hj]))) := Array.getElem?_eq_getElem _
      refine ⟨_, hjo, ?_⟩
      simp only [pairH, hjo, hoi, Bool.and_eq_true] at hpj
      have hre := await_listed hoi hall' hcl (k := j) ((hl j (hlt j (by simp [hj]))).2 (.inl (by simp [hj])))
      rw [hre] at hpj
      simpa using hpj.2) E a h
     have hxk : ∀ y ∈ c1 ++ c2, y ≠ i := by
      intro y hy heq
      subst heq
      rcases List.mem_append.1 hy with hy | hy
      · have hpj := hp'.2.2 y hy y (by simp)
        simp [pairH, hoi] at hpj
      · have hpj := List.rel_of_pairwise_cons hp'.2.1 hy
        simp [pairH, hoi] at hpj
     have nxt : ∀ (E' : List (Nat × Value)) (a' : Act) (w' : World), Ext ws w' → (∀ e ∈ E', (S e.1).Φ e.2 w') → (∀ e ∈ E', ∀ b ∈ (S e.1).fp e.2, ws.heap.size ≤ b ∧ b < w'.heap.size) →
         (∀ e ∈ E', ∀ e' ∈ E', e.1 ≠ e'.1 → ∀ b ∈ (S e.1).fp e.2, b ∉ (S e'.1).fp e'.2) → (∀ e ∈ E', e.1 ∉ c1 ++ c2) → wpEI P ops S ws N O (c1 ++ c2) E' a' → wpAny P .any ops Q (n + tail.length) (listed.setIfInBounds i true) a' w' := by
      intro E' a' w' g1 g2 g3 g4 g5 g6
      refine ih (c1 ++ c2) (listed.setIfInBounds i true) E' a' w' (by simp at hc ⊢; omega) (by simpa using hz) (hp.sublist hsub) (fun y hy => hlt y (hsub.subset hy)) (fun x hx => hct x (hsub.subset hx)) (fun x hx => hfr x (hsub.subset hx)) (fun k hk => ?_) (closed_step hoi hall' hcl) (fun x hx => hno x (hsub.subset hx)) g1 g2 g3 g4 g5 g6
      by_cases hki : k = i
      · subst hki
        constructor
        · intro hg
          simp [hz, hk] at hg
        · rintro (hy | ⟨z, hz', hze⟩)
          · exact absurd rfl (hxk k hy)
          · exact absurd hze.symm (hct k (by simp) z hz').2
      · rw [getD_set_ne true (Ne.symm hki), hl k hk]
        constructor
        · rintro (hy | hy)
          · left
            simp only [List.mem_append, List.mem_cons] at hy ⊢
            rcases hy with hy | rfl | hy
            · exact .inl hy
            · exact absurd rfl hki
            · exact .inr hy
          · exact .inr hy
        · rintro (hy | hy)
          · exact .inl (hsub.subset hy)
          · exact .inr hy
     refine wpOp_of_E hoi hO hx hpull (fun a' hR => nxt E a' w hx h1 h2 h3 (fun e he hm => h4 e he (hsub.subset hm)) hR) (fun v w' hg hR => ?_)
     obtain ⟨gφ, gΦ, gx, gf⟩ := hg
     refine nxt _ _ w' (hx.trans gx) (fun e he => ?_) (fun e he b hb => ?_) (fun e he e' he' hne b hb => ?_) (fun e he hm => ?_) hR
     · rcases List.mem_cons.1 he with rfl | he
       · exact gΦ
       · exact (S e.1).mono _ _ _ gx (h1 e he)
     · rcases List.mem_cons.1 he with rfl | he
       · have := gf b hb
         have := hx.size
         omega
       · have := h2 e he b hb
         have := gx.size
         omega
     · rcases List.mem_cons.1 he with rfl | he
       · rcases List.mem_cons.1 he' with rfl | he'
         · exact absurd rfl hne
         · intro hb'
           have := gf b hb
           have := h2 e' he' b hb'
           omega
       · rcases List.mem_cons.1 he' with rfl | he'
         · intro hb'
           have := gf b hb'
           have := h2 e he b hb
           omega
         · exact h3 e he e' he' hne b hb
     · rcases List.mem_cons.1 he with rfl | he
       · exact hxk _ hm rfl
       · exact h4 e he (hsub.subset hm)


/-- as eB; but heads of fr, which do not turn the world, may wait behind the tail -/
def eB2 (ops : Array Oper) (c fr tail : List Nat) : Bool :=
 Region.noSelect ops && edgesOk ops && pairsH ops (waitTab ops) c && pairsOk ops (waitTab ops) (tail.map fun i => (0, i)) && c.all (fun x => decide (x < ops.size)) && tail.all (fun x => decide (x < ops.size)) &&
 c.all (fun x => tail.all fun z => (((waitTab ops).getD z 0).testBit x || fr.contains x) && x != z) &&
 c.all (fun x => match ops[x]? with | some o => !fr.contains x || !isW o | none => true) &&
 c.all (fun x => tail.all fun z => !fr.contains x || pairOk ops (waitTab ops) (0, x) (0, z)) &&
 c.all (fun x => tail.all fun z => match ops[x]? with | some o => o.after.all fun e => !Region.binds .any e || e.on != z | none => true) &&
 decide (c.length + tail.length = ops.size) && (List.range ops.size).all fun i => c.contains i || tail.contains i
end
section
variable {P : Program} {Q : Exit → Act → World → Prop} {a : Act} {w : World}
theorem wp_region_h0 {id : Nat} {l : List Oper} (S : Nat → Sp) (c fr tail : List Nat) (hm : P.follows .mixedOrders = true) (hB : eB2 l.toArray c fr tail = true)
    (h : ∀ K : Act → World → Prop, (∀ a w, wpCanI P l.toArray (fun _ _ => True) (fun a w => Q .normal a w) (LetsOut Q) (tail.map fun i => (0, i)) a w → K a w) → wpEI P l.toArray S w.drew K (LetsOut Q) c [] a) : (Code.region id l.toArray true).wp P Q a w := by
 simp only [eB2, Bool.and_eq_true, decide_eq_true_eq] at hB
 obtain ⟨⟨⟨⟨⟨⟨⟨⟨⟨⟨⟨hs, hE⟩, hp⟩, hpt⟩, hlt⟩, hltt⟩, hct⟩, hfw⟩, hfp⟩, hno⟩, hlen⟩, hall⟩ := hB
 refine wp_region_any hm ?_
 have hsz : l.toArray.size = c.length + (tail.map fun i => (0, i)).length := by simp at hlen ⊢; omega
 rw [hsz]
 refine wpAny_of_E2 fr.contains (S := S) (ws := w.drew) (N := fun a w => wpCanI P l.toArray (fun _ _ => True) (fun a w => Q .normal a w) (LetsOut Q) (tail.map fun i => (0, i)) a w) (O := LetsOut Q) hs hE (fun h => h) (tail := tail.map fun i => (0, i)) (fun z hz => ?_) (pairsOk_iff.1 hpt) (fun _ _ h => h) c.length c _ [] a _ rfl (by simp at hlen ⊢; omega) (pairsH_iff.1 hp) (fun x hx => by simpa using List.all_eq_true.1 hlt x hx) (fun x hx z hz => ?_) (fun x hx hf => ⟨fun o ho => ?_, fun z hz => ?_⟩) (fun i hi => ?_) (fun j oj hj hl => ?_) (fun x hx z hz o ho e he hb => ?_) (Ext.refl _) (by simp) (by simp) (by simp) (by simp) (h _ fun _ _ h => h)
 · obtain ⟨i, hi, rfl⟩ := List.mem_map.1 hz
   simpa using List.all_eq_true.1 hltt i hi
 · obtain ⟨i, hi, rfl⟩ := List.mem_map.1 hz
   have := List.all_eq_true.1 (List.all_eq_true.1 hct x hx) i hi
   simp only [Bool.and_eq_true, Bool.or_eq_true, bne_iff_ne] at this
   exact this
 · have := List.all_eq_true.1 hfw x hx
   rw [ho] at this
   simp only [hf, Bool.not_true, Bool.false_or, Bool.not_eq_true'] at this
   exact this
 · obtain ⟨i, hi, rfl⟩ := List.mem_map.1 hz
   have := List.all_eq_true.1 (List.all_eq_true.1 hfp x hx) i hi
   simp only [hf, Bool.not_true, Bool.false_or] at this
   exact this
 · have h1 := List.all_eq_true.1 hall i (List.mem_range.2 hi)
   have hi2 : i < c.length + tail.length := by omega
   constructor
   · intro _
     simp only [Bool.or_eq_true, List.contains_iff_mem] at h1
     rcases h1 with h1 | h1
     · exact .inl h1
     · exact .inr ⟨(0, i), List.mem_map.2 ⟨i, h1, rfl⟩, rfl⟩
   · intro _
     simp [hi2]
 · exfalso
   have hj' : j < l.length := by simpa using (Array.getElem?_eq_some_iff.1 hj).1
   have hj2 : j < c.length + tail.length := by rw [hlen]; simpa using hj'
   simp [hj2] at hl
 · obtain ⟨i, hi, rfl⟩ := List.mem_map.1 hz
   have := List.all_eq_true.1 (List.all_eq_true.1 hno x hx) i hi
   rw [ho] at this
   have := Array.all_eq_true_iff_forall_mem.1 this e he
   rw [hb] at this
   simpa using this

theorem wp_region_h {id : Nat} {l : List Oper} (S : Nat → Sp) (c fr tail : List Nat) (hm : P.follows .mixedOrders = true) (hB : eB2 l.toArray c fr tail = true)
    (h : ∀ (K : Act → World → Prop) (ws : World), ws = w.drew → (∀ a w, wpTxt P l.toArray (fun a w => Q .normal a w) (LetsOut Q) (pickL l tail) a w → K a w) → wpE P l.toArray S ws K (LetsOut Q) (pickE l c) [] a) : (Code.region id l.toArray true).wp P Q a w :=
 wp_region_h0 S c fr tail hm hB fun K hK => wpEI_of_E l c [] a (h K _ rfl fun a w h' => hK a w (wpCanI_eq _ l rfl _ a w (by rw [tail_eq]; exact h')))
end
end Go.Proofs.Ytbobbbhgdfapjaa
set_option linter.unusedSimpArgs false
set_option linter.unusedVariables false
namespace Go.Proofs.Ytbobbbhgdfapjaa.Tk

def letB (c : Int) : Bool := decide (97 ≤ c ∧ c ≤ 122) || decide (65 ≤ c ∧ c ≤ 90) || decide (c = 95)
def digB (c : Int) : Bool := decide (48 ≤ c ∧ c ≤ 57)
def prtB (c : Int) : Bool := decide (32 ≤ c ∧ c ≤ 126 ∧ c ≠ 34)

/-- the number of a byte -/
def bi (c : UInt8) : Int := (c.toNat : Int)
def nmB (c : UInt8) : Bool := letB (bi c) || digB (bi c)
def dgB (c : UInt8) : Bool := digB (bi c)
def ptB (c : UInt8) : Bool := prtB (bi c)

def nameB (l : List UInt8) : Bool := !l.isEmpty && decide (l.length ≤ 32) && !dgB (l.getD 0 0) && l.all nmB
theorem take_all_succ {p : UInt8 → Bool} (l : List UInt8) (k : Nat) (h : k < l.length) : (l.take (k + 1)).all p = ((l.take k).all p && p l[k]) := by
 rw [List.take_succ_eq_append_getElem h, List.all_append]; simp
theorem all_false_of {p : UInt8 → Bool} (l : List UInt8) (k : Nat) (h : k < l.length) (hp : p l[k] = false) : l.all p = false := by
 rw [List.all_eq_false]; exact ⟨l[k], List.getElem_mem h, by simp [hp]⟩
theorem all_of_take {p : UInt8 → Bool} (l : List UInt8) (k : Nat) (h : l.length ≤ k) (hp : (l.take k).all p = true) : l.all p = true := by
 rwa [List.take_of_length_le h] at hp

theorem sz (s : ByteArray) : s.data.toList.length = s.size := Array.length_toList
theorem at_ (s : ByteArray) (k : Nat) (h : k < s.size) : s.data.toList[k]'(by rw [sz]; exact h) = s[k] := rfl
theorem all_step {p : UInt8 → Bool} (s : ByteArray) (k : Nat) (h : k < s.size) (ha : (s.data.toList.take k).all p = true) (hp : p s[k] = true) : (s.data.toList.take (k + 1)).all p = true := by
 rw [take_all_succ _ _ (by rw [sz]; exact h), ha, at_ s k h, hp]; rfl
theorem all_stop {p : UInt8 → Bool} (s : ByteArray) (k : Nat) (h : k < s.size) (hp : p s[k] = false) : s.data.toList.all p = false :=
 all_false_of _ k (by rw [sz]; exact h) (by rw [at_ s k h]; exact hp)
theorem all_done {p : UInt8 → Bool} (s : ByteArray) (k : Nat) (h : s.size ≤ k) (ha : (s.data.toList.take k).all p = true) : s.data.toList.all p = true :=
 all_of_take _ k (by rw [sz]; exact h) ha
theorem isEmpty_of (s : ByteArray) (h : 0 < s.size) : s.data.toList.isEmpty = false := by
 cases hl : s.data.toList with
 | nil => have := sz s; rw [hl] at this; simp at this; omega
 | cons => rfl
theorem isEmpty_no (s : ByteArray) (h : ¬ 0 < s.size) : s.data.toList = [] := by
 cases hl : s.data.toList with
 | nil => rfl
 | cons => have := sz s; rw [hl] at this; simp at this; omega
theorem getD_of (s : ByteArray) (h : 0 < s.size) : s.data.toList.getD 0 0 = s[0] := by
 rw [List.getD_eq_getElem?_getD, List.getElem?_eq_getElem (by rw [sz]; exact h)]; rfl

/-- the position behind a byte -/
def aft (p : Int × Int) (c : UInt8) : Int × Int := if bi c = 10 then (p.1 + 1, 1) else (p.1, p.2 + 1)
/-- the position of the byte with index k -/
def loc (l : List UInt8) (k : Nat) : Int × Int := (l.take k).foldl aft (1, 1)
theorem loc_zero (l : List UInt8) : loc l 0 = (1, 1) := by simp [loc]
theorem loc_succ (l : List UInt8) (k : Nat) (h : k < l.length) : loc l (k + 1) = aft (loc l k) l[k] := by
 unfold loc; rw [List.take_succ_eq_append_getElem h, List.foldl_append]; rfl
theorem loc_le (l : List UInt8) : ∀ k : Nat, 1 ≤ (loc l k).1 ∧ (loc l k).1 ≤ k + 1 ∧ 1 ≤ (loc l k).2 ∧ (loc l k).2 ≤ k + 1
 | 0 => by rw [loc_zero]; simp
 | k + 1 => by
   have ih := loc_le l k
   rcases Nat.lt_or_ge k l.length with h | h
   · rw [loc_succ l k h]; unfold aft; split <;> simp <;> omega
   · have : loc l (k + 1) = loc l k := by unfold loc; rw [List.take_of_length_le h, List.take_of_length_le (by omega)]
     rw [this]; omega

/-- the length of the longest beginning whose bytes are of a kind -/
def tw (p : UInt8 → Bool) (l : List UInt8) : Nat := (l.takeWhile p).length
theorem tw_le (p : UInt8 → Bool) (l : List UInt8) : tw p l ≤ l.length := (List.takeWhile_sublist p).length_le
theorem tw_cons (p : UInt8 → Bool) (c : UInt8) (l : List UInt8) : tw p (c :: l) = if p c = true then tw p l + 1 else 0 := by
 unfold tw; rw [List.takeWhile_cons]; split <;> simp
theorem tw_yes (p : UInt8 → Bool) (l : List UInt8) (k : Nat) (h : k < l.length) (hp : p l[k] = true) : tw p (l.drop k) = tw p (l.drop (k + 1)) + 1 := by
 rw [List.drop_eq_getElem_cons h, tw_cons, if_pos hp]
theorem tw_no (p : UInt8 → Bool) (l : List UInt8) (k : Nat) (h : k < l.length) (hp : p l[k] = false) : tw p (l.drop k) = 0 := by
 rw [List.drop_eq_getElem_cons h, tw_cons, if_neg (by simp [hp])]
theorem tw_end (p : UInt8 → Bool) (l : List UInt8) (k : Nat) (h : l.length ≤ k) : tw p (l.drop k) = 0 := by
 rw [List.drop_of_length_le h]; rfl
/-- what the scanner finds at the head of a list: an error and how far on it lies, or a kind and a length -/
inductive Res where
 | err (c : Int) (off : Nat)
 | ok (kind : Int) (n : Nat)
def nameR (l : List UInt8) : Res := if 32 < tw nmB l then .err 10 0 else .ok 1 (tw nmB l)
def numR (l : List UInt8) : Res := if 9 < tw dgB l then .err 3 0 else if 1 < tw dgB l ∧ bi (l.getD 0 0) = 48 then .err 9 0 else .ok 2 (tw dgB l)
def textR (l : List UInt8) : Res :=
 if (l.drop 1).length ≤ tw ptB (l.drop 1) then .err 5 0
 else if ¬ bi ((l.drop 1).getD (tw ptB (l.drop 1)) 0) = 34 then .err 9 (1 + tw ptB (l.drop 1))
 else if 256 < tw ptB (l.drop 1) then .err 4 0 else .ok 3 (tw ptB (l.drop 1) + 2)
def marks2 : List (List UInt8) := [[61, 61], [33, 61], [38, 38], [124, 124]]
def marks1 : List UInt8 := [123, 125, 40, 41, 59, 58, 44, 46, 45, 126, 42, 33, 94]
def markN (l : List UInt8) : Nat := if marks2.contains (l.take 2) then 2 else if (match l with | [] => false | c :: _ => marks1.contains c) then 1 else 0
def markR (l : List UInt8) : Res := if markN l = 0 then .err 9 0 else .ok 4 (markN l)
def oneR (l : List UInt8) : Res :=
 if letB (bi (l.getD 0 0)) then nameR l else if digB (bi (l.getD 0 0)) then numR l else if bi (l.getD 0 0) = 34 then textR l else markR l

/-- how many bytes of blanks and comments lie at the head -/
def skipL : Bool → List UInt8 → Nat
 | _, [] => 0
 | c, b :: l => if bi b = 10 then skipL false l + 1 else if bi b = 35 then skipL true l + 1 else if c = true ∨ bi b = 32 ∨ bi b = 9 then skipL c l + 1 else 0
theorem skipL_le : ∀ (c : Bool) (l : List UInt8), skipL c l ≤ l.length
 | _, [] => by simp [skipL]
 | c, b :: l => by
   have h1 := skipL_le false l
   have h2 := skipL_le true l
   have h3 := skipL_le c l
   unfold skipL
   repeat' split
   all_goals simp only [List.length_cons]; omega

/-- the reserved words -/
def kwList : List (List UInt8) := [[109, 111, 100, 117, 108, 101],
 [99, 108, 97, 115, 115],
 [116, 121, 112, 101],
 [97, 108, 105, 97, 115],
 [116, 121, 112, 101, 97, 116, 116, 114, 105, 98, 117, 116, 101],
 [97, 116, 116, 114, 105, 98, 117, 116, 101],
 [114, 111, 108, 101],
 [116, 121, 112, 101, 115],
 [114, 111, 108, 101, 97, 108, 108, 111, 119],
 [114, 111, 108, 101, 95, 116, 114, 97, 110, 115, 105, 116, 105, 111, 110],
 [117, 115, 101, 114],
 [114, 111, 108, 101, 115],
 [108, 101, 118, 101, 108],
 [114, 97, 110, 103, 101],
 [98, 111, 111, 108],
 [116, 114, 117, 101],
 [102, 97, 108, 115, 101],
 [115, 101, 110, 115, 105, 116, 105, 118, 105, 116, 121],
 [99, 97, 116, 101, 103, 111, 114, 121],
 [97, 108, 108, 111, 119],
 [97, 117, 100, 105, 116, 97, 108, 108, 111, 119],
 [100, 111, 110, 116, 97, 117, 100, 105, 116],
 [110, 101, 118, 101, 114, 97, 108, 108, 111, 119],
 [116, 121, 112, 101, 95, 116, 114, 97, 110, 115, 105, 116, 105, 111, 110],
 [116, 121, 112, 101, 95, 99, 104, 97, 110, 103, 101],
 [116, 121, 112, 101, 95, 109, 101, 109, 98, 101, 114],
 [114, 97, 110, 103, 101, 95, 116, 114, 97, 110, 115, 105, 116, 105, 111, 110],
 [99, 111, 110, 115, 116, 114, 97, 105, 110],
 [118, 97, 108, 105, 100, 97, 116, 101, 116, 114, 97, 110, 115],
 [105, 102],
 [101, 108, 115, 101],
 [111, 112, 116, 105, 111, 110, 97, 108],
 [114, 101, 113, 117, 105, 114, 101],
 [115, 105, 100],
 [102, 105, 108, 101, 99, 111, 110],
 [112, 101, 114, 109, 105, 115, 115, 105, 118, 101],
 [97, 115, 115, 101, 114, 116],
 [115, 101, 108, 102],
 [105, 110]]
def kwB (l : List UInt8) : Bool := kwList.contains l

theorem drop1 (l : List UInt8) (k : Nat) : (l.drop k).drop 1 = l.drop (k + 1) := by rw [List.drop_drop]
theorem getD_drop (l : List UInt8) (k : Nat) (h : k < l.length) : (l.drop k).getD 0 0 = l[k] := by
 rw [List.drop_eq_getElem_cons h]; rfl
end Go.Proofs.Ytbobbbhgdfapjaa.Tk
set_option linter.unusedSimpArgs false
set_option linter.unusedVariables false
namespace Go.Proofs.Ytbobbbhgdfapjaa
set_option maxHeartbeats 8000000
set_option maxRecDepth 100000
open Go.RowKit Tk
theorem mixed : Try.prog.follows .mixedOrders = true := by kernel_rfl
@[go_sem] theorem wrap32_byte (c : UInt8) : wrap32 (c.toNat : Int) = (c.toNat : Int) := by
 have := c.toNat_lt; exact IntWalk.wrap32_in _ ⟨by omega, by omega⟩
@[go_sem] theorem wrap64_byte (c : UInt8) : wrap64 (c.toNat : Int) = (c.toNat : Int) := by
 have := c.toNat_lt; exact IntWalk.wrap64_in _ ⟨by omega, by omega⟩
@[go_sem] theorem kwrap32_byte (c : UInt8) : IntKind.i32.wrap (c.toNat : Int) = (c.toNat : Int) := by
 have := c.toNat_lt; exact IntWalk.i32_in _ ⟨by omega, by omega⟩
@[go_sem] theorem kwrap64_byte (c : UInt8) : IntKind.i64.wrap (c.toNat : Int) = (c.toNat : Int) := by
 have := c.toNat_lt; exact IntWalk.i64_in _ ⟨by omega, by omega⟩
theorem ret_bool {a b : Bool} (h : a = b) : Ending.returned (.bool a) = .returned (.bool b) := by rw [h]
theorem ret_int {k : IntKind} {a b : Int} (h : a = b) : Ending.returned (.int k a) = .returned (.int k b) := by rw [h]
theorem bl (s : ByteArray) : s.toList = s.data.toList := by rw [ByteArray.toList_eq]
theorem some_of {s : ByteArray} (h : 0 < s.size) : ¬ s.toList = [] ∧ s.toList.isEmpty = false := by
 have := isEmpty_of s h
 rw [bl]
 exact ⟨fun h' => (by rw [h'] at this; cases this), this⟩
theorem none_of {s : ByteArray} (h : ¬ 0 < s.size) : s.toList = [] := by rw [bl]; exact isEmpty_no s h
open Go.RowKit Tk
theorem txt_t {a b : ByteArray} (h : a = b) : (a.toList == b.toList) = true := by simp [h]
theorem txt_inj {a b : ByteArray} (h : a.toList = b.toList) : a = b := by
 rw [bl, bl] at h
 obtain ⟨⟨l⟩⟩ := a
 obtain ⟨⟨m⟩⟩ := b
 simp only at h
 rw [h]
theorem txt_f {a b : ByteArray} (h : ¬ a = b) : (a.toList == b.toList) = false := by
 rw [beq_eq_false_iff_ne]
 exact fun h' => h (txt_inj h')
theorem kd_t {a b : Int} (h : a = b) : (a == b) = true ∧ (a != b) = false := by simp [h]
theorem kd_f {a b : Int} (h : ¬ a = b) : (a == b) = false ∧ (a != b) = true := by simp [h]
/-- what an old cell holds, and whether it is frozen, in a world that has grown -/
theorem bcell {B : Nat} {W w1 : World} (hb : Below B W w1) : (∀ b o, b < B → w1.cell? ⟨b, o, none⟩ = W.cell? ⟨b, o, none⟩) ∧ (∀ b o, b < B → w1.frozen? ⟨b, o, none⟩ = W.frozen? ⟨b, o, none⟩) :=
 ⟨fun b o h => hb.cell (p := ⟨b, o, none⟩) h, fun b o h => hb.frozen (p := ⟨b, o, none⟩) h⟩
theorem Blk.at_ (w : World) (t : TypeId) (cs : Array Value) (g : Nat) (hg : g = w.heap.size) : Blk (w.alloc (.cells cs t)) g t cs := by subst hg; exact Blk.fresh w t cs
open Go.RowKit Tk
def key (s : ByteArray) : List UInt8 := s.data.toList
def unkey (l : List UInt8) : ByteArray := ⟨l.toArray⟩
theorem unkey_key (s : ByteArray) : unkey (key s) = s := rfl
theorem key_unkey (l : List UInt8) : key (unkey l) = l := by simp [key, unkey]
theorem key_inj {a b : ByteArray} (h : key a = key b) : a = b := by rw [← unkey_key a, ← unkey_key b, h]
def Asc (l : List ByteArray) : Prop := l.Pairwise fun a b => key a ≤ key b
theorem Asc.unique {l m : List ByteArray} (hl : Asc l) (hm : Asc m) (hp : l.Perm m) : l = m :=
 List.Perm.eq_of_pairwise (le := fun a b => key a ≤ key b) (fun a b _ _ h1 h2 => key_inj (List.le_antisymm h1 h2)) hl hm hp
/-- the list in the order of its bytes -/
def sortS (xs : List ByteArray) : List ByteArray := ((xs.map key).mergeSort fun x y => decide (x ≤ y)).map unkey
theorem sortS_len (xs : List ByteArray) : (sortS xs).length = xs.length := by simp [sortS]
theorem sortS_perm (xs : List ByteArray) : (sortS xs).Perm xs := by
 have h := (List.mergeSort_perm (xs.map key) fun x y => decide (x ≤ y)).map unkey
 rw [List.map_map] at h
 have e : (unkey ∘ key : ByteArray → ByteArray) = id := funext unkey_key
 rw [e, List.map_id] at h
 exact h
theorem sortS_asc (xs : List ByteArray) : Asc (sortS xs) := by
 unfold Asc sortS
 rw [List.pairwise_map]
 have h := List.pairwise_mergeSort (le := fun x y : List UInt8 => decide (x ≤ y)) (fun a b c h1 h2 => by
  simp only [decide_eq_true_eq] at *; exact List.le_trans h1 h2) (fun a b => by
  simp only [Bool.or_eq_true, decide_eq_true_eq]; exact List.le_total a b) (xs.map key)
 refine h.imp fun {a b} hab => ?_
 rw [key_unkey, key_unkey]
 simpa using hab
theorem Asc.sortS {l xs : List ByteArray} (h : Asc l) (hp : l.Perm xs) : l = sortS xs := h.unique (sortS_asc xs) (hp.trans (sortS_perm xs).symm)
/-- x goes in ahead of what is greater -/
theorem Asc.put {P S : List ByteArray} {x : ByteArray} (h : Asc (P ++ S)) (hS : ∀ y ∈ S, key x ≤ key y) (hP : ∀ y ∈ P.getLast?, key y ≤ key x) : Asc (P ++ x :: S) := by
 unfold Asc at *
 rw [List.pairwise_append] at h ⊢
 obtain ⟨h1, h2, h3⟩ := h
 refine ⟨h1, List.pairwise_cons.2 ⟨hS, h2⟩, fun a ha b hb => ?_⟩
 have hax : key a ≤ key x := by
  rcases List.eq_nil_or_concat P with rfl | ⟨P', z, rfl⟩
  · cases ha
  · have hz := hP z (by simp)
    rw [List.concat_eq_append, List.mem_append] at ha
    rcases ha with ha | ha
    · rw [List.concat_eq_append, List.pairwise_append] at h1
      exact List.le_trans (h1.2.2 a ha z (by simp)) hz
    · simp at ha; subst ha; exact hz
 rcases List.mem_cons.1 hb with rfl | hb
 · exact hax
 · exact h3 a ha b hb
open Go.RowKit
section
variable {α : Type} {f : α → List Value} {k : Nat}
theorem flat_len (hf : ∀ x, (f x).length = k) : ∀ xs : List α, (xs.flatMap f).length = xs.length * k
 | [] => by simp
 | x :: xs => by rw [List.flatMap_cons, List.length_append, hf, flat_len hf xs, List.length_cons, Nat.succ_mul]; omega
theorem flat_get (hf : ∀ x, (f x).length = k) : ∀ (xs : List α) (i j : Nat) (hi : i < xs.length), j < k → (xs.flatMap f)[i * k + j]? = (f xs[i])[j]?
 | x :: xs, 0, j, _, hj => by rw [List.flatMap_cons, Nat.zero_mul, Nat.zero_add, List.getElem?_append_left (by rw [hf]; exact hj)]; rfl
 | x :: xs, i + 1, j, hi, hj => by
   rw [List.flatMap_cons, List.getElem?_append_right (by rw [hf, Nat.succ_mul]; omega), hf]
   have e : (i + 1) * k + j - k = i * k + j := by rw [Nat.succ_mul]; omega
   rw [e, flat_get hf xs i j (by simpa using hi) hj]
   rfl
/-- a slice that owns its row of records -/
def ORow (w : World) (t : TypeId) (k : Nat) (f : α → List Value) (v : Value) (xs : List α) : Prop := w.ownsRow 0 t k v xs.length (xs.flatMap f)
/-- a slice that reads as a list of records -/
def RRow (w : World) (k : Nat) (f : α → List Value) (v : Value) (xs : List α) : Prop :=
 ∃ ao cap, v = .slice ao xs.length cap ∧ xs.length ≤ cap ∧ cap ≤ maxLen ∧ (xs.length = 0 ∨ ∃ g o, ao = some ⟨g, o, none⟩ ∧ g < w.heap.size ∧ ∀ i (h : i < xs.length) j, j < k → w.cell? ⟨g, o + i * k + j, none⟩ = (f xs[i])[j]?)
variable {w w1 : World} {t : TypeId} {v : Value} {xs : List α}
theorem ORow.nil (w : World) (t : TypeId) (k : Nat) (f : α → List Value) : ORow w t k f (.slice none 0 0) [] := World.ownsRow_nil w 0 t k
theorem ORow.len (h : ORow w t k f v xs) : ∃ ao cap, v = .slice ao xs.length cap ∧ xs.length ≤ cap ∧ cap ≤ maxLen := by
 rcases h.2 with ⟨e, hn⟩ | ⟨g, cap, cur, e, hb, hgg, h1, h2, h3⟩
 · exact ⟨none, 0, by rw [e, hn], by omega, by decide⟩
 · exact ⟨_, cap, e, h1, h2⟩
theorem ORow.lt (h : ORow w t k f v xs) {x : Nat} (hx : v.ownBlock = some x) : x < w.heap.size := (World.ownsRow.lt h x hx).2
theorem ORow.at (hf : ∀ x, (f x).length = k) (h : ORow w t k f v xs) (h0 : 0 < xs.length) : ∃ g cap, v = .slice (some ⟨g, 0, none⟩) xs.length cap ∧ xs.length ≤ cap ∧ cap ≤ maxLen ∧ g < w.heap.size ∧ ∀ i (hi : i < xs.length) j, j < k → w.cell? ⟨g, i * k + j, none⟩ = (f xs[i])[j]? := by
 rcases h.2 with ⟨e, hn⟩ | ⟨g, cap, cur, e, hb, hgg, h1, h2, h3⟩
 · omega
 · subst e
   refine ⟨g, cap, rfl, h1, h2, Blk.lt hgg, fun i hi j hj => ?_⟩
   have hlt : i * k + j < xs.length * k := by
    have : (i + 1) * k ≤ xs.length * k := Nat.mul_le_mul_right k hi
    rw [Nat.succ_mul] at this; omega
   rw [World.ownsRow.cellAt (w := w) (base := 0) (e := t) (size := k) (g := g) (n := xs.length) (cap := cap) (xs := xs.flatMap f) h _ hlt]
   exact flat_get hf xs i j hi hj
theorem ORow.kept (h : ORow w t k f v xs) (hk : ∀ x, v.ownBlock = some x → w1.heap[x]? = w.heap[x]?) : ORow w1 t k f v xs := by
 refine ⟨h.1, ?_⟩
 rcases h.2 with hn | ⟨g, cap, cur, rfl, hb, hgg, rest⟩
 · exact .inl hn
 · exact .inr ⟨g, cap, cur, rfl, hb, (hk g rfl).trans hgg, rest⟩
theorem ORow.low (h : ORow w t k f v xs) (hb : Below w.heap.size w w1) : ORow w1 t k f v xs := h.kept fun x hx => hb.block x (h.lt hx)
theorem ORow.reads (hf : ∀ x, (f x).length = k) (h : ORow w t k f v xs) : RRow w k f v xs := by
 obtain ⟨ao, cap, e, h1, h2⟩ := h.len
 by_cases h0 : xs.length = 0
 · exact ⟨ao, cap, e, h1, h2, .inl h0⟩
 · obtain ⟨g, cap', e', _, _, hg, hc⟩ := h.at hf (by omega)
   rw [e] at e'
   injection e' with e1 e2 e3
   exact ⟨ao, cap, e, h1, h2, .inr ⟨g, 0, e1, hg, fun i hi j hj => by rw [Nat.zero_add]; exact hc i hi j hj⟩⟩
theorem RRow.nil (w : World) (k : Nat) (f : α → List Value) : RRow w k f (.slice none 0 0) [] := ⟨none, 0, rfl, Nat.le_refl _, by decide, .inl rfl⟩
theorem RRow.len (h : RRow w k f v xs) : ∃ ao cap, v = .slice ao xs.length cap ∧ xs.length ≤ cap ∧ cap ≤ maxLen := by
 obtain ⟨ao, cap, e, h1, h2, _⟩ := h; exact ⟨ao, cap, e, h1, h2⟩
theorem RRow.at (h : RRow w k f v xs) (h0 : 0 < xs.length) : ∃ g o cap, v = .slice (some ⟨g, o, none⟩) xs.length cap ∧ xs.length ≤ cap ∧ cap ≤ maxLen ∧ g < w.heap.size ∧ ∀ i (hi : i < xs.length) j, j < k → w.cell? ⟨g, o + i * k + j, none⟩ = (f xs[i])[j]? := by
 obtain ⟨ao, cap, e, h1, h2, hn | ⟨g, o, rfl, hg, hc⟩⟩ := h
 · omega
 · exact ⟨g, o, cap, e, h1, h2, hg, hc⟩
theorem RRow.kept (h : RRow w k f v xs) (hs : w.heap.size ≤ w1.heap.size) (hk : ∀ x, v.ownBlock = some x → x < w.heap.size → w1.heap[x]? = w.heap[x]?) : RRow w1 k f v xs := by
 obtain ⟨ao, cap, e, h1, h2, h3⟩ := h
 refine ⟨ao, cap, e, h1, h2, h3.imp id ?_⟩
 rintro ⟨g, o, rfl, hg, hc⟩
 exact ⟨g, o, rfl, Nat.lt_of_lt_of_le hg hs, fun i hi j hj => (World.cell?_of_block (w := w) (hk g (by rw [e]; rfl) hg)).trans (hc i hi j hj)⟩
theorem RRow.low (h : RRow w k f v xs) (hb : Below w.heap.size w w1) : RRow w1 k f v xs := h.kept hb.size fun x _ hx => hb.block x hx
theorem RRow.blk {g : Nat} {cs : Array Value} (hf : ∀ x, (f x).length = k) (h : Blk w g t cs) (hc : cs.toList = xs.flatMap f) (hl : xs.length ≤ maxLen) : RRow w k f (.slice (some ⟨g, 0, none⟩) xs.length xs.length) xs :=
 ⟨_, _, rfl, Nat.le_refl _, hl, .inr ⟨g, 0, rfl, h.lt, fun i hi j hj => by rw [h.cell, Nat.zero_add, ← Array.getElem?_toList, hc]; exact flat_get hf xs i j hi hj⟩⟩
theorem ORow.blk {g : Nat} {cs : Array Value} (hf : ∀ x, (f x).length = k) (h : Blk w g t cs) (hc : cs.toList = xs.flatMap f) (hl : xs.length ≤ maxLen) : ORow w t k f (.slice (some ⟨g, 0, none⟩) xs.length xs.length) xs := by
 have hsz : cs.size = xs.length * k := by rw [← flat_len hf xs, ← hc, Array.length_toList]
 exact ⟨flat_len hf xs, .inr ⟨g, xs.length, cs, rfl, Nat.zero_le _, h, Nat.le_refl _, hl, hsz, by rw [← hc, List.take_of_length_le (by rw [Array.length_toList, hsz]; exact Nat.le_refl _)]⟩⟩
end
open Go.RowKit
structure AppPost {α : Type} (w w' : World) (e : TypeId) (k : Nat) (f : α → List Value) (v v' : Value) (zs : List α) : Prop where
 row : ORow w' e k f v' zs
 grown : w.grownBy w' v.ownBlock
 lies : v'.ownBlock = v.ownBlock ∨ v'.ownBlock = some w.heap.size
section
variable {α : Type} {f : α → List Value} {k bytes : Nat} {P : Program} {w : World} {t e : TypeId} {v u z : Value} {xs ys : List α}
theorem run_app (ty : TypeId) (hi : (P.info? e).map (fun i => (i.zero, i.size, i.bytes)) = some (some z, k, bytes)) (ht : P.underlying t = some (.slice e)) (hzs : z.cells.size = k) (hk0 : 0 < k) (hf : ∀ x, (f x).length = k) (h1 : ∀ x, ∀ c ∈ f x, Value.oneCell' c = true)
    (hv : ORow w e k f v xs) (hu : RRow w k f u ys) (h63 : xs.length + ys.length ≤ maxLen) (hb : (xs.length + ys.length) * bytes ≤ 140737488355328) :
    ∃ v' w', (Builtin.append_ #[t, t] ty #[v, u]).run P w = .ok v' w' ∧ AppPost w w' e k f v v' (xs ++ ys) := by
 obtain ⟨i, hi1, hi2, hi3, hi4⟩ := info_parts hi
 obtain ⟨ao, cap, rfl, n1, n2, hc⟩ := hu
 have one : ∀ c ∈ ys.flatMap f, Value.oneCell' c = true := fun c hc => by
  obtain ⟨x, _, hx⟩ := List.mem_flatMap.1 hc
  exact h1 x c hx
 by_cases h0 : ys.length = 0
 · have hy : ys = [] := List.eq_nil_of_length_eq_zero h0
   subst hy
   rw [List.append_nil]
   cases ao with
   | none =>
     have hr : (Builtin.append_ #[t, t] ty #[v, .slice none 0 cap]).run P w = .ok v w := by
      rcases hv.2 with ⟨rfl, hx⟩ | ⟨g, cap', cur, rfl, _, _, hnc, _⟩
      · simp [Builtin.append_, run_underlying ht, sizeOf, typeInfo, hi1, Builtin.lenOf, Builtin.firstCells]
      · simp [Builtin.append_, run_underlying ht, sizeOf, typeInfo, hi1, Builtin.lenOf, Builtin.firstCells, hnc, storeCells]
     exact ⟨v, w, hr, hv, World.grownBy.refl w _, .inl rfl⟩
   | some ad =>
     obtain ⟨v', w', hrun, h2, h3, _, h5⟩ := run_append_own_at (P := P) w 0 t ty e i z k bytes ht hi1 hi2 hi3 hi4 hzs hk0 v xs.length (xs.flatMap f) hv ad 0 cap [] (by simp) (by simp) (by simp) h63 hb (Nat.zero_le _)
     exact ⟨v', w', hrun, by simpa [ORow] using h2, h3, h5⟩
 · rcases hc with hc | ⟨g, o, rfl, hg, hc⟩
   · exact absurd hc h0
   · have hcells : ∀ j c, (ys.flatMap f)[j]? = some c → w.cell? ((⟨g, o, none⟩ : Addr).add j) = some c := by
       intro j c hj
       have hjl : j < ys.length * k := by
        rcases Nat.lt_or_ge j (ys.length * k) with h | h
        · exact h
        · rw [List.getElem?_eq_none (by rw [flat_len hf]; exact h)] at hj; cases hj
       have hq : j / k < ys.length := Nat.div_lt_of_lt_mul (by rw [Nat.mul_comm]; exact hjl)
       have hr : j % k < k := Nat.mod_lt _ hk0
       have ej : j / k * k + j % k = j := by rw [Nat.mul_comm]; exact Nat.div_add_mod j k
       have := hc (j / k) hq (j % k) hr
       rw [← flat_get hf ys (j / k) (j % k) hq hr, ej, hj, Nat.add_assoc, ej] at this
       have e : (⟨g, o, none⟩ : Addr).add j = ⟨g, o + j, none⟩ := by unfold Addr.add; split <;> simp_all
       rw [e]; exact this
     obtain ⟨v', w', hrun, h2, h3, _, h5⟩ := run_append_own_at (P := P) w 0 t ty e i z k bytes ht hi1 hi2 hi3 hi4 hzs hk0 v xs.length (xs.flatMap f) hv ⟨g, o, none⟩ ys.length cap (ys.flatMap f) (flat_len hf ys) hcells one h63 hb (Nat.zero_le _)
     refine ⟨v', w', hrun, ?_, h3, h5⟩
     unfold ORow
     rw [List.length_append, List.flatMap_append]
     exact h2
theorem wp_app {o : Oper} {a : Act} {K : Act → World → Prop} {Q : Exit → Act → World → Prop} (s x : Operand) (ho : o.op = .call { callee := .builtin .append, args := #[s, x], argTypes := #[t, t] })
    (hi : (P.info? e).map (fun i => (i.zero, i.size, i.bytes)) = some (some z, k, bytes)) (ht : P.underlying t = some (.slice e)) (hzs : z.cells.size = k) (hk0 : 0 < k) (hf : ∀ x, (f x).length = k) (h1 : ∀ x, ∀ c ∈ f x, Value.oneCell' c = true)
    (v u : Value) (xs ys : List α) (hs : a.eval s = v) (hx : a.eval x = u) (hv : ORow w e k f v xs) (hu : RRow w k f u ys) (h63 : xs.length + ys.length ≤ maxLen) (hb : (xs.length + ys.length) * bytes ≤ 140737488355328)
    (h : ∀ v' w', AppPost w w' e k f v v' (xs ++ ys) → K (a.put o.dst v') w') : o.wp P a w K Q := by
 obtain ⟨v', w', hr, hp⟩ := run_app (P := P) o.type hi ht hzs hk0 hf h1 hv hu h63 hb
 unfold Oper.wp execOp
 simp only [ho, resolve, invoke, builtin, Sem.run_bind, Sem.run_pure, Result.andThen_ok, List.map_toArray, List.map_cons, List.map_nil, hs, hx, hr]
 exact h _ _ hp
end
section
variable {α : Type} {f : α → List Value} {k B : Nat} {w w0 w' : World} {e : TypeId} {v v' : Value} {zs : List α}
/-- what lay below a bound has been kept, if the row lay above it -/
theorem AppPost.below (h : AppPost w w' e k f v v' zs) (hb : Below B w0 w) (hv : ∀ x, v.ownBlock = some x → B ≤ x) (hB : B ≤ w.heap.size) : Below B w0 w' ∧ ∀ x, v'.ownBlock = some x → B ≤ x :=
 ⟨hb.grown h.grown hB (fun x hx => hv x hx), fun x hx => by
  rcases h.lies with h1 | h1
  · exact hv x (h1 ▸ hx)
  · rw [h1] at hx; injection hx with hx; omega⟩
end
open Go.RowKit Tk
/-! ### memory -/
/-- all blocks but those of F are as they were -/
structure Only (F : List Nat) (w w' : World) : Prop where
 os : w'.os = w.os
 tape : w'.tape = w.tape
 output : w'.output = w.output
 size : w.heap.size ≤ w'.heap.size
 block : ∀ k, k < w.heap.size → k ∉ F → w'.heap[k]? = w.heap[k]?
section
variable {F F' : List Nat} {w w1 w2 : World}
theorem Only.refl (F : List Nat) (w : World) : Only F w w := ⟨rfl, rfl, rfl, Nat.le_refl _, fun _ _ _ => rfl⟩
theorem Only.trans (h : Only F w w1) (k : Only F' w1 w2) (hF : ∀ x ∈ F', x ∈ F ∨ w.heap.size ≤ x) : Only F w w2 :=
 ⟨k.os.trans h.os, k.tape.trans h.tape, k.output.trans h.output, Nat.le_trans h.size k.size, fun i hi hn => (k.block i (Nat.lt_of_lt_of_le hi h.size) fun hm => by
  rcases hF i hm with h1 | h1
  · exact hn h1
  · omega).trans (h.block i hi hn)⟩
theorem Only.then_ (h : Only F w w1) (k : Only F w1 w2) : Only F w w2 := h.trans k fun _ hx => .inl hx
theorem Only.mono (h : Only F w w1) (hF : ∀ x ∈ F, x ∈ F' ∨ w.heap.size ≤ x) : Only F' w w1 := (Only.refl F' w).trans h hF
theorem Only.of_below (h : Below w.heap.size w w1) : Only F w w1 := ⟨h.os, h.tape, h.output, h.size, fun k hk _ => h.block k hk⟩
theorem Only.of_but {b : Nat} (h : But b w w1) (hb : b ∈ F) : Only F w w1 := ⟨h.os, h.tape, h.output, h.size, fun k hk hn => h.block k hk fun e => hn (e ▸ hb)⟩
theorem Only.of_grown {r : Option Nat} (h : w.grownBy w1 r) (hr : ∀ b, r = some b → b ∈ F) : Only F w w1 :=
 ⟨h.os, h.tape, h.output, h.size, fun k hk hn => h.block k hk fun e => hn (hr k e.symm)⟩
theorem Only.below {B : Nat} (h : Only F w w1) (hF : ∀ x ∈ F, B ≤ x) (hB : B ≤ w.heap.size) : Below B w w1 :=
 ⟨h.os, h.tape, h.output, h.size, fun k hk => h.block k (by omega) fun hm => by have := hF k hm; omega⟩
theorem Only.grown (h : Only F w w1) (hF : F = []) : Below w.heap.size w w1 := h.below (by simp [hF]) (Nat.le_refl _)
end
def ownB (v : Value) : List Nat := v.ownBlock.toList
/-- a slice that owns its row of strings -/
def Row (w : World) (v : Value) (xs : List ByteArray) : Prop := w.ownsRow 0 9 1 v xs.length (xs.map Value.string)
section
variable {F F' : List Nat} {w w1 w2 : World} {v : Value} {xs : List ByteArray}
theorem Row.lt (h : Row w v xs) : ∀ x ∈ ownB v, x < w.heap.size := fun x hx => by
 have : v.ownBlock = some x := by simpa [ownB] using hx
 exact (World.ownsRow.lt h x this).2
theorem Row.len (h : Row w v xs) : ∃ ao cap, v = .slice ao xs.length cap ∧ xs.length ≤ cap ∧ cap ≤ maxLen := by
 rcases h.2 with ⟨e, hn⟩ | ⟨g, cap, cur, e, hb, hgg, h1, h2, h3⟩
 · exact ⟨none, 0, by rw [e, hn], by omega, by decide⟩
 · exact ⟨_, cap, e, h1, h2⟩
theorem Row.at (h : Row w v xs) (h0 : 0 < xs.length) : ∃ g cap, v = .slice (some ⟨g, 0, none⟩) xs.length cap ∧ xs.length ≤ cap ∧ cap ≤ maxLen ∧ ∀ i (hi : i < xs.length), w.cell? ⟨g, i, none⟩ = some (.string xs[i]) := by
 rcases h.2 with ⟨e, hn⟩ | ⟨g, cap, cur, e, hb, hgg, h1, h2, h3⟩
 · omega
 · subst e
   refine ⟨g, cap, rfl, h1, h2, fun i hi => ?_⟩
   have := World.ownsRow.cellAt (w := w) (base := 0) (e := 9) (size := 1) (g := g) (n := xs.length) (cap := cap) (xs := xs.map Value.string) h i (by omega)
   rw [this]; simp [hi]
theorem Row.kept (h : Row w v xs) (hk : ∀ x ∈ ownB v, w1.heap[x]? = w.heap[x]?) : Row w1 v xs := by
 refine ⟨h.1, ?_⟩
 rcases h.2 with hn | ⟨g, cap, cur, rfl, hb, hgg, rest⟩
 · exact .inl hn
 · exact .inr ⟨g, cap, cur, rfl, hb, (hk g (by simp [ownB, Value.ownBlock])).trans hgg, rest⟩
theorem Row.only (h : Row w v xs) (ho : Only F w w1) (hF : ∀ x ∈ ownB v, x ∉ F) : Row w1 v xs := h.kept fun x hx => ho.block x (h.lt x hx) (hF x hx)
theorem Row.low (h : Row w v xs) (hb : Below w.heap.size w w1) : Row w1 v xs := h.kept fun x hx => hb.block x (h.lt x hx)
end
theorem info_str : (Try.prog.info? 9).map (fun i => (i.zero, i.size, i.bytes)) = some (some (.string ⟨#[]⟩), 1, 16) := by kernel_rfl
theorem und_strs : Try.prog.underlying 22 = some (.slice 9) := by kernel_rfl
def strC (s : ByteArray) : List Value := [.string s]
theorem strC_l (s : ByteArray) : (strC s).length = 1 := rfl
theorem strC_one (s : ByteArray) : ∀ c ∈ strC s, Value.oneCell' c = true := by intro c hc; simp [strC] at hc; subst hc; rfl
theorem flat_str (xs : List ByteArray) : xs.flatMap strC = xs.map Value.string := by
 induction xs with
 | nil => rfl
 | cons x xs ih => rw [List.flatMap_cons, ih]; rfl
theorem Row.o {w : World} {v : Value} {xs : List ByteArray} (h : Row w v xs) : ORow w 9 1 strC v xs := by unfold ORow; rw [flat_str]; exact h
theorem Row.of {w : World} {v : Value} {xs : List ByteArray} (h : ORow w 9 1 strC v xs) : Row w v xs := by unfold ORow at h; rw [flat_str] at h; exact h
def spRow (xs : List ByteArray) : Sp :=
 { φ := fun v => ∃ ao cap, v = .slice ao xs.length cap, Φ := fun v w => Row w v xs, fp := ownB, mono := fun v w w' hx h => h.low hx }
theorem good_row {v : Value} {w w' : World} {xs : List ByteArray} (hr : Row w' v xs) (h : Ext w w') (hf : ∀ x ∈ ownB v, w.heap.size ≤ x) : (spRow xs).Good v w w' := by
 obtain ⟨ao, cap, e, _, _⟩ := hr.len
 exact ⟨⟨ao, cap, e⟩, hr, h, fun b hb => ⟨hf b hb, hr.lt b hb⟩⟩
theorem mem_ownB {v : Value} {x : Nat} : x ∈ ownB v ↔ v.ownBlock = some x := by simp [ownB]
theorem Row.drew {w : World} {v : Value} {xs : List ByteArray} (h : Row w v xs) : Row w.drew v xs := h
theorem Row.set {w : World} {g n cap : Nat} {xs : List ByteArray} (h : Row w (.slice (some ⟨g, 0, none⟩) n cap) xs) (hn : n = xs.length) (i : Nat) (y : ByteArray) : Row (w.setCell ⟨g, i, none⟩ (.string y)) (.slice (some ⟨g, 0, none⟩) n cap) (xs.set i y) := by
 subst hn
 obtain ⟨this, -⟩ := World.ownsRow.stored (w := w) (base := 0) (e := 9) (size := 1) (g := g) (n := xs.length) (cap := cap) (xs := xs.map Value.string) h i (.string y)
 unfold Row
 rw [List.length_set, List.map_set]
 exact this
theorem Row.get {w : World} {g n cap i : Nat} {xs : List ByteArray} {x : ByteArray} (h : Row w (.slice (some ⟨g, 0, none⟩) n cap) xs) (hx : xs[i]? = some x) : w.cell? ⟨g, i, none⟩ = some (.string x) ∧ w.frozen? ⟨g, i, none⟩ = false := by
 have hi : i < xs.length := by
  rcases Nat.lt_or_ge i xs.length with hl | hl
  · exact hl
  · rw [List.getElem?_eq_none hl] at hx; cases hx
 obtain ⟨ao, cap', e, _, _⟩ := h.len
 injection e with _ e2 _
 subst e2
 refine ⟨?_, World.ownsRow.frozenAt (w := w) (base := 0) (e := 9) (size := 1) (g := g) (n := xs.length) (cap := cap) (xs := xs.map Value.string) h i⟩
 have := World.ownsRow.cellAt (w := w) (base := 0) (e := 9) (size := 1) (g := g) (n := xs.length) (cap := cap) (xs := xs.map Value.string) h i (by omega)
 rw [this, List.getElem?_map, hx]; rfl
@[go_sem] theorem mk_map (P : Program) (t : TypeId) (w : World) : (Instr.makeMap t none).run P w = .ok (.map (some w.heap.size)) (w.alloc (.map #[] 0)) := rfl
def Reads (w : World) (v : Value) (xs : List ByteArray) : Prop := RRow w 1 strC v xs
theorem Row.reads {w : World} {v : Value} {xs : List ByteArray} (h : Row w v xs) : Reads w v xs := h.o.reads strC_l
def BPost (b : Bool) (w : World) (e : Ending) (w' : World) : Prop := e = .returned (.bool b) ∧ Below w.heap.size w w'
theorem Blk.c3 {w : World} {g : Nat} {t : TypeId} {x y z : Value} (h : Blk w g t #[x, y, z]) : w.cell? ⟨g, 0, none⟩ = some x ∧ w.cell? ⟨g, 1, none⟩ = some y ∧ w.cell? ⟨g, 2, none⟩ = some z ∧ w.frozen? ⟨g, 0, none⟩ = false ∧ w.frozen? ⟨g, 1, none⟩ = false ∧ w.frozen? ⟨g, 2, none⟩ = false :=
 ⟨h.cell 0, h.cell 1, h.cell 2, h.free 0, h.free 1, h.free 2⟩
theorem ORow.ne {α : Type} {w : World} {t t' : TypeId} {k : Nat} {f : α → List Value} {v : Value} {xs : List α} {g : Nat} {cs : Array Value} (h : ORow w t k f v xs) (hb : Blk w g t' cs) (hne : t ≠ t') : g ∉ ownB v := by
 intro hm
 rcases h.2 with ⟨rfl, _⟩ | ⟨g', cap, cur, rfl, _, hg, _⟩
 · simp [ownB, Value.ownBlock] at hm
 · have : g = g' := by simpa [ownB, Value.ownBlock] using hm
   subst this
   exact Blk.ne_ (show Blk w g t cur from hg) hb hne rfl
open Go.RowKit Tk
/-- block X holds cs, and the call may write there -/
structure Loc (F : List Nat) (w0 w : World) (X : Nat) (t : TypeId) (cs : Array Value) : Prop where
  blk : Blk w X t cs
  may : X ∈ F ∨ w0.heap.size ≤ X
def putA (cs : Array Value) (o : Nat) (vs : Array Value) : Array Value := (cs.toList.take o ++ vs.toList ++ cs.toList.drop (o + vs.size)).toArray
section
variable {F : List Nat} {w0 w w1 : World} {X Y : Nat} {t t' : TypeId} {cs ds : Array Value}
theorem Loc.ext (h : Loc F w0 w X t cs) (hx : Ext w w1) : Loc F w0 w1 X t cs := ⟨h.blk.low hx, h.may⟩
theorem Loc.but (h : Loc F w0 w X t cs) (hb : But Y w w1) (hn : X ≠ Y) : Loc F w0 w1 X t cs := ⟨h.blk.but hb hn, h.may⟩
theorem Loc.lt (h : Loc F w0 w X t cs) : X < w.heap.size := h.blk.lt
theorem Loc.cell (h : Loc F w0 w X t cs) (i : Nat) : w.cell? ⟨X, i, none⟩ = cs[i]? := h.blk.cell i
theorem Loc.free (h : Loc F w0 w X t cs) (i : Nat) : w.frozen? ⟨X, i, none⟩ = false := h.blk.free i
theorem Loc.ne (h : Loc F w0 w X t cs) (hY : w.heap.size = Y) : X ≠ Y ∧ Y ≠ X := by have := h.lt; omega
theorem Only.more {G : List Nat} (h : Only F w0 w) (hx : Only G w w1) (hG : ∀ x ∈ G, x ∈ F ∨ w0.heap.size ≤ x) : Only F w0 w1 := h.trans hx hG
theorem Loc.only {G : List Nat} (h : Loc F w0 w X t cs) (hx : Only G w w1) (hG : X ∉ G) : Loc F w0 w1 X t cs := ⟨h.blk.of (hx.block X h.blk.lt hG), h.may⟩
theorem Only.ext (h : Only F w0 w) (hx : Ext w w1) : Only F w0 w1 := h.then_ (Only.of_below hx)
theorem Only.put (h : Only F w0 w) (b : Loc F w0 w X t cs) (hb : But X w w1) : Only F w0 w1 :=
  h.trans (Only.of_but hb (List.mem_singleton.2 rfl)) fun x hx => by rw [List.mem_singleton.1 hx]; exact b.may
theorem ORow.only {α : Type} {k : Nat} {f : α → List Value} {v : Value} {xs : List α} (h : ORow w t k f v xs) (E : Only F w w1) (hF : ∀ x ∈ F, x ∉ ownB v) : ORow w1 t k f v xs :=
  h.kept fun x hx => E.block x (h.lt hx) fun hm => hF x hm (mem_ownB.2 hx)
theorem Loc.ge (h : Loc [] w0 w X t cs) : w0.heap.size ≤ X := by
  rcases h.may with h | h
  · cases h
  · exact h
theorem Only.after (h : Only [] w0 w) (k : Only F w w1) (hF : ∀ x ∈ F, w0.heap.size ≤ x) : Below w0.heap.size w0 w1 := (h.trans k fun x hx => .inr (hF x hx) : Only [] w0 w1).grown rfl
theorem Only.low (h : Only [] w0 w) : Below w0.heap.size w0 w := h.grown rfl
theorem Loc.new (h : Blk w1 X t cs) (E : Only F w0 w) (hX : w.heap.size = X) : Loc F w0 w1 X t cs := ⟨h, .inr (hX ▸ E.size)⟩
theorem Loc.later {w2 : World} (E : Only F w0 w) (h : Blk w2 X t cs) (hX : w.heap.size ≤ X) : Loc F w0 w2 X t cs := ⟨h, .inr (Nat.le_trans E.size hX)⟩
theorem ORow.ext {α : Type} {k : Nat} {f : α → List Value} {v : Value} {xs : List α} (h : ORow w t k f v xs) (hx : Ext w w1) : ORow w1 t k f v xs := ORow.low h hx
theorem RRow.ext {α : Type} {k : Nat} {f : α → List Value} {v : Value} {xs : List α} (h : RRow w k f v xs) (hx : Ext w w1) : RRow w1 k f v xs := h.low hx
theorem Ext.ext {w2 : World} (h : Ext w w1) (hx : Ext w1 w2) : Ext w w2 := h.trans hx
/-- an owned row and a block of another type -/
theorem ORow.but {α : Type} {k : Nat} {f : α → List Value} {v : Value} {xs : List α} (h : ORow w t k f v xs) (hb : But X w w1) (b : Blk w X t' cs) (hne : t ≠ t') : ORow w1 t k f v xs :=
  h.kept fun x hx => hb.block x (h.lt hx) fun e => h.ne b hne (e ▸ mem_ownB.2 hx)
end
section
variable {P : Program} {F : List Nat} {w0 w : World} {X : Nat} {t : TypeId} {cs : Array Value} {K : Act → World → Prop} {a : Act} {Q : Exit → Act → World → Prop}
/-- picks a store -/
theorem at_store (n : Tmp) {ty pty : TypeId} {y : Operand} {pos : String} {af : Array Edge} {gd : Option (Nat × Bool)} (h : Oper.wp P ⟨none, .store pty (.tmp n) y, ty, pos, af, gd⟩ a w K Q) : Oper.wp P ⟨none, .store pty (.tmp n) y, ty, pos, af, gd⟩ a w K Q := h
theorem at_j (j : Nat) {ops : Array Oper} {S : Nat → Sp} {ws : World} {O : Prop} {o : Oper} {l : List (Nat × Oper)} {E : List (Nat × Value)} (h : wpE P ops S ws K O ((j, o) :: l) E a) : wpE P ops S ws K O ((j, o) :: l) E a := h
theorem at_reg (id : Nat) {ops : Array Oper} {b : Bool} (h : (Code.region id ops b).wp P Q a w) : (Code.region id ops b).wp P Q a w := h
theorem at_nil (n : Nat) {ops : Array Oper} {S : Nat → Sp} {ws : World} {O : Prop} {E : List (Nat × Value)} (h : wpE P ops S ws K O [] E a) : wpE P ops S ws K O [] E a := h
/-- a region whose order Go leaves open -/
theorem wp_region_x {id : Nat} {l : List Oper} (S : Nat → Sp) (c fr tail : List Nat) (hm : P.follows .mixedOrders = true) (hB : eB2 l.toArray c fr tail = true)
    (h : ∀ (K : Act → World → Prop) (ws : World), Ext w ws → (∀ a w, wpTxt P l.toArray (fun a w => Q .normal a w) (LetsOut Q) (pickL l tail) a w → K a w) → wpE P l.toArray S ws K (LetsOut Q) (pickE l c) [] a) : (Code.region id l.toArray true).wp P Q a w :=
  wp_region_h S c fr tail hm hB fun K ws hws hK => h K ws (hws ▸ Ext.drew w) hK
/-- picks an operation by its slot -/
theorem at_dst (d : Tmp) {op : Op} {ty : TypeId} {pos : String} {af : Array Edge} {gd : Option (Nat × Bool)} (h : Oper.wp P ⟨some d, op, ty, pos, af, gd⟩ a w K Q) : Oper.wp P ⟨some d, op, ty, pos, af, gd⟩ a w K Q := h
theorem new_block (hX : w.heap.size = X) (h : ∀ w', Blk w' X t cs → Ext w w' → K a w') : K a (w.alloc (.cells cs t)) := h _ (hX ▸ Blk.fresh w t cs) (Ext.alloc w _)
/-- a store into a block -/
theorem wp_put {o : Oper} {ty : TypeId} {x y : Operand} {off : Nat} (b : Loc F w0 w X t cs) (ho : o.op = .store ty x y) (hx : a.eval x = .pointer (some ⟨X, off, none⟩))
    (hi : (P.info? ty).map (·.size) = some (a.eval y).cells.size) (h1 : (a.eval y).cells.all (·.oneCell') = true) (hle : off + (a.eval y).cells.size ≤ cs.size)
    (h : ∀ w', Loc F w0 w' X t (putA cs off (a.eval y).cells) → But X w w' → K (a.put o.dst undef) w') : o.wp P a w K Q := by
  obtain ⟨v, hy⟩ : ∃ v, a.eval y = v := ⟨_, rfl⟩
  rw [hy] at hi h1 hle h
  have hg : w.heap[X]? = some (.cells cs t (0, 0)) := b.blk
  have hr := run_storeCells_at (P := P) X off t v.cells.toList 0 cs w hg (by simpa using hle) (fun u hu => (Array.all_eq_true_iff_forall_mem.1 h1) u (by simpa using hu))
  have hs : (Instr.storeAt ty (.pointer (some ⟨X, off, none⟩)) v).run P w = .ok () (w.setRow X (putA cs off v.cells)) := by
    cases hq : P.info? ty with
    | none => simp [hq] at hi
    | some i =>
      have hs : v.cells.size = i.size := by simp [hq] at hi; omega
      simp only [Nat.add_zero, Array.length_toList] at hr
      simp [Instr.storeAt, Instr.sureAddr, storeVar, sizeOf, typeInfo, hq, hs, hr, putA]
  have hlt : X < w.heap.size := b.blk.lt
  have hw := setRow_heap w X cs (putA cs off v.cells) t (0, 0) hg
  unfold Oper.wp execOp
  simp only [ho, hx, hy, Sem.run_bind, hs, Result.andThen_ok, Sem.run_pure, Oper.upon_skip]
  exact h _ ⟨hw, b.may⟩ ⟨rfl, rfl, rfl, by simp [World.setRow], fun k hk hn => by simp [World.setRow, Array.getElem?_modify, Ne.symm hn]⟩
end
section
variable {α : Type} {F : List Nat} {w0 w w1 : World} {X k : Nat} {e t : TypeId} {cs : Array Value} {f : α → List Value} {v v' : Value} {xs ys : List α}
/-- a slice that the call has made, and may append to -/
structure OwnR (w0 w : World) (e : TypeId) (k : Nat) (f : α → List Value) (v : Value) (xs : List α) : Prop where
  row : ORow w e k f v xs
  new : ∀ x ∈ ownB v, w0.heap.size ≤ x
theorem OwnR.nil (w0 w : World) (e : TypeId) (k : Nat) (f : α → List Value) : OwnR w0 w e k f (.slice none 0 0) [] := ⟨ORow.nil _ _ _ _, by simp [ownB, Value.ownBlock]⟩
theorem OwnR.ext (h : OwnR w0 w e k f v xs) (hx : Ext w w1) : OwnR w0 w1 e k f v xs := ⟨h.row.low hx, h.new⟩
theorem OwnR.but (h : OwnR w0 w e k f v xs) (hb : But X w w1) (b : Blk w X t cs) (hne : e ≠ t) : OwnR w0 w1 e k f v xs := ⟨h.row.but hb b hne, h.new⟩
theorem OwnR.notin (h : OwnR w0 w e k f v xs) (hX : w.heap.size ≤ X) : X ∉ ownB v := fun hm => by have := h.row.lt (mem_ownB.1 hm); omega
theorem OwnR.but0 (h : OwnR w0 w e k f v xs) (hb : But X w w1) (hn : X ∉ ownB v) : OwnR w0 w1 e k f v xs := ⟨h.row.kept fun x hx => hb.block x (h.row.lt hx) fun e => hn (e ▸ mem_ownB.2 hx), h.new⟩
theorem OwnR.app (h : OwnR w0 w e k f v xs) (E : Only F w0 w) (hA : AppPost w w1 e k f v v' ys) : OwnR w0 w1 e k f v' ys ∧ Only F w0 w1 := by
  refine ⟨⟨hA.row, fun x hx => ?_⟩, E.trans (Only.of_grown (F := ownB v) hA.grown fun b hb => mem_ownB.2 hb) fun x hx => .inr (h.new x hx)⟩
  have hx' := mem_ownB.1 hx
  rcases hA.lies with h1 | h1
  · exact h.new x (mem_ownB.2 (h1 ▸ hx'))
  · rw [h1] at hx'
    injection hx' with hx'
    have := E.size
    omega
theorem Loc.grow (b : Loc F w0 w X t cs) (h : OwnR w0 w e k f v xs) (hA : AppPost w w1 e k f v v' ys) (hne : e ≠ t) : Loc F w0 w1 X t cs :=
  ⟨b.blk.grown hA.grown fun h1 => h.row.ne b.blk hne (mem_ownB.2 h1.symm), b.may⟩
end
section
variable {α : Type} {f : α → List Value} {k bytes : Nat} {P : Program} {w w0 : World} {F : List Nat} {t e : TypeId} {v u z : Value} {xs ys : List α}
theorem wp_own {o : Oper} {a : Act} {K : Act → World → Prop} {Q : Exit → Act → World → Prop} (s x : Operand) (ho : o.op = .call { callee := .builtin .append, args := #[s, x], argTypes := #[t, t] })
    (hi : (P.info? e).map (fun i => (i.zero, i.size, i.bytes)) = some (some z, k, bytes)) (ht : P.underlying t = some (.slice e)) (hzs : z.cells.size = k) (hk0 : 0 < k) (hf : ∀ x, (f x).length = k) (h1 : ∀ x, ∀ c ∈ f x, Value.oneCell' c = true)
    (r : OwnR w0 w e k f v xs) (E : Only F w0 w) (hu : RRow w k f u ys) (hs : a.eval s = v) (hx : a.eval x = u) (h63 : xs.length + ys.length ≤ maxLen) (hb : (xs.length + ys.length) * bytes ≤ 140737488355328)
    (h : ∀ zs, xs ++ ys = zs → zs.length ≤ xs.length + ys.length → ∀ v' w', OwnR w0 w' e k f v' zs → Only F w0 w' → AppPost w w' e k f v v' zs → K (a.put o.dst v') w') : o.wp P a w K Q :=
  wp_app s x ho hi ht hzs hk0 hf h1 v u xs ys hs hx r.row hu h63 hb fun v' w' hA => h _ rfl (by simp) v' w' (r.app E hA).1 (r.app E hA).2 hA
end
section
variable {α : Type} {f : α → List Value} {k : Nat} {P : Program} {w0 w : World} {t e : TypeId} {xs : List α}
theorem flat_put (hf : ∀ x, (f x).length = k) : ∀ (xs : List α) (i : Nat) (y : α), i < xs.length → (xs.flatMap f).take (i * k) ++ f y ++ (xs.flatMap f).drop (i * k + k) = (xs.set i y).flatMap f
  | x :: xs, 0, y, _ => by simp [List.drop_append, hf]
  | x :: xs, i + 1, y, hi => by
    have ih := flat_put hf xs i y (by simpa using hi)
    have e1 : (i + 1) * k = (f x).length + i * k := by rw [hf, Nat.succ_mul]; omega
    rw [List.flatMap_cons, List.set_cons_succ, List.flatMap_cons, e1, List.take_length_add_append, Nat.add_assoc, List.drop_length_add_append, ← ih]
    simp only [List.append_assoc]
theorem take_put {β : Type} (A V : List β) {a N : Nat} (h1 : a + V.length ≤ N) (h2 : N ≤ A.length) : (A.take a ++ V ++ A.drop (a + V.length)).take N = (A.take N).take a ++ V ++ (A.take N).drop (a + V.length) := by
  have e1 : (A.take a).length = a := by rw [List.length_take]; omega
  rw [List.take_append, List.take_append, e1, List.take_take, List.take_take, List.drop_take, List.length_append, e1]
  rw [show min N a = a by omega, show min a N = a by omega, List.take_of_length_le (l := V) (by omega), show N - (a + V.length) = N - (a + V.length) from rfl]
/-- a store of a whole record into an owned row -/
theorem wp_put_row {o : Oper} {a : Act} {K : Act → World → Prop} {Q : Exit → Act → World → Prop} {ty : TypeId} {x y : Operand} {g n c i : Nat} (z : α) (r : OwnR w0 w e k f (.slice (some ⟨g, 0, none⟩) n c) xs) (hf : ∀ x, (f x).length = k) (h1 : ∀ x, ∀ c ∈ f x, Value.oneCell' c = true) (hi' : i < xs.length)
    (ho : o.op = .store ty x y) (hx : a.eval x = .pointer (some ⟨g, i * k, none⟩)) (hy : (a.eval y).cells = (f z).toArray) (hi : (P.info? ty).map (·.size) = some k)
    (h : ∀ w', OwnR w0 w' e k f (.slice (some ⟨g, 0, none⟩) n c) (xs.set i z) → But g w w' → K (a.put o.dst undef) w') : o.wp P a w K Q := by
  obtain ⟨hl, ⟨e1, e2⟩ | ⟨g', cap, cur, e1, hb, hg, h2, h3, h4, h5⟩⟩ := r.row
  · cases e1
  · injection e1 with e1 e2 e3
    injection e1 with e1
    injection e1 with e1
    subst e1 e2 e3
    have hcs : (a.eval y).cells.size = k := by rw [hy]; simp [hf]
    have hle : i * k + k ≤ xs.length * k := by
      have := Nat.mul_le_mul_right k hi'
      rw [Nat.succ_mul] at this; omega
    have hle2 : xs.length * k ≤ c * k := Nat.mul_le_mul_right k h2
    refine wp_put (F := [g]) (w0 := w) (X := g) (cs := cur) (t := e) ⟨hg, .inl (by simp)⟩ ho hx (by rw [hi, hcs]) (by rw [hy]; simpa using h1 z) (by rw [hcs, h4]; omega) fun w' hL hb' => h w' ⟨⟨?_, .inr ⟨g, c, putA cur (i * k) (a.eval y).cells, by rw [List.length_set], Nat.zero_le _, hL.blk, by rwa [List.length_set], h3, ?_, ?_⟩⟩, r.new⟩ hb'
    · rw [flat_len hf]
    · simp only [putA, hy, List.size_toArray, hf, List.length_append, List.length_take, List.length_drop, Array.length_toList, h4]
      omega
    · have hcl : xs.length * k ≤ cur.toList.length := by simpa [h4] using hle2
      have := take_put cur.toList (f z) (a := i * k) (N := xs.length * k) (by rw [hf]; exact hle) hcl
      rw [h5, hf] at this
      simp only [putA, hy, List.size_toArray, hf, List.length_set]
      rw [this, flat_put hf xs i z hi']
end
section
variable {α : Type} {f : α → List Value} {k : Nat} {F : List Nat} {w0 w w1 : World} {t e : TypeId} {xs : List α} {g n c X : Nat} {cs : Array Value}
theorem OwnR.put (r : OwnR w0 w e k f (.slice (some ⟨g, 0, none⟩) n c) xs) (E : Only F w0 w) (hb : But g w w1) : Only F w0 w1 :=
  E.trans (Only.of_but hb (List.mem_singleton.2 rfl)) fun x hx => .inr (r.new x (by rw [List.mem_singleton.1 hx]; simp [ownB, Value.ownBlock]))
theorem OwnR.ne (r : OwnR w0 w e k f (.slice (some ⟨g, 0, none⟩) n c) xs) (b : Blk w X t cs) (hne : e ≠ t) : X ≠ g := fun h => r.row.ne b hne (by rw [h]; simp [ownB, Value.ownBlock])
theorem OwnR.ofBlk (b : Loc F w0 w X e cs) (hF : F = []) (hf : ∀ x, (f x).length = k) (hc : cs.toList = xs.flatMap f) (hl : xs.length ≤ maxLen) : OwnR w0 w e k f (.slice (some ⟨X, 0, none⟩) xs.length xs.length) xs :=
  ⟨ORow.blk hf b.blk hc hl, fun x hx => by
    have : x = X := by simpa [ownB, Value.ownBlock] using hx
    subst this; subst hF; exact b.ge⟩
end
theorem actL : (∀ (l : List Value) (i : Nat) (v : Value), l.toArray.setIfInBounds i v = (l.set i v).toArray) ∧ (∀ (x : Value) (l : List Value) (v : Value), (x :: l).set 0 v = v :: l) ∧ (∀ (x : Value) (l : List Value) (i : Nat) (v : Value), (x :: l).set (i + 1) v = x :: l.set i v) := ⟨fun _ _ _ => List.setIfInBounds_toArray .., fun _ _ _ => rfl, fun _ _ _ _ => rfl⟩
theorem Loc.re {F G : List Nat} {u w u1 w1 : World} {X : Nat} {t t1 : TypeId} {cs cs1 : Array Value} (_ : Loc F u w X t cs) (b : Loc G u1 w1 X t1 cs1) : Loc G u1 w1 X t1 cs1 := b
theorem Loc.cf {F : List Nat} {u w : World} {X : Nat} {t : TypeId} {cs : Array Value} (h : Loc F u w X t cs) (i : Nat) : w.cell? ⟨X, i, none⟩ = cs[i]? ∧ w.frozen? ⟨X, i, none⟩ = false := ⟨h.cell i, h.free i⟩
theorem Loc.nef {F : List Nat} {u w : World} {X Y : Nat} {t : TypeId} {cs : Array Value} (h : Loc F u w X t cs) (q : w.heap.size ≤ Y) : X ≠ Y ∧ Y ≠ X := ⟨Nat.ne_of_lt (Nat.lt_of_lt_of_le h.lt q), fun e => Nat.ne_of_lt (Nat.lt_of_lt_of_le h.lt q) e.symm⟩
theorem at_dsts (l : List Nat) {P : Program} {a : Act} {w : World} {K : Act → World → Prop} {Q : Exit → Act → World → Prop} {d : Tmp} {op : Op} {ty : TypeId} {pos : String} {af : Array Edge} {gd : Option (Nat × Bool)} (_ : l.contains d = true) (h : Oper.wp P ⟨some d, op, ty, pos, af, gd⟩ a w K Q) : Oper.wp P ⟨some d, op, ty, pos, af, gd⟩ a w K Q := h
theorem tl1 {α : Type} {a0 x : α} {l : List α} : x ∈ a0 :: x :: l := .tail _ (.head _)
theorem tl2 {α : Type} {a0 a1 x : α} {l : List α} : x ∈ a0 :: a1 :: x :: l := .tail _ (.tail _ (.head _))
theorem tl3 {α : Type} {a0 a1 a2 x : α} {l : List α} : x ∈ a0 :: a1 :: a2 :: x :: l := .tail _ (.tail _ (.tail _ (.head _)))
theorem tl4 {α : Type} {a0 a1 a2 a3 x : α} {l : List α} : x ∈ a0 :: a1 :: a2 :: a3 :: x :: l := .tail _ (.tail _ (.tail _ (.tail _ (.head _))))
theorem tl5 {α : Type} {a0 a1 a2 a3 a4 x : α} {l : List α} : x ∈ a0 :: a1 :: a2 :: a3 :: a4 :: x :: l := .tail _ (.tail _ (.tail _ (.tail _ (.tail _ (.head _)))))
theorem tl6 {α : Type} {a0 a1 a2 a3 a4 a5 x : α} {l : List α} : x ∈ a0 :: a1 :: a2 :: a3 :: a4 :: a5 :: x :: l := .tail _ (.tail _ (.tail _ (.tail _ (.tail _ (.tail _ (.head _))))))
theorem tl7 {α : Type} {a0 a1 a2 a3 a4 a5 a6 x : α} {l : List α} : x ∈ a0 :: a1 :: a2 :: a3 :: a4 :: a5 :: a6 :: x :: l := .tail _ (.tail _ (.tail _ (.tail _ (.tail _ (.tail _ (.tail _ (.head _)))))))
theorem tl8 {α : Type} {a0 a1 a2 a3 a4 a5 a6 a7 x : α} {l : List α} : x ∈ a0 :: a1 :: a2 :: a3 :: a4 :: a5 :: a6 :: a7 :: x :: l := .tail _ (.tail _ (.tail _ (.tail _ (.tail _ (.tail _ (.tail _ (.tail _ (.head _))))))))
theorem tl9 {α : Type} {a0 a1 a2 a3 a4 a5 a6 a7 a8 x : α} {l : List α} : x ∈ a0 :: a1 :: a2 :: a3 :: a4 :: a5 :: a6 :: a7 :: a8 :: x :: l := .tail _ (.tail _ (.tail _ (.tail _ (.tail _ (.tail _ (.tail _ (.tail _ (.tail _ (.head _)))))))))
theorem tl10 {α : Type} {a0 a1 a2 a3 a4 a5 a6 a7 a8 a9 x : α} {l : List α} : x ∈ a0 :: a1 :: a2 :: a3 :: a4 :: a5 :: a6 :: a7 :: a8 :: a9 :: x :: l := .tail _ (.tail _ (.tail _ (.tail _ (.tail _ (.tail _ (.tail _ (.tail _ (.tail _ (.tail _ (.head _))))))))))
theorem tl11 {α : Type} {a0 a1 a2 a3 a4 a5 a6 a7 a8 a9 a10 x : α} {l : List α} : x ∈ a0 :: a1 :: a2 :: a3 :: a4 :: a5 :: a6 :: a7 :: a8 :: a9 :: a10 :: x :: l := .tail _ (.tail _ (.tail _ (.tail _ (.tail _ (.tail _ (.tail _ (.tail _ (.tail _ (.tail _ (.tail _ (.head _)))))))))))
theorem tl12 {α : Type} {a0 a1 a2 a3 a4 a5 a6 a7 a8 a9 a10 a11 x : α} {l : List α} : x ∈ a0 :: a1 :: a2 :: a3 :: a4 :: a5 :: a6 :: a7 :: a8 :: a9 :: a10 :: a11 :: x :: l := .tail _ (.tail _ (.tail _ (.tail _ (.tail _ (.tail _ (.tail _ (.tail _ (.tail _ (.tail _ (.tail _ (.tail _ (.head _))))))))))))
theorem putL : (∀ (xs : Array Value) (i : Nat) (d : Value), xs.getD i d = xs[i]?.getD d) ∧ (∀ (l : List Value) (i : Nat), l.toArray[i]? = l[i]?) ∧ (∀ (a : Value) (l : List Value) (i : Nat), (a :: l)[i + 1]? = l[i]?) ∧ (∀ (a : Value) (l : List Value), (a :: l)[0]? = some a) ∧ (∀ (a b : Value), (some a).getD b = a) ∧ (∀ l : List Value, l.toArray.toList = l) ∧ (∀ l : List Value, l.toArray.size = l.length) ∧ (∀ (a : Value) (l : List Value), (a :: l).length = l.length + 1) ∧ (([] : List Value).length = 0) ∧ (∀ (a : Value) (l : List Value) (i : Nat), (a :: l).take (i + 1) = a :: l.take i) ∧ (∀ l : List Value, l.take 0 = []) ∧ (∀ (a : Value) (l : List Value) (i : Nat), (a :: l).drop (i + 1) = l.drop i) ∧ (∀ l : List Value, l.drop 0 = l) ∧ (∀ i : Nat, ([] : List Value).drop i = []) ∧ (∀ (a : Value) (l m : List Value), (a :: l) ++ m = a :: (l ++ m)) ∧ (∀ l : List Value, [] ++ l = l) ∧ (∀ l : List Value, l ++ [] = l) :=
  ⟨fun _ _ _ => Array.getD_eq_getD_getElem? .., fun _ _ => List.getElem?_toArray .., fun _ _ _ => List.getElem?_cons_succ .., fun _ _ => List.getElem?_cons_zero .., fun _ _ => rfl, fun _ => rfl, fun _ => rfl, fun _ _ => rfl, rfl, fun _ _ _ => rfl, fun _ => List.take_zero .., fun _ _ _ => rfl, fun _ => rfl, fun _ => List.drop_nil .., fun _ _ _ => rfl, fun _ => rfl, fun _ => List.append_nil ..⟩
open Go.RowKit Tk
theorem Ext.drewN (w : World) (n : Nat) : Ext w (w.drewN n) := ⟨rfl, rfl, rfl, Nat.le_refl _, fun _ _ => rfl⟩
section
variable {P : Program} {Q : Exit → Act → World → Prop} {a : Act} {w : World}
theorem wp_region_s {id : Nat} {l : List Oper} (ts is : List Nat) (hm : P.follows .mixedOrders = true) (hB : (canB l.toArray (zipT ts is) && is.all fun i => decide (i < l.length)) = true)
    (h : ∀ K : Act → World → Prop, (∀ a w, Q .normal a w → K a w) → ∀ w', Ext w w' → wpTag P l.toArray Ext K (LetsOut Q) ts (pickL l is) a w') : (Code.region id l.toArray true).wp P Q a w := by
  rw [Bool.and_eq_true] at hB
  refine wp_region_can Ext Ext.refl (fun _ _ _ => Ext.trans) _ hm hB.1 fun K hK => ?_
  rw [pick_eq l is ts fun i hi => by simpa using List.all_eq_true.1 hB.2 i hi]
  exact h K hK _ (Ext.drew w)
theorem at_tag (n : Nat) {ops : Array Oper} {Kp : World → World → Prop} {N : Act → World → Prop} {O : Prop} {ts : List Nat} {l : List Oper} (h : wpTag P ops Kp N O (n :: ts) l a w) : wpTag P ops Kp N O (n :: ts) l a w := h
theorem at_tagn {ops : Array Oper} {Kp : World → World → Prop} {N : Act → World → Prop} {O : Prop} (h : wpTag P ops Kp N O [] [] a w) : wpTag P ops Kp N O [] [] a w := h
theorem at_and {w w' : World} {p : Prop} (h1 : Ext w w') (h2 : p) : Ext w w' ∧ p := ⟨h1, h2⟩
end
section
variable {α : Type} {k : Nat} {f : α → List Value} {F : List Nat} {w w1 : World} {v : Value} {xs : List α}
theorem RRow.only (h : RRow w k f v xs) (E : Only F w w1) (hF : xs.length = 0 ∨ ∀ x ∈ ownB v, x ∉ F) : RRow w1 k f v xs := by
  obtain ⟨ao, cap, e, h1, h2, h3⟩ := h
  refine ⟨ao, cap, e, h1, h2, ?_⟩
  rcases h3 with h3 | ⟨g, o, ho, hg, hc⟩
  · exact .inl h3
  · rcases hF with hF | hF
    · exact .inl hF
    refine .inr ⟨g, o, ho, Nat.lt_of_lt_of_le hg E.size, fun i hi j hj => ?_⟩
    have hn : g ∉ F := hF g (by rw [e, ho]; simp [ownB, Value.ownBlock])
    rw [World.cell?_of_block (w := w) (E.block g hg hn)]
    exact hc i hi j hj
theorem RRow.lt (h : RRow w k f v xs) : xs.length = 0 ∨ ∀ x ∈ ownB v, x < w.heap.size := by
  obtain ⟨ao, cap, rfl, h1, h2, h3 | ⟨g, o, rfl, hg, hc⟩⟩ := h
  · exact .inl h3
  · exact .inr fun x hx => by
      have : x = g := by simpa [ownB, Value.ownBlock] using hx
      rw [this]; exact hg
end
open Go.RowKit Tk
/-- the head of a slice, but for its length -/
structure Hd where
 a : Option Addr
 c : Nat
deriving Inhabited
@[reducible] def Hd.v (h : Hd) (n : Nat) : Value := .slice h.a n h.c
structure ExH where
 op : Int
 a : Int
 rel : Int
 b : Int
 hn : Hd
 names : List ByteArray
 s0 : Int
 s1 : Int
 s2 : Int
 s3 : Int
 hk : Hd
inductive Ex where
 | mk (h : ExH) (kids : List Ex)
def Ex.h : Ex → ExH | .mk h _ => h
def Ex.kids : Ex → List Ex | .mk _ k => k
/-- the cells of a Ex -/
def exC (x : Ex) : List Value := [.int .i64 x.h.op, .int .i64 x.h.a, .int .i64 x.h.rel, .int .i64 x.h.b, .slice x.h.hn.a x.h.names.length x.h.hn.c, .int .u64 x.h.s0, .int .u64 x.h.s1, .int .u64 x.h.s2, .int .u64 x.h.s3, .slice x.h.hk.a x.kids.length x.h.hk.c]
@[simp] theorem exC_len (x : Ex) : (exC x).length = 10 := rfl
@[go_sem, simp] theorem exC_size (x : Ex) : (exC x).toArray.size = 10 := rfl
@[go_sem, simp] theorem exC_one (x : Ex) : (exC x).toArray.all (fun c => c.oneCell') = true := by rw [List.all_toArray]; rfl
theorem exC_ones (x : Ex) : ∀ c ∈ exC x, Value.oneCell' c = true := fun c hc => (List.all_eq_true.1 (show (exC x).all (fun c => c.oneCell') = true from rfl)) c hc
@[go_sem] theorem exC_a0 (x : Ex) : (exC x).toArray[0]? = some (.int .i64 x.h.op) := rfl
@[go_sem] theorem exC_g0 (x : Ex) (h : 0 < (exC x).length) : (exC x)[0]'h = Value.int .i64 x.h.op := rfl
@[go_sem] theorem exC_l0 (x : Ex) : (exC x)[0]? = some (.int .i64 x.h.op) := rfl
@[go_sem] theorem exC_a1 (x : Ex) : (exC x).toArray[1]? = some (.int .i64 x.h.a) := rfl
@[go_sem] theorem exC_g1 (x : Ex) (h : 1 < (exC x).length) : (exC x)[1]'h = Value.int .i64 x.h.a := rfl
@[go_sem] theorem exC_l1 (x : Ex) : (exC x)[1]? = some (.int .i64 x.h.a) := rfl
@[go_sem] theorem exC_a2 (x : Ex) : (exC x).toArray[2]? = some (.int .i64 x.h.rel) := rfl
@[go_sem] theorem exC_g2 (x : Ex) (h : 2 < (exC x).length) : (exC x)[2]'h = Value.int .i64 x.h.rel := rfl
@[go_sem] theorem exC_l2 (x : Ex) : (exC x)[2]? = some (.int .i64 x.h.rel) := rfl
@[go_sem] theorem exC_a3 (x : Ex) : (exC x).toArray[3]? = some (.int .i64 x.h.b) := rfl
@[go_sem] theorem exC_g3 (x : Ex) (h : 3 < (exC x).length) : (exC x)[3]'h = Value.int .i64 x.h.b := rfl
@[go_sem] theorem exC_l3 (x : Ex) : (exC x)[3]? = some (.int .i64 x.h.b) := rfl
@[go_sem] theorem exC_a4 (x : Ex) : (exC x).toArray[4]? = some (.slice x.h.hn.a x.h.names.length x.h.hn.c) := rfl
@[go_sem] theorem exC_g4 (x : Ex) (h : 4 < (exC x).length) : (exC x)[4]'h = Value.slice x.h.hn.a x.h.names.length x.h.hn.c := rfl
@[go_sem] theorem exC_l4 (x : Ex) : (exC x)[4]? = some (.slice x.h.hn.a x.h.names.length x.h.hn.c) := rfl
@[go_sem] theorem exC_a5 (x : Ex) : (exC x).toArray[5]? = some (.int .u64 x.h.s0) := rfl
@[go_sem] theorem exC_g5 (x : Ex) (h : 5 < (exC x).length) : (exC x)[5]'h = Value.int .u64 x.h.s0 := rfl
@[go_sem] theorem exC_l5 (x : Ex) : (exC x)[5]? = some (.int .u64 x.h.s0) := rfl
@[go_sem] theorem exC_a6 (x : Ex) : (exC x).toArray[6]? = some (.int .u64 x.h.s1) := rfl
@[go_sem] theorem exC_g6 (x : Ex) (h : 6 < (exC x).length) : (exC x)[6]'h = Value.int .u64 x.h.s1 := rfl
@[go_sem] theorem exC_l6 (x : Ex) : (exC x)[6]? = some (.int .u64 x.h.s1) := rfl
@[go_sem] theorem exC_a7 (x : Ex) : (exC x).toArray[7]? = some (.int .u64 x.h.s2) := rfl
@[go_sem] theorem exC_g7 (x : Ex) (h : 7 < (exC x).length) : (exC x)[7]'h = Value.int .u64 x.h.s2 := rfl
@[go_sem] theorem exC_l7 (x : Ex) : (exC x)[7]? = some (.int .u64 x.h.s2) := rfl
@[go_sem] theorem exC_a8 (x : Ex) : (exC x).toArray[8]? = some (.int .u64 x.h.s3) := rfl
@[go_sem] theorem exC_g8 (x : Ex) (h : 8 < (exC x).length) : (exC x)[8]'h = Value.int .u64 x.h.s3 := rfl
@[go_sem] theorem exC_l8 (x : Ex) : (exC x)[8]? = some (.int .u64 x.h.s3) := rfl
@[go_sem] theorem exC_a9 (x : Ex) : (exC x).toArray[9]? = some (.slice x.h.hk.a x.kids.length x.h.hk.c) := rfl
@[go_sem] theorem exC_g9 (x : Ex) (h : 9 < (exC x).length) : (exC x)[9]'h = Value.slice x.h.hk.a x.kids.length x.h.hk.c := rfl
@[go_sem] theorem exC_l9 (x : Ex) : (exC x)[9]? = some (.slice x.h.hk.a x.kids.length x.h.hk.c) := rfl
section
variable {w w1 : World} {F : List Nat}
mutual
def Ex.ok (w : World) : Ex → Prop
 | .mk h kids => Reads w (h.hn.v h.names.length) h.names ∧ RRow w 10 exC (h.hk.v kids.length) kids ∧ Ex.oks w kids
def Ex.oks (w : World) : List Ex → Prop
 | [] => True
 | e :: l => e.ok w ∧ Ex.oks w l
end
theorem Reads.ext {v : Value} {xs : List ByteArray} (h : Reads w v xs) (hx : Ext w w1) : Reads w1 v xs := RRow.ext h hx
mutual
theorem Ex.ok.ext (hx : Ext w w1) : ∀ {x : Ex}, x.ok w → x.ok w1
 | .mk _ kids, h => by
   unfold Ex.ok at h ⊢
   exact ⟨h.1.ext hx, h.2.1.ext hx, Ex.oks.ext hx (l := kids) h.2.2⟩
theorem Ex.oks.ext (hx : Ext w w1) : ∀ {l : List Ex}, Ex.oks w l → Ex.oks w1 l
 | [], _ => trivial
 | e :: l, h => by
   unfold Ex.oks at h ⊢
   exact ⟨Ex.ok.ext hx (x := e) h.1, Ex.oks.ext hx (l := l) h.2⟩
end
theorem Ex.oks.at : ∀ {l : List Ex}, Ex.oks w l → ∀ {i : Nat} (h : i < l.length), (l[i]).ok w
 | e :: l, h, 0, _ => by unfold Ex.oks at h; exact h.1
 | e :: l, h, i + 1, hi => by unfold Ex.oks at h; exact Ex.oks.at h.2 (by simpa using hi)
theorem Ex.ok.names {x : Ex} (h : x.ok w) : Reads w (x.h.hn.v x.h.names.length) x.h.names := by cases x; unfold Ex.ok at h; exact h.1
theorem Ex.ok.kids {x : Ex} (h : x.ok w) : RRow w 10 exC (x.h.hk.v x.kids.length) x.kids := by cases x; unfold Ex.ok at h; exact h.2.1
theorem Ex.ok.subs {x : Ex} (h : x.ok w) : Ex.oks w x.kids := by cases x; unfold Ex.ok at h; exact h.2.2
/-- a list of records is read at a place -/
theorem RRow.cells {α : Type} {k : Nat} {f : α → List Value} {a : Option Addr} {n c : Nat} {xs : List α} (h : RRow w k f (.slice a n c) xs) {i : Nat} (hi : i < xs.length) :
    ∃ g o, a = some ⟨g, o, none⟩ ∧ g < w.heap.size ∧ ∀ j, j < k → w.cell? ⟨g, o + i * k + j, none⟩ = (f xs[i])[j]? := by
 obtain ⟨g, o, cap', e, -, -, hg, hc⟩ := RRow.at h (by omega)
 injection e with e1 e2 e3
 exact ⟨g, o, e1, hg, fun j hj => hc i hi j hj⟩
end
section
variable {P : Program} {w : World} {K : Act → World → Prop} {a : Act} {Q : Exit → Act → World → Prop}
/-- the load of a record -/
theorem wp_rec {α : Type} {k : Nat} {f : α → List Value} {xs : List α} {o : Oper} {ty : TypeId} {x : Operand} {g off n c i : Nat} {d : TypeDesc} (r : RRow w k f (.slice (some ⟨g, off, none⟩) n c) xs) (hi : i < xs.length)
    (hf : ∀ x, (f x).length = k) (ho : o.op = .load ty x) (hx : a.eval x = .pointer (some ⟨g, off + i * k, none⟩))
    (hu : P.underlying ty = some d) (hd : (match d with | .struct _ | .array _ _ => true | _ => false) = true) (hk : (P.info? ty).map (·.size) = some k)
    (h : K (a.put o.dst (.agg (f xs[i]).toArray)) w) : o.wp P a w K Q := by
 obtain ⟨g', o', cap', e, -, -, hg, hc⟩ := RRow.at r (by omega)
 injection e with e1 e2 e3
 injection e1 with e1
 injection e1 with e4 e5 e6
 subst e4 e5
 have hl : (loadCells ⟨g, off + i * k, none⟩ k).run P w = .ok (f xs[i]).toArray w := by
  have := run_loadCells_list (P := P) w ⟨g, off + i * k, none⟩ (f xs[i]) (fun j v hv => by
   have hadd : (⟨g, off + i * k, none⟩ : Addr).add j = ⟨g, off + i * k + j, none⟩ := by unfold Addr.add; split <;> simp_all
   have hj : j < k := by
    have := (List.getElem?_eq_some_iff.1 hv).1
    rw [hf] at this; exact this
   rw [hadd, hc i hi j hj, hv])
  rwa [hf] at this
 cases hq : P.info? ty with
 | none => simp [hq] at hk
 | some inf =>
   have hs : inf.size = k := by simpa [hq] using hk
   have hagg : (isAgg ty).run P w = .ok true w := by
    unfold isAgg
    rw [Sem.run_bind, run_underlying hu w]
    cases d <;> simp_all
   unfold Oper.wp execOp
   simp only [ho, hx, Instr.loadAt, Instr.sureAddr, loadVar, Sem.run_bind, Sem.run_pure, Result.andThen_ok, hagg, if_true, sizeOf, typeInfo, hq, hs]
   simp [hq, hs, hl, Oper.upon_value]
   exact h
end
section
variable {P : Program} {w : World} {K : Act → World → Prop} {a : Act} {Q : Exit → Act → World → Prop}
def aggB (P : Program) (ty : TypeId) : Bool := match P.underlying ty with | some (.struct _) => true | some (.array _ _) => true | _ => false
/-- the load of a record, by the record -/
theorem wp_rec2 {α : Type} {k : Nat} {f : α → List Value} {xs : List α} {y : α} {o : Oper} {ty : TypeId} {x : Operand} {g off n c i : Nat} (r : RRow w k f (.slice (some ⟨g, off, none⟩) n c) xs) (hy : xs[i]? = some y)
    (hf : ∀ x, (f x).length = k) (ho : o.op = .load ty x) (hx : a.eval x = .pointer (some ⟨g, off + i * k, none⟩))
    (hu : aggB P ty = true) (hk : (P.info? ty).map (·.size) = some k)
    (h : K (a.put o.dst (.agg (f y).toArray)) w) : o.wp P a w K Q := by
 obtain ⟨hi, e⟩ := List.getElem?_eq_some_iff.1 hy
 subst e
 unfold aggB at hu
 split at hu
 · rename_i fs h1
   exact wp_rec r hi hf ho hx h1 rfl hk h
 · rename_i a b h1
   exact wp_rec r hi hf ho hx h1 rfl hk h
 · cases hu
end
section
variable {P : Program} {w : World} {K : Act → World → Prop} {a : Act} {Q : Exit → Act → World → Prop} {X : Nat} {t : TypeId} {cs : Array Value}
/-- the load of a part of a block, by what the part is -/
theorem wp_part {o : Oper} {ty : TypeId} {x : Operand} {off : Nat} {vs : Array Value} (b : Blk w X t cs) (ho : o.op = .load ty x) (hx : a.eval x = .pointer (some ⟨X, off, none⟩))
    (hu : aggB P ty = true) (hk : (P.info? ty).map (·.size) = some vs.size) (he : (cs.toList.drop off).take vs.size = vs.toList)
    (h : K (a.put o.dst (.agg vs)) w) : o.wp P a w K Q := by
 have hle : off + vs.size ≤ cs.size ∨ vs.size = 0 := by
  have := congrArg List.length he
  simp only [List.length_take, List.length_drop, Array.length_toList] at this
  omega
 have hl : (loadCells ⟨X, off, none⟩ vs.size).run P w = .ok vs w := by
  have := run_loadCells_list (P := P) w ⟨X, off, none⟩ vs.toList (fun j v hv => by
   have hadd : (⟨X, off, none⟩ : Addr).add j = ⟨X, off + j, none⟩ := by unfold Addr.add; split <;> simp_all
   rw [hadd, b.cell, ← hv, ← he, List.getElem?_take, List.getElem?_drop, if_pos (by
    have := (List.getElem?_eq_some_iff.1 hv).1
    simpa using this), Array.getElem?_toList])
  rwa [Array.length_toList, Array.toArray_toList] at this
 unfold aggB at hu
 cases hq : P.info? ty with
 | none => simp [hq] at hk
 | some inf =>
   have hs : inf.size = vs.size := by simpa [hq] using hk
   have hagg : (isAgg ty).run P w = .ok true w := by
    unfold isAgg
    split at hu
    · rename_i fs h1
      rw [Sem.run_bind, run_underlying h1 w]; rfl
    · rename_i a b h1
      rw [Sem.run_bind, run_underlying h1 w]; rfl
    · cases hu
   unfold Oper.wp execOp
   simp only [ho, hx, Instr.loadAt, Instr.sureAddr, loadVar, Sem.run_bind, Sem.run_pure, Result.andThen_ok, hagg, if_true, sizeOf, typeInfo, hq, hs]
   simp [hq, hs, hl, Oper.upon_value]
   exact h
/-- the load of a whole block -/
theorem wp_all {o : Oper} {ty : TypeId} {x : Operand} (b : Blk w X t cs) (ho : o.op = .load ty x) (hx : a.eval x = .pointer (some ⟨X, 0, none⟩))
    (hu : aggB P ty = true) (hk : (P.info? ty).map (·.size) = some cs.size)
    (h : K (a.put o.dst (.agg cs)) w) : o.wp P a w K Q := wp_part b ho hx hu hk (by rw [List.drop_zero, ← Array.length_toList, List.take_length]) h
end
theorem sizL : (∀ x, (exC x).toArray.size = 10) := exC_size
open Go.RowKit Tk
def IPost (n : Int) (w : World) (e : Ending) (w' : World) : Prop := e = .returned (.int .i64 n) ∧ Below w.heap.size w w'
theorem ipost {n m : Int} {w w' : World} (h : n = m) (hx : Ext w w') : IPost m w (.returned (.int .i64 n)) w' := by subst h; exact ⟨rfl, hx⟩
instance memBA (x : ByteArray) (l : List ByteArray) : Decidable (x ∈ l) := decidable_of_iff (∃ y ∈ l, y = x) ⟨fun ⟨_, hy, e⟩ => e ▸ hy, fun h => ⟨x, h, rfl⟩⟩
theorem at_some {α : Type} {xs : List α} {j : Nat} (h : j < xs.length) : ∃ y, xs[j]? = some y := ⟨_, List.getElem?_eq_getElem h⟩
theorem drop_at {α : Type} {xs : List α} {j : Nat} {y : α} (h : xs[j]? = some y) : xs.drop j = y :: xs.drop (j + 1) := by
 obtain ⟨hi, e⟩ := List.getElem?_eq_some_iff.1 h
 subst e; exact List.drop_eq_getElem_cons hi
theorem take_at {α : Type} {xs : List α} {j : Nat} {y : α} (h : xs[j]? = some y) : xs.take (j + 1) = xs.take j ++ [y] := by
 obtain ⟨hi, e⟩ := List.getElem?_eq_some_iff.1 h
 subst e; exact List.take_succ_eq_append_getElem hi
theorem RRow.lens {α : Type} {k : Nat} {f : α → List Value} {w : World} {a : Option Addr} {n c : Nat} {xs : List α} (h : RRow w k f (.slice a n c) xs) : n = xs.length ∧ xs.length ≤ 9223372036854775807 := by
 obtain ⟨ao, cap, e, h1, h2⟩ := RRow.len h
 injection e with e1 e2 e3
 unfold maxLen at h2
 exact ⟨e2, by omega⟩
theorem Reads.lens {w : World} {a : Option Addr} {n c : Nat} {xs : List ByteArray} (h : Reads w (.slice a n c) xs) : n = xs.length ∧ xs.length ≤ 9223372036854775807 := by
 obtain ⟨ao, cap, e, h1, h2⟩ := RRow.len h
 injection e with e1 e2 e3
 unfold maxLen at h2
 exact ⟨e2, by omega⟩
theorem Reads.cells {w : World} {a : Option Addr} {n c : Nat} {xs : List ByteArray} (h : Reads w (.slice a n c) xs) {i : Nat} (hi : i < xs.length) : ∃ g o, a = some ⟨g, o, none⟩ ∧ g < w.heap.size ∧ w.cell? ⟨g, o + i, none⟩ = some (.string xs[i]) := by
 obtain ⟨g, o, e, hg, hc⟩ := RRow.cells h hi
 have := hc 0 (by omega)
 rw [Nat.mul_one, Nat.add_zero] at this
 exact ⟨g, o, e, hg, this⟩
theorem OwnR.reads {w w' : World} {v : Value} {xs : List ByteArray} (h : OwnR w w' 9 1 strC v xs) : Reads w' v xs := h.row.reads strC_l
theorem Reads.nil0 (w : World) : Reads w (.slice Option.none 0 0) [] := RRow.nil _ _ _
theorem RRow.none_nil {α : Type} {k : Nat} {f : α → List Value} {w : World} {n c : Nat} {xs : List α} (h : RRow w k f (.slice Option.none n c) xs) : xs = [] ∧ n = 0 := by
 obtain ⟨rfl, -⟩ := RRow.lens h
 rcases Nat.eq_zero_or_pos xs.length with h0 | h0
 · exact ⟨List.length_eq_zero_iff.1 h0, h0⟩
 · obtain ⟨g, o, e, -⟩ := RRow.cells h h0
   cases e
mutual
def Ex.sz : Ex → Nat
 | .mk _ kids => 1 + Ex.szs kids
def Ex.szs : List Ex → Nat
 | [] => 0
 | e :: l => e.sz + Ex.szs l
end
theorem Ex.sz_kids (e : Ex) : e.sz = 1 + Ex.szs e.kids := by cases e; rw [Ex.sz]; rfl
theorem Ex.sz_at : ∀ {l : List Ex} {i : Nat} {y : Ex}, l[i]? = some y → y.sz ≤ Ex.szs l
 | e :: l, 0, y, h => by
   injection h with h; subst h
   rw [Ex.szs]; omega
 | e :: l, i + 1, y, h => by
   have := Ex.sz_at (l := l) (i := i) (y := y) (by simpa using h)
   rw [Ex.szs]; omega
theorem Ex.oks.mem {w : World} {l : List Ex} (h : Ex.oks w l) {x : Ex} (hx : x ∈ l) : x.ok w := by
 obtain ⟨i, hi, rfl⟩ := List.getElem_of_mem hx
 exact h.at hi
theorem set_in (n : Nat) (a b c d i j k l : Int) (w : World) : (Op.equalIn (n + 2) 25 (.agg #[.int .u64 a, .int .u64 b, .int .u64 c, .int .u64 d]) (.agg #[.int .u64 i, .int .u64 j, .int .u64 k, .int .u64 l])).run Try.prog w = .ok ((a == i) && ((b == j) && ((c == k) && (d == l)))) w := by
 have hS : Try.prog.underlying 25 = some (.array 4 23) := by kernel_rfl
 have hU : Try.prog.underlying 23 = some (.int .u64) := by kernel_rfl
 have hz : ∀ w, (sizeOf 23).run Try.prog w = .ok 1 w := fun w => by kernel_rfl
 have p0a : ∀ w : World, (part 23 #[.int .u64 a, .int .u64 b, .int .u64 c, .int .u64 d] 0).run Try.prog w = .ok (.int .u64 a) w := fun w => by go_simp
 have p1a : ∀ w : World, (part 23 #[.int .u64 a, .int .u64 b, .int .u64 c, .int .u64 d] 1).run Try.prog w = .ok (.int .u64 b) w := fun w => by go_simp
 have p2a : ∀ w : World, (part 23 #[.int .u64 a, .int .u64 b, .int .u64 c, .int .u64 d] 2).run Try.prog w = .ok (.int .u64 c) w := fun w => by go_simp
 have p3a : ∀ w : World, (part 23 #[.int .u64 a, .int .u64 b, .int .u64 c, .int .u64 d] 3).run Try.prog w = .ok (.int .u64 d) w := fun w => by go_simp
 have p0b : ∀ w : World, (part 23 #[.int .u64 i, .int .u64 j, .int .u64 k, .int .u64 l] 0).run Try.prog w = .ok (.int .u64 i) w := fun w => by go_simp
 have p1b : ∀ w : World, (part 23 #[.int .u64 i, .int .u64 j, .int .u64 k, .int .u64 l] 1).run Try.prog w = .ok (.int .u64 j) w := fun w => by go_simp
 have p2b : ∀ w : World, (part 23 #[.int .u64 i, .int .u64 j, .int .u64 k, .int .u64 l] 2).run Try.prog w = .ok (.int .u64 k) w := fun w => by go_simp
 have p3b : ∀ w : World, (part 23 #[.int .u64 i, .int .u64 j, .int .u64 k, .int .u64 l] 3).run Try.prog w = .ok (.int .u64 l) w := fun w => by go_simp
 have hi : ∀ (a b : Int) (w : World), (Op.equalIn (n + 1) 23 (.int .u64 a) (.int .u64 b)).run Try.prog w = .ok (a == b) w := fun a b w => run_equalIn_int w n _ .u64 .u64 a b hU
 have hr : ∀ {β : Type} (f : Nat → β → Sem (ForInStep β)) (b : β), forIn [:4] b f = forIn [0, 1, 2, 3] b f := fun f b => by
  rw [Std.Legacy.Range.forIn_eq_forIn_range']; rfl
 unfold Op.equalIn
 simp only [Sem.run_bind, run_underlying hS, Result.andThen_ok, hz, hr, List.forIn_cons, List.forIn_nil, Nat.zero_mul, Nat.mul_one, p0a, p0b, hi]
 by_cases h0 : a = i
 · subst h0; simp only [beq_self_eq_true, Bool.not_true, Bool.false_eq_true, if_false, Sem.run_pure, Result.andThen_ok, Sem.run_bind, p1a, p1b, hi]
   by_cases h1 : b = j
   · subst h1; simp only [beq_self_eq_true, Bool.not_true, Bool.false_eq_true, if_false, Sem.run_pure, Result.andThen_ok, Sem.run_bind, p2a, p2b, hi]
     by_cases h2 : c = k
     · subst h2; simp only [beq_self_eq_true, Bool.not_true, Bool.false_eq_true, if_false, Sem.run_pure, Result.andThen_ok, Sem.run_bind, p3a, p3b, hi]
       by_cases h3 : d = l
       · subst h3; simp
       · simp [h3]
     · simp [h2]
   · simp [h1]
 · simp [h0]
@[go_sem] theorem set_all (a b c d i j k l : Int) (w : World) : (Op.equalIn 10000 25 (.agg #[.int .u64 a, .int .u64 b, .int .u64 c, .int .u64 d]) (.agg #[.int .u64 i, .int .u64 j, .int .u64 k, .int .u64 l])).run Try.prog w = .ok ((a == i) && ((b == j) && ((c == k) && (d == l)))) w := set_in 9998 a b c d i j k l w
end Go.Proofs.Ytbobbbhgdfapjaa
