/- Ce, L3 -/
import Derived.Test.YtbobbbhgdfapjaaZR1
import Derived.Test.YtbobbbhgdfapjaaZR2
import Derived.Test.YtbobbbhgdfapjaaZR3
import Derived.Test.YtbobbbhgdfapjaaZR4
import Derived.Test.YtbobbbhgdfapjaaZR5
import Derived.Test.YtbobbbhgdfapjaaZR6
import Derived.Test.YtbobbbhgdfapjaaZR7
import Derived.Test.YtbobbbhgdfapjaaZR9
import Derived.Test.YtbobbbhgdfapjaaZR10
import Derived.Test.YtbobbbhgdfapjaaZR11
import Derived.Test.YtbobbbhgdfapjaaZR12
import Derived.Test.YtbobbbhgdfapjaaZR13
import Derived.Test.YtbobbbhgdfapjaaZR14
import Derived.Test.YtbobbbhgdfapjaaZR15
import Derived.Test.YtbobbbhgdfapjaaZR35
import Derived.Laws.StructEq
import Derived.Test.YtbobbbhgdfapjaaZR8
import Derived.Test.YtbobbbhgdfapjaaZR16
import Derived.Test.YtbobbbhgdfapjaaZR17
import Derived.Test.YtbobbbhgdfapjaaZR18
import Derived.Test.YtbobbbhgdfapjaaZR19
import Derived.Test.YtbobbbhgdfapjaaZR20
import Derived.Test.YtbobbbhgdfapjaaZR21
import Derived.Test.YtbobbbhgdfapjaaZR22
import Derived.Test.YtbobbbhgdfapjaaZR23
import Derived.Test.YtbobbbhgdfapjaaZR24
import Derived.Test.YtbobbbhgdfapjaaZR25
import Derived.Test.YtbobbbhgdfapjaaZR26
import Derived.Test.YtbobbbhgdfapjaaZR27
import Derived.Test.YtbobbbhgdfapjaaZR28
import Derived.Test.YtbobbbhgdfapjaaZR29
import Derived.Test.YtbobbbhgdfapjaaZR30
import Derived.Test.YtbobbbhgdfapjaaZR31
import Derived.Test.YtbobbbhgdfapjaaZR32
import Derived.Test.YtbobbbhgdfapjaaZR33
import Derived.Test.YtbobbbhgdfapjaaZR34
set_option linter.unusedSimpArgs false
set_option linter.unusedVariables false
set_option linter.unusedSimpArgs false
set_option linter.unusedVariables false
namespace Go.Proofs.Ytbobbbhgdfapjaa
set_option maxHeartbeats 8000000
set_option maxRecDepth 100000
open Go.RowKit
namespace Rd
section
variable {P : Program} {ops : Array Oper} {S : Nat → Sp} {D : Nat → Nat → Bool} {ws : World} {N : Act → World → Prop} {O : Prop}
theorem can_of_E {Q : Exit → Act → World → Prop} {tail : List (Nat × Nat)} {w : World} {c0 : List Nat} (hq : ∀ x ∈ c0, ∀ o, ops[x]? = some o → isW o = false) (hx : Ext ws w) (hN : ∀ a w, N a w → wpCanI P ops (fun _ _ => True) (fun a w => Q .normal a w) O tail a w)
    {E : List Ent} (h1 : ∀ e ∈ E, (S e.1).Φ e.2.1 e.2.2 w) (h2 : ∀ e ∈ E, ∀ b ∈ (S e.1).fp e.2.1, ws.heap.size ≤ b ∧ b < w.heap.size) (h3 : ∀ e ∈ E, ∀ e' ∈ E, e.1 ≠ e'.1 → ∀ b ∈ (S e.1).fp e.2.1, b ∉ (S e'.1).fp e'.2.1) :
    ∀ (a : Act), wpEI P ops S D ws N O c0 E a → wpCanI P ops (fun _ _ => True) (fun a w => Q .normal a w) O ((c0.map fun i => ((0 : Nat), i)) ++ tail) a w := by
 induction c0 with
 | nil => intro a h; exact hN _ _ (h w hx h1 h2 h3)
 | cons j c ih =>
   intro a h
   have ih' := ih fun x hx' => hq x (by simp [hx'])
   simp only [wpEI] at h
   simp only [List.map_cons, List.cons_append, wpCanI]
   cases ho : ops[j]? with
   | none => rw [ho] at h; exact ih' a h
   | some o =>
     rw [ho] at h
     have hW := hq j (by simp) o ho
     simp only [stepE, hW, Bool.false_eq_true, if_false] at h
     simp only [canStep, hW, Bool.false_eq_true, if_false]
     split
     · rename_i hw
       rw [if_pos hw] at h
       obtain ⟨v, hr, hR⟩ := h w hx
       exact ⟨v, hr, ih' _ hR⟩
     · rename_i hw
       rw [if_neg hw] at h
       exact ih' _ h
theorem wpAny_of_E2 (fr : Nat → Bool) {Q : Exit → Act → World → Prop} (hs : Region.noSelect ops = true) (hE : edgesOk ops = true) (hO : O → LetsOut Q) {tail : List (Nat × Nat)}
    (ht : ∀ z ∈ tail, z.2 < ops.size) (hpt : tail.Pairwise (fun j i => pairOk ops (waitTab ops) j i = true)) (hDp : ∀ (i j : Nat) (oi oj : Oper), ops[i]? = some oi → ops[j]? = some oj → oi.apart ops oj = true → D i j = false ∧ D j i = false) (hN : ∀ a w, N a w → wpCanI P ops (fun _ _ => True) (fun a w => Q .normal a w) O tail a w) :
    ∀ (n : Nat) (c : List Nat) (listed : Array Bool) (E : List Ent) (a : Act) (w : World), c.length = n → listed.size = ops.size →
      c.Pairwise (fun j i => pairH ops (waitTab ops) j i = true) → (∀ x ∈ c, x < ops.size) → (∀ x ∈ c, ∀ z ∈ tail, (((waitTab ops).getD z.2 0).testBit x = true ∨ fr x = true) ∧ x ≠ z.2) → (∀ x ∈ c, fr x = true → (∀ o, ops[x]? = some o → isW o = false) ∧ ∀ z ∈ tail, pairOk ops (waitTab ops) (0, x) z = true) → (∀ i, i < ops.size → (listed.getD i true = false ↔ (i ∈ c ∨ ∃ z ∈ tail, z.2 = i))) →
      (∀ j oj, ops[j]? = some oj → listed.getD j false = true → ∀ e ∈ oj.after, Region.binds .any e = true → listed.getD e.on false = true) →
      (∀ x ∈ c, ∀ z ∈ tail, ∀ o, ops[x]? = some o → ∀ e ∈ o.after, Region.binds .any e = true → e.on ≠ z.2) →
      Ext ws w → (∀ e ∈ E, (S e.1).Φ e.2.1 e.2.2 w) → (∀ e ∈ E, ∀ b ∈ (S e.1).fp e.2.1, ws.heap.size ≤ b ∧ b < w.heap.size) →
      (∀ e ∈ E, ∀ e' ∈ E, e.1 ≠ e'.1 → ∀ b ∈ (S e.1).fp e.2.1, b ∉ (S e'.1).fp e'.2.1) → (∀ e ∈ E, e.1 ∉ c) →
      wpEI P ops S D ws N O c E a → wpAny P .any ops Q (n + tail.length) listed a w := by
 intro n
 induction n with
 | zero =>
   intro c listed E a w hc hz _ _ _ _ hl hcl _ hx h1 h2 h3 _ h
   have : c = [] := List.eq_nil_of_length_eq_zero hc
   subst this
   have hN' := hN _ _ (h w hx h1 h2 h3)
   rw [Nat.zero_add]
   exact wpAny_of_can (Kp := fun _ _ => True) (fun _ => trivial) (fun _ _ _ _ _ => trivial) hs hE (N := fun a w => Q .normal a w) (O := O) (fun _ _ h => h) hO tail.length tail listed a w rfl hz hpt ht (fun i hi => by rw [hl i hi]; simp) hcl hN'
 | succ n ih =>
   intro c listed E a w hc hz hp hlt hct hfr hl hcl hno hx h1 h2 h3 h4 h
   by_cases hall : ∀ x ∈ c, fr x = true
   · have hlen : ((c.map fun i => ((0 : Nat), i)) ++ tail).length = n + 1 + tail.length := by rw [List.length_append, List.length_map, hc]
     refine wpAny_of_can (Kp := fun _ _ => True) (fun _ => trivial) (fun _ _ _ _ _ => trivial) hs hE (N := fun a w => Q .normal a w) (O := O) (fun _ _ h => h) hO _ ((c.map fun i => ((0 : Nat), i)) ++ tail) listed a w hlen hz ?_ ?_ ?_ hcl ?_
     · refine List.pairwise_append.2 ⟨?_, hpt, ?_⟩
       · rw [List.pairwise_map]
         refine (List.pairwise_iff_forall_sublist.2 fun {x y} hxy => ?_)
         have hpy := List.pairwise_iff_forall_sublist.1 hp hxy
         have hxm : x ∈ c := hxy.subset (by simp)
         have hym : y ∈ c := hxy.subset (by simp)
         have hxo : ops[x]? = some (ops[x]'(hlt x hxm)) := Array.getElem?_eq_getElem _
         have hyo : ops[y]? = some (ops[y]'(hlt y hym)) := Array.getElem?_eq_getElem _
         have w1 := (hfr x hxm (hall x hxm)).1 _ hxo
         have w2 := (hfr y hym (hall y hym)).1 _ hyo
         simp only [pairH, hxo, hyo, Bool.and_eq_true] at hpy
         simp only [pairOk, hxo, hyo, Bool.and_eq_true]
         refine ⟨hpy.1, ?_⟩
         have h6 := hpy.2
         rw [Bool.or_eq_true] at h6 ⊢
         rcases h6 with h' | h'
         · exact .inl h'
         · right
           simp [h', w1, w2]
       · intro x hx' z hz'
         obtain ⟨i, hi, rfl⟩ := List.mem_map.1 hx'
         exact (hfr i hi (hall i hi)).2 z hz'
     · intro x hx'
       rcases List.mem_append.1 hx' with hx' | hx'
       · obtain ⟨i, hi, rfl⟩ := List.mem_map.1 hx'
         exact hlt i hi
       · exact ht x hx'
     · intro i hi
       rw [hl i hi]
       constructor
       · rintro (h' | ⟨z, hz', rfl⟩)
         · exact ⟨(0, i), List.mem_append.2 (.inl (List.mem_map.2 ⟨i, h', rfl⟩)), rfl⟩
         · exact ⟨z, List.mem_append.2 (.inr hz'), rfl⟩
       · rintro ⟨z, hz', rfl⟩
         rcases List.mem_append.1 hz' with hz' | hz'
         · obtain ⟨i, hi', rfl⟩ := List.mem_map.1 hz'
           exact .inl hi'
         · exact .inr ⟨z, hz', rfl⟩
     · exact can_of_E (fun x hx' => (hfr x hx' (hall x hx')).1) hx hN h1 h2 h3 a h
   obtain ⟨x0, hx0, hx0f⟩ : ∃ x ∈ c, fr x = false := by
    rcases Classical.em (∃ x ∈ c, fr x = false) with h' | h'
    · exact h'
    · exfalso
      refine hall fun x hx' => ?_
      cases hf : fr x with
      | true => rfl
      | false => exact absurd ⟨x, hx', hf⟩ h'
   have hsucc : n + 1 + tail.length = (n + tail.length) + 1 := by omega
   rw [hsucc]
   refine ⟨fun hr => ?_, fun i hi => ?_⟩
   · exfalso
     match c, hc with
     | x :: rest, _ =>
       have hxlt := hlt x (by simp)
       have hxo : ops[x]? = some ops[x] := Array.getElem?_eq_getElem hxlt
       have hmem : x ∈ Region.ready .any ops listed := by
        rw [mem_ready]
        refine ⟨(hl x hxlt).2 (.inl (by simp)), ops[x], hxo, fun e he hb => ?_⟩
        obtain ⟨hin, hself⟩ := edgesOk_spec hE hxo e he
        have hin' : e.on < listed.size := by omega
        cases hle : listed.getD e.on true with
        | true => simp [hin'] at hle ⊢; exact hle
        | false =>
          rcases (hl e.on hin).1 hle with hy | ⟨z, hz', hze⟩
          · rcases List.mem_cons.1 hy with hy | hy
            · exact absurd hy hself
            · have hpy := List.rel_of_pairwise_cons hp hy
              have hyo : ops[e.on]? = some (ops[e.on]'hin) := Array.getElem?_eq_getElem _
              simp only [pairH, hxo, hyo, Bool.and_eq_true, Bool.not_eq_true'] at hpy
              have hno' := hpy.1.1
              have hyes : (ops[x].after.any fun e' => Region.binds .any e' && e'.on == e.on) = true := Array.any_eq_true'.2 ⟨e, he, by simp [hb]⟩
              rw [hyes] at hno'
              cases hno'
          · exact absurd hze.symm (hno x (by simp) z hz' _ hxo e he hb)
       rw [hr] at hmem
       cases hmem
   · obtain ⟨h0, oi, hoi, hall'⟩ := mem_ready.1 hi
     have hilt : i < ops.size := (Array.getElem?_eq_some_iff.1 hoi).1
     have hic : i ∈ c := by
      rcases (hl i hilt).1 h0 with h' | ⟨z, hz', rfl⟩
      · exact h'
      · exfalso
        have hb : ((waitTab ops).getD z.2 0).testBit x0 = true := by
         rcases (hct x0 hx0 z hz').1 with hb | hb
         · exact hb
         · rw [hx0f] at hb; cases hb
        have := await_listed hoi hall' hcl (k := x0) ((hl x0 (hlt x0 hx0)).2 (.inl hx0))
        rw [hb] at this
        cases this
     obtain ⟨c1, c2, rfl⟩ := List.append_of_mem hic
     have hp' := List.pairwise_append.1 hp
     have hsub : (c1 ++ c2).Sublist (c1 ++ i :: c2) := (List.sublist_cons_self _ _).append_left _
     have hpull := pullE (P := P) (S := S) (D := D) (ws := ws) (N := N) (O := O) hoi hs (c2 := c2) c1 (fun j hj => by
      have hpj := hp'.2.2 j hj i (by simp)
      have hjo : ops[j]? = some (ops[j]'(hlt j (by simp [hj]))) := Array.getElem?_eq_getElem _
      refine ⟨_, hjo, ?_⟩
      simp only [pairH, hjo, hoi, Bool.and_eq_true] at hpj
      have hre := await_listed hoi hall' hcl (k := j) ((hl j (hlt j (by simp [hj]))).2 (.inl (by simp [hj])))
      rw [hre] at hpj
      have hap := hpj.2
      rw [Bool.false_or] at hap
      exact ⟨hap, hDp _ _ _ _ hoi hjo hap⟩) E a h
     have hxk : ∀ y ∈ c1 ++ c2, y ≠ i := by
      intro y hy heq
      subst heq
      rcases List.mem_append.1 hy with hy | hy
      · have hpj := hp'.2.2 y hy y (by simp)
        simp [pairH, hoi] at hpj
      · have hpj := List.rel_of_pairwise_cons hp'.2.1 hy
        simp [pairH, hoi] at hpj
     have nxt : ∀ (E' : List Ent) (a' : Act) (w' : World), Ext ws w' → (∀ e ∈ E', (S e.1).Φ e.2.1 e.2.2 w') → (∀ e ∈ E', ∀ b ∈ (S e.1).fp e.2.1, ws.heap.size ≤ b ∧ b < w'.heap.size) →
         (∀ e ∈ E', ∀ e' ∈ E', e.1 ≠ e'.1 → ∀ b ∈ (S e.1).fp e.2.1, b ∉ (S e'.1).fp e'.2.1) → (∀ e ∈ E', e.1 ∉ c1 ++ c2) → wpEI P ops S D ws N O (c1 ++ c2) E' a' → wpAny P .any ops Q (n + tail.length) (listed.setIfInBounds i true) a' w' := by
      intro E' a' w' g1 g2 g3 g4 g5 g6
      refine ih (c1 ++ c2) (listed.setIfInBounds i true) E' a' w' (by simp at hc ⊢; omega) (by simpa using hz) (hp.sublist hsub) (fun y hy => hlt y (hsub.subset hy)) (fun x hx => hct x (hsub.subset hx)) (fun x hx => hfr x (hsub.subset hx)) (fun k hk => ?_) (closed_step hoi hall' hcl) (fun x hx => hno x (hsub.subset hx)) g1 g2 g3 g4 g5 g6
      by_cases hki : k = i
      · subst hki
        constructor
        · intro hg
          simp [hz, hk] at hg
        · rintro (hy | ⟨z, hz', hze⟩)
          · exact absurd rfl (hxk k hy)
          · exact absurd hze.symm (hct k (by simp) z hz').2
      · rw [getD_set_ne true (Ne.symm hki), hl k hk]
        constructor
        · rintro (hy | hy)
          · left
            simp only [List.mem_append, List.mem_cons] at hy ⊢
            rcases hy with hy | rfl | hy
            · exact .inl hy
            · exact absurd rfl hki
            · exact .inr hy
          · exact .inr hy
        · rintro (hy | hy)
          · exact .inl (hsub.subset hy)
          · exact .inr hy
     refine wpOp_of_E hoi hO hx (fun e he _ => h1 e he) hpull (fun a' hR => nxt E a' w hx h1 h2 h3 (fun e he hm => h4 e he (hsub.subset hm)) hR) (fun v g w' hg hR => ?_)
     obtain ⟨gφ, gΦ, gx, gf⟩ := hg
     refine nxt _ _ w' (hx.trans gx) (fun e he => ?_) (fun e he b hb => ?_) (fun e he e' he' hne b hb => ?_) (fun e he hm => ?_) hR
     · rcases List.mem_cons.1 he with rfl | he
       · exact gΦ
       · exact (S e.1).mono _ _ _ _ gx (h1 e he)
     · rcases List.mem_cons.1 he with rfl | he
       · have := gf b hb
         have := hx.size
         omega
       · have := h2 e he b hb
         have := gx.size
         omega
     · rcases List.mem_cons.1 he with rfl | he
       · rcases List.mem_cons.1 he' with rfl | he'
         · exact absurd rfl hne
         · intro hb'
           have := gf b hb
           have := h2 e' he' b hb'
           omega
       · rcases List.mem_cons.1 he' with rfl | he'
         · intro hb'
           have := gf b hb'
           have := h2 e he b hb
           omega
         · exact h3 e he e' he' hne b hb
     · rcases List.mem_cons.1 he with rfl | he
       · exact hxk _ hm rfl
       · exact h4 e he (hsub.subset hm)


end
section
variable {P : Program} {Q : Exit → Act → World → Prop} {a : Act} {w : World}
theorem wp_region_h0 {id : Nat} {l : List Oper} (S : Nat → Sp) (D : Nat → Nat → Bool) (c fr tail : List Nat) (hm : P.follows .mixedOrders = true) (hB : (eB2 l.toArray c fr tail && dB l.toArray D) = true)
    (h : ∀ K : Act → World → Prop, (∀ a w, wpCanI P l.toArray (fun _ _ => True) (fun a w => Q .normal a w) (LetsOut Q) (tail.map fun i => (0, i)) a w → K a w) → wpEI P l.toArray S D w.drew K (LetsOut Q) c [] a) : (Code.region id l.toArray true).wp P Q a w := by
 rw [Bool.and_eq_true] at hB
 obtain ⟨hB, hdB⟩ := hB
 simp only [eB2, Bool.and_eq_true, decide_eq_true_eq] at hB
 obtain ⟨⟨⟨⟨⟨⟨⟨⟨⟨⟨⟨hs, hE⟩, hp⟩, hpt⟩, hlt⟩, hltt⟩, hct⟩, hfw⟩, hfp⟩, hno⟩, hlen⟩, hall⟩ := hB
 refine wp_region_any hm ?_
 have hsz : l.toArray.size = c.length + (tail.map fun i => (0, i)).length := by simp at hlen ⊢; omega
 rw [hsz]
 refine wpAny_of_E2 fr.contains (S := S) (ws := w.drew) (N := fun a w => wpCanI P l.toArray (fun _ _ => True) (fun a w => Q .normal a w) (LetsOut Q) (tail.map fun i => (0, i)) a w) (O := LetsOut Q) hs hE (fun h => h) (tail := tail.map fun i => (0, i)) (fun z hz => ?_) (pairsOk_iff.1 hpt) (dB_spec hdB) (fun _ _ h => h) c.length c _ [] a _ rfl (by simp at hlen ⊢; omega) (pairsH_iff.1 hp) (fun x hx => by simpa using List.all_eq_true.1 hlt x hx) (fun x hx z hz => ?_) (fun x hx hf => ⟨fun o ho => ?_, fun z hz => ?_⟩) (fun i hi => ?_) (fun j oj hj hl => ?_) (fun x hx z hz o ho e he hb => ?_) (Ext.refl _) (by simp) (by simp) (by simp) (by simp) (h _ fun _ _ h => h)
 · obtain ⟨i, hi, rfl⟩ := List.mem_map.1 hz
   simpa using List.all_eq_true.1 hltt i hi
 · obtain ⟨i, hi, rfl⟩ := List.mem_map.1 hz
   have := List.all_eq_true.1 (List.all_eq_true.1 hct x hx) i hi
   simp only [Bool.and_eq_true, Bool.or_eq_true, bne_iff_ne] at this
   exact this
 · have := List.all_eq_true.1 hfw x hx
   rw [ho] at this
   simp only [hf, Bool.not_true, Bool.false_or, Bool.not_eq_true'] at this
   exact this
 · obtain ⟨i, hi, rfl⟩ := List.mem_map.1 hz
   have := List.all_eq_true.1 (List.all_eq_true.1 hfp x hx) i hi
   simp only [hf, Bool.not_true, Bool.false_or] at this
   exact this
 · have h1 := List.all_eq_true.1 hall i (List.mem_range.2 hi)
   have hi2 : i < c.length + tail.length := by omega
   constructor
   · intro _
     simp only [Bool.or_eq_true, List.contains_iff_mem] at h1
     rcases h1 with h1 | h1
     · exact .inl h1
     · exact .inr ⟨(0, i), List.mem_map.2 ⟨i, h1, rfl⟩, rfl⟩
   · intro _
     simp [hi2]
 · exfalso
   have hj' : j < l.length := by simpa using (Array.getElem?_eq_some_iff.1 hj).1
   have hj2 : j < c.length + tail.length := by rw [hlen]; simpa using hj'
   simp [hj2] at hl
 · obtain ⟨i, hi, rfl⟩ := List.mem_map.1 hz
   have := List.all_eq_true.1 (List.all_eq_true.1 hno x hx) i hi
   rw [ho] at this
   have := Array.all_eq_true_iff_forall_mem.1 this e he
   rw [hb] at this
   simpa using this

theorem wp_region_h {id : Nat} {l : List Oper} (S : Nat → Sp) (D : Nat → Nat → Bool) (c fr tail : List Nat) (hm : P.follows .mixedOrders = true) (hB : (eB2 l.toArray c fr tail && dB l.toArray D) = true)
    (h : ∀ (K : Act → World → Prop) (ws : World), ws = w.drew → (∀ a w, wpTxt P l.toArray (fun a w => Q .normal a w) (LetsOut Q) (pickL l tail) a w → K a w) → wpE P l.toArray S D ws K (LetsOut Q) (pickE l c) [] a) : (Code.region id l.toArray true).wp P Q a w :=
 wp_region_h0 S D c fr tail hm hB fun K hK => wpEI_of_E l c [] a (h K _ rfl fun a w h' => hK a w (wpCanI_eq _ l rfl _ a w (by rw [tail_eq]; exact h')))
theorem wp_region_d2 {id : Nat} {l : List Oper} (S : Nat → Sp) (D : Nat → Nat → Bool) (c fr tail : List Nat) (hm : P.follows .mixedOrders = true) (hB : (eB2 l.toArray c fr tail && dB l.toArray D) = true)
    (h : ∀ (K : Act → World → Prop) (ws : World), Ext w ws → (∀ a w, wpTxt P l.toArray (fun a w => Q .normal a w) (LetsOut Q) (pickL l tail) a w → K a w) → wpE P l.toArray S D ws K (LetsOut Q) (pickE l c) [] a) : (Code.region id l.toArray true).wp P Q a w :=
 wp_region_h S D c fr tail hm hB fun K ws hws hK => h K ws (hws ▸ Ext.drew w) hK
end
end Rd
open Go.RowKit Tk
theorem pos_in (d : Nat) (a b c e : Int) (w : World) : (Op.equalIn (d + 2) 35 (.agg #[.int .i64 a, .int .i64 b]) (.agg #[.int .i64 c, .int .i64 e])).run Try.prog w = .ok ((a == c) && (b == e)) w := by
 have hS : Try.prog.underlying 35 = some (.struct (Try.prog.fieldsOf 35)) := by kernel_rfl
 have hp : Try.prog.stoodInHeld 35 = false := by kernel_rfl
 rw [run_equalIn_agg w (d + 1) 35 _ _ hS hp]
 simp only [Program.fieldsOf, Try.underlying35]
 go_simp
 by_cases h1 : a = c <;> by_cases h2 : b = e <;> simp [h1, h2]
@[go_sem] theorem pos_eql (a b c d : Int) (w : World) : (binOp .eql 35 (.agg #[.int .i64 a, .int .i64 b]) (.agg #[.int .i64 c, .int .i64 d])).run Try.prog w = .ok (.bool ((a == c) && (b == d))) w := by
 rw [run_eql_struct, show (10000 : Nat) = 9998 + 2 from rfl, pos_in 9998]; rfl
theorem fault_in (d : Nat) (a b c i e f : Int) (s t : ByteArray) (w : World) : (Op.equalIn (d + 3) 37 (.agg #[.int .i64 a, .int .i64 b, .int .i64 c, .string s]) (.agg #[.int .i64 i, .int .i64 e, .int .i64 f, .string t])).run Try.prog w = .ok ((a == i) && ((b == e) && (c == f)) && (s.toList == t.toList)) w := by
 have hS : Try.prog.underlying 37 = some (.struct (Try.prog.fieldsOf 37)) := by kernel_rfl
 have hp : Try.prog.stoodInHeld 37 = false := by kernel_rfl
 have hq := pos_in d b c e f w
 rw [run_equalIn_agg w (d + 2) 37 _ _ hS hp]
 simp only [Program.fieldsOf, Try.underlying37]
 go_simp
 by_cases h1 : a = i
 · by_cases h2 : b = e
   · by_cases h3 : c = f
     · by_cases h4 : s.toList = t.toList
       · simp [h1, h2, h3, h4]
       · simp [h1, h2, h3, h4]
     · simp [h1, h2, h3]
   · simp [h1, h2]
 · simp [h1]
@[go_sem] theorem fault_eql (a b c i e f : Int) (s t : ByteArray) (w : World) : (binOp .eql 37 (.agg #[.int .i64 a, .int .i64 b, .int .i64 c, .string s]) (.agg #[.int .i64 i, .int .i64 e, .int .i64 f, .string t])).run Try.prog w = .ok (.bool ((a == i) && ((b == e) && (c == f)) && (s.toList == t.toList))) w := by
 rw [run_eql_struct, show (10000 : Nat) = 9997 + 3 from rfl, fault_in 9997]; rfl
@[go_sem] theorem fault_neq (a b c i e f : Int) (s t : ByteArray) (w : World) : (binOp .neq 37 (.agg #[.int .i64 a, .int .i64 b, .int .i64 c, .string s]) (.agg #[.int .i64 i, .int .i64 e, .int .i64 f, .string t])).run Try.prog w = .ok (.bool (!((a == i) && ((b == e) && (c == f)) && (s.toList == t.toList)))) w := by
 rw [run_neq_struct, show (10000 : Nat) = 9997 + 3 from rfl, fault_in 9997]; rfl
theorem bare0 {u : Ex} {s : ByteArray} (h : u.bare = nmX s) : u.bare = (nmX s).bare := by rw [h]; unfold nmX; rw [Ex.bare, Ex.bares]; rfl
mutual
theorem bare_bare : ∀ x : Ex, x.bare.bare = x.bare
 | .mk h k => by rw [Ex.bare, Ex.bare, bares_bares k]
theorem bares_bares : ∀ k : List Ex, Ex.bares (Ex.bares k) = Ex.bares k
 | [] => by rw [Ex.bares, Ex.bares]
 | e :: r => by rw [Ex.bares, Ex.bares, bare_bare e, bares_bares r]
end
theorem pbare {y z : Ex} (h : y.bare = z) : y.bare = z.bare := by rw [← h, bare_bare]
theorem exZ_str {i : Nat} {t : ByteArray} : ¬ exZ[i]? = some (.string t) := fun h => by
 have := Array.mem_of_getElem? h
 simp at this
theorem exZ_int {i : Nat} {n : Int} (h : exZ[i]? = some (.int .i64 n)) : n = 0 := by
 have := Array.mem_of_getElem? h
 simpa using this
mutual
/-- a condition has no part in a block of zeros -/
theorem away_zero {w : World} {X : Nat} (hb : Blk w X 28 exZ) : ∀ u : Ex, u.ok w → u.good → u.away X
 | .mk h k, ho, hg => by
   unfold Ex.ok at ho
   unfold Ex.good at hg
   unfold Ex.away
   refine ⟨?_, ?_, aways_zero hb k ho.2.2 hg.2⟩
   · by_cases h0 : h.names.length = 0
     · exact .inl h0
     · right
       intro hm
       obtain ⟨g, o, hgo, -, k0⟩ := Reads.cells ho.1 (show 0 < h.names.length by omega)
       rw [mem_ownB] at hm
       have e : g = X := by
        unfold Hd.v at hm
        rw [hgo] at hm
        unfold Value.ownBlock at hm
        injection hm
       subst e
       rw [hb.cell] at k0
       exact exZ_str k0
   · by_cases h0 : k.length = 0
     · exact .inl h0
     · right
       intro hm
       have hlt : 0 < k.length := by omega
       obtain ⟨g, o, hgo, -, hc⟩ := RRow.cells ho.2.1 hlt
       have k0 := hc 0 (by decide)
       rw [mem_ownB] at hm
       have e : g = X := by
        unfold Hd.v at hm
        rw [hgo] at hm
        unfold Value.ownBlock at hm
        injection hm
       subst e
       rw [hb.cell] at k0
       have h1 := exZ_int (k0.trans (show (exC k[0])[0]? = some (.int .i64 (k[0]).h.op) from rfl))
       have hk0 : (k[0]).good := hg.2.mem (List.getElem_mem hlt)
       generalize k[0] = y at h1 hk0
       obtain ⟨hh, kk⟩ := y
       unfold Ex.good at hk0
       have := hk0.1.1
       rw [show hh.op = 0 from h1] at this
       have h3 : (-1 : Int) = (kk.length : Int) := this
       omega
theorem aways_zero {w : World} {X : Nat} (hb : Blk w X 28 exZ) : ∀ k : List Ex, Ex.oks w k → Ex.goods k → Ex.aways X k
 | [], _, _ => by unfold Ex.aways; trivial
 | e :: r, ho, hg => by
   unfold Ex.oks at ho
   unfold Ex.goods at hg
   unfold Ex.aways
   exact ⟨away_zero hb e ho.1 hg.1, aways_zero hb r ho.2 hg.2⟩
end
theorem zX_small : zX.small := by unfold zX Ex.small; exact ⟨fun n hn => (by cases hn), (by unfold Ex.smalls; trivial)⟩
theorem zX_sz : zX.sz ≤ 1000000000000 := by decide +kernel
theorem kb1 {u x : Ex} (h : u.bare = x.bare) : [u].map Ex.bare = [x].map Ex.bare := by simp [h]
theorem kb2 {u v x y : Ex} (h : u.bare = x.bare) (k : v.bare = y.bare) : [u, v].map Ex.bare = [x, y].map Ex.bare := by simp [h, k]
theorem lnodeK (op : Int) {X n : Nat} {ks zs : List Ex} {w : World} (hn : zs.length = n ∧ Nat.ble n 1000 = true) (hz : ks.map Ex.bare = zs.map Ex.bare) (hb : Blk w X 28 (ks.flatMap exC).toArray) (ho : Ex.oks w ks) :
    Calls Try.prog 11 #[.int .i64 op, .slice (some ⟨X, 0, none⟩) n n] w (fun e w' => ∃ t, e = .returned (.agg (exC t).toArray) ∧ t.ok w' ∧ t.bare = (opX op zs).bare ∧ Ext w w') := by
 have hl : ks.length = n := by have := congrArg List.length hz; simp at this; omega
 have h1 : n ≤ 1000 := Nat.le_of_ble_eq_true hn.2
 subst hl
 refine (lnode_any op (some ⟨X, 0, none⟩) ks.length ks w).mono fun e w' he => ?_
 have hm : ks.length ≤ maxLen := by unfold maxLen; omega
 exact ⟨_, he.1, nodeX_ok ((RRow.blk (xs := ks) exC_len hb (by simp) hm).ext he.2) (ho.ext he.2), by rw [nodeX_bare, hz, opX_bare, Ex.bares_map], he.2⟩
theorem bCheck_zero (w : World) : Calls Try.prog 16 #[.agg exZ] w (IPost 2 w) := by
 have h := bCheck_any (x := zX) (zX_ok w) zX_small zX_sz
 rw [zX_chk] at h
 exact h
end Go.Proofs.Ytbobbbhgdfapjaa
