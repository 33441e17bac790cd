/- C3 -/
import Derived.Test.YtbobbbhgdfapjaaZR1
import Derived.Test.YtbobbbhgdfapjaaZR2
set_option linter.unusedSimpArgs false
set_option linter.unusedVariables false
namespace Go.Proofs.Ytbobbbhgdfapjaa
set_option maxHeartbeats 8000000
set_option maxRecDepth 100000
open Go.RowKit

/-- w' is w with more blocks -/
def Ext (w w' : World) : Prop := Below w.heap.size w w'
theorem Ext.refl (w : World) : Ext w w := Below.refl _ _
theorem Ext.trans {a b c : World} (h : Ext a b) (k : Ext b c) : Ext a c := Below.trans h (Below.mono k h.size)
theorem Ext.drew (w : World) : Ext w w.drew := (Below.refl _ _).drew
theorem Ext.alloc (w : World) (o : Obj) : Ext w (w.alloc o) := (Below.refl _ _).alloc (Nat.le_refl _) o

/-- what is said of an operation that adds to the world: of its value, at once; of its value in the worlds behind it; the blocks that it owns -/
structure Sp where
 φ : Value → Prop
 Φ : Value → World → Prop := fun _ _ => True
 fp : Value → List Nat := fun _ => []
 mono : ∀ v w w', Ext w w' → Φ v w → Φ v w' := by intro _ _ _ _ _; trivial
instance : Inhabited Sp := ⟨{ φ := fun _ => True }⟩

def Sp.Good (s : Sp) (v : Value) (w w' : World) : Prop := s.φ v ∧ s.Φ v w' ∧ Ext w w' ∧ ∀ b ∈ s.fp v, w.heap.size ≤ b ∧ b < w'.heap.size

/-- what an operation yields, without its frame -/
def yieldsW (P : Program) (O : Prop) (G : Value → World → Prop) : Result Next → Prop
 | .ok (.value v) w' => G v w'
 | .ok .skip w' => G undef w'
 | .ok (.enter f args) w' => Calls P f args w' fun
     | .returned v, w'' => G v w''
     | .panicked _, _ => False
     | .outgrown, _ => O
 | .ok (.row row args) w' => Rows P row args w' fun v w'' => G v w''
 | _ => False

section
variable {P : Program} {ops : Array Oper} {S : Nat → Sp} {ws : World} {N : Act → World → Prop} {O : Prop}

def stepE (P : Program) (ops : Array Oper) (ws : World) (O : Prop) (s : Sp) (j : Nat) (o : Oper) (R : List (Nat × Value) → Act → Prop) (E : List (Nat × Value)) (a : Act) : Prop :=
 if Region.wanted o (yielded ops a.tmps) = true then
  (if isW o = true then (∃ v, s.φ v) ∧ (∀ w, Ext ws w → yieldsW P O (fun v w' => s.Good v w w') ((execOp a.eval o).run P w)) ∧ ∀ v, s.φ v → R ((j, v) :: E) (a.put o.dst v)
   else ∀ w, Ext ws w → ∃ v, (execOp a.eval o).run P w = .ok (.value v) w ∧ R E (a.put o.dst v))
 else R E (a.put o.dst undef)

def EndE (S : Nat → Sp) (ws : World) (N : Act → World → Prop) (E : List (Nat × Value)) (a : Act) : Prop :=
 ∀ w, Ext ws w → (∀ e ∈ E, (S e.1).Φ e.2 w) → (∀ e ∈ E, ∀ b ∈ (S e.1).fp e.2, ws.heap.size ≤ b ∧ b < w.heap.size) →
   (∀ e ∈ E, ∀ e' ∈ E, e.1 ≠ e'.1 → ∀ b ∈ (S e.1).fp e.2, b ∉ (S e'.1).fp e'.2) → N a w

def wpEI (P : Program) (ops : Array Oper) (S : Nat → Sp) (ws : World) (N : Act → World → Prop) (O : Prop) : List Nat → List (Nat × Value) → Act → Prop
 | [], E, a => EndE S ws N E a
 | j :: rest, E, a => match ops[j]? with
   | none => wpEI P ops S ws N O rest E a
   | some o => stepE P ops ws O (S j) j o (wpEI P ops S ws N O rest) E a

theorem stepE_mono {s : Sp} {j : Nat} {o : Oper} {R R' : List (Nat × Value) → Act → Prop} {E E' : List (Nat × Value)} {a : Act} (h : ∀ a, R E a → R' E' a) (h2 : ∀ v a, R ((j, v) :: E) a → R' ((j, v) :: E') a) (hh : stepE P ops ws O s j o R E a) : stepE P ops ws O s j o R' E' a := by
 unfold stepE at *
 by_cases hw : Region.wanted o (yielded ops a.tmps) = true
 · rw [if_pos hw] at *
   by_cases hW : isW o = true
   · rw [if_pos hW] at *
     exact ⟨hh.1, hh.2.1, fun v hv => h2 _ _ (hh.2.2 v hv)⟩
   · rw [if_neg hW] at *
     intro w hx
     obtain ⟨v, h1, h3⟩ := hh w hx
     exact ⟨v, h1, h _ h3⟩
 · rw [if_neg hw] at *
   exact h _ hh

theorem wpEI_perm : ∀ (c : List Nat) (E E' : List (Nat × Value)) (a : Act), (∀ e, e ∈ E ↔ e ∈ E') → wpEI P ops S ws N O c E a → wpEI P ops S ws N O c E' a
 | [], E, E', a, hE, h => fun w hx h1 h2 h3 => h w hx (fun e he => h1 e ((hE e).1 he)) (fun e he => h2 e ((hE e).1 he)) (fun e he e' he' => h3 e ((hE e).1 he) e' ((hE e').1 he'))
 | j :: rest, E, E', a, hE, h => by
   unfold wpEI at *
   split at h
   · exact wpEI_perm rest E E' a hE h
   · exact stepE_mono (fun a => wpEI_perm rest E E' a hE) (fun v a => wpEI_perm rest _ _ a (by intro e; simp only [List.mem_cons, hE])) h

theorem swapE {R : List (Nat × Value) → Act → Prop} (hR : ∀ E E' a, (∀ e, e ∈ E ↔ e ∈ E') → R E a → R E' a) {si sj : Sp} {i j : Nat} {oi oj : Oper} (hap : oi.apart ops oj = true) (hsi : ∀ cs b, oi.op ≠ .select cs b) (hsj : ∀ cs b, oj.op ≠ .select cs b)
    {E : List (Nat × Value)} {a : Act} (h : stepE P ops ws O sj j oj (stepE P ops ws O si i oi R) E a) : stepE P ops ws O si i oi (stepE P ops ws O sj j oj R) E a := by
 obtain ⟨h1, h2, h3⟩ := Oper.apart_spec hap
 have wi : ∀ v, Region.wanted oi (yielded ops (a.put oj.dst v).tmps) = Region.wanted oi (yielded ops a.tmps) := fun v => wanted_put oi a oj.dst v h3
 have ei : ∀ v, execOp (a.put oj.dst v).eval oi = execOp a.eval oi := fun v => execOp_put oi hsi a oj.dst v h3
 have wj : ∀ v, Region.wanted oj (yielded ops (a.put oi.dst v).tmps) = Region.wanted oj (yielded ops a.tmps) := fun v => wanted_put oj a oi.dst v h1
 have ej : ∀ v, execOp (a.put oi.dst v).eval oj = execOp a.eval oj := fun v => execOp_put oj hsj a oi.dst v h1
 have cm : ∀ u v, (a.put oj.dst v).put oi.dst u = (a.put oi.dst u).put oj.dst v := fun u v => (Act.put_comm a u v h2).symm
 simp only [stepE, wi, ei, wj, ej, cm] at *
 by_cases hwj : Region.wanted oj (yielded ops a.tmps) = true
 · by_cases hwi : Region.wanted oi (yielded ops a.tmps) = true
   · by_cases hWj : isW oj = true
     · by_cases hWi : isW oi = true
       · simp only [hwj, hwi, hWj, hWi, if_true] at *
         obtain ⟨⟨v0, hv0⟩, s1, s2⟩ := h
         refine ⟨(s2 v0 hv0).1, (s2 v0 hv0).2.1, fun u hu => ⟨⟨v0, hv0⟩, s1, fun v hv => hR _ _ _ ?_ ((s2 v hv).2.2 u hu)⟩⟩
         intro e; simp only [List.mem_cons]; exact ⟨fun h => by rcases h with h | h | h <;> simp [h], fun h => by rcases h with h | h | h <;> simp [h]⟩
       · simp only [hwj, hwi, hWj, hWi, if_true, if_false, Bool.false_eq_true] at *
         obtain ⟨⟨v0, hv0⟩, s1, s2⟩ := h
         intro w hx
         obtain ⟨u, hu, _⟩ := s2 v0 hv0 w hx
         refine ⟨u, hu, ⟨v0, hv0⟩, s1, fun v hv => ?_⟩
         obtain ⟨u', hu', hr⟩ := s2 v hv w hx
         rw [hu] at hu'
         injection hu' with hu'
         injection hu' with hu'
         subst hu'
         exact hr
     · by_cases hWi : isW oi = true
       · simp only [hwj, hwi, hWj, hWi, if_true, if_false, Bool.false_eq_true] at *
         obtain ⟨v0, _, hv⟩ := h ws (Ext.refl ws)
         refine ⟨hv.1, hv.2.1, fun u hu w hx => ?_⟩
         obtain ⟨v, hr, hk⟩ := h w hx
         exact ⟨v, hr, hk.2.2 u hu⟩
       · simp only [hwj, hwi, hWj, hWi, if_true, if_false, Bool.false_eq_true] at *
         intro w hx
         obtain ⟨v, hv, h4⟩ := h w hx
         obtain ⟨u, hu, h5⟩ := h4 w hx
         refine ⟨u, hu, fun w' hx' => ?_⟩
         obtain ⟨v', hv', h6⟩ := h w' hx'
         obtain ⟨u', hu', h7⟩ := h6 w hx
         rw [hu] at hu'
         injection hu' with hu'
         injection hu' with hu'
         subst hu'
         exact ⟨v', hv', h7⟩
   · simp only [hwj, hwi, if_true, if_false, Bool.false_eq_true] at *
     exact h
 · by_cases hwi : Region.wanted oi (yielded ops a.tmps) = true
   · simp only [hwj, hwi, if_true, if_false, Bool.false_eq_true] at *
     exact h
   · simp only [hwj, hwi, if_false, Bool.false_eq_true] at *
     exact h

theorem pullE {i : Nat} {oi : Oper} (hi : ops[i]? = some oi) (hs : Region.noSelect ops = true) {c2 : List Nat} :
    ∀ (c1 : List Nat), (∀ j ∈ c1, ∃ oj, ops[j]? = some oj ∧ oi.apart ops oj = true) → ∀ E a, wpEI P ops S ws N O (c1 ++ i :: c2) E a → stepE P ops ws O (S i) i oi (wpEI P ops S ws N O (c1 ++ c2)) E a
 | [], _, E, a, h => by simpa [wpEI, hi] using h
 | j :: c1, hc, E, a, h => by
   obtain ⟨oj, hj, hap⟩ := hc j (by simp)
   simp only [List.cons_append, wpEI, hj] at h
   have h' := stepE_mono (fun a => pullE hi hs c1 (fun j hj => hc j (by simp [hj])) E a) (fun v a => pullE hi hs c1 (fun j hj => hc j (by simp [hj])) ((j, v) :: E) a) h
   have h'' := swapE (fun E E' a => wpEI_perm (c1 ++ c2) E E' a) hap (fun cs b => Region.noSelect_spec hs i oi cs b hi) (fun cs b => Region.noSelect_spec hs j oj cs b hj) h'
   refine stepE_mono (fun a hh => ?_) (fun v a hh => ?_) h''
   all_goals
    simp only [List.cons_append, wpEI, hj]
    exact hh

/-- a step that is taken -/
theorem wpOp_of_E {Q : Exit → Act → World → Prop} {i : Nat} {oi : Oper} {R : List (Nat × Value) → Act → Prop} (hi : ops[i]? = some oi) {K : Act → World → Prop} (hO : O → LetsOut Q) {E : List (Nat × Value)} {a : Act} {w : World} (hx : Ext ws w)
    (h : stepE P ops ws O (S i) i oi R E a) (hq : ∀ a', R E a' → K a' w) (hw : ∀ v w', (S i).Good v w w' → R ((i, v) :: E) (a.put oi.dst v) → K (a.put oi.dst v) w') : wpOp P ops Q i K a w := by
 unfold wpOp
 simp only [hi]
 unfold stepE at h
 split
 · rename_i hwt
   rw [if_pos hwt] at h
   refine .inl ?_
   by_cases hW : isW oi = true
   · rw [if_pos hW] at h
     obtain ⟨_, h1, h2⟩ := h
     have h3 := h1 w hx
     unfold Oper.wp
     generalize (execOp a.eval oi).run P w = r at h3
     cases r with
     | halt x w' => exact absurd h3 (by simp [yieldsW])
     | ok n w' =>
       cases n <;> simp only [yieldsW, Oper.upon] at h3 ⊢
       case value v => exact hw _ _ h3 (h2 _ h3.1)
       case skip => exact hw _ _ h3 (h2 _ h3.1)
       case enter f args =>
        refine Calls.mono h3 fun e w'' he => ?_
        cases e with
        | returned u => exact hw _ _ he (h2 _ he.1)
        | panicked c => exact absurd he (by simp)
        | outgrown => exact hO he
       case row row args => exact Rows.mono h3 fun u w'' he => hw _ _ he (h2 _ he.1)
   · rw [if_neg hW] at h
     obtain ⟨v, hr, hk⟩ := h w hx
     unfold Oper.wp
     rw [hr]
     exact hq _ hk
 · rename_i hwt
   rw [if_neg hwt] at h
   exact hq _ h

/-- j stands ahead of i in the order of the heads -/
def pairH (ops : Array Oper) (T : List Nat) (j i : Nat) : Bool :=
 match ops[j]?, ops[i]? with
 | some oj, some oi => !(oj.after.any fun e => Region.binds .any e && e.on == i) && (j != i) && ((T.getD i 0).testBit j || oi.apart ops oj)
 | _, _ => false
def pairsH (ops : Array Oper) (T : List Nat) : List Nat → Bool
 | [] => true
 | x :: rest => rest.all (pairH ops T x) && pairsH ops T rest
theorem pairsH_iff {T : List Nat} : ∀ {c : List Nat}, pairsH ops T c = true ↔ c.Pairwise (fun j i => pairH ops T j i = true)
 | [] => by simp [pairsH]
 | x :: rest => by simp [pairsH, pairsH_iff]

theorem wpAny_of_E {Q : Exit → Act → World → Prop} (hs : Region.noSelect ops = true) (hE : edgesOk ops = true) (hO : O → LetsOut Q) {tail : List (Nat × Nat)}
    (ht : ∀ z ∈ tail, z.2 < ops.size) (hpt : tail.Pairwise (fun j i => pairOk ops (waitTab ops) j i = true)) (hN : ∀ a w, N a w → wpCanI P ops (fun _ _ => True) (fun a w => Q .normal a w) O tail a w) :
    ∀ (n : Nat) (c : List Nat) (listed : Array Bool) (E : List (Nat × Value)) (a : Act) (w : World), c.length = n → listed.size = ops.size →
      c.Pairwise (fun j i => pairH ops (waitTab ops) j i = true) → (∀ x ∈ c, x < ops.size) → (∀ x ∈ c, ∀ z ∈ tail, ((waitTab ops).getD z.2 0).testBit x = true ∧ x ≠ z.2) → (∀ i, i < ops.size → (listed.getD i true = false ↔ (i ∈ c ∨ ∃ z ∈ tail, z.2 = i))) →
      (∀ j oj, ops[j]? = some oj → listed.getD j false = true → ∀ e ∈ oj.after, Region.binds .any e = true → listed.getD e.on false = true) →
      (∀ x ∈ c, ∀ z ∈ tail, ∀ o, ops[x]? = some o → ∀ e ∈ o.after, Region.binds .any e = true → e.on ≠ z.2) →
      Ext ws w → (∀ e ∈ E, (S e.1).Φ e.2 w) → (∀ e ∈ E, ∀ b ∈ (S e.1).fp e.2, ws.heap.size ≤ b ∧ b < w.heap.size) →
      (∀ e ∈ E, ∀ e' ∈ E, e.1 ≠ e'.1 → ∀ b ∈ (S e.1).fp e.2, b ∉ (S e'.1).fp e'.2) → (∀ e ∈ E, e.1 ∉ c) →
      wpEI P ops S ws N O c E a → wpAny P .any ops Q (n + tail.length) listed a w := by
 intro n
 induction n with
 | zero =>
   intro c listed E a w hc hz _ _ _ hl hcl _ hx h1 h2 h3 _ h
   have : c = [] := List.eq_nil_of_length_eq_zero hc
   subst this
   have hN' := hN _ _ (h w hx h1 h2 h3)
   rw [Nat.zero_add]
   exact wpAny_of_can (Kp := fun _ _ => True) (fun _ => trivial) (fun _ _ _ _ _ => trivial) hs hE (N := fun a w => Q .normal a w) (O := O) (fun _ _ h => h) hO tail.length tail listed a w rfl hz hpt ht (fun i hi => by rw [hl i hi]; simp) hcl hN'
 | succ n ih =>
   intro c listed E a w hc hz hp hlt hct hl hcl hno hx h1 h2 h3 h4 h
   have hsucc : n + 1 + tail.length = (n + tail.length) + 1 := by omega
   rw [hsucc]
   refine ⟨fun hr => ?_, fun i hi => ?_⟩
   · exfalso
     match c, hc with
     | x :: rest, _ =>
       have hxlt := hlt x (by simp)
       have hxo : ops[x]? = some ops[x] := Array.getElem?_eq_getElem hxlt
       have hmem : x ∈ Region.ready .any ops listed := by
        rw [mem_ready]
        refine ⟨(hl x hxlt).2 (.inl (by simp)), ops[x], hxo, fun e he hb => ?_⟩
        obtain ⟨hin, hself⟩ := edgesOk_spec hE hxo e he
        have hin' : e.on < listed.size := by omega
        cases hle : listed.getD e.on true with
        | true => simp [hin'] at hle ⊢; exact hle
        | false =>
          rcases (hl e.on hin).1 hle with hy | ⟨z, hz', hze⟩
          · rcases List.mem_cons.1 hy with hy | hy
            · exact absurd hy hself
            · have hpy := List.rel_of_pairwise_cons hp hy
              have hyo : ops[e.on]? = some (ops[e.on]'hin) := Array.getElem?_eq_getElem _
              simp only [pairH, hxo, hyo, Bool.and_eq_true, Bool.not_eq_true'] at hpy
              have hno' := hpy.1.1
              have hyes : (ops[x].after.any fun e' => Region.binds .any e' && e'.on == e.on) = true := Array.any_eq_true'.2 ⟨e, he, by simp [hb]⟩
              rw [hyes] at hno'
              cases hno'
          · exact absurd hze.symm (hno x (by simp) z hz' _ hxo e he hb)
       rw [hr] at hmem
       cases hmem
   · obtain ⟨h0, oi, hoi, hall⟩ := mem_ready.1 hi
     have hilt : i < ops.size := (Array.getElem?_eq_some_iff.1 hoi).1
     have hic : i ∈ c := by
      rcases (hl i hilt).1 h0 with h' | ⟨z, hz', rfl⟩
      · exact h'
      · exfalso
        match c, hc with
        | x :: rest, _ =>
          have hb := (hct x (by simp) z hz').1
          have := await_listed hoi hall hcl (k := x) ((hl x (hlt x (by simp))).2 (.inl (by simp)))
          rw [hb] at this
          cases this
     obtain ⟨c1, c2, rfl⟩ := List.append_of_mem hic
     have hp' := List.pairwise_append.1 hp
     have hsub : (c1 ++ c2).Sublist (c1 ++ i :: c2) := (List.sublist_cons_self _ _).append_left _
     have hpull := pullE (P := P) (S := S) (ws := ws) (N := N) (O := O) hoi hs (c2 := c2) c1 (fun j hj => by
      have hpj := hp'.2.2 j hj i (by simp)
      have hjo : ops[j]? = some (ops[j]'(hlt j (by simp [hj]))) := Array.getElem?_eq_getElem _
      refine ⟨_, hjo, ?_⟩
      simp only [pairH, hjo, hoi, Bool.and_eq_true] at hpj
      have hre := await_listed hoi hall hcl (k := j) ((hl j (hlt j (by simp [hj]))).2 (.inl (by simp [hj])))
      rw [hre] at hpj
      simpa using hpj.2) E a h
     have hxk : ∀ y ∈ c1 ++ c2, y ≠ i := by
      intro y hy heq
      subst heq
      rcases List.mem_append.1 hy with hy | hy
      · have hpj := hp'.2.2 y hy y (by simp)
        simp [pairH, hoi] at hpj
      · have hpj := List.rel_of_pairwise_cons hp'.2.1 hy
        simp [pairH, hoi] at hpj
     have nxt : ∀ (E' : List (Nat × Value)) (a' : Act) (w' : World), Ext ws w' → (∀ e ∈ E', (S e.1).Φ e.2 w') → (∀ e ∈ E', ∀ b ∈ (S e.1).fp e.2, ws.heap.size ≤ b ∧ b < w'.heap.size) →
         (∀ e ∈ E', ∀ e' ∈ E', e.1 ≠ e'.1 → ∀ b ∈ (S e.1).fp e.2, b ∉ (S e'.1).fp e'.2) → (∀ e ∈ E', e.1 ∉ c1 ++ c2) → wpEI P ops S ws N O (c1 ++ c2) E' a' → wpAny P .any ops Q (n + tail.length) (listed.setIfInBounds i true) a' w' := by
      intro E' a' w' g1 g2 g3 g4 g5 g6
      refine ih (c1 ++ c2) (listed.setIfInBounds i true) E' a' w' (by simp at hc ⊢; omega) (by simpa using hz) (hp.sublist hsub) (fun y hy => hlt y (hsub.subset hy)) (fun x hx => hct x (hsub.subset hx)) (fun k hk => ?_) (closed_step hoi hall hcl) (fun x hx => hno x (hsub.subset hx)) g1 g2 g3 g4 g5 g6
      by_cases hki : k = i
      · subst hki
        constructor
        · intro hg
          simp [hz, hk] at hg
        · rintro (hy | ⟨z, hz', hze⟩)
          · exact absurd rfl (hxk k hy)
          · exact absurd hze.symm (hct k (by simp) z hz').2
      · rw [getD_set_ne true (Ne.symm hki), hl k hk]
        constructor
        · rintro (hy | hy)
          · left
            simp only [List.mem_append, List.mem_cons] at hy ⊢
            rcases hy with hy | rfl | hy
            · exact .inl hy
            · exact absurd rfl hki
            · exact .inr hy
          · exact .inr hy
        · rintro (hy | hy)
          · exact .inl (hsub.subset hy)
          · exact .inr hy
     refine wpOp_of_E hoi hO hx hpull (fun a' hR => nxt E a' w hx h1 h2 h3 (fun e he hm => h4 e he (hsub.subset hm)) hR) (fun v w' hg hR => ?_)
     obtain ⟨gφ, gΦ, gx, gf⟩ := hg
     refine nxt _ _ w' (hx.trans gx) (fun e he => ?_) (fun e he b hb => ?_) (fun e he e' he' hne b hb => ?_) (fun e he hm => ?_) hR
     · rcases List.mem_cons.1 he with rfl | he
       · exact gΦ
       · exact (S e.1).mono _ _ _ gx (h1 e he)
     · rcases List.mem_cons.1 he with rfl | he
       · have := gf b hb
         have := hx.size
         omega
       · have := h2 e he b hb
         have := gx.size
         omega
     · rcases List.mem_cons.1 he with rfl | he
       · rcases List.mem_cons.1 he' with rfl | he'
         · exact absurd rfl hne
         · intro hb'
           have := gf b hb
           have := h2 e' he' b hb'
           omega
       · rcases List.mem_cons.1 he' with rfl | he'
         · intro hb'
           have := gf b hb'
           have := h2 e he b hb
           omega
         · exact h3 e he e' he' hne b hb
     · rcases List.mem_cons.1 he with rfl | he
       · exact hxk _ hm rfl
       · exact h4 e he (hsub.subset hm)

/-- heads and tail are all operations; the heads are in an order that Go allows; each of the tail waits for all heads -/
def eB (ops : Array Oper) (c tail : List Nat) : Bool :=
 Region.noSelect ops && edgesOk ops && pairsH ops (waitTab ops) c && pairsOk ops (waitTab ops) (tail.map fun i => (0, i)) && c.all (fun x => decide (x < ops.size)) && tail.all (fun x => decide (x < ops.size)) &&
 c.all (fun x => tail.all fun z => ((waitTab ops).getD z 0).testBit x && x != z) &&
 c.all (fun x => tail.all fun z => match ops[x]? with | some o => o.after.all fun e => !Region.binds .any e || e.on != z | none => true) &&
 decide (c.length + tail.length = ops.size) && (List.range ops.size).all fun i => c.contains i || tail.contains i

end
section
variable {P : Program} {Q : Exit → Act → World → Prop} {a : Act} {w : World}
theorem wp_region_e0 {id : Nat} {l : List Oper} (S : Nat → Sp) (c tail : List Nat) (hm : P.follows .mixedOrders = true) (hB : eB l.toArray c tail = true)
    (h : ∀ K : Act → World → Prop, (∀ a w, wpCanI P l.toArray (fun _ _ => True) (fun a w => Q .normal a w) (LetsOut Q) (tail.map fun i => (0, i)) a w → K a w) → wpEI P l.toArray S w.drew K (LetsOut Q) c [] a) : (Code.region id l.toArray true).wp P Q a w := by
 simp only [eB, Bool.and_eq_true, decide_eq_true_eq] at hB
 obtain ⟨⟨⟨⟨⟨⟨⟨⟨⟨hs, hE⟩, hp⟩, hpt⟩, hlt⟩, hltt⟩, hct⟩, hno⟩, hlen⟩, hall⟩ := hB
 refine wp_region_any hm ?_
 have hsz : l.toArray.size = c.length + (tail.map fun i => (0, i)).length := by simp at hlen ⊢; omega
 rw [hsz]
 refine wpAny_of_E (S := S) (ws := w.drew) (N := fun a w => wpCanI P l.toArray (fun _ _ => True) (fun a w => Q .normal a w) (LetsOut Q) (tail.map fun i => (0, i)) a w) (O := LetsOut Q) hs hE (fun h => h) (tail := tail.map fun i => (0, i)) (fun z hz => ?_) (pairsOk_iff.1 hpt) (fun _ _ h => h) c.length c _ [] a _ rfl (by simp at hlen ⊢; omega) (pairsH_iff.1 hp) (fun x hx => by simpa using List.all_eq_true.1 hlt x hx) (fun x hx z hz => ?_) (fun i hi => ?_) (fun j oj hj hl => ?_) (fun x hx z hz o ho e he hb => ?_) (Ext.refl _) (by simp) (by simp) (by simp) (by simp) (h _ fun _ _ h => h)
 · obtain ⟨i, hi, rfl⟩ := List.mem_map.1 hz
   simpa using List.all_eq_true.1 hltt i hi
 · obtain ⟨i, hi, rfl⟩ := List.mem_map.1 hz
   have := List.all_eq_true.1 (List.all_eq_true.1 hct x hx) i hi
   simpa using this
 · have h1 := List.all_eq_true.1 hall i (List.mem_range.2 hi)
   have hi2 : i < c.length + tail.length := by omega
   constructor
   · intro _
     simp only [Bool.or_eq_true, List.contains_iff_mem] at h1
     rcases h1 with h1 | h1
     · exact .inl h1
     · exact .inr ⟨(0, i), List.mem_map.2 ⟨i, h1, rfl⟩, rfl⟩
   · intro _
     simp [hi2]
 · exfalso
   have hj' : j < l.length := by simpa using (Array.getElem?_eq_some_iff.1 hj).1
   have hj2 : j < c.length + tail.length := by rw [hlen]; simpa using hj'
   simp [hj2] at hl
 · obtain ⟨i, hi, rfl⟩ := List.mem_map.1 hz
   have := List.all_eq_true.1 (List.all_eq_true.1 hno x hx) i hi
   rw [ho] at this
   have := Array.all_eq_true_iff_forall_mem.1 this e he
   rw [hb] at this
   simpa using this

/-- the walk over the heads, with their numbers -/
def wpE (P : Program) (ops : Array Oper) (S : Nat → Sp) (ws : World) (N : Act → World → Prop) (O : Prop) : List (Nat × Oper) → List (Nat × Value) → Act → Prop
 | [], E, a => EndE S ws N E a
 | x :: rest, E, a => stepE P ops ws O (S x.1) x.1 x.2 (wpE P ops S ws N O rest) E a
def pickE (l : List Oper) : List Nat → List (Nat × Oper)
 | [] => []
 | i :: is => match l[i]? with
   | some o => (i, o) :: pickE l is
   | none => pickE l is
theorem wpEI_of_E {S : Nat → Sp} {ws : World} {N : Act → World → Prop} {O : Prop} (l : List Oper) : ∀ (c : List Nat) (E : List (Nat × Value)) (a : Act), wpE P l.toArray S ws N O (pickE l c) E a → wpEI P l.toArray S ws N O c E a
 | [], _, _, h => h
 | i :: is, E, a, h => by
   cases hi : l[i]? with
   | none =>
     simp only [pickE, hi] at h
     simp only [wpEI, List.getElem?_toArray, hi]
     exact wpEI_of_E l is E a h
   | some o =>
     simp only [pickE, hi, wpE] at h
     simp only [wpEI, List.getElem?_toArray, hi]
     exact stepE_mono (fun a => wpEI_of_E l is E a) (fun v a => wpEI_of_E l is _ a) h
/-- the walk over the tail -/
theorem tail_eq (l : List Oper) : ∀ (is : List Nat), (is.map fun i => ((0 : Nat), i)).filterMap (fun x : Nat × Nat => (l[x.2]?).map fun o => (x.1, o)) = inText (pickL l is)
 | [] => rfl
 | i :: is => by
   have hr := tail_eq l is
   cases hi : l[i]? with
   | none => simp only [List.map_cons, List.filterMap_cons, hi, Option.map_none, pickL, hr]
   | some o => simp only [List.map_cons, List.filterMap_cons, hi, Option.map_some, pickL, inText, hr]
theorem wp_region_e {id : Nat} {l : List Oper} (S : Nat → Sp) (c tail : List Nat) (hm : P.follows .mixedOrders = true) (hB : eB l.toArray c tail = true)
    (h : ∀ (K : Act → World → Prop) (ws : World), ws = w.drew → (∀ a w, wpTxt P l.toArray (fun a w => Q .normal a w) (LetsOut Q) (pickL l tail) a w → K a w) → wpE P l.toArray S ws K (LetsOut Q) (pickE l c) [] a) : (Code.region id l.toArray true).wp P Q a w :=
 wp_region_e0 S c tail hm hB fun K hK => wpEI_of_E l c [] a (h K _ rfl fun a w h' => hK a w (wpCanI_eq _ l rfl _ a w (by rw [tail_eq]; exact h')))
end
section
variable {P : Program} {ops : Array Oper} {S : Nat → Sp} {ws : World} {N : Act → World → Prop} {O : Prop} {l : List (Nat × Oper)} {E : List (Nat × Value)} {a : Act} {j : Nat} {o : Oper}
theorem wpE_qg (hW : isW o = false) (hg : Region.wanted o (yielded ops a.tmps) = true) (h : ∀ w, Ext ws w → ∀ K : Act → World → Prop, (∀ a', wpE P ops S ws N O l E a' → K a' w) → o.wp P a w K (canQ O)) : wpE P ops S ws N O ((j, o) :: l) E a := by
 show stepE P ops ws O (S j) j o (wpE P ops S ws N O l) E a
 unfold stepE
 rw [if_pos hg, if_neg (by simp [hW])]
 intro w hx
 have h1 := h w hx (fun a' w' => w' = w ∧ wpE P ops S ws N O l E a') (fun a' ha => ⟨rfl, ha⟩)
 unfold Oper.wp at h1
 cases hr : (execOp a.eval o).run P w with
 | halt x w' =>
   rw [hr] at h1
   cases x <;> simp [Oper.upon, canQ] at h1
 | ok n w' =>
   obtain ⟨v, rfl⟩ := quiet_value hW hr
   rw [hr] at h1
   obtain ⟨rfl, h2⟩ := h1
   exact ⟨v, rfl, h2⟩
theorem wpE_q (hW : isW o = false) (hg : o.guard = none) (h : ∀ w, Ext ws w → ∀ K : Act → World → Prop, (∀ a', wpE P ops S ws N O l E a' → K a' w) → o.wp P a w K (canQ O)) : wpE P ops S ws N O ((j, o) :: l) E a := wpE_qg hW (by simp [Region.wanted, hg]) h
theorem wpE_no (hg : Region.wanted o (yielded ops a.tmps) = false) (h : wpE P ops S ws N O l E (a.put o.dst undef)) : wpE P ops S ws N O ((j, o) :: l) E a := by
 show stepE P ops ws O (S j) j o (wpE P ops S ws N O l) E a
 unfold stepE
 rw [if_neg (by simp [hg])]
 exact h
theorem wpE_s (hW : isW o = false) (h : ∀ w, Ext ws w → ∀ K : Act → World → Prop, (∀ a', wpE P ops S ws N O l E a' → K a' w) → if Region.wanted o (yielded ops a.tmps) = true then o.wp P a w K (canQ O) else K (a.put o.dst undef) w) : wpE P ops S ws N O ((j, o) :: l) E a := by
 by_cases hw : Region.wanted o (yielded ops a.tmps) = true
 · exact wpE_qg hW hw fun w hx K hK => by have := h w hx K hK; rwa [if_pos hw] at this
 · have h1 := h ws (Ext.refl _) (fun a' w' => wpE P ops S ws N O l E a') (fun a' h' => h')
   rw [if_neg hw] at h1
   exact wpE_no (by simpa using hw) h1
/-- an operation that adds to the world -/
theorem wpE_w (s : Sp) (d : Nat) (hS : S j = s) (hW : isW o = true) (hg : Region.wanted o (yielded ops a.tmps) = true) (hd : o.dst = some d) (hsz : decide (d < a.tmps.size) = true) (h0 : ∃ v, s.φ v)
    (h1 : ∀ w, Ext ws w → ∀ K : Act → World → Prop, (∀ v w', s.Good v w w' → K (a.put o.dst v) w') → o.wp P a w K (canQ O)) (h2 : ∀ v, s.φ v → wpE P ops S ws N O l ((j, v) :: E) (a.put o.dst v)) : wpE P ops S ws N O ((j, o) :: l) E a := by
 show stepE P ops ws O (S j) j o (wpE P ops S ws N O l) E a
 have hsz' : d < a.tmps.size := by simpa using hsz
 have inj : ∀ v v', a.put o.dst v = a.put o.dst v' → v = v' := by
  intro v v' he
  rw [hd] at he
  have : (a.put (some d) v).tmps[d]? = (a.put (some d) v').tmps[d]? := by rw [he]
  simpa [Act.put, hsz'] using this
 unfold stepE
 rw [if_pos hg, if_pos hW, hS]
 refine ⟨h0, fun w hx => ?_, h2⟩
 have h3 := h1 w hx (fun a' w' => ∃ v, a' = a.put o.dst v ∧ s.Good v w w') (fun v w' hg' => ⟨v, rfl, hg'⟩)
 unfold Oper.wp at h3
 generalize (execOp a.eval o).run P w = r at h3
 cases r with
 | halt x w' => cases x <;> simp only [Oper.upon] at h3 <;> first | exact h3.elim | (simp [canQ] at h3)
 | ok n w' =>
   cases n <;> simp only [Oper.upon] at h3
   case value v => obtain ⟨v', e, hgd⟩ := h3; rw [← inj _ _ e] at hgd; exact hgd
   case skip => obtain ⟨v', e, hgd⟩ := h3; rw [← inj _ _ e] at hgd; exact hgd
   case defer dd =>
    obtain ⟨v', e, hgd⟩ := h3
    exfalso
    have : ({ a with defers := dd :: a.defers } : Act).defers = a.defers := by
     have h4 := congrArg Act.defers e
     rw [hd] at h4
     simp only [Act.put] at h4; exact h4
    have := congrArg List.length this
    simp at this
   case enter f args =>
    refine Calls.mono h3 fun e w'' he => ?_
    cases e with
    | returned u => obtain ⟨v', e, hgd⟩ := he; rw [← inj _ _ e] at hgd; exact hgd
    | panicked c => simp [canQ] at he
    | outgrown => obtain ⟨_, _, ho⟩ := he; exact ho.2
   case row row args => exact Rows.mono h3 fun u w'' he => by obtain ⟨v', e, hgd⟩ := he; rw [← inj _ _ e] at hgd; exact hgd
/-- the end of the heads -/
theorem wpE_nil (h : ∀ w, Ext ws w → (∀ e ∈ E, (S e.1).Φ e.2 w) → (∀ e ∈ E, ∀ b ∈ (S e.1).fp e.2, ws.heap.size ≤ b ∧ b < w.heap.size) →
    (∀ e ∈ E, ∀ e' ∈ E, e.1 ≠ e'.1 → ∀ b ∈ (S e.1).fp e.2, b ∉ (S e'.1).fp e'.2) → N a w) : wpE P ops S ws N O [] E a := h
end

/-- the specifications of some operations, by their numbers -/
def spOf : List (Nat × Sp) → Nat → Sp
 | [], _ => default
 | (k, s) :: l, j => if j = k then s else spOf l j
/-- a value that is known -/
def spVal (v0 : Value) : Sp := { φ := fun v => v = v0 }
def blkAt (t : TypeId) (cs : Array Value) (v : Value) (w : World) : Prop := match v with | .pointer (some p) => Blk w p.block t cs | _ => True
def blkOf (v : Value) : List Nat := match v with | .pointer (some p) => [p.block] | _ => []
/-- a new block -/
def spNew (t : TypeId) (cs : Array Value) : Sp :=
 { φ := fun v => ∃ b, v = .pointer (some ⟨b, 0, none⟩), Φ := blkAt t cs, fp := blkOf,
   mono := fun v w w' hx h => by
    unfold blkAt at *
    split at h
    · exact Blk.low h hx
    · exact h }
theorem good_new (t : TypeId) (cs : Array Value) (w : World) : (spNew t cs).Good (.pointer (some ⟨w.heap.size, 0, none⟩)) w (w.alloc (.cells cs t)) :=
 ⟨⟨_, rfl⟩, Blk.fresh w t cs, Ext.alloc w _, fun b hb => by
  have : b = w.heap.size := by simpa [spNew, blkOf] using hb
  subst this
  simp⟩
theorem good_val {v : Value} {w w' : World} (h : Ext w w') : (spVal v).Good v w w' := ⟨rfl, trivial, h, fun b hb => by cases hb⟩
end Go.Proofs.Ytbobbbhgdfapjaa
