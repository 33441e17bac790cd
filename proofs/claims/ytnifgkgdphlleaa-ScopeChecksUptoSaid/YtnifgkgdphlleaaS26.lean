/- C8 -/
import Derived.Test.YtnifgkgdphlleaaS2
set_option linter.unusedSimpArgs false
set_option linter.unusedVariables false
namespace Go.Proofs.Ytnifgkgdphlleaa
open Go.RowKit Tk
/-- the blocks of ws are as they were -/
def KE (ws w w' : World) : Prop := Ext ws w → Ext ws w'
theorem KE.refl (ws w : World) : KE ws w w := fun h => h
theorem KE.trans {ws : World} (a b c : World) (h : KE ws a b) (k : KE ws b c) : KE ws a c := fun e => k (h e)
theorem KE.but {ws w w' : World} {X : Nat} (hb : But X w w') (hX : ws.heap.size ≤ X) : KE ws w w' := fun e =>
  ⟨hb.os.trans e.os, hb.tape.trans e.tape, hb.output.trans e.output, Nat.le_trans e.size hb.size, fun k hk => (hb.block k (Nat.lt_of_lt_of_le hk e.size) (by omega)).trans (e.block k hk)⟩
section
variable {P : Program} {ops : Array Oper} {S : Nat → Sp} {ws : World} {N : Act → World → Prop} {O : Prop} {mk : Nat → Bool}
/-- a step that yields one value in all worlds -/
def stepL (P : Program) (ops : Array Oper) (ws : World) (o : Oper) (R : List (Nat × Value) → Act → Prop) (E : List (Nat × Value)) (a : Act) : Prop :=
  if Region.wanted o (yielded ops a.tmps) = true then ∃ v, (∀ w, Ext ws w → (execOp a.eval o).run P w = .ok (.value v) w) ∧ R E (a.put o.dst v) else R E (a.put o.dst undef)
/-- a step; that of a marked operation yields one value in all worlds -/
def stepM (mk : Nat → Bool) (P : Program) (ops : Array Oper) (ws : World) (O : Prop) (s : Sp) (j : Nat) (o : Oper) (R : List (Nat × Value) → Act → Prop) (E : List (Nat × Value)) (a : Act) : Prop :=
  if mk j = true ∧ isW o = false then
    stepL P ops ws o R E a
  else stepE P ops ws O s j o R E a
theorem stepM_l {s : Sp} {j : Nat} {o : Oper} {R : List (Nat × Value) → Act → Prop} (h : mk j = true ∧ isW o = false) : stepM mk P ops ws O s j o R = stepL P ops ws o R := by funext E a; unfold stepM; rw [if_pos h]
theorem stepM_e {s : Sp} {j : Nat} {o : Oper} {R : List (Nat × Value) → Act → Prop} (h : ¬ (mk j = true ∧ isW o = false)) : stepM mk P ops ws O s j o R = stepE P ops ws O s j o R := by funext E a; unfold stepM; rw [if_neg h]
def wpMI (mk : Nat → Bool) (P : Program) (ops : Array Oper) (S : Nat → Sp) (ws : World) (N : Act → World → Prop) (O : Prop) : List Nat → List (Nat × Value) → Act → Prop
  | [], E, a => EndE S ws N E a
  | j :: rest, E, a => match ops[j]? with
    | none => wpMI mk P ops S ws N O rest E a
    | some o => stepM mk P ops ws O (S j) j o (wpMI mk P ops S ws N O rest) E a
theorem stepM_mono {s : Sp} {j : Nat} {o : Oper} {R R' : List (Nat × Value) → Act → Prop} {E E' : List (Nat × Value)} {a : Act} (h : ∀ a, R E a → R' E' a) (h2 : ∀ v a, R ((j, v) :: E) a → R' ((j, v) :: E') a) (hh : stepM mk P ops ws O s j o R E a) : stepM mk P ops ws O s j o R' E' a := by
  unfold stepM at *
  split
  · rename_i hm
    rw [if_pos hm] at hh
    unfold stepL at *
    split
    · rename_i hw
      rw [if_pos hw] at hh
      obtain ⟨v, h1, h3⟩ := hh
      exact ⟨v, h1, h _ h3⟩
    · rename_i hw
      rw [if_neg hw] at hh
      exact h _ hh
  · rename_i hm
    rw [if_neg hm] at hh
    exact stepE_mono h h2 hh
theorem stepE_of_M {s : Sp} {j : Nat} {o : Oper} {R : List (Nat × Value) → Act → Prop} {E : List (Nat × Value)} {a : Act} (h : stepM mk P ops ws O s j o R E a) : stepE P ops ws O s j o R E a := by
  unfold stepM at h
  split at h
  · rename_i hm
    unfold stepE
    unfold stepL at h
    split at h
    · rename_i hw
      rw [if_pos hw, if_neg (by simp [hm.2])]
      obtain ⟨v, h1, h2⟩ := h
      exact fun w hx => ⟨v, h1 w hx, h2⟩
    · rename_i hw
      rw [if_neg hw]; exact h
  · exact h
theorem wpMI_perm : ∀ (c : List Nat) (E E' : List (Nat × Value)) (a : Act), (∀ e, e ∈ E ↔ e ∈ E') → wpMI mk P ops S ws N O c E a → wpMI mk P ops S ws N O c E' a
  | [], E, E', a, hE, h => fun w hx h1 h2 h3 => h w hx (fun e he => h1 e ((hE e).1 he)) (fun e he => h2 e ((hE e).1 he)) (fun e he e' he' => h3 e ((hE e).1 he) e' ((hE e').1 he'))
  | j :: rest, E, E', a, hE, h => by
    unfold wpMI at *
    split at h
    · exact wpMI_perm rest E E' a hE h
    · exact stepM_mono (fun a => wpMI_perm rest E E' a hE) (fun v a => wpMI_perm rest _ _ a (by intro e; simp only [List.mem_cons, hE])) h
theorem swapM {R : List (Nat × Value) → Act → Prop} (hR : ∀ E E' a, (∀ e, e ∈ E ↔ e ∈ E') → R E a → R E' a) {si sj : Sp} {i j : Nat} {oi oj : Oper} (hap : oi.apart ops oj = true) (hsi : ∀ cs b, oi.op ≠ .select cs b) (hsj : ∀ cs b, oj.op ≠ .select cs b)
    {E : List (Nat × Value)} {a : Act} (h : stepM mk P ops ws O sj j oj (stepM mk P ops ws O si i oi R) E a) : stepM mk P ops ws O si i oi (stepM mk P ops ws O sj j oj R) E a := by
  obtain ⟨h1, h2, h3⟩ := Oper.apart_spec hap
  have wi : ∀ v, Region.wanted oi (yielded ops (a.put oj.dst v).tmps) = Region.wanted oi (yielded ops a.tmps) := fun v => wanted_put oi a oj.dst v h3
  have ei : ∀ v, execOp (a.put oj.dst v).eval oi = execOp a.eval oi := fun v => execOp_put oi hsi a oj.dst v h3
  have wj : ∀ v, Region.wanted oj (yielded ops (a.put oi.dst v).tmps) = Region.wanted oj (yielded ops a.tmps) := fun v => wanted_put oj a oi.dst v h1
  have ej : ∀ v, execOp (a.put oi.dst v).eval oj = execOp a.eval oj := fun v => execOp_put oj hsj a oi.dst v h1
  have cm : ∀ u v, (a.put oj.dst v).put oi.dst u = (a.put oi.dst u).put oj.dst v := fun u v => (Act.put_comm a u v h2).symm
  by_cases hmj : mk j = true ∧ isW oj = false
  · by_cases hmi : mk i = true ∧ isW oi = false
    · rw [stepM_l hmj, stepM_l hmi] at h
      rw [stepM_l hmj, stepM_l hmi]
      simp only [stepL, wi, ei, wj, ej, cm] at *
      by_cases hwj : Region.wanted oj (yielded ops a.tmps) = true
      · by_cases hwi : Region.wanted oi (yielded ops a.tmps) = true
        · simp only [hwj, hwi, if_true] at *
          obtain ⟨v, g1, u, g2, g3⟩ := h
          exact ⟨u, g2, v, g1, g3⟩
        · simp only [hwj, hwi, if_true, if_false, Bool.false_eq_true] at *
          exact h
      · by_cases hwi : Region.wanted oi (yielded ops a.tmps) = true
        · simp only [hwj, hwi, if_true, if_false, Bool.false_eq_true] at *
          exact h
        · simp only [hwj, hwi, if_false, Bool.false_eq_true] at *
          exact h
    · rw [stepM_l hmj, stepM_e hmi] at h
      rw [stepM_l hmj, stepM_e hmi]
      simp only [stepL, stepE, wi, ei, wj, ej, cm] at *
      by_cases hwj : Region.wanted oj (yielded ops a.tmps) = true
      · by_cases hwi : Region.wanted oi (yielded ops a.tmps) = true
        · by_cases hWi : isW oi = true
          · simp only [hwj, hwi, hWi, if_true] at *
            obtain ⟨v, g1, g2, g3, g4⟩ := h
            exact ⟨g2, g3, fun u hu => ⟨v, g1, g4 u hu⟩⟩
          · simp only [hwj, hwi, hWi, if_true, if_false, Bool.false_eq_true] at *
            obtain ⟨v, g1, g2⟩ := h
            intro w hx
            obtain ⟨u, g3, g4⟩ := g2 w hx
            exact ⟨u, g3, v, g1, g4⟩
        · simp only [hwj, hwi, if_true, if_false, Bool.false_eq_true] at *
          exact h
      · by_cases hwi : Region.wanted oi (yielded ops a.tmps) = true
        · simp only [hwj, hwi, if_true, if_false, Bool.false_eq_true] at *
          exact h
        · simp only [hwj, hwi, if_false, Bool.false_eq_true] at *
          exact h
  · by_cases hmi : mk i = true ∧ isW oi = false
    · rw [stepM_e hmj, stepM_l hmi] at h
      rw [stepM_e hmj, stepM_l hmi]
      simp only [stepL, stepE, wi, ei, wj, ej, cm] at *
      by_cases hwj : Region.wanted oj (yielded ops a.tmps) = true
      · by_cases hwi : Region.wanted oi (yielded ops a.tmps) = true
        · by_cases hWj : isW oj = true
          · simp only [hwj, hwi, hWj, if_true] at *
            obtain ⟨⟨v0, hv0⟩, s1, s2⟩ := h
            obtain ⟨u, g2, g3⟩ := s2 v0 hv0
            refine ⟨u, g2, ⟨v0, hv0⟩, s1, fun v hv => ?_⟩
            obtain ⟨u', g2', g3'⟩ := s2 v hv
            have e1 := g2 ws (Ext.refl ws)
            rw [g2' ws (Ext.refl ws)] at e1
            injection e1 with e1
            injection e1 with e1
            subst e1
            exact g3'
          · simp only [hwj, hwi, hWj, if_true, if_false, Bool.false_eq_true] at *
            obtain ⟨v0, _, u, g2, g3⟩ := h ws (Ext.refl ws)
            refine ⟨u, g2, fun w hx => ?_⟩
            obtain ⟨v, g4, u', g2', g3'⟩ := h w hx
            have e1 := g2 ws (Ext.refl ws)
            rw [g2' ws (Ext.refl ws)] at e1
            injection e1 with e1
            injection e1 with e1
            subst e1
            exact ⟨v, g4, g3'⟩
        · simp only [hwj, hwi, if_true, if_false, Bool.false_eq_true] at *
          exact h
      · by_cases hwi : Region.wanted oi (yielded ops a.tmps) = true
        · simp only [hwj, hwi, if_true, if_false, Bool.false_eq_true] at *
          exact h
        · simp only [hwj, hwi, if_false, Bool.false_eq_true] at *
          exact h
    · rw [stepM_e hmj, stepM_e hmi] at h
      rw [stepM_e hmj, stepM_e hmi]
      exact swapE hR hap hsi hsj h
theorem pullM {i : Nat} {oi : Oper} (hi : ops[i]? = some oi) (hs : Region.noSelect ops = true) {c2 : List Nat} :
    ∀ (c1 : List Nat), (∀ j ∈ c1, ∃ oj, ops[j]? = some oj ∧ oi.apart ops oj = true) → ∀ E a, wpMI mk P ops S ws N O (c1 ++ i :: c2) E a → stepM mk P ops ws O (S i) i oi (wpMI mk P ops S ws N O (c1 ++ c2)) E a
  | [], _, E, a, h => by simpa [wpMI, hi] using h
  | j :: c1, hc, E, a, h => by
    obtain ⟨oj, hj, hap⟩ := hc j (by simp)
    simp only [List.cons_append, wpMI, hj] at h
    have h' := stepM_mono (fun a => pullM hi hs c1 (fun j hj => hc j (by simp [hj])) E a) (fun v a => pullM hi hs c1 (fun j hj => hc j (by simp [hj])) ((j, v) :: E) a) h
    have h'' := swapM (fun E E' a => wpMI_perm (c1 ++ c2) E E' a) hap (fun cs b => Region.noSelect_spec hs i oi cs b hi) (fun cs b => Region.noSelect_spec hs j oj cs b hj) h'
    refine stepM_mono (fun a hh => ?_) (fun v a hh => ?_) h''
    all_goals
      simp only [List.cons_append, wpMI, hj]
      exact hh
def tgM (mk : Nat → Bool) (i : Nat) : Nat × Nat := (if mk i = true then 2 else 0, i)
theorem can_of_M {Q : Exit → Act → World → Prop} {tail : List (Nat × Nat)} {w : World} {c0 : List Nat} (hq : ∀ x ∈ c0, ∀ o, ops[x]? = some o → isW o = false) (hx : Ext ws w) (hN : ∀ a w, Ext ws w → N a w → wpCanI P ops (KE ws) (fun a w => Q .normal a w) O tail a w)
    {E : List (Nat × Value)} (h1 : ∀ e ∈ E, (S e.1).Φ e.2 w) (h2 : ∀ e ∈ E, ∀ b ∈ (S e.1).fp e.2, ws.heap.size ≤ b ∧ b < w.heap.size) (h3 : ∀ e ∈ E, ∀ e' ∈ E, e.1 ≠ e'.1 → ∀ b ∈ (S e.1).fp e.2, b ∉ (S e'.1).fp e'.2) :
    ∀ (a : Act), wpMI mk P ops S ws N O c0 E a → wpCanI P ops (KE ws) (fun a w => Q .normal a w) O ((c0.map (tgM mk)) ++ tail) a w := by
  induction c0 with
  | nil => intro a h; exact hN _ _ hx (h w hx h1 h2 h3)
  | cons j c ih =>
    intro a h
    have ih' := ih fun x hx' => hq x (by simp [hx'])
    simp only [wpMI] at h
    simp only [List.map_cons, List.cons_append, wpCanI, tgM]
    cases ho : ops[j]? with
    | none => rw [ho] at h; exact ih' a h
    | some o =>
      rw [ho] at h
      have hW := hq j (by simp) o ho
      simp only [stepM] at h
      simp only [canStep, hW, Bool.false_eq_true, if_false]
      by_cases hm : mk j = true
      · rw [if_pos ⟨hm, hW⟩] at h
        rw [if_pos hm]
        unfold stepL at h
        split
        · rename_i hw
          rw [if_pos hw] at h
          obtain ⟨v, hr, hR⟩ := h
          exact ⟨v, fun w' hk => hr w' (hk hx), ih' _ hR⟩
        · rename_i hw
          rw [if_neg hw] at h
          exact ih' _ h
      · rw [if_neg (by simp [hm])] at h
        rw [if_neg hm]
        simp only [stepE, hW, Bool.false_eq_true, if_false] at h
        split
        · rename_i hw
          rw [if_pos hw] at h
          obtain ⟨v, hr, hR⟩ := h w hx
          exact ⟨v, hr, ih' _ hR⟩
        · rename_i hw
          rw [if_neg hw] at h
          exact ih' _ h
theorem wpAny_of_M (fr : Nat → Bool) {Q : Exit → Act → World → Prop} (hs : Region.noSelect ops = true) (hE : edgesOk ops = true) (hO : O → LetsOut Q) {tail : List (Nat × Nat)}
    (ht : ∀ z ∈ tail, z.2 < ops.size) (hpt : tail.Pairwise (fun j i => pairOk ops (waitTab ops) j i = true)) (hN : ∀ a w, Ext ws w → N a w → wpCanI P ops (KE ws) (fun a w => Q .normal a w) O tail a w) :
    ∀ (n : Nat) (c : List Nat) (listed : Array Bool) (E : List (Nat × Value)) (a : Act) (w : World), c.length = n → listed.size = ops.size →
      c.Pairwise (fun j i => pairH ops (waitTab ops) j i = true) → (∀ x ∈ c, x < ops.size) → (∀ x ∈ c, ∀ z ∈ tail, (((waitTab ops).getD z.2 0).testBit x = true ∨ fr x = true) ∧ x ≠ z.2) → (∀ x ∈ c, fr x = true → (∀ o, ops[x]? = some o → isW o = false) ∧ ∀ z ∈ tail, pairOk ops (waitTab ops) (tgM mk x) z = true) → (∀ i, i < ops.size → (listed.getD i true = false ↔ (i ∈ c ∨ ∃ z ∈ tail, z.2 = i))) →
      (∀ j oj, ops[j]? = some oj → listed.getD j false = true → ∀ e ∈ oj.after, Region.binds .any e = true → listed.getD e.on false = true) →
      (∀ x ∈ c, ∀ z ∈ tail, ∀ o, ops[x]? = some o → ∀ e ∈ o.after, Region.binds .any e = true → e.on ≠ z.2) →
      Ext ws w → (∀ e ∈ E, (S e.1).Φ e.2 w) → (∀ e ∈ E, ∀ b ∈ (S e.1).fp e.2, ws.heap.size ≤ b ∧ b < w.heap.size) →
      (∀ e ∈ E, ∀ e' ∈ E, e.1 ≠ e'.1 → ∀ b ∈ (S e.1).fp e.2, b ∉ (S e'.1).fp e'.2) → (∀ e ∈ E, e.1 ∉ c) →
      wpMI mk P ops S ws N O c E a → wpAny P .any ops Q (n + tail.length) listed a w := by
  intro n
  induction n with
  | zero =>
    intro c listed E a w hc hz _ _ _ _ hl hcl _ hx h1 h2 h3 _ h
    have : c = [] := List.eq_nil_of_length_eq_zero hc
    subst this
    have hN' := hN _ _ hx (h w hx h1 h2 h3)
    rw [Nat.zero_add]
    exact wpAny_of_can (Kp := KE ws) (KE.refl ws) (KE.trans) hs hE (N := fun a w => Q .normal a w) (O := O) (fun _ _ h => h) hO tail.length tail listed a w rfl hz hpt ht (fun i hi => by rw [hl i hi]; simp) hcl hN'
  | succ n ih =>
    intro c listed E a w hc hz hp hlt hct hfr hl hcl hno hx h1 h2 h3 h4 h
    by_cases hall : ∀ x ∈ c, fr x = true
    · have hlen : ((c.map (tgM mk)) ++ tail).length = n + 1 + tail.length := by rw [List.length_append, List.length_map, hc]
      refine wpAny_of_can (Kp := KE ws) (KE.refl ws) (KE.trans) hs hE (N := fun a w => Q .normal a w) (O := O) (fun _ _ h => h) hO _ ((c.map (tgM mk)) ++ tail) listed a w hlen hz ?_ ?_ ?_ hcl ?_
      · refine List.pairwise_append.2 ⟨?_, hpt, ?_⟩
        · rw [List.pairwise_map]
          refine (List.pairwise_iff_forall_sublist.2 fun {x y} hxy => ?_)
          have hpy := List.pairwise_iff_forall_sublist.1 hp hxy
          have hxm : x ∈ c := hxy.subset (by simp)
          have hym : y ∈ c := hxy.subset (by simp)
          have hxo : ops[x]? = some (ops[x]'(hlt x hxm)) := Array.getElem?_eq_getElem _
          have hyo : ops[y]? = some (ops[y]'(hlt y hym)) := Array.getElem?_eq_getElem _
          have w1 := (hfr x hxm (hall x hxm)).1 _ hxo
          have w2 := (hfr y hym (hall y hym)).1 _ hyo
          simp only [pairH, hxo, hyo, Bool.and_eq_true] at hpy
          have e1 : (tgM mk x).2 = x := rfl
          have e2 : (tgM mk y).2 = y := rfl
          simp only [pairOk, e1, e2, hxo, hyo, Bool.and_eq_true]
          refine ⟨hpy.1, ?_⟩
          have h6 := hpy.2
          rw [Bool.or_eq_true] at h6 ⊢
          rcases h6 with h' | h'
          · exact .inl h'
          · right
            simp [h', w1, w2]
        · intro x hx' z hz'
          obtain ⟨i, hi, rfl⟩ := List.mem_map.1 hx'
          exact (hfr i hi (hall i hi)).2 z hz'
      · intro x hx'
        rcases List.mem_append.1 hx' with hx' | hx'
        · obtain ⟨i, hi, rfl⟩ := List.mem_map.1 hx'
          exact hlt i hi
        · exact ht x hx'
      · intro i hi
        rw [hl i hi]
        constructor
        · rintro (h' | ⟨z, hz', rfl⟩)
          · exact ⟨tgM mk i, List.mem_append.2 (.inl (List.mem_map.2 ⟨i, h', rfl⟩)), rfl⟩
          · exact ⟨z, List.mem_append.2 (.inr hz'), rfl⟩
        · rintro ⟨z, hz', rfl⟩
          rcases List.mem_append.1 hz' with hz' | hz'
          · obtain ⟨i, hi', rfl⟩ := List.mem_map.1 hz'
            exact .inl hi'
          · exact .inr ⟨z, hz', rfl⟩
      · exact can_of_M (fun x hx' => (hfr x hx' (hall x hx')).1) hx hN h1 h2 h3 a h
    obtain ⟨x0, hx0, hx0f⟩ : ∃ x ∈ c, fr x = false := by
      rcases Classical.em (∃ x ∈ c, fr x = false) with h' | h'
      · exact h'
      · exfalso
        refine hall fun x hx' => ?_
        cases hf : fr x with
        | true => rfl
        | false => exact absurd ⟨x, hx', hf⟩ h'
    have hsucc : n + 1 + tail.length = (n + tail.length) + 1 := by omega
    rw [hsucc]
    refine ⟨fun hr => ?_, fun i hi => ?_⟩
    · exfalso
      match c, hc with
      | x :: rest, _ =>
        have hxlt := hlt x (by simp)
        have hxo : ops[x]? = some ops[x] := Array.getElem?_eq_getElem hxlt
        have hmem : x ∈ Region.ready .any ops listed := by
          rw [mem_ready]
          refine ⟨(hl x hxlt).2 (.inl (by simp)), ops[x], hxo, fun e he hb => ?_⟩
          obtain ⟨hin, hself⟩ := edgesOk_spec hE hxo e he
          have hin' : e.on < listed.size := by omega
          cases hle : listed.getD e.on true with
          | true => simp [hin'] at hle ⊢; exact hle
          | false =>
            rcases (hl e.on hin).1 hle with hy | ⟨z, hz', hze⟩
            · rcases List.mem_cons.1 hy with hy | hy
              · exact absurd hy hself
              · have hpy := List.rel_of_pairwise_cons hp hy
                have hyo : ops[e.on]? = some (ops[e.on]'hin) := Array.getElem?_eq_getElem _
                simp only [pairH, hxo, hyo, Bool.and_eq_true, Bool.not_eq_true'] at hpy
                have hno' := hpy.1.1
                have hyes : (ops[x].after.any fun e' => Region.binds .any e' && e'.on == e.on) = true := Array.any_eq_true'.2 ⟨e, he, by simp [hb]⟩
                rw [hyes] at hno'
                cases hno'
            · exact absurd hze.symm (hno x (by simp) z hz' _ hxo e he hb)
        rw [hr] at hmem
        cases hmem
    · obtain ⟨h0, oi, hoi, hall'⟩ := mem_ready.1 hi
      have hilt : i < ops.size := (Array.getElem?_eq_some_iff.1 hoi).1
      have hic : i ∈ c := by
        rcases (hl i hilt).1 h0 with h' | ⟨z, hz', rfl⟩
        · exact h'
        · exfalso
          have hb : ((waitTab ops).getD z.2 0).testBit x0 = true := by
            rcases (hct x0 hx0 z hz').1 with hb | hb
            · exact hb
            · rw [hx0f] at hb; cases hb
          have := await_listed hoi hall' hcl (k := x0) ((hl x0 (hlt x0 hx0)).2 (.inl hx0))
          rw [hb] at this
          cases this
      obtain ⟨c1, c2, rfl⟩ := List.append_of_mem hic
      have hp' := List.pairwise_append.1 hp
      have hsub : (c1 ++ c2).Sublist (c1 ++ i :: c2) := (List.sublist_cons_self _ _).append_left _
      have hpull := pullM (mk := mk) (P := P) (S := S) (ws := ws) (N := N) (O := O) hoi hs (c2 := c2) c1 (fun j hj => by
        have hpj := hp'.2.2 j hj i (by simp)
        have hjo : ops[j]? = some (ops[j]'(hlt j (by simp [hj]))) := Array.getElem?_eq_getElem _
        refine ⟨_, hjo, ?_⟩
        simp only [pairH, hjo, hoi, Bool.and_eq_true] at hpj
        have hre := await_listed hoi hall' hcl (k := j) ((hl j (hlt j (by simp [hj]))).2 (.inl (by simp [hj])))
        rw [hre] at hpj
        simpa using hpj.2) E a h
      have hxk : ∀ y ∈ c1 ++ c2, y ≠ i := by
        intro y hy heq
        subst heq
        rcases List.mem_append.1 hy with hy | hy
        · have hpj := hp'.2.2 y hy y (by simp)
          simp [pairH, hoi] at hpj
        · have hpj := List.rel_of_pairwise_cons hp'.2.1 hy
          simp [pairH, hoi] at hpj
      have nxt : ∀ (E' : List (Nat × Value)) (a' : Act) (w' : World), Ext ws w' → (∀ e ∈ E', (S e.1).Φ e.2 w') → (∀ e ∈ E', ∀ b ∈ (S e.1).fp e.2, ws.heap.size ≤ b ∧ b < w'.heap.size) →
          (∀ e ∈ E', ∀ e' ∈ E', e.1 ≠ e'.1 → ∀ b ∈ (S e.1).fp e.2, b ∉ (S e'.1).fp e'.2) → (∀ e ∈ E', e.1 ∉ c1 ++ c2) → wpMI mk P ops S ws N O (c1 ++ c2) E' a' → wpAny P .any ops Q (n + tail.length) (listed.setIfInBounds i true) a' w' := by
        intro E' a' w' g1 g2 g3 g4 g5 g6
        refine ih (c1 ++ c2) (listed.setIfInBounds i true) E' a' w' (by simp at hc ⊢; omega) (by simpa using hz) (hp.sublist hsub) (fun y hy => hlt y (hsub.subset hy)) (fun x hx => hct x (hsub.subset hx)) (fun x hx => hfr x (hsub.subset hx)) (fun k hk => ?_) (closed_step hoi hall' hcl) (fun x hx => hno x (hsub.subset hx)) g1 g2 g3 g4 g5 g6
        by_cases hki : k = i
        · subst hki
          constructor
          · intro hg
            simp [hz, hk] at hg
          · rintro (hy | ⟨z, hz', hze⟩)
            · exact absurd rfl (hxk k hy)
            · exact absurd hze.symm (hct k (by simp) z hz').2
        · rw [getD_set_ne true (Ne.symm hki), hl k hk]
          constructor
          · rintro (hy | hy)
            · left
              simp only [List.mem_append, List.mem_cons] at hy ⊢
              rcases hy with hy | rfl | hy
              · exact .inl hy
              · exact absurd rfl hki
              · exact .inr hy
            · exact .inr hy
          · rintro (hy | hy)
            · exact .inl (hsub.subset hy)
            · exact .inr hy
      refine wpOp_of_E hoi hO hx (stepE_of_M hpull) (fun a' hR => nxt E a' w hx h1 h2 h3 (fun e he hm => h4 e he (hsub.subset hm)) hR) (fun v w' hg hR => ?_)
      obtain ⟨gφ, gΦ, gx, gf⟩ := hg
      refine nxt _ _ w' (hx.trans gx) (fun e he => ?_) (fun e he b hb => ?_) (fun e he e' he' hne b hb => ?_) (fun e he hm => ?_) hR
      · rcases List.mem_cons.1 he with rfl | he
        · exact gΦ
        · exact (S e.1).mono _ _ _ gx (h1 e he)
      · rcases List.mem_cons.1 he with rfl | he
        · have := gf b hb
          have := hx.size
          omega
        · have := h2 e he b hb
          have := gx.size
          omega
      · rcases List.mem_cons.1 he with rfl | he
        · rcases List.mem_cons.1 he' with rfl | he'
          · exact absurd rfl hne
          · intro hb'
            have := gf b hb
            have := h2 e' he' b hb'
            omega
        · rcases List.mem_cons.1 he' with rfl | he'
          · intro hb'
            have := gf b hb'
            have := h2 e he b hb
            omega
          · exact h3 e he e' he' hne b hb
      · rcases List.mem_cons.1 he with rfl | he
        · exact hxk _ hm rfl
        · exact h4 e he (hsub.subset hm)


/-- as eB2; the loads of lt yield one value in all worlds that keep the blocks of the first; the tail is marked -/
def eBM (ops : Array Oper) (c fr lt : List Nat) (tail : List (Nat × Nat)) : Bool :=
  Region.noSelect ops && edgesOk ops && pairsH ops (waitTab ops) c && pairsOk ops (waitTab ops) tail && c.all (fun x => decide (x < ops.size)) && tail.all (fun x => decide (x.2 < ops.size)) &&
  c.all (fun x => tail.all fun z => (((waitTab ops).getD z.2 0).testBit x || fr.contains x) && x != z.2) &&
  c.all (fun x => match ops[x]? with | some o => !fr.contains x || !isW o | none => true) &&
  c.all (fun x => tail.all fun z => !fr.contains x || pairOk ops (waitTab ops) (tgM lt.contains x) z) &&
  c.all (fun x => tail.all fun z => match ops[x]? with | some o => o.after.all fun e => !Region.binds .any e || e.on != z.2 | none => true) &&
  decide (c.length + tail.length = ops.size) && (List.range ops.size).all fun i => c.contains i || tail.any fun z => z.2 == i
end
section
variable {P : Program} {Q : Exit → Act → World → Prop} {a : Act} {w : World}
theorem wp_region_m0 {id : Nat} {l : List Oper} (S : Nat → Sp) (c fr lt : List Nat) (tail : List (Nat × Nat)) (hm : P.follows .mixedOrders = true) (hB : eBM l.toArray c fr lt tail = true)
    (h : ∀ K : Act → World → Prop, (∀ a w', Ext w.drew w' → wpCanI P l.toArray (KE w.drew) (fun a w => Q .normal a w) (LetsOut Q) tail a w' → K a w') → wpMI lt.contains P l.toArray S w.drew K (LetsOut Q) c [] a) : (Code.region id l.toArray true).wp P Q a w := by
  simp only [eBM, Bool.and_eq_true, decide_eq_true_eq] at hB
  obtain ⟨⟨⟨⟨⟨⟨⟨⟨⟨⟨⟨hs, hE⟩, hp⟩, hpt⟩, hlt⟩, hltt⟩, hct⟩, hfw⟩, hfp⟩, hno⟩, hlen⟩, hall⟩ := hB
  refine wp_region_any hm ?_
  have hsz : l.toArray.size = c.length + tail.length := by simp at hlen ⊢; omega
  rw [hsz]
  refine wpAny_of_M (mk := lt.contains) fr.contains (S := S) (ws := w.drew) (N := fun a w' => Ext w.drew w' → wpCanI P l.toArray (KE w.drew) (fun a w => Q .normal a w) (LetsOut Q) tail a w') (O := LetsOut Q) hs hE (fun h => h) (tail := tail) (fun z hz => ?_) (pairsOk_iff.1 hpt) (fun _ _ hx h => h hx) c.length c _ [] a _ rfl (by simp at hlen ⊢; omega) (pairsH_iff.1 hp) (fun x hx => by simpa using List.all_eq_true.1 hlt x hx) (fun x hx z hz => ?_) (fun x hx hf => ⟨fun o ho => ?_, fun z hz => ?_⟩) (fun i hi => ?_) (fun j oj hj hl => ?_) (fun x hx z hz o ho e he hb => ?_) (Ext.refl _) (by simp) (by simp) (by simp) (by simp) (h _ fun a w' hx hc _ => hc)
  · simpa using List.all_eq_true.1 hltt z hz
  · have := List.all_eq_true.1 (List.all_eq_true.1 hct x hx) z hz
    simp only [Bool.and_eq_true, Bool.or_eq_true, bne_iff_ne] at this
    exact this
  · have := List.all_eq_true.1 hfw x hx
    rw [ho] at this
    simp only [hf, Bool.not_true, Bool.false_or, Bool.not_eq_true'] at this
    exact this
  · have := List.all_eq_true.1 (List.all_eq_true.1 hfp x hx) z hz
    simp only [hf, Bool.not_true, Bool.false_or] at this
    exact this
  · have h1 := List.all_eq_true.1 hall i (List.mem_range.2 hi)
    have hi2 : i < c.length + tail.length := by omega
    constructor
    · intro _
      simp only [Bool.or_eq_true, List.contains_iff_mem, List.any_eq_true, beq_iff_eq] at h1
      exact h1
    · intro _
      simp [hi2]
  · exfalso
    have hj' : j < l.length := by simpa using (Array.getElem?_eq_some_iff.1 hj).1
    have hj2 : j < c.length + tail.length := by rw [hlen]; simpa using hj'
    simp [hj2] at hl
  · have := List.all_eq_true.1 (List.all_eq_true.1 hno x hx) z hz
    rw [ho] at this
    have := Array.all_eq_true_iff_forall_mem.1 this e he
    rw [hb] at this
    simpa using this
/-- the walk over the heads, with their numbers -/
def wpM (mk : Nat → Bool) (P : Program) (ops : Array Oper) (S : Nat → Sp) (ws : World) (N : Act → World → Prop) (O : Prop) : List (Nat × Oper) → List (Nat × Value) → Act → Prop
  | [], E, a => EndE S ws N E a
  | x :: rest, E, a => stepM mk P ops ws O (S x.1) x.1 x.2 (wpM mk P ops S ws N O rest) E a
theorem wpMI_of_M {mk : Nat → Bool} {S : Nat → Sp} {ws : World} {N : Act → World → Prop} {O : Prop} (l : List Oper) : ∀ (c : List Nat) (E : List (Nat × Value)) (a : Act), wpM mk P l.toArray S ws N O (pickE l c) E a → wpMI mk P l.toArray S ws N O c E a
  | [], _, _, h => h
  | i :: is, E, a, h => by
    cases hi : l[i]? with
    | none =>
      simp only [pickE, hi] at h
      simp only [wpMI, List.getElem?_toArray, hi]
      exact wpMI_of_M l is E a h
    | some o =>
      simp only [pickE, hi, wpM] at h
      simp only [wpMI, List.getElem?_toArray, hi]
      exact stepM_mono (fun a => wpMI_of_M l is E a) (fun v a => wpMI_of_M l is _ a) h
theorem wp_region_m {id : Nat} {l : List Oper} (S : Nat → Sp) (c fr lt ts tail : List Nat) (hm : P.follows .mixedOrders = true) (hB : (eBM l.toArray c fr lt (zipT ts tail) && tail.all fun i => decide (i < l.length)) = true)
    (h : ∀ (K : Act → World → Prop) (ws : World), Ext w ws → (∀ a w', Ext ws w' → wpTag P l.toArray (KE ws) (fun a w => Q .normal a w) (LetsOut Q) ts (pickL l tail) a w' → K a w') → wpM lt.contains P l.toArray S ws K (LetsOut Q) (pickE l c) [] a) : (Code.region id l.toArray true).wp P Q a w := by
  rw [Bool.and_eq_true] at hB
  refine wp_region_m0 S c fr lt (zipT ts tail) hm hB.1 fun K hK => wpMI_of_M l c [] a (h K _ (Ext.drew w) fun a w' hx h' => hK a w' hx (wpCanI_eq _ l rfl _ a w' ?_))
  rw [pick_eq l tail ts fun i hi => by simpa using List.all_eq_true.1 hB.2 i hi]
  exact h'
end
section
variable {P : Program} {ops : Array Oper} {S : Nat → Sp} {ws : World} {N : Act → World → Prop} {O : Prop} {mk : Nat → Bool} {l : List (Nat × Oper)} {E : List (Nat × Value)} {a : Act} {j : Nat} {o : Oper}
theorem wpM_of_E {R : List (Nat × Value) → Act → Prop} (hk : mk j = false) (h : stepE P ops ws O (S j) j o R E a) : stepM mk P ops ws O (S j) j o R E a := by
  unfold stepM
  rw [if_neg (by simp [hk])]; exact h
theorem stepE_qg {R : List (Nat × Value) → Act → Prop} (hW : isW o = false) (hg : Region.wanted o (yielded ops a.tmps) = true) (h : ∀ w, Ext ws w → ∀ K : Act → World → Prop, (∀ a', R E a' → K a' w) → o.wp P a w K (canQ O)) : stepE P ops ws O (S j) j o R E a := by
  unfold stepE
  rw [if_pos hg, if_neg (by simp [hW])]
  intro w hx
  have h1 := h w hx (fun a' w' => w' = w ∧ R E a') (fun a' ha => ⟨rfl, ha⟩)
  unfold Oper.wp at h1
  cases hr : (execOp a.eval o).run P w with
  | halt x w' =>
    rw [hr] at h1
    cases x <;> simp [Oper.upon, canQ] at h1
  | ok n w' =>
    obtain ⟨v, rfl⟩ := quiet_value hW hr
    rw [hr] at h1
    obtain ⟨rfl, h2⟩ := h1
    exact ⟨v, rfl, h2⟩
theorem wpM_q (hk : mk j = false) (hW : isW o = false) (hg : o.guard = none) (h : ∀ w, Ext ws w → ∀ K : Act → World → Prop, (∀ a', wpM mk P ops S ws N O l E a' → K a' w) → o.wp P a w K (canQ O)) : wpM mk P ops S ws N O ((j, o) :: l) E a :=
  wpM_of_E hk (stepE_qg hW (by simp [Region.wanted, hg]) h)
/-- a load that is marked -/
theorem wpM_l (v : Value) (d : Nat) (hk : mk j = true) (hW : isW o = false) (hg : o.guard = none) (hd : o.dst = some d) (hsz : decide (d < a.tmps.size) = true)
    (h1 : ∀ w, Ext ws w → ∀ K : Act → World → Prop, K (a.put o.dst v) w → o.wp P a w K (canQ O)) (h : wpM mk P ops S ws N O l E (a.put o.dst v)) : wpM mk P ops S ws N O ((j, o) :: l) E a := by
  have hsz' : d < a.tmps.size := by simpa using hsz
  have inj : ∀ v v', a.put o.dst v = a.put o.dst v' → v = v' := by
    intro v v' he
    rw [hd] at he
    have : (a.put (some d) v).tmps[d]? = (a.put (some d) v').tmps[d]? := by rw [he]
    simpa [Act.put, hsz'] using this
  show stepM mk P ops ws O (S j) j o (wpM mk P ops S ws N O l) E a
  unfold stepM
  rw [if_pos ⟨hk, hW⟩]
  unfold stepL
  rw [if_pos (by simp [Region.wanted, hg])]
  refine ⟨v, fun w hx => ?_, h⟩
  have h1 := h1 w hx (fun a' w' => w' = w ∧ a' = a.put o.dst v) ⟨rfl, rfl⟩
  unfold Oper.wp at h1
  cases hr : (execOp a.eval o).run P w with
  | halt x w' =>
    rw [hr] at h1
    cases x <;> simp [Oper.upon, canQ] at h1
  | ok n w' =>
    obtain ⟨u, rfl⟩ := quiet_value hW hr
    rw [hr] at h1
    obtain ⟨rfl, h2⟩ := h1
    rw [inj _ _ h2]
theorem wpM_w (s : Sp) (d : Nat) (hk : mk j = false) (hS : S j = s) (hW : isW o = true) (hg : Region.wanted o (yielded ops a.tmps) = true) (hd : o.dst = some d) (hsz : decide (d < a.tmps.size) = true) (h0 : ∃ v, s.φ v)
    (h1 : ∀ w, Ext ws w → ∀ K : Act → World → Prop, (∀ v w', s.Good v w w' → K (a.put o.dst v) w') → o.wp P a w K (canQ O)) (h2 : ∀ v, s.φ v → wpM mk P ops S ws N O l ((j, v) :: E) (a.put o.dst v)) : wpM mk P ops S ws N O ((j, o) :: l) E a := by
  refine wpM_of_E hk ?_
  have h3 : stepE P ops ws O (S j) j o (wpE P ops S ws (fun _ _ => True) O []) E a := wpE_w (l := []) (N := fun _ _ => True) s d hS hW hg hd hsz h0 h1 fun v hv => fun w _ _ _ _ => trivial
  unfold stepE at h3 ⊢
  rw [if_pos hg, if_pos hW] at h3 ⊢
  rw [hS] at h3 ⊢
  exact ⟨h3.1, h3.2.1, h2⟩
theorem wpM_nil (h : ∀ w, Ext ws w → (∀ e ∈ E, (S e.1).Φ e.2 w) → (∀ e ∈ E, ∀ b ∈ (S e.1).fp e.2, ws.heap.size ≤ b ∧ b < w.heap.size) →
    (∀ e ∈ E, ∀ e' ∈ E, e.1 ≠ e'.1 → ∀ b ∈ (S e.1).fp e.2, b ∉ (S e'.1).fp e'.2) → N a w) : wpM mk P ops S ws N O [] E a := h
theorem at_m (j : Nat) {o : Oper} (h : wpM mk P ops S ws N O ((j, o) :: l) E a) : wpM mk P ops S ws N O ((j, o) :: l) E a := h
theorem at_mnil (n : Nat) (h : wpM mk P ops S ws N O [] E a) : wpM mk P ops S ws N O [] E a := h
theorem at_ke {ws w w' : World} {p : Prop} (h1 : KE ws w w') (h2 : p) : KE ws w w' ∧ p := ⟨h1, h2⟩
end
end Go.Proofs.Ytnifgkgdphlleaa
