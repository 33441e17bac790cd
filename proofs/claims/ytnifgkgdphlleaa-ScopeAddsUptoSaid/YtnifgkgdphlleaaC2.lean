/- Regions whose order Go leaves open, with two operations that turn the world and that nothing orders: two walks, one in each order, stand for all orders. -/
import Derived.Test.YtnifgkgdphlleaaCan
set_option linter.unusedSimpArgs false
set_option linter.unusedVariables false
namespace Go.Proofs.Ytnifgkgdphlleaa
open Go.RowKit

section
variable {P : Program} {ops : Array Oper} {Kp : World → World → Prop} {N : Act → World → Prop} {O : Prop}

/-- j does not wait for i -/
def pairA (ops : Array Oper) (j i : Nat × Nat) : Bool :=
  match ops[j.2]?, ops[i.2]? with
  | some oj, some _ => !(oj.after.any fun e => Region.binds .any e && e.on == i.2) && (j.2 != i.2)
  | _, _ => false
/-- x stands first; while x stands, so does y -/
def pairE (ops : Array Oper) (T : List Nat) (x y : Nat) (j i : Nat × Nat) : Bool :=
  pairOk ops T j i || (pairA ops j i && j.2 == x && (i.2 == y || (T.getD i.2 0).testBit y))
def pairsE (ops : Array Oper) (T : List Nat) (x y : Nat) : List (Nat × Nat) → Bool
  | [] => true
  | z :: rest => rest.all (pairE ops T x y z) && pairsE ops T x y rest
theorem pairsE_iff {T : List Nat} {x y : Nat} : ∀ {c : List (Nat × Nat)}, pairsE ops T x y c = true ↔ c.Pairwise (fun j i => pairE ops T x y j i = true)
  | [] => by simp [pairsE]
  | z :: rest => by simp [pairsE, pairsE_iff]
theorem pairOk_A {T : List Nat} {j i : Nat × Nat} (h : pairOk ops T j i = true) : pairA ops j i = true := by
  unfold pairOk at h
  unfold pairA
  cases hj : ops[j.2]? with
  | none => rw [hj] at h; cases h
  | some oj => cases hi : ops[i.2]? with
    | none => rw [hj, hi] at h; cases h
    | some oi =>
      rw [hj, hi] at h
      dsimp only at h ⊢
      rw [Bool.and_eq_true] at h
      exact h.1
theorem pairE_A {T : List Nat} {x y : Nat} {j i : Nat × Nat} (h : pairE ops T x y j i = true) : pairA ops j i = true := by
  unfold pairE at h
  rw [Bool.or_eq_true] at h
  rcases h with h | h
  · exact pairOk_A h
  · rw [Bool.and_eq_true, Bool.and_eq_true] at h; exact h.1.1
theorem pairA_ne {j i : Nat × Nat} (h : pairA ops j i = true) : j.2 ≠ i.2 := by
  unfold pairA at h
  split at h
  · rw [Bool.and_eq_true] at h; simpa using h.2
  · cases h
theorem pairA_no {j i : Nat × Nat} {oj : Oper} (hj : ops[j.2]? = some oj) (h : pairA ops j i = true) : (oj.after.any fun e => Region.binds .any e && e.on == i.2) = false := by
  unfold pairA at h
  rw [hj] at h
  split at h
  · rename_i h1 h2
    injection h1 with h1
    subst h1
    rw [Bool.and_eq_true] at h; simpa using h.1
  · cases h

/-- the first of an order is ready -/
theorem ready_head (hE : edgesOk ops = true) {z : Nat × Nat} {rest : List (Nat × Nat)} {listed : Array Bool} (hz : listed.size = ops.size) (hp : (z :: rest).Pairwise (fun j i => pairA ops j i = true)) (hlt : ∀ x ∈ z :: rest, x.2 < ops.size)
    (hl : ∀ i, i < ops.size → (listed.getD i true = false ↔ ∃ x ∈ z :: rest, x.2 = i)) : z.2 ∈ Region.ready .any ops listed := by
  have hxlt := hlt z (by simp)
  have hxo : ops[z.2]? = some ops[z.2] := Array.getElem?_eq_getElem hxlt
  rw [mem_ready]
  refine ⟨(hl z.2 hxlt).2 ⟨z, by simp, rfl⟩, ops[z.2], hxo, fun e he hb => ?_⟩
  obtain ⟨hin, hself⟩ := edgesOk_spec hE hxo e he
  have hin' : e.on < listed.size := by omega
  cases hle : listed.getD e.on true with
  | true => simp [hin'] at hle ⊢; exact hle
  | false =>
    obtain ⟨y, hy, hye⟩ := (hl e.on hin).1 hle
    rcases List.mem_cons.1 hy with rfl | hy
    · exact absurd hye.symm hself
    · have hno := pairA_no hxo (List.rel_of_pairwise_cons hp hy)
      have hyes : (ops[z.2].after.any fun e => Region.binds .any e && e.on == y.2) = true := Array.any_eq_true'.2 ⟨e, he, by simp [hb, hye]⟩
      rw [hyes] at hno
      cases hno

/-- what is listed, one step on -/
theorem listed_step {z : Nat × Nat} {c1 c2 : List (Nat × Nat)} {listed : Array Bool} (hz : listed.size = ops.size) (hp : (c1 ++ z :: c2).Pairwise (fun j i => pairA ops j i = true))
    (hl : ∀ i, i < ops.size → (listed.getD i true = false ↔ ∃ x ∈ c1 ++ z :: c2, x.2 = i)) :
    ∀ i, i < ops.size → ((listed.setIfInBounds z.2 true).getD i true = false ↔ ∃ x ∈ c1 ++ c2, x.2 = i) := by
  intro k hk
  have hp' := List.pairwise_append.1 hp
  have hsub : (c1 ++ c2).Sublist (c1 ++ z :: c2) := (List.sublist_cons_self _ _).append_left _
  have hxk : ∀ y ∈ c1 ++ c2, y.2 ≠ z.2 := by
    intro y hy heq
    rcases List.mem_append.1 hy with hy | hy
    · exact pairA_ne (hp'.2.2 y hy z (by simp)) heq
    · exact pairA_ne (List.rel_of_pairwise_cons hp'.2.1 hy) heq.symm
  by_cases hkx : k = z.2
  · subst hkx
    constructor
    · intro hg
      simp [hz, hk] at hg
    · rintro ⟨y, hy, hye⟩
      exact absurd hye (hxk y hy)
  · rw [getD_set_ne true (Ne.symm hkx), hl k hk]
    constructor
    · rintro ⟨y, hy, hye⟩
      refine ⟨y, ?_, hye⟩
      simp only [List.mem_append, List.mem_cons] at hy ⊢
      rcases hy with hy | rfl | hy
      · exact .inl hy
      · exact absurd hye.symm hkx
      · exact .inr hy
    · rintro ⟨y, hy, hye⟩
      exact ⟨y, hsub.subset hy, hye⟩
theorem closed_step {i : Nat} {oi : Oper} {listed : Array Bool} (hoi : ops[i]? = some oi) (hall : ∀ e ∈ oi.after, Region.binds .any e = true → listed.getD e.on false = true)
    (hcl : ∀ j oj, ops[j]? = some oj → listed.getD j false = true → ∀ e ∈ oj.after, Region.binds .any e = true → listed.getD e.on false = true) :
    ∀ j oj, ops[j]? = some oj → (listed.setIfInBounds i true).getD j false = true → ∀ e ∈ oj.after, Region.binds .any e = true → (listed.setIfInBounds i true).getD e.on false = true := by
  intro j oj hj hlj e he hb
  by_cases hjx : j = i
  · subst hjx
    have : oj = oi := Option.some.inj (hj.symm.trans hoi)
    subst this
    exact getD_set_true (hall e he hb)
  · rw [getD_set_ne false (Ne.symm hjx)] at hlj
    exact getD_set_true (hcl j oj hj hlj e he hb)
/-- who is awaited has been listed -/
theorem await_listed {i k : Nat} {oi : Oper} {listed : Array Bool} (hoi : ops[i]? = some oi) (hall : ∀ e ∈ oi.after, Region.binds .any e = true → listed.getD e.on false = true)
    (hcl : ∀ j oj, ops[j]? = some oj → listed.getD j false = true → ∀ e ∈ oj.after, Region.binds .any e = true → listed.getD e.on false = true)
    (hk : listed.getD k true = false) : ((waitTab ops).getD i 0).testBit k = false := by
  cases hre : ((waitTab ops).getD i 0).testBit k with
  | false => rfl
  | true =>
    have := tab_listed hcl ops.toList [] (by simp) (fun x y ox _ _ h => by simp at h) i k oi hoi hall hre
    rcases Nat.lt_or_ge k listed.size with h' | h'
    · simp [h'] at this hk; rw [this] at hk; cases hk
    · simp [Array.getElem?_eq_none h'] at hk
/-- what pairOk says of one that stands ahead of a ready one -/
theorem pull_ok {j i : Nat × Nat} {oi oj : Oper} (hj : ops[j.2]? = some oj) (hi : ops[i.2]? = some oi) (h : pairOk ops (waitTab ops) j i = true) (hre : ((waitTab ops).getD i.2 0).testBit j.2 = false) :
    oi.apart ops oj = true ∧ isW oj = false ∧ (isW oi = true → j.1 = 1 ∨ (j.1 = 2 ∧ i.1 = 3) ∨ (j.1 = 0 ∧ freeOp oj = true)) := by
  simp only [pairOk, hj, hi, Bool.and_eq_true] at h
  rw [hre] at h
  simp only [Bool.false_or, Bool.and_eq_true, Bool.or_eq_true, Bool.not_eq_true', beq_iff_eq] at h
  refine ⟨h.2.1.1, h.2.1.2, fun hW => ?_⟩
  rcases h.2.2 with ((h' | h') | h') | h'
  · rw [hW] at h'; cases h'
  · exact .inl h'
  · exact .inr (.inl h')
  · exact .inr (.inr h')
theorem canStep_both (hr : ∀ w, Kp w w) {t t' : Nat} {o : Oper} (hW : isW o = false) {K K' : Act → World → Prop} {a : Act} {w : World} (h : canStep P ops Kp O t o K a w) (h' : canStep P ops Kp O t' o K' a w) : canStep P ops Kp O t o (fun a w => K a w ∧ K' a w) a w := by
  unfold canStep at *
  by_cases hw : Region.wanted o (yielded ops a.tmps) = true
  · rw [if_pos hw, hW] at *
    simp only [Bool.false_eq_true, if_false] at *
    obtain ⟨v, hv, hk⟩ := h
    obtain ⟨v', hv', hk'⟩ := h'
    have e := (hv.now hr).symm.trans (hv'.now hr)
    injection e with e
    injection e with e
    subst e
    exact ⟨v, hv, hk, hk'⟩
  · rw [if_neg hw] at *
    exact ⟨h, h'⟩

/-- x is taken first: what is left is good without exception -/
theorem wpAny_first (hr : ∀ w, Kp w w) (ht : ∀ a b c, Kp a b → Kp b c → Kp a c) {Q : Exit → Act → World → Prop} (hs : Region.noSelect ops = true) (hE : edgesOk ops = true) (hN : ∀ a w, N a w → Q .normal a w) (hO : O → LetsOut Q) {x y : Nat} (hxy : x ≠ y)
    {n : Nat} {c : List (Nat × Nat)} {listed : Array Bool} {a : Act} {w : World} (hc : c.length = n + 1) (hz : listed.size = ops.size)
    (hp : c.Pairwise (fun j i => pairE ops (waitTab ops) x y j i = true)) (hlt : ∀ z ∈ c, z.2 < ops.size) (hl : ∀ i, i < ops.size → (listed.getD i true = false ↔ ∃ z ∈ c, z.2 = i))
    (hcl : ∀ j oj, ops[j]? = some oj → listed.getD j false = true → ∀ e ∈ oj.after, Region.binds .any e = true → listed.getD e.on false = true)
    (hx : x ∈ Region.ready .any ops listed) (hy : listed.getD y true = false) (h : wpCanI P ops Kp N O c a w) : wpOp P ops Q x (wpAny P .any ops Q n (listed.setIfInBounds x true)) a w := by
  obtain ⟨h0, oi, hoi, hall⟩ := mem_ready.1 hx
  have hilt : x < ops.size := (Array.getElem?_eq_some_iff.1 hoi).1
  obtain ⟨z, hzc, rfl⟩ := (hl x hilt).1 h0
  obtain ⟨c1, c2, rfl⟩ := List.append_of_mem hzc
  have hpA := hp.imp (fun h => pairE_A h)
  have hp' := List.pairwise_append.1 hp
  have hA' := List.pairwise_append.1 hpA
  have hsub : (c1 ++ c2).Sublist (c1 ++ z :: c2) := (List.sublist_cons_self _ _).append_left _
  have hnz : ∀ j ∈ c1 ++ c2, j.2 ≠ z.2 := by
    intro j hj heq
    rcases List.mem_append.1 hj with hj | hj
    · exact pairA_ne (hA'.2.2 j hj z (by simp)) heq
    · exact pairA_ne (List.rel_of_pairwise_cons hA'.2.1 hj) heq.symm
  have ok : ∀ j i, j.2 ≠ z.2 → pairE ops (waitTab ops) z.2 y j i = true → pairOk ops (waitTab ops) j i = true := by
    intro j i hj hE'
    unfold pairE at hE'
    rw [Bool.or_eq_true] at hE'
    rcases hE' with h' | h'
    · exact h'
    · rw [Bool.and_eq_true, Bool.and_eq_true] at h'
      exact absurd (by simpa using h'.1.2) hj
  have hpull := canPull (P := P) (N := N) (O := O) ht hoi hs (c2 := c2) c1 (fun j hj => by
    have hjo : ops[j.2]? = some (ops[j.2]'(hlt j (by simp [hj]))) := Array.getElem?_eq_getElem _
    exact ⟨_, hjo, pull_ok hjo hoi (ok j z (hnz j (by simp [hj])) (hp'.2.2 j hj z (by simp))) (await_listed hoi hall hcl ((hl j.2 (hlt j (by simp [hj]))).2 ⟨j, by simp [hj], rfl⟩))⟩) a w h
  refine wpOp_of_can hr hoi (fun a' w' hK => ?_) hO hpull
  have hpk : (c1 ++ c2).Pairwise (fun j i => pairOk ops (waitTab ops) j i = true) :=
    (hp.sublist hsub).imp_of_mem (fun {j i} hj _ h' => ok j i (hnz j hj) h')
  exact wpAny_of_can hr ht hs hE hN hO n (c1 ++ c2) (listed.setIfInBounds z.2 true) a' w' (by simp at hc ⊢; omega) (by simpa using hz) hpk (fun k hk => hlt k (hsub.subset hk)) (listed_step hz hpA hl) (closed_step hoi hall hcl) hK

theorem wpAny_two (hr : ∀ w, Kp w w) (ht : ∀ a b c, Kp a b → Kp b c → Kp a c) {Q : Exit → Act → World → Prop} (hs : Region.noSelect ops = true) (hE : edgesOk ops = true) (hN : ∀ a w, N a w → Q .normal a w) (hO : O → LetsOut Q) {x y : Nat} (hxy : x ≠ y)
    (hW : ∀ i oi, ops[i]? = some oi → isW oi = true → i = x ∨ i = y ∨ ((waitTab ops).getD i 0).testBit x = true ∨ ((waitTab ops).getD i 0).testBit y = true) :
    ∀ (n : Nat) (c d : List (Nat × Nat)) (listed : Array Bool) (a : Act) (w : World), c.length = n → d.length = n → listed.size = ops.size →
      c.Pairwise (fun j i => pairE ops (waitTab ops) x y j i = true) → d.Pairwise (fun j i => pairE ops (waitTab ops) y x j i = true) → (∀ z ∈ c, z.2 < ops.size) → (∀ z ∈ d, z.2 < ops.size) →
      (∀ i, i < ops.size → (listed.getD i true = false ↔ ∃ z ∈ c, z.2 = i)) → (∀ i, i < ops.size → (listed.getD i true = false ↔ ∃ z ∈ d, z.2 = i)) →
      (∀ j oj, ops[j]? = some oj → listed.getD j false = true → ∀ e ∈ oj.after, Region.binds .any e = true → listed.getD e.on false = true) →
      listed.getD x true = false → listed.getD y true = false → x < ops.size →
      wpCanI P ops Kp N O c a w → wpCanI P ops Kp N O d a w → wpAny P .any ops Q n listed a w := by
  intro n
  induction n with
  | zero =>
    intro c d listed a w hc _ _ _ _ _ _ hl _ _ hx _ hxs _ _
    exfalso
    have : c = [] := List.eq_nil_of_length_eq_zero hc
    subst this
    have := (hl x hxs).1 hx
    simp at this
  | succ n ih =>
    intro c d listed a w hc hd hz hp hq hlt hlt2 hl hl2 hcl hx hy hxs h h2
    have hpA := hp.imp (fun h => pairE_A h)
    have hqA := hq.imp (fun h => pairE_A h)
    refine ⟨fun hr => ?_, fun i hi => ?_⟩
    · exfalso
      match c, hc with
      | z :: rest, _ =>
        have := ready_head hE hz hpA hlt hl
        rw [hr] at this
        cases this
    · by_cases hix : i = x
      · subst hix
        exact wpAny_first hr ht hs hE hN hO hxy hc hz hp hlt hl hcl hi hy h
      · by_cases hiy : i = y
        · subst hiy
          exact wpAny_first hr ht hs hE hN hO (Ne.symm hxy) hd hz hq hlt2 hl2 hcl hi hx h2
        · obtain ⟨h0, oi, hoi, hall⟩ := mem_ready.1 hi
          have hilt : i < ops.size := (Array.getElem?_eq_some_iff.1 hoi).1
          have bx := await_listed hoi hall hcl hx
          have bY := await_listed hoi hall hcl hy
          have hnW : isW oi = false := by
            cases hw : isW oi with
            | false => rfl
            | true =>
              rcases hW i oi hoi hw with h' | h' | h' | h'
              · exact absurd h' hix
              · exact absurd h' hiy
              · rw [bx] at h'; cases h'
              · rw [bY] at h'; cases h'
          have pull : ∀ (x y : Nat) (c : List (Nat × Nat)), i ≠ y → ((waitTab ops).getD i 0).testBit y = false → c.length = n + 1 → c.Pairwise (fun j i => pairE ops (waitTab ops) x y j i = true) → (∀ z ∈ c, z.2 < ops.size) →
              (∀ i, i < ops.size → (listed.getD i true = false ↔ ∃ z ∈ c, z.2 = i)) → wpCanI P ops Kp N O c a w →
              ∃ (t : Nat) (c' : List (Nat × Nat)), c'.length = n ∧ c'.Pairwise (fun j i => pairE ops (waitTab ops) x y j i = true) ∧ (∀ z ∈ c', z.2 < ops.size) ∧
                (∀ k, k < ops.size → ((listed.setIfInBounds i true).getD k true = false ↔ ∃ z ∈ c', z.2 = k)) ∧ canStep P ops Kp O t oi (wpCanI P ops Kp N O c') a w := by
            intro x y c hiy hby hc hp hlt hl h
            have hpA := hp.imp (fun h => pairE_A h)
            obtain ⟨z, hzc, rfl⟩ := (hl i hilt).1 h0
            obtain ⟨c1, c2, rfl⟩ := List.append_of_mem hzc
            have hp' := List.pairwise_append.1 hp
            have hsub : (c1 ++ c2).Sublist (c1 ++ z :: c2) := (List.sublist_cons_self _ _).append_left _
            refine ⟨z.1, c1 ++ c2, by simp at hc ⊢; omega, hp.sublist hsub, fun k hk => hlt k (hsub.subset hk), listed_step hz hpA hl, canPull ht hoi hs c1 (fun j hj => ?_) a w h⟩
            have hjo : ops[j.2]? = some (ops[j.2]'(hlt j (by simp [hj]))) := Array.getElem?_eq_getElem _
            refine ⟨_, hjo, pull_ok hjo hoi ?_ (await_listed hoi hall hcl ((hl j.2 (hlt j (by simp [hj]))).2 ⟨j, by simp [hj], rfl⟩))⟩
            have hE' := hp'.2.2 j hj z (by simp)
            unfold pairE at hE'
            rw [Bool.or_eq_true] at hE'
            rcases hE' with h' | h'
            · exact h'
            · rw [Bool.and_eq_true, hby, Bool.or_false] at h'
              exact absurd (by simpa using h'.2) hiy
          obtain ⟨t, c', e1, e2, e3, e4, e5⟩ := pull x y c hiy bY hc hp hlt hl h
          obtain ⟨t', d', g1, g2, g3, g4, g5⟩ := pull y x d hix bx hd hq hlt2 hl2 h2
          refine wpOp_of_can hr hoi (fun a' w' hK => ?_) hO (canStep_both hr hnW e5 g5)
          exact ih c' d' (listed.setIfInBounds i true) a' w' e1 g1 (by simpa using hz) e2 g2 e3 g3 e4 g4 (closed_step hoi hall hcl) (by rw [getD_set_ne true hix]; exact hx) (by rw [getD_set_ne true hiy]; exact hy) hxs hK.1 hK.2

def canB2 (ops : Array Oper) (x y : Nat) (c d : List (Nat × Nat)) : Bool :=
  Region.noSelect ops && edgesOk ops && (x != y) && decide (x < ops.size) && decide (y < ops.size) && pairsE ops (waitTab ops) x y c && pairsE ops (waitTab ops) y x d &&
  c.all (fun x => decide (x.2 < ops.size)) && d.all (fun x => decide (x.2 < ops.size)) && decide (c.length = ops.size) && decide (d.length = ops.size) &&
  ((List.range ops.size).all fun i => c.any fun x => x.2 == i) && ((List.range ops.size).all fun i => d.any fun x => x.2 == i) &&
  (List.range ops.size).all fun i => match ops[i]? with
    | some o => !isW o || i == x || i == y || ((waitTab ops).getD i 0).testBit x || ((waitTab ops).getD i 0).testBit y
    | none => true
end
def pickL (l : List Oper) : List Nat → List Oper
  | [] => []
  | i :: is => match l[i]? with
    | some o => o :: pickL l is
    | none => pickL l is
def zipT : List Nat → List Nat → List (Nat × Nat)
  | t :: ts, i :: is => (t, i) :: zipT ts is
  | [], i :: is => (0, i) :: zipT [] is
  | _, [] => []
theorem pick_eq (l : List Oper) : ∀ (is ts : List Nat), (∀ i ∈ is, i < l.length) → (zipT ts is).filterMap (fun x : Nat × Nat => (l[x.2]?).map fun o => (x.1, o)) = tagL ts (pickL l is)
  | [], ts, _ => by cases ts <;> rfl
  | i :: is, ts, h => by
    have hi : l[i]? = some (l[i]'(h i (by simp))) := List.getElem?_eq_getElem _
    have hr := fun ts => pick_eq l is ts (fun j hj => h j (by simp [hj]))
    cases ts with
    | nil => simp only [zipT, pickL, List.filterMap_cons, hi, Option.map_some, tagL, hr]
    | cons t ts => simp only [zipT, pickL, List.filterMap_cons, hi, Option.map_some, tagL, hr]
section
variable {P : Program} {Q : Exit → Act → World → Prop} {a : Act} {w : World}
/-- x and y turn the world, and nothing orders them: the walk in the order is, where x stands first, and the walk in the order js, where y does -/
theorem wp_region_two {id : Nat} {l : List Oper} (x y : Nat) (ts is us js : List Nat) (hm : P.follows .mixedOrders = true) (hB : canB2 l.toArray x y (zipT ts is) (zipT us js) = true) (his : (is ++ js).all (fun i => decide (i < l.length)) = true)
    (h1 : ∀ K : Act → World → Prop, (∀ a w, Q .normal a w → K a w) → wpTag P l.toArray (fun _ _ => True) K (LetsOut Q) ts (pickL l is) a w.drew)
    (h2 : ∀ K : Act → World → Prop, (∀ a w, Q .normal a w → K a w) → wpTag P l.toArray (fun _ _ => True) K (LetsOut Q) us (pickL l js) a w.drew) : (Code.region id l.toArray true).wp P Q a w := by
  simp only [canB2, Bool.and_eq_true, decide_eq_true_eq, bne_iff_ne] at hB
  obtain ⟨⟨⟨⟨⟨⟨⟨⟨⟨⟨⟨⟨⟨hs, hE⟩, hxy⟩, hx⟩, hy⟩, hp⟩, hq⟩, hlt⟩, hlt2⟩, hlen⟩, hlen2⟩, hall⟩, hall2⟩, hW⟩ := hB
  have hbd : ∀ i ∈ is ++ js, i < l.length := fun i hi => by simpa using List.all_eq_true.1 his i hi
  have back : ∀ (c : List (Nat × Nat)), c.length = l.toArray.size → (List.range l.toArray.size).all (fun i => c.any fun x => x.2 == i) = true → ∀ i, i < l.toArray.size → ((Array.replicate c.length false).getD i true = false ↔ ∃ z ∈ c, z.2 = i) := by
    intro c hc hall i hi
    have h1 := List.all_eq_true.1 hall i (List.mem_range.2 hi)
    obtain ⟨x, hx, hxi⟩ := List.any_eq_true.1 h1
    constructor
    · intro _
      exact ⟨x, hx, by simpa using hxi⟩
    · intro _
      have hi2 : i < c.length := by rw [hc]; exact hi
      simp [hi2]
  refine wp_region_any hm ?_
  have e2 : (zipT us js).length = (zipT ts is).length := by rw [hlen, hlen2]
  have b1 := back _ hlen hall
  have b2 := back _ hlen2 hall2
  rw [e2] at b2
  rw [← hlen]
  refine wpAny_two (fun _ => trivial) (fun _ _ _ _ _ => trivial) hs hE (N := Q .normal) (O := LetsOut Q) (fun _ _ h => h) (fun h => h) hxy (fun i oi hi hw => ?_) (zipT ts is).length (zipT ts is) (zipT us js) _ a _ rfl e2 (by simp [hlen])
    (pairsE_iff.1 hp) (pairsE_iff.1 hq) (fun z hz => by simpa using List.all_eq_true.1 hlt z hz) (fun z hz => by simpa using List.all_eq_true.1 hlt2 z hz) b1 b2 (fun j oj hj hl => ?_)
    ((b1 x hx).2 ?_) ((b1 y hy).2 ?_) hx (wpCanI_eq _ l rfl _ a _ ?_) (wpCanI_eq _ l rfl _ a _ ?_)
  · have hlt' : i < l.toArray.size := (Array.getElem?_eq_some_iff.1 hi).1
    have h3 := List.all_eq_true.1 hW i (List.mem_range.2 hlt')
    rw [hi] at h3
    simp only [hw, Bool.not_true, Bool.false_or, Bool.or_eq_true, beq_iff_eq] at h3
    rcases h3 with ((h3 | h3) | h3) | h3
    · exact .inl h3
    · exact .inr (.inl h3)
    · exact .inr (.inr (.inl h3))
    · exact .inr (.inr (.inr h3))
  · exfalso
    have hj' : j < l.length := by simpa using (Array.getElem?_eq_some_iff.1 hj).1
    have hj2 : j < (zipT ts is).length := by rw [hlen]; simpa using hj'
    simp [hj2] at hl
  · obtain ⟨z, hz, hzi⟩ := List.any_eq_true.1 (List.all_eq_true.1 hall x (List.mem_range.2 hx))
    exact ⟨z, hz, by simpa using hzi⟩
  · obtain ⟨z, hz, hzi⟩ := List.any_eq_true.1 (List.all_eq_true.1 hall y (List.mem_range.2 hy))
    exact ⟨z, hz, by simpa using hzi⟩
  · rw [pick_eq l is ts (fun i hi => hbd i (by simp [hi]))]; exact h1 _ fun _ _ h => h
  · rw [pick_eq l js us (fun i hi => hbd i (by simp [hi]))]; exact h2 _ fun _ _ h => h
end
end Go.Proofs.Ytnifgkgdphlleaa
