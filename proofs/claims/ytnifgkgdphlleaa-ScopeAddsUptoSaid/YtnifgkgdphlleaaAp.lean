/- append onto a row of records that the call owns, at the operation. No program in sight. -/
import Derived.Test.YtnifgkgdphlleaaRo
import Derived.WalkKit
set_option linter.unusedSimpArgs false
set_option linter.unusedVariables false
namespace Go.Proofs.Ytnifgkgdphlleaa
open Go.RowKit
structure AppPost {α : Type} (w w' : World) (e : TypeId) (k : Nat) (f : α → List Value) (v v' : Value) (zs : List α) : Prop where
  row : ORow w' e k f v' zs
  grown : w.grownBy w' v.ownBlock
  lies : v'.ownBlock = v.ownBlock ∨ v'.ownBlock = some w.heap.size
section
variable {α : Type} {f : α → List Value} {k bytes : Nat} {P : Program} {w : World} {t e : TypeId} {v u z : Value} {xs ys : List α}
theorem run_app (ty : TypeId) (hi : (P.info? e).map (fun i => (i.zero, i.size, i.bytes)) = some (some z, k, bytes)) (ht : P.underlying t = some (.slice e)) (hzs : z.cells.size = k) (hk0 : 0 < k) (hf : ∀ x, (f x).length = k) (h1 : ∀ x, ∀ c ∈ f x, Value.oneCell' c = true)
    (hv : ORow w e k f v xs) (hu : RRow w k f u ys) (h63 : xs.length + ys.length ≤ maxLen) (hb : (xs.length + ys.length) * bytes ≤ 140737488355328) :
    ∃ v' w', (Builtin.append_ #[t, t] ty #[v, u]).run P w = .ok v' w' ∧ AppPost w w' e k f v v' (xs ++ ys) := by
  obtain ⟨i, hi1, hi2, hi3, hi4⟩ := info_parts hi
  obtain ⟨ao, cap, rfl, n1, n2, hc⟩ := hu
  have one : ∀ c ∈ ys.flatMap f, Value.oneCell' c = true := fun c hc => by
    obtain ⟨x, _, hx⟩ := List.mem_flatMap.1 hc
    exact h1 x c hx
  by_cases h0 : ys.length = 0
  · have hy : ys = [] := List.eq_nil_of_length_eq_zero h0
    subst hy
    rw [List.append_nil]
    cases ao with
    | none =>
      have hr : (Builtin.append_ #[t, t] ty #[v, .slice none 0 cap]).run P w = .ok v w := by
        rcases hv.2 with ⟨rfl, hx⟩ | ⟨g, cap', cur, rfl, _, _, hnc, _⟩
        · simp [Builtin.append_, run_underlying ht, sizeOf, typeInfo, hi1, Builtin.lenOf, Builtin.firstCells]
        · simp [Builtin.append_, run_underlying ht, sizeOf, typeInfo, hi1, Builtin.lenOf, Builtin.firstCells, hnc, storeCells]
      exact ⟨v, w, hr, hv, World.grownBy.refl w _, .inl rfl⟩
    | some ad =>
      obtain ⟨v', w', hrun, h2, h3, _, h5⟩ := run_append_own_at (P := P) w 0 t ty e i z k bytes ht hi1 hi2 hi3 hi4 hzs hk0 v xs.length (xs.flatMap f) hv ad 0 cap [] (by simp) (by simp) (by simp) h63 hb (Nat.zero_le _)
      exact ⟨v', w', hrun, by simpa [ORow] using h2, h3, h5⟩
  · rcases hc with hc | ⟨g, o, rfl, hg, hc⟩
    · exact absurd hc h0
    · have hcells : ∀ j c, (ys.flatMap f)[j]? = some c → w.cell? ((⟨g, o, none⟩ : Addr).add j) = some c := by
        intro j c hj
        have hjl : j < ys.length * k := by
          rcases Nat.lt_or_ge j (ys.length * k) with h | h
          · exact h
          · rw [List.getElem?_eq_none (by rw [flat_len hf]; exact h)] at hj; cases hj
        have hq : j / k < ys.length := Nat.div_lt_of_lt_mul (by rw [Nat.mul_comm]; exact hjl)
        have hr : j % k < k := Nat.mod_lt _ hk0
        have ej : j / k * k + j % k = j := by rw [Nat.mul_comm]; exact Nat.div_add_mod j k
        have := hc (j / k) hq (j % k) hr
        rw [← flat_get hf ys (j / k) (j % k) hq hr, ej, hj, Nat.add_assoc, ej] at this
        have e : (⟨g, o, none⟩ : Addr).add j = ⟨g, o + j, none⟩ := by unfold Addr.add; split <;> simp_all
        rw [e]; exact this
      obtain ⟨v', w', hrun, h2, h3, _, h5⟩ := run_append_own_at (P := P) w 0 t ty e i z k bytes ht hi1 hi2 hi3 hi4 hzs hk0 v xs.length (xs.flatMap f) hv ⟨g, o, none⟩ ys.length cap (ys.flatMap f) (flat_len hf ys) hcells one h63 hb (Nat.zero_le _)
      refine ⟨v', w', hrun, ?_, h3, h5⟩
      unfold ORow
      rw [List.length_append, List.flatMap_append]
      exact h2
theorem wp_app {o : Oper} {a : Act} {K : Act → World → Prop} {Q : Exit → Act → World → Prop} (s x : Operand) (ho : o.op = .call { callee := .builtin .append, args := #[s, x], argTypes := #[t, t] })
    (hi : (P.info? e).map (fun i => (i.zero, i.size, i.bytes)) = some (some z, k, bytes)) (ht : P.underlying t = some (.slice e)) (hzs : z.cells.size = k) (hk0 : 0 < k) (hf : ∀ x, (f x).length = k) (h1 : ∀ x, ∀ c ∈ f x, Value.oneCell' c = true)
    (v u : Value) (xs ys : List α) (hs : a.eval s = v) (hx : a.eval x = u) (hv : ORow w e k f v xs) (hu : RRow w k f u ys) (h63 : xs.length + ys.length ≤ maxLen) (hb : (xs.length + ys.length) * bytes ≤ 140737488355328)
    (h : ∀ v' w', AppPost w w' e k f v v' (xs ++ ys) → K (a.put o.dst v') w') : o.wp P a w K Q := by
  obtain ⟨v', w', hr, hp⟩ := run_app (P := P) o.type hi ht hzs hk0 hf h1 hv hu h63 hb
  unfold Oper.wp execOp
  simp only [ho, resolve, invoke, builtin, Sem.run_bind, Sem.run_pure, Result.andThen_ok, List.map_toArray, List.map_cons, List.map_nil, hs, hx, hr]
  exact h _ _ hp
theorem wpList_app {ops : Array Oper} {rest : List Oper} {o : Oper} {a : Act} {Q : Exit → Act → World → Prop} (hgd : o.guard = none) (s x : Operand) (ho : o.op = .call { callee := .builtin .append, args := #[s, x], argTypes := #[t, t] })
    (hi : (P.info? e).map (fun i => (i.zero, i.size, i.bytes)) = some (some z, k, bytes)) (ht : P.underlying t = some (.slice e)) (hzs : z.cells.size = k) (hk0 : 0 < k) (hf : ∀ x, (f x).length = k) (h1 : ∀ x, ∀ c ∈ f x, Value.oneCell' c = true)
    (v u : Value) (xs ys : List α) (hs : a.eval s = v) (hx : a.eval x = u) (hv : ORow w e k f v xs) (hu : RRow w k f u ys) (h63 : xs.length + ys.length ≤ maxLen) (hb : (xs.length + ys.length) * bytes ≤ 140737488355328)
    (h : ∀ v' w', AppPost w w' e k f v v' (xs ++ ys) → wpList P ops Q rest (a.put o.dst v') w') : wpList P ops Q (o :: rest) a w :=
  wpList_plain hgd fun _ hK => wp_app s x ho hi ht hzs hk0 hf h1 v u xs ys hs hx hv hu h63 hb fun v' w' hp => hK _ _ (h v' w' hp)
end
section
variable {α : Type} {f : α → List Value} {k B : Nat} {w w0 w' : World} {e : TypeId} {v v' : Value} {zs : List α}
/-- what lay below a bound has been kept, if the row lay above it -/
theorem AppPost.below (h : AppPost w w' e k f v v' zs) (hb : Below B w0 w) (hv : ∀ x, v.ownBlock = some x → B ≤ x) (hB : B ≤ w.heap.size) : Below B w0 w' ∧ ∀ x, v'.ownBlock = some x → B ≤ x :=
  ⟨hb.grown h.grown hB (fun x hx => hv x hx), fun x hx => by
    rcases h.lies with h1 | h1
    · exact hv x (h1 ▸ hx)
    · rw [h1] at hx; injection hx with hx; omega⟩
end
theorem strC_len (s : ByteArray) : ([Value.string s] : List Value).length = 1 := rfl
end Go.Proofs.Ytnifgkgdphlleaa
