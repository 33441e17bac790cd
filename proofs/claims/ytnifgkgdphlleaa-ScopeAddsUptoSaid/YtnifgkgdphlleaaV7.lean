/- The uses of the program: what lies in memory, and what may be written. -/
import Derived.Test.YtnifgkgdphlleaaV6
set_option linter.unusedSimpArgs false
set_option linter.unusedVariables false
namespace Go.Proofs.Ytnifgkgdphlleaa
open Go.RowKit Tk
/-! ### a part of a record in an owned row -/
def spl {β : Type} (L : List β) (p : Nat) (V : List β) : List β := L.take p ++ V ++ L.drop (p + V.length)
theorem spl_len {β : Type} {L V : List β} {p : Nat} (h : p + V.length ≤ L.length) : (spl L p V).length = L.length := by
  unfold spl; simp only [List.length_append, List.length_take, List.length_drop]; omega
theorem spl_get {β : Type} {L V : List β} {p : Nat} (h : p + V.length ≤ L.length) (j : Nat) : (spl L p V)[j]? = if j < p then L[j]? else if j < p + V.length then V[j - p]? else L[j]? := by
  unfold spl
  have e1 : (L.take p).length = p := by rw [List.length_take]; omega
  rw [List.append_assoc, List.getElem?_append, e1]
  split
  · rename_i hj
    rw [List.getElem?_take, if_pos hj]
  · rename_i hj
    rw [List.getElem?_append]
    by_cases h2 : j < p + V.length
    · rw [if_pos h2, if_pos (by omega)]
    · rw [if_neg h2, if_neg (by omega), List.getElem?_drop]
      congr 1; omega
theorem spl_in {β : Type} {L V W : List β} {q o k : Nat} (hW : W.length = k) (hk : q + k ≤ L.length) (ho : o + V.length ≤ k) (hL : ∀ j, j < k → L[q + j]? = W[j]?) : spl L (q + o) V = spl L q (spl W o V) := by
  have h1 : (spl W o V).length = k := by rw [spl_len (by omega), hW]
  apply List.ext_getElem?
  intro j
  rw [spl_get (by omega), spl_get (by rw [h1]; omega), h1]
  by_cases a1 : j < q
  · rw [if_pos (by omega), if_pos a1]
  rw [if_neg a1]
  by_cases a2 : j < q + k
  · rw [if_pos a2, spl_get (by omega)]
    by_cases a3 : j < q + o
    · rw [if_pos a3, if_pos (by omega), ← hL (j - q) (by omega), show q + (j - q) = j by omega]
    · rw [if_neg a3, if_neg (show ¬ j - q < o by omega)]
      by_cases a4 : j < q + o + V.length
      · rw [if_pos a4, if_pos (by omega)]; congr 1; omega
      · rw [if_neg a4, if_neg (by omega), ← hL (j - q) (by omega), show q + (j - q) = j by omega]
  · rw [if_neg a2, if_neg (by omega), if_neg (by omega)]
section
variable {α : Type} {f : α → List Value} {k : Nat} {P : Program} {w0 w : World} {t e : TypeId} {xs : List α}
theorem wp_put_part {o : Oper} {a : Act} {K : Act → World → Prop} {Q : Exit → Act → World → Prop} {ty : TypeId} {x y : Operand} {g n c i : Nat} {off : Nat} {old : α} (z : α) (r : OwnR w0 w e k f (.slice (some ⟨g, 0, none⟩) n c) xs) (hf : ∀ x, (f x).length = k) (hi' : xs[i]? = some old)
    (ho : o.op = .store ty x y) (hx : a.eval x = .pointer (some ⟨g, i * k + off, none⟩)) (hz : spl (f old) off (a.eval y).cells.toList = f z) (hi : (P.info? ty).map (·.size) = some (a.eval y).cells.size) (h1 : (a.eval y).cells.all (·.oneCell') = true) (hle : off + (a.eval y).cells.size ≤ k)
    (h : ∀ w', OwnR w0 w' e k f (.slice (some ⟨g, 0, none⟩) n c) (xs.set i z) → But g w w' → K (a.put o.dst undef) w') : o.wp P a w K Q := by
  obtain ⟨hlt, hold⟩ := List.getElem?_eq_some_iff.1 hi'
  obtain ⟨hl, ⟨e1, e2⟩ | ⟨g', cap, cur, e1, hb, hg, h2, h3, h4, h5⟩⟩ := r.row
  · cases e1
  · injection e1 with e1 e2 e3
    injection e1 with e1
    injection e1 with e1
    subst e1 e2 e3
    have hle1 : i * k + k ≤ xs.length * k := by
      have := Nat.mul_le_mul_right k hlt
      rw [Nat.succ_mul] at this; omega
    have hle2 : xs.length * k ≤ c * k := Nat.mul_le_mul_right k h2
    have hcl : xs.length * k ≤ cur.toList.length := by simpa [h4] using hle2
    have hvl : (a.eval y).cells.toList.length = (a.eval y).cells.size := Array.length_toList
    have hcur : ∀ j, j < k → cur.toList[i * k + j]? = (f old)[j]? := fun j hj => by
      have := congrArg (fun l => l[i * k + j]?) h5
      rw [List.getElem?_take, if_pos (by omega), flat_get hf xs i j hlt hj, hold] at this
      exact this
    have hsp : spl cur.toList (i * k + off) (a.eval y).cells.toList = spl cur.toList (i * k) (f z) := by
      rw [spl_in (W := f old) (hf _) (by omega) (by omega) hcur, hz]
    refine wp_put (F := [g]) (w0 := w) (X := g) (cs := cur) (t := e) ⟨hg, .inl (by simp)⟩ ho hx hi h1 (by omega) fun w' hL hb' => h w' ⟨⟨?_, .inr ⟨g, c, putA cur (i * k + off) (a.eval y).cells, by rw [List.length_set], Nat.zero_le _, hL.blk, by rwa [List.length_set], h3, ?_, ?_⟩⟩, r.new⟩ hb'
    · rw [flat_len hf]
    · show (spl cur.toList (i * k + off) (a.eval y).cells.toList).toArray.size = _
      rw [List.size_toArray, spl_len (by omega), Array.length_toList, h4]
    · show (spl cur.toList (i * k + off) (a.eval y).cells.toList).toArray.toList.take _ = _
      rw [hsp, List.toList_toArray]
      have := take_put cur.toList (f z) (a := i * k) (N := xs.length * k) (by rw [hf]; exact hle1) hcl
      rw [h5, hf] at this
      simp only [spl, hf, List.length_set]
      rw [this, flat_put hf xs i z hlt]
end
/-! ### plain uses -/
structure PS where
  kind : Int
  name : ByteArray
  req : Bool
  perms : List ByteArray
  line : Int
  col : Int
def Sy.ps (x : Sy) : PS := ⟨x.kind, x.name, x.req, x.perms, x.line, x.col⟩
def PS.key (x : PS) : Int × ByteArray := (x.kind, x.name)
structure Ev where
  pos : Int × Int
  kind : Int
  name : ByteArray
  perms : List ByteArray
def idxP (k : Int × ByteArray) : List PS → Option Nat
  | [] => none
  | x :: l => if x.key = k then some 0 else (idxP k l).map (· + 1)
def PS.add (x : PS) (perms : List ByteArray) : PS := ⟨x.kind, x.name, x.req, joinN x.perms perms, x.line, x.col⟩
def addU (U : List PS) (v : Ev) : List PS :=
  if v.name = ⟨#[]⟩ ∨ isObj v.kind v.name = true then U
  else match idxP (v.kind, v.name) U with
    | some i => U.modify i (·.add v.perms)
    | none => U ++ [⟨v.kind, v.name, false, dedupN v.perms, v.pos.1, v.pos.2⟩]
def adds (U : List PS) (E : List Ev) : List PS := E.foldl addU U
def wtU (U : List PS) : Nat := (U.map fun x => 1 + x.perms.length).sum
def wtE (E : List Ev) : Nat := (E.map fun v => 1 + v.perms.length).sum
theorem adds_app (U : List PS) (A B : List Ev) : adds U (A ++ B) = adds (adds U A) B := List.foldl_append ..
theorem wtE_app (A B : List Ev) : wtE (A ++ B) = wtE A + wtE B := by simp [wtE]
theorem wtU_app (A B : List PS) : wtU (A ++ B) = wtU A + wtU B := by simp [wtU]
theorem wtU_len (U : List PS) : U.length ≤ wtU U := by
  induction U with
  | nil => exact Nat.le_refl _
  | cons x U ih => simp only [wtU, List.map_cons, List.sum_cons, List.length_cons] at ih ⊢; omega
theorem wtU_mem {U : List PS} {x : PS} (h : x ∈ U) : 1 + x.perms.length ≤ wtU U := by
  induction U with
  | nil => cases h
  | cons y U ih =>
    simp only [wtU, List.map_cons, List.sum_cons] at ih ⊢
    rcases List.mem_cons.1 h with rfl | h
    · omega
    · have := ih h; omega
theorem wtU_mod (perms : List ByteArray) : ∀ (U : List PS) (i : Nat), wtU (U.modify i (·.add perms)) ≤ wtU U + perms.length
  | [], i => by simp [wtU]
  | x :: U, 0 => by
    have := joinN_len x.perms perms
    simp only [List.modify_zero_cons, wtU, List.map_cons, List.sum_cons, PS.add]; omega
  | x :: U, i + 1 => by
    have := wtU_mod perms U i
    simp only [List.modify_succ_cons, wtU, List.map_cons, List.sum_cons] at this ⊢; omega
theorem addU_wt (U : List PS) (v : Ev) : wtU (addU U v) ≤ wtU U + (1 + v.perms.length) := by
  unfold addU
  split
  · omega
  · split
    · have := wtU_mod v.perms U ‹_›; omega
    · rw [wtU_app]
      have := joinN_len [] v.perms
      simp only [wtU, List.map_cons, List.sum_cons, List.map_nil, List.sum_nil, dedupN, List.length_nil] at this ⊢; omega
theorem adds_wt (E : List Ev) : ∀ U : List PS, wtU (adds U E) ≤ wtU U + wtE E := by
  induction E with
  | nil => intro U; exact Nat.le_refl _
  | cons v E ih =>
    intro U
    have h1 := ih (addU U v)
    have h2 := addU_wt U v
    have h3 : wtE (v :: E) = (1 + v.perms.length) + wtE E := by simp [wtE]
    have h4 : adds U (v :: E) = adds (addU U v) E := rfl
    rw [h3, h4]; omega
/-- what the map holds -/
def kidx : List PS → Nat → List ((Int × ByteArray) × Value)
  | [], _ => []
  | x :: l, i => (x.key, .int .i64 i) :: kidx l (i + 1)
theorem kidx_get (k : Int × ByteArray) : ∀ (U : List PS) (i : Nat), mgetK k (kidx U i) = (idxP k U).map fun j => Value.int .i64 ((i + j : Nat) : Int)
  | [], _ => rfl
  | x :: U, i => by
    have ih := kidx_get k U (i + 1)
    unfold mgetK at ih ⊢
    unfold kidx idxP
    by_cases h : x.key = k
    · rw [if_pos h, List.find?_cons_of_pos (by simp [h])]; simp
    · rw [if_neg h, List.find?_cons_of_neg (by simpa using fun e => h e.symm), ih, Option.map_map]
      congr 1
      funext j
      simp only [Function.comp]
      congr 2; omega
theorem kidx_snoc (x : PS) : ∀ (U : List PS) (i : Nat), kidx (U ++ [x]) i = kidx U i ++ [(x.key, .int .i64 ((i + U.length : Nat) : Int))]
  | [], i => by simp [kidx]
  | y :: U, i => by
    rw [List.cons_append, kidx, kidx_snoc x U (i + 1), kidx, List.cons_append, List.length_cons]
    congr 5; omega
theorem kidx_put {k : Int × ByteArray} (v : Value) : ∀ {U : List PS} (i : Nat), idxP k U = none → mputK k v (kidx U i) = kidx U i ++ [(k, v)]
  | [], _, _ => rfl
  | x :: U, i, h => by
    unfold idxP at h
    split at h
    · cases h
    · rename_i hk
      have h2 : idxP k U = none := by cases hq : idxP k U with
        | none => rfl
        | some j => rw [hq] at h; cases h
      unfold kidx mputK
      rw [if_neg (fun e => hk e.symm), kidx_put v (i + 1) h2]; rfl
theorem kidx_mod (perms : List ByteArray) : ∀ (U : List PS) (n i : Nat), kidx (U.modify n (·.add perms)) i = kidx U i
  | [], n, i => by simp
  | x :: U, 0, i => rfl
  | x :: U, n + 1, i => by rw [List.modify_succ_cons, kidx, kidx, kidx_mod perms U n (i + 1)]
theorem idx_some {k : Int × ByteArray} : ∀ {U : List PS} {i : Nat}, idxP k U = some i → ∃ x, U[i]? = some x ∧ x.key = k
  | x :: U, i, h => by
    unfold idxP at h
    split at h
    · rename_i hk
      injection h with h; subst h
      exact ⟨x, rfl, hk⟩
    · cases hq : idxP k U with
      | none => rw [hq] at h; cases h
      | some j =>
        rw [hq] at h
        injection h with h; subst h
        obtain ⟨y, h1, h2⟩ := idx_some hq
        exact ⟨y, by simpa using h1, h2⟩
/-- each list of permissions has each name once -/
def ndU (U : List PS) : Prop := ∀ x ∈ U, x.perms.Nodup
theorem ndU_add {U : List PS} (h : ndU U) (v : Ev) : ndU (addU U v) := by
  unfold addU
  split
  · exact h
  · split
    · rename_i i hi
      intro x hx
      obtain ⟨j, hj, e⟩ := List.getElem_of_mem hx
      rw [List.getElem_modify] at e
      subst e
      split
      · exact joinN_nodup (h _ (List.getElem_mem _)) _
      · exact h _ (List.getElem_mem _)
    · intro x hx
      rcases List.mem_append.1 hx with hx | hx
      · exact h x hx
      · rw [List.mem_singleton.1 hx]; exact dedup_nodup _
end Go.Proofs.Ytnifgkgdphlleaa
