/- Walks at worlds without names: blocks that a call may write, and what a step keeps of them. No program in sight. -/
import Derived.Test.YtnifgkgdphlleaaC6
import Derived.Test.YtnifgkgdphlleaaOn
import Derived.Laws.CopyRow
set_option linter.unusedSimpArgs false
set_option linter.unusedVariables false
namespace Go.Proofs.Ytnifgkgdphlleaa
open Go.RowKit Tk
/-- block X holds cs, and the call may write there -/
structure Loc (F : List Nat) (w0 w : World) (X : Nat) (t : TypeId) (cs : Array Value) : Prop where
  blk : Blk w X t cs
  may : X ∈ F ∨ w0.heap.size ≤ X
def putA (cs : Array Value) (o : Nat) (vs : Array Value) : Array Value := (cs.toList.take o ++ vs.toList ++ cs.toList.drop (o + vs.size)).toArray
section
variable {F : List Nat} {w0 w w1 : World} {X Y : Nat} {t t' : TypeId} {cs ds : Array Value}
theorem Loc.ext (h : Loc F w0 w X t cs) (hx : Ext w w1) : Loc F w0 w1 X t cs := ⟨h.blk.low hx, h.may⟩
theorem Loc.but (h : Loc F w0 w X t cs) (hb : But Y w w1) (hn : X ≠ Y) : Loc F w0 w1 X t cs := ⟨h.blk.but hb hn, h.may⟩
theorem Loc.lt (h : Loc F w0 w X t cs) : X < w.heap.size := h.blk.lt
theorem Loc.cell (h : Loc F w0 w X t cs) (i : Nat) : w.cell? ⟨X, i, none⟩ = cs[i]? := h.blk.cell i
theorem Loc.free (h : Loc F w0 w X t cs) (i : Nat) : w.frozen? ⟨X, i, none⟩ = false := h.blk.free i
theorem Loc.ne (h : Loc F w0 w X t cs) (hY : w.heap.size = Y) : X ≠ Y ∧ Y ≠ X := by have := h.lt; omega
theorem Only.more {G : List Nat} (h : Only F w0 w) (hx : Only G w w1) (hG : ∀ x ∈ G, x ∈ F ∨ w0.heap.size ≤ x) : Only F w0 w1 := h.trans hx hG
theorem Loc.only {G : List Nat} (h : Loc F w0 w X t cs) (hx : Only G w w1) (hG : X ∉ G) : Loc F w0 w1 X t cs := ⟨h.blk.of (hx.block X h.blk.lt hG), h.may⟩
theorem Only.ext (h : Only F w0 w) (hx : Ext w w1) : Only F w0 w1 := h.then_ (Only.of_below hx)
theorem Only.put (h : Only F w0 w) (b : Loc F w0 w X t cs) (hb : But X w w1) : Only F w0 w1 :=
  h.trans (Only.of_but hb (List.mem_singleton.2 rfl)) fun x hx => by rw [List.mem_singleton.1 hx]; exact b.may
/-- what may be written now, with a new beginning -/
theorem Loc.rebase {F' : List Nat} (h : Loc F w0 w X t cs) (hX : X ∈ F') : Loc F' w w X t cs := ⟨h.blk, .inl hX⟩
theorem ORow.only {α : Type} {k : Nat} {f : α → List Value} {v : Value} {xs : List α} (h : ORow w t k f v xs) (E : Only F w w1) (hF : ∀ x ∈ F, x ∉ ownB v) : ORow w1 t k f v xs :=
  h.kept fun x hx => E.block x (h.lt hx) fun hm => hF x hm (mem_ownB.2 hx)
theorem Loc.ge (h : Loc [] w0 w X t cs) : w0.heap.size ≤ X := by
  rcases h.may with h | h
  · cases h
  · exact h
theorem Only.after (h : Only [] w0 w) (k : Only F w w1) (hF : ∀ x ∈ F, w0.heap.size ≤ x) : Below w0.heap.size w0 w1 := (h.trans k fun x hx => .inr (hF x hx) : Only [] w0 w1).grown rfl
theorem Only.low (h : Only [] w0 w) : Below w0.heap.size w0 w := h.grown rfl
theorem Loc.new (h : Blk w1 X t cs) (E : Only F w0 w) (hX : w.heap.size = X) : Loc F w0 w1 X t cs := ⟨h, .inr (hX ▸ E.size)⟩
theorem Loc.later {w2 : World} (E : Only F w0 w) (h : Blk w2 X t cs) (hX : w.heap.size ≤ X) : Loc F w0 w2 X t cs := ⟨h, .inr (Nat.le_trans E.size hX)⟩
theorem ORow.ext {α : Type} {k : Nat} {f : α → List Value} {v : Value} {xs : List α} (h : ORow w t k f v xs) (hx : Ext w w1) : ORow w1 t k f v xs := ORow.low h hx
theorem RRow.ext {α : Type} {k : Nat} {f : α → List Value} {v : Value} {xs : List α} (h : RRow w k f v xs) (hx : Ext w w1) : RRow w1 k f v xs := h.low hx
theorem StrMap.ext {r : Nat} {m : List (ByteArray × Value)} (h : StrMap w r m) (hx : Ext w w1) : StrMap w1 r m := h.low hx
theorem Ext.ext {w2 : World} (h : Ext w w1) (hx : Ext w1 w2) : Ext w w2 := h.trans hx
/-- an owned row and a block of another type -/
theorem ORow.but {α : Type} {k : Nat} {f : α → List Value} {v : Value} {xs : List α} (h : ORow w t k f v xs) (hb : But X w w1) (b : Blk w X t' cs) (hne : t ≠ t') : ORow w1 t k f v xs :=
  h.kept fun x hx => hb.block x (h.lt hx) fun e => h.ne b hne (e ▸ mem_ownB.2 hx)
end
section
variable {P : Program} {F : List Nat} {w0 w : World} {X : Nat} {t : TypeId} {cs : Array Value} {K : Act → World → Prop} {a : Act} {Q : Exit → Act → World → Prop}
/-- picks a store -/
theorem at_store (n : Tmp) {ty pty : TypeId} {y : Operand} {pos : String} {af : Array Edge} {gd : Option (Nat × Bool)} (h : Oper.wp P ⟨none, .store pty (.tmp n) y, ty, pos, af, gd⟩ a w K Q) : Oper.wp P ⟨none, .store pty (.tmp n) y, ty, pos, af, gd⟩ a w K Q := h
theorem at_j (j : Nat) {ops : Array Oper} {S : Nat → Sp} {ws : World} {O : Prop} {o : Oper} {l : List (Nat × Oper)} {E : List (Nat × Value)} (h : wpE P ops S ws K O ((j, o) :: l) E a) : wpE P ops S ws K O ((j, o) :: l) E a := h
theorem at_reg (id : Nat) {ops : Array Oper} {b : Bool} (h : (Code.region id ops b).wp P Q a w) : (Code.region id ops b).wp P Q a w := h
theorem at_nil (n : Nat) {ops : Array Oper} {S : Nat → Sp} {ws : World} {O : Prop} {E : List (Nat × Value)} (h : wpE P ops S ws K O [] E a) : wpE P ops S ws K O [] E a := h
/-- a region whose order Go leaves open -/
theorem wp_region_x {id : Nat} {l : List Oper} (S : Nat → Sp) (c fr tail : List Nat) (hm : P.follows .mixedOrders = true) (hB : eB2 l.toArray c fr tail = true)
    (h : ∀ (K : Act → World → Prop) (ws : World), Ext w ws → (∀ a w, wpTxt P l.toArray (fun a w => Q .normal a w) (LetsOut Q) (pickL l tail) a w → K a w) → wpE P l.toArray S ws K (LetsOut Q) (pickE l c) [] a) : (Code.region id l.toArray true).wp P Q a w :=
  wp_region_h S c fr tail hm hB fun K ws hws hK => h K ws (hws ▸ Ext.drew w) hK
/-- picks an operation by its slot -/
theorem at_dst (d : Tmp) {op : Op} {ty : TypeId} {pos : String} {af : Array Edge} {gd : Option (Nat × Bool)} (h : Oper.wp P ⟨some d, op, ty, pos, af, gd⟩ a w K Q) : Oper.wp P ⟨some d, op, ty, pos, af, gd⟩ a w K Q := h
theorem new_block (hX : w.heap.size = X) (h : ∀ w', Blk w' X t cs → Ext w w' → K a w') : K a (w.alloc (.cells cs t)) := h _ (hX ▸ Blk.fresh w t cs) (Ext.alloc w _)
/-- a store into a block -/
theorem wp_put {o : Oper} {ty : TypeId} {x y : Operand} {off : Nat} (b : Loc F w0 w X t cs) (ho : o.op = .store ty x y) (hx : a.eval x = .pointer (some ⟨X, off, none⟩))
    (hi : (P.info? ty).map (·.size) = some (a.eval y).cells.size) (h1 : (a.eval y).cells.all (·.oneCell') = true) (hle : off + (a.eval y).cells.size ≤ cs.size)
    (h : ∀ w', Loc F w0 w' X t (putA cs off (a.eval y).cells) → But X w w' → K (a.put o.dst undef) w') : o.wp P a w K Q := by
  obtain ⟨v, hy⟩ : ∃ v, a.eval y = v := ⟨_, rfl⟩
  rw [hy] at hi h1 hle h
  have hg : w.heap[X]? = some (.cells cs t (0, 0)) := b.blk
  have hr := run_storeCells_at (P := P) X off t v.cells.toList 0 cs w hg (by simpa using hle) (fun u hu => (Array.all_eq_true_iff_forall_mem.1 h1) u (by simpa using hu))
  have hs : (Instr.storeAt ty (.pointer (some ⟨X, off, none⟩)) v).run P w = .ok () (w.setRow X (putA cs off v.cells)) := by
    cases hq : P.info? ty with
    | none => simp [hq] at hi
    | some i =>
      have hs : v.cells.size = i.size := by simp [hq] at hi; omega
      simp only [Nat.add_zero, Array.length_toList] at hr
      simp [Instr.storeAt, Instr.sureAddr, storeVar, sizeOf, typeInfo, hq, hs, hr, putA]
  have hlt : X < w.heap.size := b.blk.lt
  have hw := setRow_heap w X cs (putA cs off v.cells) t (0, 0) hg
  unfold Oper.wp execOp
  simp only [ho, hx, hy, Sem.run_bind, hs, Result.andThen_ok, Sem.run_pure, Oper.upon_skip]
  exact h _ ⟨hw, b.may⟩ ⟨rfl, rfl, rfl, by simp [World.setRow], fun k hk hn => by simp [World.setRow, Array.getElem?_modify, Ne.symm hn]⟩
/-- a load of a part of a block -/
theorem wp_get {o : Oper} {ty : TypeId} {x : Operand} {off k : Nat} {d : TypeDesc} (b : Blk w X t cs) (ho : o.op = .load ty x) (hx : a.eval x = .pointer (some ⟨X, off, none⟩))
    (hu : P.underlying ty = some d) (hd : (match d with | .struct _ | .array _ _ => true | _ => false) = true) (hi : (P.info? ty).map (·.size) = some k) (hle : off + k ≤ cs.size)
    (h : K (a.put o.dst (.agg (cs.extract off (off + k)))) w) : o.wp P a w K Q := by
  have hl : (loadCells ⟨X, off, none⟩ k).run P w = .ok (cs.extract off (off + k)) w := by
    have := run_loadCells_list (P := P) w ⟨X, off, none⟩ (cs.extract off (off + k)).toList (fun j v hv => by
      have hadd : (⟨X, off, none⟩ : Addr).add j = ⟨X, off + j, none⟩ := by unfold Addr.add; split <;> simp_all
      rw [hadd, b.cell]
      simp only [Array.getElem?_toList, Array.getElem?_extract] at hv
      split at hv <;> simp_all)
    have hk : (cs.extract off (off + k)).size = k := by simp; omega
    rw [Array.length_toList, hk] at this
    rwa [Array.toArray_toList] at this
  cases hq : P.info? ty with
  | none => simp [hq] at hi
  | some i =>
    have hs : i.size = k := by simpa [hq] using hi
    have hagg : (isAgg ty).run P w = .ok true w := by
      unfold isAgg
      rw [Sem.run_bind, run_underlying hu w]
      cases d <;> simp_all
    unfold Oper.wp execOp
    simp only [ho, hx, Instr.loadAt, Instr.sureAddr, loadVar, Sem.run_bind, Sem.run_pure, Result.andThen_ok, hagg, if_true, sizeOf, typeInfo, hq, hs]
    simp [hq, hs, hl, Oper.upon_value]
    exact h
end
section
variable {α : Type} {F : List Nat} {w0 w w1 : World} {X k : Nat} {e t : TypeId} {cs : Array Value} {f : α → List Value} {v v' : Value} {xs ys : List α}
/-- a slice that the call has made, and may append to -/
structure OwnR (w0 w : World) (e : TypeId) (k : Nat) (f : α → List Value) (v : Value) (xs : List α) : Prop where
  row : ORow w e k f v xs
  new : ∀ x ∈ ownB v, w0.heap.size ≤ x
theorem OwnR.nil (w0 w : World) (e : TypeId) (k : Nat) (f : α → List Value) : OwnR w0 w e k f (.slice none 0 0) [] := ⟨ORow.nil _ _ _ _, by simp [ownB, Value.ownBlock]⟩
theorem OwnR.ext (h : OwnR w0 w e k f v xs) (hx : Ext w w1) : OwnR w0 w1 e k f v xs := ⟨h.row.low hx, h.new⟩
theorem OwnR.but (h : OwnR w0 w e k f v xs) (hb : But X w w1) (b : Blk w X t cs) (hne : e ≠ t) : OwnR w0 w1 e k f v xs := ⟨h.row.but hb b hne, h.new⟩
theorem OwnR.notin (h : OwnR w0 w e k f v xs) (hX : w.heap.size ≤ X) : X ∉ ownB v := fun hm => by have := h.row.lt (mem_ownB.1 hm); omega
theorem OwnR.but0 (h : OwnR w0 w e k f v xs) (hb : But X w w1) (hn : X ∉ ownB v) : OwnR w0 w1 e k f v xs := ⟨h.row.kept fun x hx => hb.block x (h.row.lt hx) fun e => hn (e ▸ mem_ownB.2 hx), h.new⟩
theorem OwnR.app (h : OwnR w0 w e k f v xs) (E : Only F w0 w) (hA : AppPost w w1 e k f v v' ys) : OwnR w0 w1 e k f v' ys ∧ Only F w0 w1 := by
  refine ⟨⟨hA.row, fun x hx => ?_⟩, E.trans (Only.of_grown (F := ownB v) hA.grown fun b hb => mem_ownB.2 hb) fun x hx => .inr (h.new x hx)⟩
  have hx' := mem_ownB.1 hx
  rcases hA.lies with h1 | h1
  · exact h.new x (mem_ownB.2 (h1 ▸ hx'))
  · rw [h1] at hx'
    injection hx' with hx'
    have := E.size
    omega
theorem Loc.grow (b : Loc F w0 w X t cs) (h : OwnR w0 w e k f v xs) (hA : AppPost w w1 e k f v v' ys) (hne : e ≠ t) : Loc F w0 w1 X t cs :=
  ⟨b.blk.grown hA.grown fun h1 => h.row.ne b.blk hne (mem_ownB.2 h1.symm), b.may⟩
end
section
variable {α : Type} {f : α → List Value} {k bytes : Nat} {P : Program} {w w0 : World} {F : List Nat} {t e : TypeId} {v u z : Value} {xs ys : List α}
theorem wp_own {o : Oper} {a : Act} {K : Act → World → Prop} {Q : Exit → Act → World → Prop} (s x : Operand) (ho : o.op = .call { callee := .builtin .append, args := #[s, x], argTypes := #[t, t] })
    (hi : (P.info? e).map (fun i => (i.zero, i.size, i.bytes)) = some (some z, k, bytes)) (ht : P.underlying t = some (.slice e)) (hzs : z.cells.size = k) (hk0 : 0 < k) (hf : ∀ x, (f x).length = k) (h1 : ∀ x, ∀ c ∈ f x, Value.oneCell' c = true)
    (r : OwnR w0 w e k f v xs) (E : Only F w0 w) (hu : RRow w k f u ys) (hs : a.eval s = v) (hx : a.eval x = u) (h63 : xs.length + ys.length ≤ maxLen) (hb : (xs.length + ys.length) * bytes ≤ 140737488355328)
    (h : ∀ zs, xs ++ ys = zs → zs.length ≤ xs.length + ys.length → ∀ v' w', OwnR w0 w' e k f v' zs → Only F w0 w' → AppPost w w' e k f v v' zs → K (a.put o.dst v') w') : o.wp P a w K Q :=
  wp_app s x ho hi ht hzs hk0 hf h1 v u xs ys hs hx r.row hu h63 hb fun v' w' hA => h _ rfl (by simp) v' w' (r.app E hA).1 (r.app E hA).2 hA
end
section
variable {α : Type} {f : α → List Value} {k : Nat} {P : Program} {w0 w : World} {t e : TypeId} {xs : List α}
theorem flat_put (hf : ∀ x, (f x).length = k) : ∀ (xs : List α) (i : Nat) (y : α), i < xs.length → (xs.flatMap f).take (i * k) ++ f y ++ (xs.flatMap f).drop (i * k + k) = (xs.set i y).flatMap f
  | x :: xs, 0, y, _ => by simp [List.drop_append, hf]
  | x :: xs, i + 1, y, hi => by
    have ih := flat_put hf xs i y (by simpa using hi)
    have e1 : (i + 1) * k = (f x).length + i * k := by rw [hf, Nat.succ_mul]; omega
    rw [List.flatMap_cons, List.set_cons_succ, List.flatMap_cons, e1, List.take_length_add_append, Nat.add_assoc, List.drop_length_add_append, ← ih]
    simp only [List.append_assoc]
theorem take_put {β : Type} (A V : List β) {a N : Nat} (h1 : a + V.length ≤ N) (h2 : N ≤ A.length) : (A.take a ++ V ++ A.drop (a + V.length)).take N = (A.take N).take a ++ V ++ (A.take N).drop (a + V.length) := by
  have e1 : (A.take a).length = a := by rw [List.length_take]; omega
  rw [List.take_append, List.take_append, e1, List.take_take, List.take_take, List.drop_take, List.length_append, e1]
  rw [show min N a = a by omega, show min a N = a by omega, List.take_of_length_le (l := V) (by omega), show N - (a + V.length) = N - (a + V.length) from rfl]
/-- a store of a whole record into an owned row -/
theorem wp_put_row {o : Oper} {a : Act} {K : Act → World → Prop} {Q : Exit → Act → World → Prop} {ty : TypeId} {x y : Operand} {g n c i : Nat} (z : α) (r : OwnR w0 w e k f (.slice (some ⟨g, 0, none⟩) n c) xs) (hf : ∀ x, (f x).length = k) (h1 : ∀ x, ∀ c ∈ f x, Value.oneCell' c = true) (hi' : i < xs.length)
    (ho : o.op = .store ty x y) (hx : a.eval x = .pointer (some ⟨g, i * k, none⟩)) (hy : (a.eval y).cells = (f z).toArray) (hi : (P.info? ty).map (·.size) = some k)
    (h : ∀ w', OwnR w0 w' e k f (.slice (some ⟨g, 0, none⟩) n c) (xs.set i z) → But g w w' → K (a.put o.dst undef) w') : o.wp P a w K Q := by
  obtain ⟨hl, ⟨e1, e2⟩ | ⟨g', cap, cur, e1, hb, hg, h2, h3, h4, h5⟩⟩ := r.row
  · cases e1
  · injection e1 with e1 e2 e3
    injection e1 with e1
    injection e1 with e1
    subst e1 e2 e3
    have hcs : (a.eval y).cells.size = k := by rw [hy]; simp [hf]
    have hle : i * k + k ≤ xs.length * k := by
      have := Nat.mul_le_mul_right k hi'
      rw [Nat.succ_mul] at this; omega
    have hle2 : xs.length * k ≤ c * k := Nat.mul_le_mul_right k h2
    refine wp_put (F := [g]) (w0 := w) (X := g) (cs := cur) (t := e) ⟨hg, .inl (by simp)⟩ ho hx (by rw [hi, hcs]) (by rw [hy]; simpa using h1 z) (by rw [hcs, h4]; omega) fun w' hL hb' => h w' ⟨⟨?_, .inr ⟨g, c, putA cur (i * k) (a.eval y).cells, by rw [List.length_set], Nat.zero_le _, hL.blk, by rwa [List.length_set], h3, ?_, ?_⟩⟩, r.new⟩ hb'
    · rw [flat_len hf]
    · simp only [putA, hy, List.size_toArray, hf, List.length_append, List.length_take, List.length_drop, Array.length_toList, h4]
      omega
    · have hcl : xs.length * k ≤ cur.toList.length := by simpa [h4] using hle2
      have := take_put cur.toList (f z) (a := i * k) (N := xs.length * k) (by rw [hf]; exact hle) hcl
      rw [h5, hf] at this
      simp only [putA, hy, List.size_toArray, hf, List.length_set]
      rw [this, flat_put hf xs i z hi']
end
section
variable {α : Type} {f : α → List Value} {k : Nat} {F : List Nat} {w0 w w1 : World} {t e : TypeId} {xs : List α} {g n c X : Nat} {cs : Array Value}
theorem OwnR.put (r : OwnR w0 w e k f (.slice (some ⟨g, 0, none⟩) n c) xs) (E : Only F w0 w) (hb : But g w w1) : Only F w0 w1 :=
  E.trans (Only.of_but hb (List.mem_singleton.2 rfl)) fun x hx => .inr (r.new x (by rw [List.mem_singleton.1 hx]; simp [ownB, Value.ownBlock]))
theorem OwnR.ne (r : OwnR w0 w e k f (.slice (some ⟨g, 0, none⟩) n c) xs) (b : Blk w X t cs) (hne : e ≠ t) : X ≠ g := fun h => r.row.ne b hne (by rw [h]; simp [ownB, Value.ownBlock])
theorem OwnR.ofBlk (b : Loc F w0 w X e cs) (hF : F = []) (hf : ∀ x, (f x).length = k) (hc : cs.toList = xs.flatMap f) (hl : xs.length ≤ maxLen) : OwnR w0 w e k f (.slice (some ⟨X, 0, none⟩) xs.length xs.length) xs :=
  ⟨ORow.blk hf b.blk hc hl, fun x hx => by
    have : x = X := by simpa [ownB, Value.ownBlock] using hx
    subst this; subst hF; exact b.ge⟩
end
end Go.Proofs.Ytnifgkgdphlleaa
