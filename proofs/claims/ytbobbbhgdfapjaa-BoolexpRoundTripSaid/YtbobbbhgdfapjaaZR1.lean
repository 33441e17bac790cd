/- Can -/
import Derived.Orders
import Derived.Below
import Derived.Tactics
import Derived.Deep.Draws
import Derived.Laws.Panics
set_option linter.unusedSimpArgs false
set_option linter.unusedVariables false
namespace Go.Proofs.Ytbobbbhgdfapjaa
open Go.RowKit

/-- operations that may turn the world -/
def isW (o : Oper) : Bool :=
  match o.op with
  | .store .. | .alloc _ | .box .. | .buildSlice .. | .insert .. | .makeMap .. | .makeChan .. | .makeSlice .. | .mapUpdate .. | .mapEntry ..
  | .entryStore .. | .panic _ | .send .. | .recv .. | .select .. | .go _ | .defer _ | .ready _ | .waits _ | .range .. | .next .. | .entry _ => true
  | .call c => match c.callee with
    | .builtin .len => false
    | .builtin .cap => false
    | _ => true
  | _ => false

/-- operations that ask nothing of the world -/
def freeOp (o : Oper) : Bool :=
  match o.op with
  | .move _ | .assign _ | .nilCheck _ | .indexAddr .. | .index .. | .slice .. | .extract .. | .unOp .. => true
  | _ => false

def NT {α : Type} (P : Program) (s : Sem α) : Prop := ∀ w v w1, s.run P w = .ok v w1 → w1 = w ∧ ∀ w', s.run P w' = .ok v w'
section
variable {P : Program}
theorem NT.pure_ {α : Type} (a : α) : NT P (pure a : Sem α) := fun w v w1 h => by
  simp only [Sem.run_pure, Result.ok.injEq] at h
  obtain ⟨rfl, rfl⟩ := h
  exact ⟨rfl, fun _ => rfl⟩
theorem NT.halt_ {α : Type} (h : Halt) : NT P (.halt h : Sem α) := fun w n w' hr => by cases hr
theorem NT.stuck_ {α : Type} (h : String) : NT P (stuck h : Sem α) := fun w n w' hr => by cases hr
theorem NT.unsupported_ {α : Type} (h : Unsupported) : NT P (unsupported h : Sem α) := fun w n w' hr => by cases hr
theorem NT.goPanic_ {α : Type} (v : Value) : NT P (goPanic v : Sem α) := fun w n w' hr => by cases hr
theorem NT.program_ : NT P program := fun w v w1 h => by
  simp only [program, Sem.run, Result.ok.injEq] at h
  obtain ⟨rfl, rfl⟩ := h
  exact ⟨rfl, fun _ => rfl⟩
theorem NT.bind_ {α β : Type} {x : Sem α} {f : α → Sem β} (hx : NT P x) (h : ∀ a, NT P (f a)) : NT P (x >>= f) := fun w n w' hr => by
  rw [Sem.run_bind] at hr
  cases hs : x.run P w with
  | halt y w1 => rw [hs] at hr; cases hr
  | ok a w1 =>
    obtain ⟨rfl, hx'⟩ := hx w a w1 hs
    rw [hs] at hr
    obtain ⟨rfl, h'⟩ := h a w1 n w' hr
    refine ⟨rfl, fun w2 => ?_⟩
    rw [Sem.run_bind, hx' w2]
    exact h' w2
theorem NT.underlying_ (t : TypeId) : NT P (underlying t) := by
  unfold underlying
  refine NT.bind_ NT.program_ (fun _ => ?_)
  split
  · exact NT.pure_ _
  · exact NT.stuck_ _
theorem NT.typeInfo_ (t : TypeId) : NT P (typeInfo t) := by
  unfold typeInfo
  refine NT.bind_ NT.program_ (fun _ => ?_)
  split
  · exact NT.pure_ _
  · exact NT.stuck_ _
theorem NT.sizeOf_ (t : TypeId) : NT P (sizeOf t) := by
  unfold sizeOf
  exact NT.bind_ (NT.typeInfo_ t) (fun _ => NT.pure_ _)
theorem NT.isAgg_ (t : TypeId) : NT P (isAgg t) := by
  unfold isAgg
  refine NT.bind_ (NT.underlying_ t) (fun _ => ?_)
  split <;> exact NT.pure_ _
theorem NT.part_ (t : TypeId) (cs : Array Value) (off : Nat) : NT P (part t cs off) := by
  unfold part
  refine NT.bind_ (NT.isAgg_ t) (fun _ => ?_)
  split
  · exact NT.bind_ (NT.sizeOf_ t) (fun _ => NT.pure_ _)
  · split
    · exact NT.pure_ _
    · exact NT.stuck_ _
theorem halts_bounds {α : Type} (k : IntKind) (x y : Int) (c : BoundsCode) : NT P (boundsPanic k x y c : Sem α) := fun w n w' hr => by
  exfalso
  obtain ⟨s, w2, h⟩ := run_boundsPanic (α := α) (P := P) (w := w) k x y c
  rw [h] at hr
  cases hr
theorem NT.asIntOf_ (v : Value) : NT P (asIntOf v) := by
  unfold asIntOf
  split
  · exact NT.pure_ _
  · exact NT.unsupported_ _
  · exact NT.stuck_ _
theorem NT.sureAddr_ (v : Value) : NT P (Instr.sureAddr v) := by
  unfold Instr.sureAddr
  split
  · exact NT.pure_ _
  · exact NT.stuck_ _
theorem NT.asAddr_ (v : Value) : NT P (asAddr v) := by
  unfold asAddr runtimePanic
  split
  · exact NT.pure_ _
  · exact NT.bind_ NT.program_ (fun _ => NT.goPanic_ _)
  · exact NT.stuck_ _
theorem NT.sliceBound_ (x : Value) (y : Nat) (c : BoundsCode) : NT P (Instr.sliceBound x y c) := by
  unfold Instr.sliceBound
  refine NT.bind_ (NT.asIntOf_ _) (fun _ => ?_)
  repeat' (first | exact NT.pure_ _ | exact halts_bounds _ _ _ _ | split)
theorem NT.sliceBounds_ (b : Bool) (l c : Nat) (lo hi mx : Option Value) : NT P (Instr.sliceBounds b l c lo hi mx) := by
  unfold Instr.sliceBounds
  repeat' (first | exact NT.pure_ _ | exact NT.stuck_ _ | exact NT.sliceBound_ _ _ _ | (refine NT.bind_ ?_ (fun _ => ?_)) | split)
theorem NT.followBlind_ : ∀ (l : List FieldStep) (t : TypeId) (v : Option Value), NT P (followBlind l t v)
  | [], t, v => by unfold followBlind; exact NT.pure_ _
  | x :: l, t, v => by
    unfold followBlind
    repeat' (first | exact NT.pure_ _ | exact NT.stuck_ _ | exact NT.unsupported_ _ | exact NT.part_ _ _ _ | exact NT.underlying_ _ | exact NT.followBlind_ l _ _ | (refine NT.bind_ ?_ (fun _ => ?_)) | split)
theorem NT.nilAhead_ : ∀ (n : Nat) (t : TypeId) (v : Value) (nm : String), NT P (nilAhead n t v nm)
  | 0, t, v, nm => by unfold nilAhead; exact NT.pure_ _
  | n + 1, t, v, nm => by
    unfold nilAhead
    repeat' (first | exact NT.pure_ _ | exact NT.stuck_ _ | exact NT.typeInfo_ _ | exact NT.underlying_ _ | exact NT.followBlind_ _ _ _ | exact NT.nilAhead_ n _ _ _ | (refine NT.bind_ ?_ (fun _ => ?_)) | split)
theorem NT.v_ {s : Sem Value} (h : NT P s) : NT P (do pure (Next.value (← s))) := NT.bind_ h (fun _ => NT.pure_ _)
theorem free_NT {o : Oper} (ρ : Operand → Value) (h : freeOp o = true) : NT P (execOp ρ o) := by
  obtain ⟨dst, op, type, pos, after, guard⟩ := o
  cases op
  case move x => exact NT.pure_ _
  case assign x => exact NT.pure_ _
  case nilCheck x =>
    unfold execOp runtimePanic
    dsimp only
    generalize ρ x = y
    repeat' (first | exact NT.pure_ _ | exact NT.halt_ _ | exact NT.goPanic_ _ | exact NT.unsupported_ _ | exact NT.program_ | exact NT.nilAhead_ _ _ _ _ | (refine NT.bind_ ?_ (fun _ => ?_)) | split)
  case indexAddr t x i =>
    refine NT.v_ ?_
    unfold Instr.indexAt
    repeat' (first | exact NT.pure_ _ | exact NT.stuck_ _ | exact NT.unsupported_ _ | exact NT.asIntOf_ _ | exact NT.underlying_ _ | exact NT.sizeOf_ _ | exact NT.sureAddr_ _ | exact halts_bounds _ _ _ _ | (refine NT.bind_ ?_ (fun _ => ?_)) | split | dsimp only)
  case index t x i =>
    refine NT.v_ ?_
    unfold Instr.index
    repeat' (first | exact NT.pure_ _ | exact NT.stuck_ _ | exact NT.unsupported_ _ | exact NT.asIntOf_ _ | exact NT.underlying_ _ | exact NT.sizeOf_ _ | exact NT.part_ _ _ _ | exact halts_bounds _ _ _ _ | (refine NT.bind_ ?_ (fun _ => ?_)) | split | dsimp only)
  case slice t x lo hi mx =>
    refine NT.v_ ?_
    unfold Instr.sliceAt Instr.slice
    repeat' (first | exact NT.pure_ _ | exact NT.stuck_ _ | exact NT.unsupported_ _ | exact NT.asAddr_ _ | exact NT.underlying_ _ | exact NT.sizeOf_ _ | exact NT.sureAddr_ _ | exact NT.sliceBounds_ _ _ _ _ _ _ | (refine NT.bind_ ?_ (fun _ => ?_)) | split)
  case extract t ix =>
    refine NT.v_ ?_
    unfold Instr.extract
    repeat' (first | exact NT.pure_ _ | exact NT.stuck_ _ | split)
  case unOp op t x =>
    refine NT.v_ ?_
    unfold Op.unary Op.intArith Op.intBits
    repeat' (first | exact NT.pure_ _ | exact NT.stuck_ _ | exact NT.unsupported_ _ | split)
  all_goals (simp [freeOp] at h)
end

def canQ (O : Prop) : Exit → Act → World → Prop := fun e _ _ => e = .outgrown ∧ O

/-- what an operation gives at a world: by its mark 0 at this world; 1 at every world; 2 at every world that keeps the blocks -/
def Gives (P : Program) (Kp : World → World → Prop) (tag : Nat) (o : Oper) (a : Act) (w : World) (v : Value) : Prop :=
  match tag with
  | 1 => ∀ w', (execOp a.eval o).run P w' = .ok (.value v) w'
  | 2 => ∀ w', Kp w w' → (execOp a.eval o).run P w' = .ok (.value v) w'
  | _ => (execOp a.eval o).run P w = .ok (.value v) w

def canStep (P : Program) (ops : Array Oper) (Kp : World → World → Prop) (O : Prop) (tag : Nat) (o : Oper) (K : Act → World → Prop) (a : Act) (w : World) : Prop :=
  if Region.wanted o (yielded ops a.tmps) = true then
    (if isW o = true then o.wp P a w (fun a' w' => (tag = 3 → Kp w w') ∧ K a' w') (canQ O) ∨ (o.asks P a w ∧ O)
     else ∃ v, Gives P Kp tag o a w v ∧ K (a.put o.dst v) w)
  else K (a.put o.dst undef) w

/-- the walk over marked operations -/
def wpCan (P : Program) (ops : Array Oper) (Kp : World → World → Prop) (N : Act → World → Prop) (O : Prop) : List (Nat × Oper) → Act → World → Prop
  | [], a, w => N a w
  | x :: rest, a, w => canStep P ops Kp O x.1 x.2 (wpCan P ops Kp N O rest) a w

def wpCanI (P : Program) (ops : Array Oper) (Kp : World → World → Prop) (N : Act → World → Prop) (O : Prop) : List (Nat × Nat) → Act → World → Prop
  | [], a, w => N a w
  | x :: rest, a, w => match ops[x.2]? with
    | none => wpCanI P ops Kp N O rest a w
    | some o => canStep P ops Kp O x.1 o (wpCanI P ops Kp N O rest) a w

section
variable {P : Program} {ops : Array Oper} {Kp : World → World → Prop} {N : Act → World → Prop} {O : Prop}

theorem canStep_mono {tag : Nat} {o : Oper} {K K' : Act → World → Prop} {a : Act} {w : World} (h : ∀ a w, K a w → K' a w)
    (hh : canStep P ops Kp O tag o K a w) : canStep P ops Kp O tag o K' a w := by
  unfold canStep at *
  split
  · rename_i hw
    rw [if_pos hw] at hh
    split
    · rename_i hW
      rw [if_pos hW] at hh
      exact hh.imp (Oper.wp_mono fun a w h' => ⟨h'.1, h _ _ h'.2⟩) id
    · rename_i hW
      rw [if_neg hW] at hh
      obtain ⟨v, hv, hk⟩ := hh
      exact ⟨v, hv, h _ _ hk⟩
  · rename_i hw
    rw [if_neg hw] at hh
    exact h _ _ hh

theorem Gives.now (hr : ∀ w, Kp w w) {tag : Nat} {o : Oper} {a : Act} {w : World} {v : Value} (h : Gives P Kp tag o a w v) : (execOp a.eval o).run P w = .ok (.value v) w := by
  unfold Gives at h
  split at h
  · exact h w
  · exact h w (hr w)
  · exact h

theorem Gives.congr {tag : Nat} {o : Oper} {a a' : Act} {w : World} {v : Value} (h : Gives P Kp tag o a w v) (he : execOp a'.eval o = execOp a.eval o) : Gives P Kp tag o a' w v := by
  unfold Gives at *
  rw [he]
  exact h

/-- the step that the marks allow: j, which stood first, may be done behind i -/
theorem canStep_swap (ht : ∀ a b c, Kp a b → Kp b c → Kp a c) {ti tj : Nat} {oi oj : Oper} (hap : oi.apart ops oj = true) (hsi : ∀ cs b, oi.op ≠ .select cs b) (hsj : ∀ cs b, oj.op ≠ .select cs b)
    (hjW : isW oj = false) (hi : isW oi = true → tj = 1 ∨ (tj = 2 ∧ ti = 3) ∨ (tj = 0 ∧ freeOp oj = true)) {K : Act → World → Prop} {a : Act} {w : World}
    (h : canStep P ops Kp O tj oj (canStep P ops Kp O ti oi K) a w) : canStep P ops Kp O ti oi (canStep P ops Kp O tj oj K) a w := by
  obtain ⟨h1, h2, h3⟩ := Oper.apart_spec hap
  -- what j gives, or that it is passed over
  have hj : ∃ v, ((Region.wanted oj (yielded ops a.tmps) = true ∧ Gives P Kp tj oj a w v) ∨ (Region.wanted oj (yielded ops a.tmps) = false ∧ v = undef)) ∧ canStep P ops Kp O ti oi K (a.put oj.dst v) w := by
    unfold canStep at h
    by_cases hw : Region.wanted oj (yielded ops a.tmps) = true
    · rw [if_pos hw, hjW] at h
      simp only [Bool.false_eq_true, if_false] at h
      obtain ⟨v, hv, hk⟩ := h
      exact ⟨v, .inl ⟨hw, hv⟩, hk⟩
    · rw [if_neg hw] at h
      exact ⟨undef, .inr ⟨by simpa using hw, rfl⟩, h⟩
  obtain ⟨v, hv, hk⟩ := hj
  have back : ∀ (a' : Act) (w' : World) (u : Value), a' = a.put oi.dst u →
      ((Region.wanted oj (yielded ops a.tmps) = true ∧ Gives P Kp tj oj a w' v) ∨ (Region.wanted oj (yielded ops a.tmps) = false ∧ v = undef)) →
      K ((a.put oj.dst v).put oi.dst u) w' → canStep P ops Kp O tj oj K a' w' := by
    intro a' w' u ha' hv' hK
    subst ha'
    have hwt : Region.wanted oj (yielded ops (a.put oi.dst u).tmps) = Region.wanted oj (yielded ops a.tmps) := wanted_put oj a oi.dst u h1
    have hex : execOp (a.put oi.dst u).eval oj = execOp a.eval oj := execOp_put oj hsj a oi.dst u h1
    have hcm : (a.put oj.dst v).put oi.dst u = (a.put oi.dst u).put oj.dst v := (Act.put_comm a u v h2).symm
    rw [hcm] at hK
    unfold canStep
    rcases hv' with ⟨hw, hg⟩ | ⟨hw, rfl⟩
    · rw [hwt, if_pos hw, hjW]
      simp only [Bool.false_eq_true, if_false]
      exact ⟨v, hg.congr hex, hK⟩
    · rw [hwt, if_neg (by simp [hw])]
      exact hK
  have hwi : Region.wanted oi (yielded ops (a.put oj.dst v).tmps) = Region.wanted oi (yielded ops a.tmps) := wanted_put oi a oj.dst v h3
  have hei : execOp (a.put oj.dst v).eval oi = execOp a.eval oi := execOp_put oi hsi a oj.dst v h3
  unfold canStep at hk
  rw [hwi] at hk
  rw [canStep.eq_def P ops Kp O ti oi]
  by_cases hw : Region.wanted oi (yielded ops a.tmps) = true
  · rw [if_pos hw] at hk ⊢
    by_cases hW : isW oi = true
    · rw [if_pos hW] at hk ⊢
      rcases hk with hk | ⟨hasks, hO⟩
      case inr => exact .inr ⟨by unfold Oper.asks at *; rw [hei] at hasks; exact hasks, hO⟩
      refine .inl ?_
      have keep : ∀ w', (ti = 3 → Kp w w') → ((Region.wanted oj (yielded ops a.tmps) = true ∧ Gives P Kp tj oj a w' v) ∨ (Region.wanted oj (yielded ops a.tmps) = false ∧ v = undef)) := by
        intro w' hb
        rcases hv with ⟨hwj, hg⟩ | hn
        · refine .inl ⟨hwj, ?_⟩
          rcases hi hW with rfl | ⟨rfl, rfl⟩ | ⟨rfl, hfr⟩
          · exact hg
          rotate_left
          · exact ((free_NT a.eval hfr) w _ w hg).2 w'
          · intro w'' hb''
            have hb0 := hb rfl
            exact hg w'' (ht _ _ _ hb0 hb'')
        · exact .inr hn
      unfold Oper.wp at *
      rw [hei] at hk
      generalize (execOp a.eval oi).run P w = r at *
      cases r with
      | ok n w' =>
        cases n <;> simp only [Oper.upon] at hk ⊢
        case value u => exact ⟨hk.1, back _ _ u rfl (keep _ hk.1) hk.2⟩
        case skip => exact ⟨hk.1, back _ _ undef rfl (keep _ hk.1) hk.2⟩
        case defer d =>
          refine ⟨hk.1, ?_⟩
          have hk2 := hk.2
          have hv' := keep _ hk.1
          have hwt : Region.wanted oj (yielded ops (({ a with defers := d :: a.defers } : Act).put oi.dst undef).tmps) = Region.wanted oj (yielded ops a.tmps) :=
            wanted_put oj { a with defers := d :: a.defers } oi.dst undef h1
          have hex : execOp (({ a with defers := d :: a.defers } : Act).put oi.dst undef).eval oj = execOp a.eval oj := execOp_put oj hsj { a with defers := d :: a.defers } oi.dst undef h1
          rw [Act.put_defers, ← Act.put_comm _ undef v h2] at hk2
          unfold canStep
          rcases hv' with ⟨hwj, hg⟩ | ⟨hwj, rfl⟩
          · rw [hwt, if_pos hwj, hjW]
            simp only [Bool.false_eq_true, if_false]
            exact ⟨v, hg.congr hex, hk2⟩
          · rw [hwt, if_neg (by simp [hwj])]
            exact hk2
        case enter f args =>
          refine Calls.mono hk fun e w'' he => ?_
          cases e with
          | returned u => exact ⟨he.1, back _ _ u rfl (keep _ he.1) he.2⟩
          | panicked c => exact he
          | outgrown => exact he
        case row row args => exact Rows.mono hk fun u w'' he => ⟨he.1, back _ _ u rfl (keep _ he.1) he.2⟩
      | halt x w' =>
        cases x <;> simp only [Oper.upon] at hk ⊢
        case panic u => exact hk
    · rw [if_neg hW] at hk ⊢
      obtain ⟨u, hu, hK⟩ := hk
      exact ⟨u, hu.congr hei.symm, back _ _ u rfl hv hK⟩
  · rw [if_neg hw] at hk ⊢
    exact back _ _ undef rfl hv hk

/-- for each operation, as the bits of a number: those that it waits for, one behind the other -/
def maskOf (T : List Nat) (o : Oper) : Nat := o.after.toList.foldl (fun s e => if Region.binds .any e = true then s ||| 2 ^ e.on ||| T.getD e.on 0 else s) 0
def tabOf : List Oper → List Nat → List Nat
  | [], T => T
  | o :: l, T => tabOf l (T ++ [maskOf T o])
def waitTab (ops : Array Oper) : List Nat := tabOf ops.toList []

theorem mask_bit (T : List Nat) (j : Nat) : ∀ (l : List Edge) (s : Nat), (l.foldl (fun s e => if Region.binds .any e = true then s ||| 2 ^ e.on ||| T.getD e.on 0 else s) s).testBit j = true →
    s.testBit j = true ∨ ∃ e ∈ l, Region.binds .any e = true ∧ (e.on = j ∨ (T.getD e.on 0).testBit j = true)
  | [], s, h => .inl h
  | e :: l, s, h => by
    simp only [List.foldl_cons] at h
    rcases mask_bit T j l _ h with h1 | ⟨e', he', h2⟩
    · split at h1
      · rename_i hb
        rw [Nat.testBit_or, Nat.testBit_or, Nat.testBit_two_pow] at h1
        simp only [Bool.or_eq_true, decide_eq_true_eq] at h1
        rcases h1 with (h1 | h1) | h1
        · exact .inl h1
        · exact .inr ⟨e, by simp, hb, .inl h1⟩
        · exact .inr ⟨e, by simp, hb, .inr h1⟩
      · exact .inl h1
    · exact .inr ⟨e', by simp [he'], h2⟩

/-- j stands ahead of i in the order that is walked -/
def pairOk (ops : Array Oper) (T : List Nat) (j i : Nat × Nat) : Bool :=
  match ops[j.2]?, ops[i.2]? with
  | some oj, some oi =>
    !(oj.after.any fun e => Region.binds .any e && e.on == i.2) && (j.2 != i.2) &&
    ((T.getD i.2 0).testBit j.2 || (oi.apart ops oj && !isW oj && (!isW oi || j.1 == 1 || (j.1 == 2 && i.1 == 3) || (j.1 == 0 && freeOp oj))))
  | _, _ => false

def pairsOk (ops : Array Oper) (T : List Nat) : List (Nat × Nat) → Bool
  | [] => true
  | x :: rest => rest.all (pairOk ops T x) && pairsOk ops T rest

def edgesOk (ops : Array Oper) : Bool :=
  (List.range ops.size).all fun i => match ops[i]? with
    | some o => o.after.all fun e => decide (e.on < ops.size) && e.on != i
    | none => true

def canB (ops : Array Oper) (c : List (Nat × Nat)) : Bool :=
  Region.noSelect ops && edgesOk ops && pairsOk ops (waitTab ops) c && c.all (fun x => decide (x.2 < ops.size)) && decide (c.length = ops.size) && (List.range ops.size).all fun i => c.any fun x => x.2 == i

theorem edgesOk_spec (h : edgesOk ops = true) {j : Nat} {oj : Oper} (hj : ops[j]? = some oj) : ∀ e ∈ oj.after, e.on < ops.size ∧ e.on ≠ j := by
  intro e he
  have hlt : j < ops.size := (Array.getElem?_eq_some_iff.1 hj).1
  have h1 := List.all_eq_true.1 h j (List.mem_range.2 hlt)
  simp only [hj] at h1
  have h2 := Array.all_eq_true_iff_forall_mem.1 h1 e he
  simpa using h2

theorem tab_listed {listed : Array Bool} (closed : ∀ j oj, ops[j]? = some oj → listed.getD j false = true → ∀ e ∈ oj.after, Region.binds .any e = true → listed.getD e.on false = true) :
    ∀ (l : List Oper) (T : List Nat), (∀ k, l[k]? = ops[T.length + k]?) →
      (∀ x y ox, ops[x]? = some ox → (∀ e ∈ ox.after, Region.binds .any e = true → listed.getD e.on false = true) → (T.getD x 0).testBit y = true → listed.getD y false = true) →
      ∀ x y ox, ops[x]? = some ox → (∀ e ∈ ox.after, Region.binds .any e = true → listed.getD e.on false = true) → ((tabOf l T).getD x 0).testBit y = true → listed.getD y false = true
  | [], T, _, hT => hT
  | o :: l, T, hl, hT => by
    have h0 : ops[T.length]? = some o := by simpa using (hl 0).symm
    refine tab_listed closed l (T ++ [maskOf T o]) (fun k => by have := hl (k + 1); simpa [Nat.add_assoc, Nat.add_comm 1 k] using this) (fun x y ox hx hall h => ?_)
    rcases Nat.lt_trichotomy x T.length with hlt | heq | hgt
    · rw [List.getD_eq_getElem?_getD, List.getElem?_append_left hlt, ← List.getD_eq_getElem?_getD] at h
      exact hT x y ox hx hall h
    · subst heq
      have : ox = o := Option.some.inj (hx.symm.trans h0)
      subst this
      rw [List.getD_eq_getElem?_getD, List.getElem?_append_right (Nat.le_refl _)] at h
      simp only [Nat.sub_self, List.getElem?_cons_zero, Option.getD_some] at h
      rcases mask_bit T y _ 0 h with h1 | ⟨e, he, hb, h1⟩
      · simp at h1
      · have he' : e ∈ ox.after := by simpa using he
        have hon := hall e he' hb
        rcases h1 with h1 | h1
        · rw [← h1]; exact hon
        · cases hoe : ops[e.on]? with
          | none =>
            exfalso
            have hsz : ops.size ≤ e.on := by
              rcases Nat.lt_or_ge e.on ops.size with hh | hh
              · rw [Array.getElem?_eq_getElem hh] at hoe; cases hoe
              · exact hh
            have hTl : T.length < ops.size := (Array.getElem?_eq_some_iff.1 h0).1
            rw [List.getD_eq_getElem?_getD, List.getElem?_eq_none (by omega)] at h1
            simp at h1
          | some oe => exact hT e.on y oe hoe (fun e' he' hb' => closed e.on oe hoe hon e' he' hb') h1
    · rw [List.getD_eq_getElem?_getD, List.getElem?_eq_none (by simp; omega)] at h
      simp at h

theorem canPull (ht : ∀ a b c, Kp a b → Kp b c → Kp a c) {i : Nat × Nat} {oi : Oper} (hi : ops[i.2]? = some oi) (hs : Region.noSelect ops = true) {c2 : List (Nat × Nat)} :
    ∀ (c1 : List (Nat × Nat)), (∀ j ∈ c1, ∃ oj, ops[j.2]? = some oj ∧ oi.apart ops oj = true ∧ isW oj = false ∧ (isW oi = true → j.1 = 1 ∨ (j.1 = 2 ∧ i.1 = 3) ∨ (j.1 = 0 ∧ freeOp oj = true))) →
    ∀ a w, wpCanI P ops Kp N O (c1 ++ i :: c2) a w → canStep P ops Kp O i.1 oi (wpCanI P ops Kp N O (c1 ++ c2)) a w
  | [], _, a, w, h => by simpa [wpCanI, hi] using h
  | j :: c1, hc, a, w, h => by
    obtain ⟨oj, hj, hap, hW, hm⟩ := hc j (by simp)
    simp only [List.cons_append, wpCanI, hj] at h
    have h' := canStep_mono (fun a w => canPull ht hi hs c1 (fun j hj => hc j (by simp [hj])) a w) h
    have h'' := canStep_swap ht hap (fun cs b => Region.noSelect_spec hs i.2 oi cs b hi) (fun cs b => Region.noSelect_spec hs j.2 oj cs b hj) hW hm h'
    refine canStep_mono (fun a w hh => ?_) h''
    simp only [List.cons_append, wpCanI, hj]
    exact hh

theorem wpOp_of_can (hr : ∀ w, Kp w w) {Q : Exit → Act → World → Prop} {i : Nat} {tag : Nat} {oi : Oper} (hi : ops[i]? = some oi) {K K' : Act → World → Prop} (hK : ∀ a w, K a w → K' a w) (hO : O → LetsOut Q) {a : Act} {w : World}
    (h : canStep P ops Kp O tag oi K a w) : wpOp P ops Q i K' a w := by
  unfold wpOp
  simp only [hi]
  unfold canStep at h
  split
  · rename_i hw
    rw [if_pos hw] at h
    split at h
    · rcases h with h | ⟨h, ho⟩
      case inr => exact .inr ⟨h, hO ho⟩
      refine .inl ?_
      unfold Oper.wp at *
      generalize (execOp a.eval oi).run P w = r at *
      cases r with
      | ok n w' =>
        cases n <;> simp only [Oper.upon] at h ⊢
        case value u => exact hK _ _ h.2
        case skip => exact hK _ _ h.2
        case defer d => exact hK _ _ h.2
        case enter f args =>
          refine Calls.mono h fun e w'' he => ?_
          cases e with
          | returned u => exact hK _ _ he.2
          | panicked c => simp [canQ] at he
          | outgrown => obtain ⟨_, _, ho⟩ := he; exact hO ho.2
        case row row args => exact Rows.mono h fun u w'' he => hK _ _ he.2
      | halt x w' =>
        cases x <;> simp only [Oper.upon] at h ⊢
        case panic u => simp [canQ] at h
    · obtain ⟨v, hv, hk⟩ := h
      refine .inl ?_
      unfold Oper.wp
      rw [hv.now hr]
      exact hK _ _ hk
  · rename_i hw
    rw [if_neg hw] at h
    exact hK _ _ h

theorem pairsOk_iff {T : List Nat} : ∀ {c : List (Nat × Nat)}, pairsOk ops T c = true ↔ c.Pairwise (fun j i => pairOk ops T j i = true)
  | [] => by simp [pairsOk]
  | x :: rest => by simp [pairsOk, pairsOk_iff]

theorem wpAny_of_can (hr : ∀ w, Kp w w) (ht : ∀ a b c, Kp a b → Kp b c → Kp a c) {Q : Exit → Act → World → Prop} (hs : Region.noSelect ops = true) (hE : edgesOk ops = true) (hN : ∀ a w, N a w → Q .normal a w) (hO : O → LetsOut Q) :
    ∀ (n : Nat) (c : List (Nat × Nat)) (listed : Array Bool) (a : Act) (w : World), c.length = n → listed.size = ops.size →
      c.Pairwise (fun j i => pairOk ops (waitTab ops) j i = true) → (∀ x ∈ c, x.2 < ops.size) → (∀ i, i < ops.size → (listed.getD i true = false ↔ ∃ x ∈ c, x.2 = i)) →
      (∀ j oj, ops[j]? = some oj → listed.getD j false = true → ∀ e ∈ oj.after, Region.binds .any e = true → listed.getD e.on false = true) →
      wpCanI P ops Kp N O c a w → wpAny P .any ops Q n listed a w := by
  intro n
  induction n with
  | zero =>
    intro c listed a w hc hz _ _ hl _ h
    have : c = [] := List.eq_nil_of_length_eq_zero hc
    subst this
    refine ⟨?_, hN _ _ h⟩
    cases hr : Region.ready .any ops listed with
    | nil => rfl
    | cons x xs =>
      have hx : x ∈ Region.ready .any ops listed := by rw [hr]; simp
      obtain ⟨h0, o, ho, _⟩ := mem_ready.1 hx
      have := (hl x (Array.getElem?_eq_some_iff.1 ho).1).1 h0
      simp at this
  | succ n ih =>
    intro c listed a w hc hz hp hlt hl hcl h
    refine ⟨fun hr => ?_, fun i hi => ?_⟩
    · -- the head of c is ready
      exfalso
      match c, hc with
      | x :: rest, _ =>
        have hxlt := hlt x (by simp)
        have hxo : ops[x.2]? = some ops[x.2] := Array.getElem?_eq_getElem hxlt
        have hmem : x.2 ∈ Region.ready .any ops listed := by
          rw [mem_ready]
          refine ⟨(hl x.2 hxlt).2 ⟨x, by simp, rfl⟩, ops[x.2], hxo, fun e he hb => ?_⟩
          obtain ⟨hin, hself⟩ := edgesOk_spec hE hxo e he
          have hin' : e.on < listed.size := by omega
          cases hle : listed.getD e.on true with
          | true => simp [hin'] at hle ⊢; exact hle
          | false =>
            obtain ⟨y, hy, hye⟩ := (hl e.on hin).1 hle
            rcases List.mem_cons.1 hy with rfl | hy
            · exact absurd hye.symm hself
            · have hpy := List.rel_of_pairwise_cons hp hy
              have hyo : ops[y.2]? = some (ops[y.2]'(hlt y (by simp [hy]))) := Array.getElem?_eq_getElem _
              simp only [pairOk, hxo, hyo, Bool.and_eq_true, Bool.not_eq_true'] at hpy
              have hno := hpy.1.1
              have hyes : (ops[x.2].after.any fun e => Region.binds .any e && e.on == y.2) = true := Array.any_eq_true'.2 ⟨e, he, by simp [hb, hye]⟩
              rw [hyes] at hno
              cases hno
        rw [hr] at hmem
        cases hmem
    · obtain ⟨h0, oi, hoi, hall⟩ := mem_ready.1 hi
      have hilt : i < ops.size := (Array.getElem?_eq_some_iff.1 hoi).1
      obtain ⟨x, hx, rfl⟩ := (hl i hilt).1 h0
      obtain ⟨c1, c2, rfl⟩ := List.append_of_mem hx
      have hp' := List.pairwise_append.1 hp
      have hun : ∀ j ∈ c1, listed.getD j.2 true = false := fun j hj => (hl j.2 (hlt j (by simp [hj]))).2 ⟨j, by simp [hj], rfl⟩
      have hpull := canPull (P := P) (N := N) (O := O) ht hoi hs (c2 := c2) c1 (fun j hj => by
        have hpj := hp'.2.2 j hj x (by simp)
        have hjo : ops[j.2]? = some (ops[j.2]'(hlt j (by simp [hj]))) := Array.getElem?_eq_getElem _
        refine ⟨_, hjo, ?_⟩
        simp only [pairOk, hjo, hoi, Bool.and_eq_true] at hpj
        have hre : ((waitTab ops).getD x.2 0).testBit j.2 = false := by
          cases hre : ((waitTab ops).getD x.2 0).testBit j.2 with
          | false => rfl
          | true =>
            have := tab_listed hcl ops.toList [] (by simp) (fun x y ox _ _ h => by simp at h) x.2 j.2 oi hoi hall hre
            have h2 := hun j hj
            rcases Nat.lt_or_ge j.2 listed.size with h' | h'
            · simp [h'] at this h2; rw [this] at h2; cases h2
            · simp [Array.getElem?_eq_none h'] at h2
        rw [hre] at hpj
        simp only [Bool.false_or, Bool.and_eq_true, Bool.or_eq_true, Bool.not_eq_true', beq_iff_eq] at hpj
        refine ⟨hpj.2.1.1, hpj.2.1.2, fun hW => ?_⟩
        rcases hpj.2.2 with ((h' | h') | h') | h'
        · rw [hW] at h'; cases h'
        · exact .inl h'
        · exact .inr (.inl h')
        · exact .inr (.inr h')) a w h
      refine wpOp_of_can hr hoi (fun a' w' hK => ?_) hO hpull
      have hsub : (c1 ++ c2).Sublist (c1 ++ x :: c2) := (List.sublist_cons_self _ _).append_left _
      refine ih (c1 ++ c2) (listed.setIfInBounds x.2 true) a' w' (by simp at hc ⊢; omega) (by simpa using hz) (hp.sublist hsub) (fun y hy => hlt y (hsub.subset hy)) (fun k hk => ?_) (fun j oj hj hlj e he hb => ?_) hK
      · -- listed after the step
        have hxk : ∀ y ∈ c1 ++ c2, y.2 ≠ x.2 := by
          intro y hy heq
          rcases List.mem_append.1 hy with hy | hy
          · have hpj := hp'.2.2 y hy x (by simp)
            simp [pairOk, hoi, heq] at hpj
          · have hpj := List.rel_of_pairwise_cons hp'.2.1 hy
            simp [pairOk, hoi, heq] at hpj
        by_cases hkx : k = x.2
        · subst hkx
          constructor
          · intro hg
            simp [hz, hk] at hg
          · rintro ⟨y, hy, hye⟩
            exact absurd hye (hxk y hy)
        · rw [getD_set_ne true (Ne.symm hkx), hl k hk]
          constructor
          · rintro ⟨y, hy, hye⟩
            refine ⟨y, ?_, hye⟩
            simp only [List.mem_append, List.mem_cons] at hy ⊢
            rcases hy with hy | rfl | hy
            · exact .inl hy
            · exact absurd hye.symm hkx
            · exact .inr hy
          · rintro ⟨y, hy, hye⟩
            exact ⟨y, hsub.subset hy, hye⟩
      · by_cases hjx : j = x.2
        · subst hjx
          have : oj = oi := Option.some.inj (hj.symm.trans hoi)
          subst this
          exact getD_set_true (hall e he hb)
        · rw [getD_set_ne false (Ne.symm hjx)] at hlj
          exact getD_set_true (hcl j oj hj hlj e he hb)

theorem wpCanI_eq (N : Act → World → Prop) (l : List Oper) (hl : ops = l.toArray) : ∀ (c : List (Nat × Nat)) (a : Act) (w : World), wpCan P ops Kp N O (c.filterMap fun x => (l[x.2]?).map fun o => (x.1, o)) a w → wpCanI P ops Kp N O c a w
  | [], _, _, h => h
  | x :: c, a, w, h => by
    have hx : ops[x.2]? = l[x.2]? := by rw [hl]; simp
    cases ho : l[x.2]? with
    | none =>
      simp only [List.filterMap_cons, ho, Option.map_none] at h
      simp only [wpCanI, hx, ho]
      exact wpCanI_eq N l hl c a w h
    | some o =>
      simp only [List.filterMap_cons, ho, Option.map_some, wpCan] at h
      simp only [wpCanI, hx, ho]
      exact canStep_mono (fun a w h' => wpCanI_eq N l hl c a w h') h
end

section
variable {P : Program} {Q : Exit → Act → World → Prop} {a : Act} {w : World}

/-- the operations in the order and with the marks that are given -/
theorem wp_region_can (Kp : World → World → Prop) (hr : ∀ w, Kp w w) (ht : ∀ a b c, Kp a b → Kp b c → Kp a c) {id : Nat} {l : List Oper} (c : List (Nat × Nat)) (hm : P.follows .mixedOrders = true) (hB : canB l.toArray c = true)
    (h : ∀ K : Act → World → Prop, (∀ a w, Q .normal a w → K a w) → wpCan P l.toArray Kp K (LetsOut Q) (c.filterMap fun x => (l[x.2]?).map fun o => (x.1, o)) a w.drew) : (Code.region id l.toArray true).wp P Q a w := by
  simp only [canB, Bool.and_eq_true, decide_eq_true_eq] at hB
  obtain ⟨⟨⟨⟨⟨hs, hE⟩, hp⟩, hlt⟩, hlen⟩, hall⟩ := hB
  refine wp_region_any hm ?_
  rw [← hlen]
  refine wpAny_of_can hr ht hs hE (N := Q .normal) (O := LetsOut Q) (fun _ _ h => h) (fun h => h) c.length c _ a _ rfl (by simp [hlen]) (pairsOk_iff.1 hp) (fun x hx => ?_) (fun i hi => ?_) (fun j oj hj hl => ?_) (wpCanI_eq _ l rfl c a _ (h _ fun _ _ h => h))
  · simpa using List.all_eq_true.1 hlt x hx
  · have h1 := List.all_eq_true.1 hall i (List.mem_range.2 hi)
    obtain ⟨x, hx, hxi⟩ := List.any_eq_true.1 h1
    constructor
    · intro _
      exact ⟨x, hx, by simpa using hxi⟩
    · intro _
      have hi2 : i < c.length := by rw [hlen]; exact hi
      simp [hi2]
  · exfalso
    have hj' : j < l.length := by simpa using (Array.getElem?_eq_some_iff.1 hj).1
    have hj2 : j < c.length := by rw [hlen]; simpa using hj'
    simp [hj2] at hl

def inText : List Oper → List (Nat × Oper)
  | [] => []
  | o :: l => (0, o) :: inText l

theorem inText_eq (l : List Oper) : ((List.range l.length).map fun i => (0, i)).filterMap (fun x : Nat × Nat => (l[x.2]?).map fun o => (x.1, o)) = inText l := by
  have key : ∀ (m : List Oper) (k : Nat), (∀ j, m[j]? = l[k + j]?) → ((List.range' k m.length).map fun i => (0, i)).filterMap (fun x : Nat × Nat => (l[x.2]?).map fun o => (x.1, o)) = inText m := by
    intro m
    induction m with
    | nil => intro k _; rfl
    | cons o m ih =>
      intro k hk
      have h0 : l[k]? = some o := by simpa using (hk 0).symm
      simp only [List.length_cons, List.range'_succ, List.map_cons, List.filterMap_cons, h0, Option.map_some, inText]
      rw [ih (k + 1) fun j => by have := hk (j + 1); simpa [Nat.add_assoc, Nat.add_comm 1 j] using this]
  rw [List.range_eq_range']
  exact key l 0 (by simp)

/-- the operations in the order of the text -/
theorem wp_region_txt {id : Nat} {l : List Oper} (hm : P.follows .mixedOrders = true) (hB : canB l.toArray ((List.range l.length).map fun i => (0, i)) = true)
    (h : ∀ K : Act → World → Prop, (∀ a w, Q .normal a w → K a w) → wpCan P l.toArray (fun _ _ => True) K (LetsOut Q) (inText l) a w.drew) : (Code.region id l.toArray true).wp P Q a w :=
  wp_region_can (fun _ _ => True) (fun _ => trivial) (fun _ _ _ _ _ => trivial) _ hm hB fun K hK => by rw [inText_eq]; exact h K hK

variable {ops : Array Oper} {Kp : World → World → Prop} {N : Act → World → Prop} {O : Prop} {rest : List (Nat × Oper)} {o : Oper}

theorem value_of_v {s : Sem Value} {w w' : World} {n : Next} (h : (do pure (Next.value (← s)) : Sem Next).run P w = .ok n w') : ∃ v, n = .value v := by
  rw [Sem.run_bind] at h
  cases hs : s.run P w with
  | halt x w1 => rw [hs] at h; cases h
  | ok v w1 =>
    rw [hs] at h
    simp only [Result.andThen_ok, Sem.run_pure, Result.ok.injEq] at h
    exact ⟨v, h.1.symm⟩

def OnlyV (P : Program) (s : Sem Next) : Prop := ∀ w n w', s.run P w = .ok n w' → ∃ v, n = .value v
theorem OnlyV.pure_ (v : Value) : OnlyV P (pure (.value v)) := fun w n w' h => by
  simp only [Sem.run_pure, Result.ok.injEq] at h
  exact ⟨v, h.1.symm⟩
theorem OnlyV.bind_ {α : Type} {x : Sem α} {f : α → Sem Next} (h : ∀ a, OnlyV P (f a)) : OnlyV P (x >>= f) := fun w n w' hr => by
  rw [Sem.run_bind] at hr
  cases hs : x.run P w with
  | halt y w1 => rw [hs] at hr; cases hr
  | ok a w1 => rw [hs] at hr; exact h a w1 n w' hr
theorem OnlyV.halt_ (h : Halt) : OnlyV P (.halt h) := fun w n w' hr => by cases hr

theorem quiet_value {ρ : Operand → Value} (hW : isW o = false) {n : Next} {w' : World} (hr : (execOp ρ o).run P w = .ok n w') : ∃ v, n = .value v := by
  obtain ⟨dst, op, type, pos, after, guard⟩ := o
  cases op
  case nilCheck x =>
    refine (?_ : OnlyV P (execOp ρ { dst, op := .nilCheck x, type, pos, after, guard })) w n w' hr
    unfold execOp runtimePanic goPanic
    dsimp only
    generalize ρ x = y
    repeat' (first | exact OnlyV.pure_ _ | exact OnlyV.halt_ _ | (refine OnlyV.bind_ (fun _ => ?_)) | split)
  case call c =>
    obtain ⟨callee, args, argTypes⟩ := c
    cases callee with
    | value f => simp [isW] at hW
    | invoke r m => simp [isW] at hW
    | builtin b =>
      cases b
      case len => exact value_of_v (s := Builtin.len_ argTypes type (args.map ρ)) hr
      case cap => exact value_of_v (s := Builtin.cap_ argTypes type (args.map ρ)) hr
      all_goals (simp [isW] at hW; done)
  all_goals first
    | (simp [isW] at hW; done)
    | exact value_of_v hr
    | exact OnlyV.pure_ _ w n w' hr
    | exact OnlyV.bind_ (fun _ => OnlyV.pure_ _) w n w' hr

/-- an operation that does not turn the world, unguarded -/
theorem wpCan_q (hW : isW o = false) (hg : o.guard = none) (h : ∀ K : Act → World → Prop, (∀ a', wpCan P ops Kp N O rest a' w → K a' w) → o.wp P a w K (canQ O)) : wpCan P ops Kp N O ((0, o) :: rest) a w := by
  have h1 := h (fun a' w' => w' = w ∧ wpCan P ops Kp N O rest a' w) (fun a' ha => ⟨rfl, ha⟩)
  show canStep P ops Kp O 0 o (wpCan P ops Kp N O rest) a w
  unfold canStep
  rw [if_pos (by simp [Region.wanted, hg]), if_neg (by simp [hW])]
  unfold Oper.wp at h1
  cases hr : (execOp a.eval o).run P w with
  | halt x w' =>
    rw [hr] at h1
    cases x <;> simp [Oper.upon, canQ] at h1
  | ok n w' =>
    obtain ⟨v, rfl⟩ := quiet_value hW hr
    rw [hr] at h1
    obtain ⟨rfl, h2⟩ := h1
    exact ⟨v, hr, h2⟩

/-- an operation that does not turn the world, whose guard says yes -/
theorem wpCan_qg (hW : isW o = false) (hg : Region.wanted o (yielded ops a.tmps) = true) (h : ∀ K : Act → World → Prop, (∀ a', wpCan P ops Kp N O rest a' w → K a' w) → o.wp P a w K (canQ O)) : wpCan P ops Kp N O ((0, o) :: rest) a w := by
  have h1 := h (fun a' w' => w' = w ∧ wpCan P ops Kp N O rest a' w) (fun a' ha => ⟨rfl, ha⟩)
  show canStep P ops Kp O 0 o (wpCan P ops Kp N O rest) a w
  unfold canStep
  rw [if_pos hg, if_neg (by simp [hW])]
  unfold Oper.wp at h1
  cases hr : (execOp a.eval o).run P w with
  | halt x w' =>
    rw [hr] at h1
    cases x <;> simp [Oper.upon, canQ] at h1
  | ok n w' =>
    obtain ⟨v, rfl⟩ := quiet_value hW hr
    rw [hr] at h1
    obtain ⟨rfl, h2⟩ := h1
    exact ⟨v, hr, h2⟩

/-- an operation that may turn the world -/
theorem wpCan_w (hW : isW o = true) (hg : Region.wanted o (yielded ops a.tmps) = true) (h : ∀ K : Act → World → Prop, (∀ a' w', wpCan P ops Kp N O rest a' w' → K a' w') → o.wp P a w K (canQ O)) : wpCan P ops Kp N O ((0, o) :: rest) a w := by
  show canStep P ops Kp O 0 o (wpCan P ops Kp N O rest) a w
  unfold canStep
  rw [if_pos hg, if_pos hW]
  exact .inl (h _ fun a' w' h' => ⟨fun h0 => (by cases h0), h'⟩)

/-- the same, and the blocks that were there stay -/
theorem wpCan_b (hW : isW o = true) (hg : Region.wanted o (yielded ops a.tmps) = true) (h : ∀ K : Act → World → Prop, (∀ a' w', (Kp w w' ∧ wpCan P ops Kp N O rest a' w') → K a' w') → o.wp P a w K (canQ O)) : wpCan P ops Kp N O ((3, o) :: rest) a w := by
  show canStep P ops Kp O 3 o (wpCan P ops Kp N O rest) a w
  unfold canStep
  rw [if_pos hg, if_pos hW]
  exact .inl (h _ fun a' w' h' => ⟨fun _ => h'.1, h'.2⟩)

/-- an operation that gives the same at every world that keeps the blocks -/
theorem wpCan_2 (v : Value) (hW : isW o = false) (hg : Region.wanted o (yielded ops a.tmps) = true) (hv : ∀ w', Kp w w' → (execOp a.eval o).run P w' = .ok (.value v) w') (h : wpCan P ops Kp N O rest (a.put o.dst v) w) : wpCan P ops Kp N O ((2, o) :: rest) a w := by
  show canStep P ops Kp O 2 o (wpCan P ops Kp N O rest) a w
  unfold canStep
  rw [if_pos hg, if_neg (by simp [hW])]
  exact ⟨v, hv, h⟩

/-- an operation whose guard says no -/
theorem wpCan_no {t : Nat} (hg : Region.wanted o (yielded ops a.tmps) = false) (h : wpCan P ops Kp N O rest (a.put o.dst undef) w) : wpCan P ops Kp N O ((t, o) :: rest) a w := by
  show canStep P ops Kp O t o (wpCan P ops Kp N O rest) a w
  unfold canStep
  rw [if_neg (by simp [hg])]
  exact h

/-- the walk in the order of the text, no marks -/
def wpTxt (P : Program) (ops : Array Oper) (N : Act → World → Prop) (O : Prop) (l : List Oper) (a : Act) (w : World) : Prop := wpCan P ops (fun _ _ => True) N O (inText l) a w
variable {l : List Oper}
theorem wp_region_t {id : Nat} (hm : P.follows .mixedOrders = true) (hB : canB l.toArray ((List.range l.length).map fun i => (0, i)) = true)
    (h : ∀ K : Act → World → Prop, (∀ a w, Q .normal a w → K a w) → wpTxt P l.toArray K (LetsOut Q) l a w.drew) : (Code.region id l.toArray true).wp P Q a w := wp_region_txt hm hB h
theorem wpTxt_nil (h : N a w) : wpTxt P ops N O [] a w := h
theorem wpTxt_q (hW : isW o = false) (hg : o.guard = none) (h : ∀ K : Act → World → Prop, (∀ a', wpTxt P ops N O l a' w → K a' w) → o.wp P a w K (canQ O)) : wpTxt P ops N O (o :: l) a w := wpCan_q hW hg h
theorem wpTxt_qg (hW : isW o = false) (hg : Region.wanted o (yielded ops a.tmps) = true) (h : ∀ K : Act → World → Prop, (∀ a', wpTxt P ops N O l a' w → K a' w) → o.wp P a w K (canQ O)) : wpTxt P ops N O (o :: l) a w := wpCan_qg hW hg h
theorem wpTxt_w (hW : isW o = true) (hg : Region.wanted o (yielded ops a.tmps) = true) (h : ∀ K : Act → World → Prop, (∀ a' w', wpTxt P ops N O l a' w' → K a' w') → o.wp P a w K (canQ O)) : wpTxt P ops N O (o :: l) a w := wpCan_w hW hg h
theorem wpTxt_no (hg : Region.wanted o (yielded ops a.tmps) = false) (h : wpTxt P ops N O l (a.put o.dst undef) w) : wpTxt P ops N O (o :: l) a w := wpCan_no hg h
theorem wpTxt_s (hW : isW o = false) (h : ∀ K : Act → World → Prop, (∀ a', wpTxt P ops N O l a' w → K a' w) → if Region.wanted o (yielded ops a.tmps) = true then o.wp P a w K (canQ O) else K (a.put o.dst undef) w) : wpTxt P ops N O (o :: l) a w := by
  by_cases hw : Region.wanted o (yielded ops a.tmps) = true
  · exact wpTxt_qg hW hw fun K hK => by have := h K hK; rwa [if_pos hw] at this
  · have h1 := h (fun a' w' => wpTxt P ops N O l a' w') (fun a' h' => h')
    rw [if_neg hw] at h1
    exact wpTxt_no (by simpa using hw) h1
theorem wpTxt_sw (hW : isW o = true) (h : ∀ K : Act → World → Prop, (∀ a' w', wpTxt P ops N O l a' w' → K a' w') → if Region.wanted o (yielded ops a.tmps) = true then o.wp P a w K (canQ O) else K (a.put o.dst undef) w) : wpTxt P ops N O (o :: l) a w := by
  by_cases hw : Region.wanted o (yielded ops a.tmps) = true
  · exact wpTxt_w hW hw fun K hK => by have := h K hK; rwa [if_pos hw] at this
  · have h1 := h (fun a' w' => wpTxt P ops N O l a' w') (fun a' w' h' => h')
    rw [if_neg hw] at h1
    exact wpTxt_no (by simpa using hw) h1
theorem wpTxt_w0 (hW : isW o = true) (hg : o.guard = none) (h : ∀ K : Act → World → Prop, (∀ a' w', wpTxt P ops N O l a' w' → K a' w') → o.wp P a w K (canQ O)) : wpTxt P ops N O (o :: l) a w := wpTxt_w hW (by simp [Region.wanted, hg]) h
/-- these blocks are as they were -/
def SameAt (bs : List Nat) (w w' : World) : Prop := ∀ b, b ∈ bs → w'.heap[b]? = w.heap[b]?
theorem SameAt.refl (bs : List Nat) (w : World) : SameAt bs w w := fun _ _ => rfl
theorem SameAt.trans (bs : List Nat) (a b c : World) (h : SameAt bs a b) (k : SameAt bs b c) : SameAt bs a c := fun i hi => (k i hi).trans (h i hi)

theorem SameAt.set {bs : List Nat} {w w' : World} (h : SameAt bs w w') {p : Addr} (hp : ∀ b, b ∈ bs → b ≠ p.block) (u : Value) : SameAt bs w (w'.setCell p u) := fun i hi => (Below.heap_setCell w' p u i (hp i hi)).trans (h i hi)
theorem SameAt.alloc {bs : List Nat} {w w' : World} (h : SameAt bs w w') (hp : ∀ b, b ∈ bs → b < w'.heap.size) (o : Obj) : SameAt bs w (w'.alloc o) := fun i hi => (Below.heap_alloc w' o i (hp i hi)).trans (h i hi)
theorem SameAt.drew {bs : List Nat} {w w' : World} (h : SameAt bs w w') : SameAt bs w w'.drew := h
theorem SameAt.drewN {bs : List Nat} {w w' : World} (h : SameAt bs w w') (n : Nat) : SameAt bs w (w'.drewN n) := h
theorem SameAt.un (bs : List Nat) (w : World) : SameAt bs w.drew w := fun _ _ => rfl
theorem SameAt.unN (bs : List Nat) (w : World) (n : Nat) : SameAt bs (w.drewN n) w := fun _ _ => rfl
theorem SameAt.below {bs : List Nat} {w w' : World} {B : Nat} (h : Below B w w') (hp : ∀ b, b ∈ bs → b < B) : SameAt bs w w' := fun i hi => h.block i (hp i hi)

def tagL : List Nat → List Oper → List (Nat × Oper)
  | t :: ts, o :: l => (t, o) :: tagL ts l
  | [], o :: l => (0, o) :: tagL [] l
  | _, [] => []
/-- the walk in the order of the text, with marks -/
def wpTag (P : Program) (ops : Array Oper) (Kp : World → World → Prop) (N : Act → World → Prop) (O : Prop) (ts : List Nat) (l : List Oper) (a : Act) (w : World) : Prop := wpCan P ops Kp N O (tagL ts l) a w
def tagI (ts : List Nat) (n : Nat) : List (Nat × Nat) := (List.range n).map fun i => (ts.getD i 0, i)
theorem tagI_eq (ts : List Nat) (l : List Oper) : (tagI ts l.length).filterMap (fun x : Nat × Nat => (l[x.2]?).map fun o => (x.1, o)) = tagL ts l := by
  have key : ∀ (m : List Oper) (us : List Nat) (k : Nat), (∀ j, m[j]? = l[k + j]?) → (∀ j, us.getD j 0 = ts.getD (k + j) 0) → ((List.range' k m.length).map fun i => (ts.getD i 0, i)).filterMap (fun x : Nat × Nat => (l[x.2]?).map fun o => (x.1, o)) = tagL us m := by
    intro m
    induction m with
    | nil => intro us k _ _; cases us <;> rfl
    | cons o m ih =>
      intro us k hk hu
      have h0 : l[k]? = some o := by simpa using (hk 0).symm
      have hm : ∀ j, m[j]? = l[k + 1 + j]? := fun j => by have := hk (j + 1); simpa [Nat.add_assoc, Nat.add_comm 1 j] using this
      simp only [List.length_cons, List.range'_succ, List.map_cons, List.filterMap_cons, h0, Option.map_some]
      cases us with
      | nil =>
        have h1 : ts.getD k 0 = 0 := by simpa using (hu 0).symm
        rw [tagL, h1, ih [] (k + 1) hm (fun j => by have := hu (j + 1); simpa [Nat.add_assoc, Nat.add_comm 1 j] using this)]
      | cons t us =>
        have h1 : ts.getD k 0 = t := by simpa using (hu 0).symm
        rw [tagL, h1, ih us (k + 1) hm (fun j => by have := hu (j + 1); simpa [Nat.add_assoc, Nat.add_comm 1 j] using this)]
  unfold tagI
  rw [List.range_eq_range']
  exact key l ts 0 (by simp) (by simp)
theorem wp_region_g {id : Nat} (bs : List Nat) (ts : List Nat) (hm : P.follows .mixedOrders = true) (hB : canB l.toArray (tagI ts l.length) = true)
    (h : ∀ K : Act → World → Prop, (∀ a w, Q .normal a w → K a w) → wpTag P l.toArray (SameAt bs) K (LetsOut Q) ts l a w.drew) : (Code.region id l.toArray true).wp P Q a w :=
  wp_region_can (SameAt bs) (SameAt.refl bs) (SameAt.trans bs) _ hm hB fun K hK => by rw [tagI_eq]; exact h K hK
variable {ts : List Nat}
theorem wpTag_nil {ts : List Nat} (h : N a w) : wpTag P ops Kp N O ts [] a w := by cases ts <;> exact h
theorem wpTag_q (hW : isW o = false) (hg : o.guard = none) (h : ∀ K : Act → World → Prop, (∀ a', wpTag P ops Kp N O ts l a' w → K a' w) → o.wp P a w K (canQ O)) : wpTag P ops Kp N O (0 :: ts) (o :: l) a w := wpCan_q hW hg h
theorem wpTag_w (hW : isW o = true) (hg : o.guard = none) (h : ∀ K : Act → World → Prop, (∀ a' w', wpTag P ops Kp N O ts l a' w' → K a' w') → o.wp P a w K (canQ O)) : wpTag P ops Kp N O (0 :: ts) (o :: l) a w := wpCan_w hW (by simp [Region.wanted, hg]) h
theorem wpTag_s (hW : isW o = false) (h : ∀ K : Act → World → Prop, (∀ a', wpTag P ops Kp N O ts l a' w → K a' w) → if Region.wanted o (yielded ops a.tmps) = true then o.wp P a w K (canQ O) else K (a.put o.dst undef) w) : wpTag P ops Kp N O (0 :: ts) (o :: l) a w := by
  by_cases hw : Region.wanted o (yielded ops a.tmps) = true
  · exact wpCan_qg hW hw fun K hK => by have := h K hK; rwa [if_pos hw] at this
  · have h1 := h (fun a' w' => wpTag P ops Kp N O ts l a' w') (fun a' h' => h')
    rw [if_neg hw] at h1
    exact wpCan_no (by simpa using hw) h1
theorem wpTag_sw (hW : isW o = true) (h : ∀ K : Act → World → Prop, (∀ a' w', wpTag P ops Kp N O ts l a' w' → K a' w') → if Region.wanted o (yielded ops a.tmps) = true then o.wp P a w K (canQ O) else K (a.put o.dst undef) w) : wpTag P ops Kp N O (0 :: ts) (o :: l) a w := by
  by_cases hw : Region.wanted o (yielded ops a.tmps) = true
  · exact wpCan_w hW hw fun K hK => by have := h K hK; rwa [if_pos hw] at this
  · have h1 := h (fun a' w' => wpTag P ops Kp N O ts l a' w') (fun a' w' h' => h')
    rw [if_neg hw] at h1
    exact wpCan_no (by simpa using hw) h1
/-- mark 2: the same at every world that Kp allows -/
theorem wpTag_2 (v : Value) (hW : isW o = false) (hg : Region.wanted o (yielded ops a.tmps) = true) (hv : ∀ w', Kp w w' → (execOp a.eval o).run P w' = .ok (.value v) w') (h : wpTag P ops Kp N O ts l (a.put o.dst v) w) : wpTag P ops Kp N O (2 :: ts) (o :: l) a w := wpCan_2 v hW hg hv h
/-- mark 3: an operation that may turn the world, within Kp -/
theorem wpTag_3 (hW : isW o = true) (hg : Region.wanted o (yielded ops a.tmps) = true) (h : ∀ K : Act → World → Prop, (∀ a' w', (Kp w w' ∧ wpTag P ops Kp N O ts l a' w') → K a' w') → o.wp P a w K (canQ O)) : wpTag P ops Kp N O (3 :: ts) (o :: l) a w := wpCan_b hW hg h
theorem wpTag_no {t : Nat} (hg : Region.wanted o (yielded ops a.tmps) = false) (h : wpTag P ops Kp N O ts l (a.put o.dst undef) w) : wpTag P ops Kp N O (t :: ts) (o :: l) a w := wpCan_no hg h
end
theorem szW : (∀ (w : World) (o : Obj), (w.alloc o).heap.size = w.heap.size + 1) ∧ (∀ w : World, w.drew.heap.size = w.heap.size) ∧ (∀ (w : World) (a : Addr) (v : Value), (w.setCell a v).heap.size = w.heap.size) := ⟨fun w o => World.size_alloc .., fun w => World.size_drew .., fun w a v => World.size_setCell ..⟩
end Go.Proofs.Ytbobbbhgdfapjaa
