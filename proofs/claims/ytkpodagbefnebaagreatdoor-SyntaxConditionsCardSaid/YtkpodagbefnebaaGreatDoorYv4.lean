import Derived.Test.YtkpodagbefnebaaGreatDoorYv3
import Derived.Laws.BitsLemmas
import Derived.Laws.Closers25
import Derived.Laws.Small
import Derived.Test.YtkpodagbefnebaaGreatDoorProg
import Derived.Lib.LaidTab
import Derived.Lib.ItoaNum
import Derived.Test.YtkpodagbefnebaaGreatDoorRows
import Derived.ProofKit
import Derived.OpenShut
import Derived.Deep.Slices
import Derived.Deep.Fields
import Derived.LaidMore
import Derived.LaidHandle
import Derived.Stop.Joined
import Derived.Stop.LaidErr
set_option linter.unusedSimpArgs false
set_option linter.unusedVariables false
set_option linter.unusedSectionVars false
namespace Go.Proofs.YtkpodagbefnebaaGreatDoor
namespace Am
variable [Tb]
open Go.RowKit
def look {α : Type} : List (Nat × α) → Nat → Option α
  | [], _ => none
  | (k, v) :: l, n => match Nat.beq k n with
    | true => some v
    | false => look l n
abbrev mk (l : List (Nat × V)) (h : List (Nat × HO)) : St := ⟨look l, look h⟩
theorem upd_look {α : Type} (l : List (Nat × α)) (t : Nat) (v : α) : upd (look l) t v = look ((t, v) :: l) := by
  funext n
  unfold look upd
  by_cases h : n = t
  · subst h; simp
  · have : Nat.beq t n = false := by
      cases hb : Nat.beq t n with
      | false => rfl
      | true => exact absurd (Nat.eq_of_beq_eq_true hb).symm h
    rw [if_neg h, this]
theorem put_mk (l : List (Nat × V)) (h : List (Nat × HO)) (t : Nat) (v : V) : (mk l h).put (some t) v = mk ((t, v) :: l) h := by
  show (⟨upd (look l) t v, look h⟩ : St) = _
  rw [upd_look]
theorem set_mk (l : List (Nat × V)) (h : List (Nat × HO)) (n : Nat) (o : HO) : (mk l h).set n o = mk l ((n, o) :: h) := by
  show (⟨look l, upd (look h) n o⟩ : St) = _
  rw [upd_look]
section
variable {P : Program} {ops : Array Oper} {l : List (Nat × V)} {h : List (Nat × HO)} {rest : List Oper} {fs : List FP} {K : St → List FP → Prop} {t : Nat} {op : Op} {ty : TypeId} {pos : String} {af : Array Edge} {gu : Option (Nat × Bool)} {v : V} {rd : List Nat} {n : Nat} {ob : HO} {gp : Nat × Bool}
end
section
variable {ops : Array Oper} {sl : Nat → Option V} {d : Option Nat} {op : Op} {ty : TypeId} {pos : String} {af : Array Edge} {j t : Nat} {want b g : Bool}
theorem g_p (h1 : (ops[j]?).bind (·.dst) = some t) (h2 : sl t = some (.c (.sc (.bool b)))) : gd ops sl ⟨d, op, ty, pos, af, some (j, want)⟩ = some (b == want) := by
  unfold gd; simp only [h1, h2]
theorem g_w (h1 : (ops[j]?).bind (·.dst) = some t) (h2 : sl t = some (.wh g (.c (.sc (.bool b))))) : gd ops sl ⟨d, op, ty, pos, af, some (j, want)⟩ = some (g && (b == want)) := by
  unfold gd; simp only [h1, h2]
end
theorem beqd {α : Type} [BEq α] [LawfulBEq α] [DecidableEq α] (a b : α) : (a == b) = decide (a = b) := by rw [Bool.eq_iff_iff]; simp
section
variable {P : Program} {ρ : Operand → Option V} {H : Nat → Option HO} {d : Option Nat} {ty : TypeId} {pos : String} {af : Array Edge} {gu : Option (Nat × Bool)} {x y : Operand} {v : V} {t e n off k i : Nat} {cs ds cs' : List C} {b : Bool}
theorem a_move (hx : Ev ρ x v) : AS P ρ H ⟨d, .move x, ty, pos, af, gu⟩ ⟨v, [], []⟩ := .move (.inl rfl) hx
theorem a_assign (hx : Ev ρ x v) : AS P ρ H ⟨d, .assign x, ty, pos, af, gu⟩ ⟨v, [], []⟩ := .move (.inr rfl) hx
theorem a_alloc (hn : H t = none) (hz : Zw P e cs) : AS P ρ H ⟨some t, .alloc e, ty, pos, af, gu⟩ ⟨.c (.ptr t 0), [(t, .obj e cs)], [t]⟩ := .alloc rfl hn hz
theorem a_boxC {c : C} (hn : H t = none) (hx : Ev ρ x (.c c)) : AS P ρ H ⟨some t, .box e x, ty, pos, af, gu⟩ ⟨.c (.ptr t 0), [(t, .obj e [c])], [t]⟩ := .box rfl hn hx rfl
theorem a_boxA (hn : H t = none) (hx : Ev ρ x (.agg cs)) : AS P ρ H ⟨some t, .box e x, ty, pos, af, gu⟩ ⟨.c (.ptr t 0), [(t, .obj e cs)], [t]⟩ := .box rfl hn hx rfl
theorem a_loadP {ty0 : Nat} (hx : Ev ρ x (.c (.ptr n off))) (hh : H n = some (.obj ty0 cs)) (ht : tyi P e = some (k, b)) (hc : cutV b cs off k = some v) : AS P ρ H ⟨d, .load e x, ty, pos, af, gu⟩ ⟨v, [], [n]⟩ := .load rfl hx hh ht hc
theorem a_loadE (hx : Ev ρ x (.c (.ep cs))) (ht : tyi P e = some (k, b)) (hc : cutV b cs 0 k = some v) : AS P ρ H ⟨d, .load e x, ty, pos, af, gu⟩ ⟨v, [], []⟩ := .loadE rfl hx ht hc
theorem a_storeC {ty0 : Nat} {c : C} (hx : Ev ρ x (.c (.ptr n off))) (hh : H n = some (.obj ty0 cs)) (hy : Ev ρ y (.c c)) (ht : tyi P e = some (1, b)) (hs : setV cs off [c] = some cs') : AS P ρ H ⟨d, .store e x y, ty, pos, af, gu⟩ ⟨undV, [(n, .obj ty0 cs')], [n]⟩ := .store rfl hx hh hy rfl ht hs
theorem a_storeA {ty0 : Nat} (hx : Ev ρ x (.c (.ptr n off))) (hh : H n = some (.obj ty0 cs)) (hy : Ev ρ y (.agg ds)) (ht : tyi P e = some (k, b)) (hl : ds.length = k) (hs : setV cs off ds = some cs') : AS P ρ H ⟨d, .store e x y, ty, pos, af, gu⟩ ⟨undV, [(n, .obj ty0 cs')], [n]⟩ := .store rfl hx hh hy rfl (hl ▸ ht) hs
theorem a_nil (hx : Ev ρ x v) (hv : isPl v = true) : AS P ρ H ⟨d, .nilCheck x, ty, pos, af, gu⟩ ⟨v, [], []⟩ := .nilCheck rfl hx hv
theorem a_fldP {s f o2 ft q : Nat} (hx : Ev ρ x (.c (.ptr n off))) (hf : fld P s f = some (o2, ft)) (he : off + o2 = q) : AS P ρ H ⟨d, .fieldAddr s x f, ty, pos, af, gu⟩ ⟨.c (.ptr n q), [], []⟩ := .fieldP rfl hx hf he
theorem a_fldE {s f o2 ft : Nat} (hx : Ev ρ x (.c (.ep cs))) (hf : fld P s f = some (o2, ft)) (he : cs.drop o2 = ds) : AS P ρ H ⟨d, .fieldAddr s x f, ty, pos, af, gu⟩ ⟨.c (.ep ds), [], []⟩ := .fieldE rfl hx hf he
theorem a_fld {s f o2 ft : Nat} (hx : Ev ρ x (.agg cs)) (hf : fld P s f = some (o2, ft)) (ht : tyi P ft = some (k, b)) (hc : cutV b cs o2 k = some v) : AS P ρ H ⟨d, .field s x f, ty, pos, af, gu⟩ ⟨v, [], []⟩ := .field rfl hx hf ht hc
theorem a_idx {j : Nat} {ix : Operand} {tg : Option Nat} {xs : List (List C)} {kd : IntKind} {z : Int} (hx : Ev ρ x (.c (.lst tg k xs))) (hi : Ev ρ ix (.c (.sc (.int kd z)))) (ht : sle P t = some (e, k)) (hz : z = (j : Nat)) (hg : xs[j]? = some cs) :
    AS P ρ H ⟨d, .indexAddr t x ix, ty, pos, af, gu⟩ ⟨.c (.ep cs), [], []⟩ := .indexL rfl hx hi ht hz hg
theorem a_ext {l : List V} (hx : Ev ρ x (.tup l)) (hl : l[i]? = some v) : AS P ρ H ⟨d, .extract x i, ty, pos, af, gu⟩ ⟨v, [], []⟩ := .extract rfl hx hl
theorem a_lenL {tg : Option Nat} {xs : List (List C)} (hx : Ev ρ x (.c (.lst tg k xs))) (ht : sle P t = some (e, k)) : AS P ρ H ⟨d, .call { callee := .builtin .len, args := #[x], argTypes := #[t] }, ty, pos, af, gu⟩ ⟨.c (.sc (.int .i64 xs.length)), [], []⟩ := .lenL rfl ht hx
theorem a_lenN (hx : Ev ρ x (.c .nil)) (ht : sle P t = some (e, k)) : AS P ρ H ⟨d, .call { callee := .builtin .len, args := #[x], argTypes := #[t] }, ty, pos, af, gu⟩ ⟨.c (.sc (.int .i64 0)), [], []⟩ := .lenN rfl ht hx
inductive EvCs (ρ : Operand → Option V) : List Operand → List C → Prop
  | nil : EvCs ρ [] []
  | cons {x : Operand} {c : C} {l : List Operand} {cs : List C} : Ev ρ x (.c c) → EvCs ρ l cs → EvCs ρ (x :: l) (c :: cs)
theorem EvCs.evl {ρ : Operand → Option V} : ∀ {l : List Operand} {cs : List C}, EvCs ρ l cs → EvL ρ l (cs.map V.c)
  | [], _, .nil => .nil
  | _ :: _, _, .cons h hs => .cons h hs.evl
theorem a_fn {f : Nat} {caps : Array Operand} {cs : List C} (hv : EvCs ρ caps.toList cs) : AS P ρ H ⟨d, .makeFunc (.func f) #[] caps, ty, pos, af, gu⟩ ⟨.c (.fn f cs), [], []⟩ := .makeFunc rfl hv.evl rfl
theorem a_slice {parts : Array (Nat × Operand)} {zs : List C} {ps : List (Nat × List C)} {xs : List (List C)} (ht : sle P t = some (e, k)) (hz : Zw P e zs) (hk : zs.length = k) (h0 : 0 < k) (hn : n * k ≤ 2 ^ 24) (hv : EvP ρ parts.toList ps) (hf : fillC (fun i => some (i * k, k)) ((List.replicate n zs).flatten) ps = some cs) (hx : chunk k n cs = xs) :
    AS P ρ H ⟨d, .buildSlice t n parts, ty, pos, af, gu⟩ ⟨.c (.lst none k xs), [], []⟩ := hx ▸ .buildSlice rfl ht hz hk h0 hn hv hf
theorem a_app {τ m : Nat} {tg : Option Nat} {xs ys zs : List (List C)} {zl : List C} (ht : sle P t = some (e, k)) (h0 : 0 < k) (hx : Ev ρ x (.c (.lst (some τ) k xs))) (hh : H τ = some (.row e k m)) (hm : xs.length = m) (hz : Zw P e zl) (hl : zl.length = k) (hy : Ev ρ y (.c (.lst tg k ys))) (hzs : xs ++ unLL ys = zs) (h1 : zs.length ≤ maxLen) (h2 : zs.length * P.bytesOf e ≤ 140737488355328) :
    AS P ρ H ⟨d, .call { callee := .builtin .append, args := #[x, y], argTypes := #[t, t] }, ty, pos, af, gu⟩ ⟨.c (.lst (some τ) k zs), [(τ, .row e k zs.length)], [τ]⟩ := .append rfl ht h0 hx hh hm ⟨zl, hz, hl⟩ (.inl hy) hzs h1 h2
theorem a_pick {c a b : Operand} {p : Bool} (hc : Ev ρ c (.c (.sc (.bool p)))) (ha : p = true → Ev ρ a v) (hb : p = false → Ev ρ b v) : AS P ρ H ⟨d, .pick c a b, ty, pos, af, gu⟩ ⟨v, [], []⟩ := .pick rfl hc ha hb
theorem a_and {c a : Operand} {p q : Bool} (hc : Ev ρ c (.c (.sc (.bool p)))) (h0 : ρ (.const (.bool false)) = some (.c (.sc (.bool false)))) (ha : p = true → Ev ρ a (.c (.sc (.bool q)))) : AS P ρ H ⟨d, .pick c a (.const (.bool false)), ty, pos, af, gu⟩ ⟨.c (.sc (.bool (p && q))), [], []⟩ := by
  cases p with
  | true => exact .pick rfl hc (fun _ => ha rfl) fun e => by cases e
  | false => exact .pick rfl hc (fun e => by cases e) fun _ => .pl h0
theorem a_or {c a : Operand} {p q : Bool} (hc : Ev ρ c (.c (.sc (.bool p)))) (h0 : ρ (.const (.bool true)) = some (.c (.sc (.bool true)))) (ha : p = false → Ev ρ a (.c (.sc (.bool q)))) : AS P ρ H ⟨d, .pick c (.const (.bool true)) a, ty, pos, af, gu⟩ ⟨.c (.sc (.bool (p || q))), [], []⟩ := by
  cases p with
  | true => exact .pick rfl hc (fun _ => .pl h0) fun e => by cases e
  | false => exact .pick rfl hc (fun e => by cases e) fun _ => ha rfl
theorem a_bin {op : BinOp} {t2 : TypeId} {a b r : Value} (hx : Ev ρ x (.c (.sc a))) (hy : Ev ρ y (.c (.sc b))) (hr : scal r = true) (h : ∀ w, (do eqGuard op t x y a b; binOp op t a b : Sem Value).run P w = .ok r w) :
    AS P ρ H ⟨d, .binOp op t x y t2, ty, pos, af, gu⟩ ⟨.c (.sc r), [], []⟩ := by
  refine .still (fun q hq w => ?_) fun _ => .sc hr
  have h1 := hq x (by simp [Op.operands]) _ _ hx .sc
  have h2 := hq y (by simp [Op.operands]) _ _ hy .sc
  have h3 := h w
  unfold execOp
  simp only [h1, h2]
  simp only [Sem.run_bind] at h3 ⊢
  rw [h3]
  simp
theorem wrap64 {n : Int} (h0 : -9223372036854775808 ≤ n) (h1 : n < 9223372036854775808) : IntKind.i64.wrap n = n := by rw [IntKind.wrap_i64]; omega
variable {t2 : TypeId} {kd : IntKind} {p q : Int} {s u : ByteArray} {f g : Bool}
theorem a_add (hx : Ev ρ x (.c (.sc (.int .i64 p)))) (hy : Ev ρ y (.c (.sc (.int .i64 q)))) (h0 : -9223372036854775808 ≤ p + q) (h1 : p + q < 9223372036854775808) : AS P ρ H ⟨d, .binOp .add t x y t2, ty, pos, af, gu⟩ ⟨.c (.sc (.int .i64 (p + q))), [], []⟩ :=
  a_bin hx hy rfl fun w => by simp [eqGuard, binOp, Op.intArith, wrap64 h0 h1]
theorem a_sub (hx : Ev ρ x (.c (.sc (.int .i64 p)))) (hy : Ev ρ y (.c (.sc (.int .i64 q)))) (h0 : -9223372036854775808 ≤ p - q) (h1 : p - q < 9223372036854775808) : AS P ρ H ⟨d, .binOp .sub t x y t2, ty, pos, af, gu⟩ ⟨.c (.sc (.int .i64 (p - q))), [], []⟩ :=
  a_bin hx hy rfl fun w => by simp [eqGuard, binOp, Op.intArith, wrap64 h0 h1]
theorem a_eq (hx : Ev ρ x (.c (.sc (.int kd p)))) (hy : Ev ρ y (.c (.sc (.int kd q)))) : AS P ρ H ⟨d, .binOp .eql t x y t2, ty, pos, af, gu⟩ ⟨.c (.sc (.bool (decide (p = q)))), [], []⟩ :=
  a_bin hx hy rfl fun w => by simp [eqGuard, binOp, Op.intCmp, beqd]
theorem a_ne (hx : Ev ρ x (.c (.sc (.int kd p)))) (hy : Ev ρ y (.c (.sc (.int kd q)))) : AS P ρ H ⟨d, .binOp .neq t x y t2, ty, pos, af, gu⟩ ⟨.c (.sc (.bool (!decide (p = q)))), [], []⟩ :=
  a_bin hx hy rfl fun w => by simp [eqGuard, binOp, Op.intCmp, bne, beqd]
theorem a_lt (hx : Ev ρ x (.c (.sc (.int kd p)))) (hy : Ev ρ y (.c (.sc (.int kd q)))) : AS P ρ H ⟨d, .binOp .lss t x y t2, ty, pos, af, gu⟩ ⟨.c (.sc (.bool (decide (p < q)))), [], []⟩ :=
  a_bin hx hy rfl fun w => by simp [eqGuard, binOp, Op.intCmp]
theorem a_le (hx : Ev ρ x (.c (.sc (.int kd p)))) (hy : Ev ρ y (.c (.sc (.int kd q)))) : AS P ρ H ⟨d, .binOp .leq t x y t2, ty, pos, af, gu⟩ ⟨.c (.sc (.bool (decide (p ≤ q)))), [], []⟩ :=
  a_bin hx hy rfl fun w => by simp [eqGuard, binOp, Op.intCmp]
theorem a_gt (hx : Ev ρ x (.c (.sc (.int kd p)))) (hy : Ev ρ y (.c (.sc (.int kd q)))) : AS P ρ H ⟨d, .binOp .gtr t x y t2, ty, pos, af, gu⟩ ⟨.c (.sc (.bool (decide (q < p)))), [], []⟩ :=
  a_bin hx hy rfl fun w => by simp [eqGuard, binOp, Op.intCmp]
theorem a_ge (hx : Ev ρ x (.c (.sc (.int kd p)))) (hy : Ev ρ y (.c (.sc (.int kd q)))) : AS P ρ H ⟨d, .binOp .geq t x y t2, ty, pos, af, gu⟩ ⟨.c (.sc (.bool (decide (q ≤ p)))), [], []⟩ :=
  a_bin hx hy rfl fun w => by simp [eqGuard, binOp, Op.intCmp]
theorem ba_beq (s u : ByteArray) : (s.toList == u.toList) = decide (s = u) := by
  rw [ByteArray.toList_eq, ByteArray.toList_eq, beqd]
  congr 1
  exact propext ⟨fun h => ByteArray.ext (Array.ext' h), fun h => by rw [h]⟩
theorem a_cat (hx : Ev ρ x (.c (.sc (.string s)))) (hy : Ev ρ y (.c (.sc (.string u)))) (h : s.size + u.size ≤ 9223372036854775807) : AS P ρ H ⟨d, .binOp .add t x y t2, ty, pos, af, gu⟩ ⟨.c (.sc (.string (s ++ u))), [], []⟩ :=
  a_bin hx hy (by simp only [scal, ByteArray.size_append]; exact decide_eq_true h) fun w => by
    have : ¬ (((s.size + u.size : Nat) : Int) > IntKind.i64.max) := by simp [IntKind.max, IntKind.signed, IntKind.bits]; omega
    simp only [eqGuard, binOp, Op.stringOp, if_neg this]
    simp
theorem a_seq (hx : Ev ρ x (.c (.sc (.string s)))) (hy : Ev ρ y (.c (.sc (.string u)))) : AS P ρ H ⟨d, .binOp .eql t x y t2, ty, pos, af, gu⟩ ⟨.c (.sc (.bool (decide (s = u)))), [], []⟩ :=
  a_bin hx hy rfl fun w => by simp only [eqGuard, binOp, Op.stringOp, ba_beq]; simp
theorem a_sne (hx : Ev ρ x (.c (.sc (.string s)))) (hy : Ev ρ y (.c (.sc (.string u)))) : AS P ρ H ⟨d, .binOp .neq t x y t2, ty, pos, af, gu⟩ ⟨.c (.sc (.bool (!decide (s = u)))), [], []⟩ :=
  a_bin hx hy rfl fun w => by simp only [eqGuard, binOp, Op.stringOp, ba_beq]; simp
theorem a_beq (hx : Ev ρ x (.c (.sc (.bool f)))) (hy : Ev ρ y (.c (.sc (.bool g)))) (ht : P.underlying t = some .bool) : AS P ρ H ⟨d, .binOp .eql t x y t2, ty, pos, af, gu⟩ ⟨.c (.sc (.bool (f == g))), [], []⟩ :=
  a_bin hx hy rfl fun w => by simp [eqGuard, run_eql_bool w t f g ht]
theorem a_bne (hx : Ev ρ x (.c (.sc (.bool f)))) (hy : Ev ρ y (.c (.sc (.bool g)))) (ht : P.underlying t = some .bool) : AS P ρ H ⟨d, .binOp .neq t x y t2, ty, pos, af, gu⟩ ⟨.c (.sc (.bool (f != g))), [], []⟩ :=
  a_bin hx hy rfl fun w => by simp [eqGuard, run_neq_bool w t f g ht, bne]
theorem a_not (hx : Ev ρ x (.c (.sc (.bool f)))) : AS P ρ H ⟨d, .unOp .not t x, ty, pos, af, gu⟩ ⟨.c (.sc (.bool (!f))), [], []⟩ := by
  refine .still (fun q hq w => ?_) fun _ => .sc rfl
  have h1 := hq x (by simp [Op.operands]) _ _ hx .sc
  unfold execOp
  simp only [h1]
  simp [Op.unary]
theorem a_lenS (hx : Ev ρ x (.c (.sc (.string s)))) (ht : P.underlying t = some .string) : AS P ρ H ⟨d, .call { callee := .builtin .len, args := #[x], argTypes := #[t] }, ty, pos, af, gu⟩ ⟨.c (.sc (.int .i64 s.size)), [], []⟩ := by
  refine .still (fun q hq w => ?_) fun _ => .sc rfl
  have h1 := hq x (by simp [Op.operands, Call.operands]) _ _ hx .sc
  unfold execOp
  simp only [resolve, invoke, builtin]
  simp [h1, Builtin.len_, run_underlying ht, goInt]
end
theorem a_pickF {P : Program} {ρ : Operand → Option V} {H : Nat → Option HO} {d : Option Nat} {ty : TypeId} {pos : String} {af : Array Edge} {gu : Option (Nat × Bool)} {v : V} {c a b : Operand} {p : Bool} (hc : Ev ρ c (.c (.sc (.bool p)))) (hp : p = false) (hb : Ev ρ b v) : AS P ρ H ⟨d, .pick c a b, ty, pos, af, gu⟩ ⟨v, [], []⟩ := .pick rfl hc (fun e => by rw [hp] at e; cases e) fun _ => hb
theorem a_pickT {P : Program} {ρ : Operand → Option V} {H : Nat → Option HO} {d : Option Nat} {ty : TypeId} {pos : String} {af : Array Edge} {gu : Option (Nat × Bool)} {v : V} {c a b : Operand} {p : Bool} (hc : Ev ρ c (.c (.sc (.bool p)))) (hp : p = true) (hb : Ev ρ a v) : AS P ρ H ⟨d, .pick c a b, ty, pos, af, gu⟩ ⟨v, [], []⟩ := .pick rfl hc (fun _ => hb) (fun e => by rw [hp] at e; cases e)
theorem a_allocB {P : Program} {ρ : Operand → Option V} {H : Nat → Option HO} {ty : TypeId} {pos : String} {af : Array Edge} {gu : Option (Nat × Bool)} {t u e : Nat} (hn : H t = none) (hz : Zb P u) : AS P ρ H ⟨some t, .alloc u, ty, pos, af, gu⟩ ⟨.c (.ptr t 0), [(t, .bld u e [])], [t]⟩ := .allocB rfl rfl hn hz
end Am
namespace Am
variable [Tb]
abbrev sI (n : Int) : C := .sc (.int .i64 n)
abbrev sU (n : Int) : C := .sc (.int .u64 n)
abbrev sB (b : Bool) : C := .sc (.bool b)
abbrev sS (s : ByteArray) : C := .sc (.string s)
def oneS (s : ByteArray) : List C := [sS s]
abbrev strL (l : List ByteArray) : C := .lst none 1 (l.map oneS)
structure Sp where
  frm : ByteArray
  to : ByteArray
def spC (x : Sp) : List C := [sS x.frm, sS x.to]
def Sp.zero : Sp := ⟨⟨#[]⟩, ⟨#[]⟩⟩
theorem spC_len (x : Sp) : (spC x).length = 2 := rfl
structure NS where
  all : Bool
  nt : Bool
  self : Bool
  names : List ByteArray
  except : List ByteArray
def nsC (x : NS) : List C := [sB x.all, sB x.nt, sB x.self, strL x.names, strL x.except]
def NS.zero : NS := ⟨false, false, false, [], []⟩
theorem nsC_len (x : NS) : (nsC x).length = 5 := rfl
structure Lv where
  sens : ByteArray
  cats : List Sp
def lvC (x : Lv) : List C := [sS x.sens, .lst none 2 (x.cats.map spC)]
def Lv.zero : Lv := ⟨⟨#[]⟩, []⟩
theorem lvC_len (x : Lv) : (lvC x).length = 2 := rfl
structure Rg where
  lo : Lv
  hi : Lv
def rgC (x : Rg) : List C := lvC x.lo ++ lvC x.hi
def Rg.zero : Rg := ⟨⟨⟨#[]⟩, []⟩, ⟨⟨#[]⟩, []⟩⟩
theorem rgC_len (x : Rg) : (rgC x).length = 4 := rfl
structure Ct where
  user : ByteArray
  role : ByteArray
  type : ByteArray
  rng : Rg
def cxC (x : Ct) : List C := [sS x.user, sS x.role, sS x.type] ++ rgC x.rng
def Ct.zero : Ct := ⟨⟨#[]⟩, ⟨#[]⟩, ⟨#[]⟩, ⟨⟨⟨#[]⟩, []⟩, ⟨⟨#[]⟩, []⟩⟩⟩
theorem cxC_len (x : Ct) : (cxC x).length = 7 := rfl
structure Se where
  a : Int
  b : Int
  c : Int
  d : Int
def seC (x : Se) : List C := [sU x.a, sU x.b, sU x.c, sU x.d]
def Se.zero : Se := ⟨0, 0, 0, 0⟩
theorem seC_len (x : Se) : (seC x).length = 4 := rfl
structure Ex where
  op : Int
  a : Int
  rel : Int
  b : Int
  names : List ByteArray
  set : Se
  kids : List Ex
mutual
def exC_kids : Ex → List (List C)
  | ⟨_, _, _, _, _, _, kids⟩ => exCs kids
def exCs : List Ex → List (List C)
  | [] => []
  | x :: l => ([sI x.op, sI x.a, sI x.rel, sI x.b, strL x.names] ++ seC x.set ++ [.lst none 10 (exC_kids x)]) :: exCs l
end
def exC (x : Ex) : List C := [sI x.op, sI x.a, sI x.rel, sI x.b, strL x.names] ++ seC x.set ++ [.lst none 10 (exC_kids x)]
theorem exCs_map : ∀ l : List Ex, exCs l = l.map exC
  | [] => by rw [exCs]; rfl
  | x :: l => by rw [exCs, exCs_map l]; rfl
theorem exC_kids_map (x : Ex) : exC_kids x = x.kids.map exC := by cases x; rw [exC_kids, exCs_map]
def Ex.zero : Ex := ⟨0, 0, 0, 0, [], ⟨0, 0, 0, 0⟩, []⟩
theorem exC_len (x : Ex) : (exC x).length = 10 := rfl
structure Po where
  line : Int
  col : Int
def poC (x : Po) : List C := [sI x.line, sI x.col]
def Po.zero : Po := ⟨0, 0⟩
theorem poC_len (x : Po) : (poC x).length = 2 := rfl
structure Stm where
  kind : Int
  op : Int
  pos : Po
  name : ByteArray
  result : ByteArray
  text : ByteArray
  list : List ByteArray
  aliases : List ByteArray
  source : NS
  target : NS
  cls : NS
  perms : NS
  cond : Ex
  level : Lv
  range : Rg
  ctx : Ct
  value : Bool
  thn : List Stm
  els : List Stm
mutual
def stC_thn : Stm → List (List C)
  | ⟨_, _, _, _, _, _, _, _, _, _, _, _, _, _, _, _, _, thn, _⟩ => stCs thn
def stC_els : Stm → List (List C)
  | ⟨_, _, _, _, _, _, _, _, _, _, _, _, _, _, _, _, _, _, els⟩ => stCs els
def stCs : List Stm → List (List C)
  | [] => []
  | x :: l => ([sI x.kind, sI x.op] ++ poC x.pos ++ [sS x.name, sS x.result, sS x.text, strL x.list, strL x.aliases] ++ nsC x.source ++ nsC x.target ++ nsC x.cls ++ nsC x.perms ++ exC x.cond ++ lvC x.level ++ rgC x.range ++ cxC x.ctx ++ [sB x.value, .lst none 55 (stC_thn x), .lst none 55 (stC_els x)]) :: stCs l
end
def stC (x : Stm) : List C := [sI x.kind, sI x.op] ++ poC x.pos ++ [sS x.name, sS x.result, sS x.text, strL x.list, strL x.aliases] ++ nsC x.source ++ nsC x.target ++ nsC x.cls ++ nsC x.perms ++ exC x.cond ++ lvC x.level ++ rgC x.range ++ cxC x.ctx ++ [sB x.value, .lst none 55 (stC_thn x), .lst none 55 (stC_els x)]
theorem stCs_map : ∀ l : List Stm, stCs l = l.map stC
  | [] => by rw [stCs]; rfl
  | x :: l => by rw [stCs, stCs_map l]; rfl
theorem stC_thn_map (x : Stm) : stC_thn x = x.thn.map stC := by cases x; rw [stC_thn, stCs_map]
theorem stC_els_map (x : Stm) : stC_els x = x.els.map stC := by cases x; rw [stC_els, stCs_map]
def Stm.zero : Stm := ⟨0, 0, ⟨0, 0⟩, ⟨#[]⟩, ⟨#[]⟩, ⟨#[]⟩, [], [], ⟨false, false, false, [], []⟩, ⟨false, false, false, [], []⟩, ⟨false, false, false, [], []⟩, ⟨false, false, false, [], []⟩, ⟨0, 0, 0, 0, [], ⟨0, 0, 0, 0⟩, []⟩, ⟨⟨#[]⟩, []⟩, ⟨⟨⟨#[]⟩, []⟩, ⟨⟨#[]⟩, []⟩⟩, ⟨⟨#[]⟩, ⟨#[]⟩, ⟨#[]⟩, ⟨⟨⟨#[]⟩, []⟩, ⟨⟨#[]⟩, []⟩⟩⟩, false, [], []⟩
theorem stC_len (x : Stm) : (stC x).length = 55 := rfl
structure Mo where
  name : ByteArray
  version : Int
  stmts : List Stm
def moC (x : Mo) : List C := [sS x.name, sI x.version, .lst none 55 (x.stmts.map stC)]
def Mo.zero : Mo := ⟨⟨#[]⟩, 0, []⟩
theorem moC_len (x : Mo) : (moC x).length = 3 := rfl
structure Tok where
  kind : Int
  text : ByteArray
  pos : Po
def tkC (x : Tok) : List C := [sI x.kind, sS x.text] ++ poC x.pos
def Tok.zero : Tok := ⟨0, ⟨#[]⟩, ⟨0, 0⟩⟩
theorem tkC_len (x : Tok) : (tkC x).length = 4 := rfl
structure Fa where
  code : Int
  pos : Po
  name : ByteArray
def faC (x : Fa) : List C := [sI x.code] ++ poC x.pos ++ [sS x.name]
def Fa.zero : Fa := ⟨0, ⟨0, 0⟩, ⟨#[]⟩⟩
theorem faC_len (x : Fa) : (faC x).length = 4 := rfl
structure Pa where
  names : NS
  cond : Ex
  validate : Bool
  range : Rg
  context : Ct
def paC (x : Pa) : List C := nsC x.names ++ exC x.cond ++ [sB x.validate] ++ rgC x.range ++ cxC x.context
def Pa.zero : Pa := ⟨⟨false, false, false, [], []⟩, ⟨0, 0, 0, 0, [], ⟨0, 0, 0, 0⟩, []⟩, false, ⟨⟨⟨#[]⟩, []⟩, ⟨⟨#[]⟩, []⟩⟩, ⟨⟨#[]⟩, ⟨#[]⟩, ⟨#[]⟩, ⟨⟨⟨#[]⟩, []⟩, ⟨⟨#[]⟩, []⟩⟩⟩⟩
theorem paC_len (x : Pa) : (paC x).length = 27 := rfl
structure Sy where
  kind : Int
  name : ByteArray
  req : Bool
  perms : List ByteArray
  pos : Po
def syC (x : Sy) : List C := [sI x.kind, sS x.name, sB x.req, strL x.perms] ++ poC x.pos
def Sy.zero : Sy := ⟨0, ⟨#[]⟩, false, [], ⟨0, 0⟩⟩
theorem syC_len (x : Sy) : (syC x).length = 6 := rfl
structure Ps where
  l : List Tok
  at_ : Int
  count : Int
  depth : Int
def psC (x : Ps) : List C := [.lst none 4 (x.l.map tkC), sI x.at_, sI x.count, sI x.depth]
def Ps.zero : Ps := ⟨[], 0, 0, 0⟩
theorem psC_len (x : Ps) : (psC x).length = 4 := rfl
structure Qs where
  l : List Tok
  at_ : Int
  bad : Fa
  stmts : Int
def qsC (x : Qs) : List C := [.lst none 4 (x.l.map tkC), sI x.at_] ++ faC x.bad ++ [sI x.stmts]
def Qs.zero : Qs := ⟨[], 0, ⟨0, ⟨0, 0⟩, ⟨#[]⟩⟩, 0⟩
theorem qsC_len (x : Qs) : (qsC x).length = 7 := rfl
structure Bs where
  l : List Tok
  at_ : Int
  deep : Int
def bsC (x : Bs) : List C := [.lst none 4 (x.l.map tkC), sI x.at_, sI x.deep]
def Bs.zero : Bs := ⟨[], 0, 0⟩
theorem bsC_len (x : Bs) : (bsC x).length = 3 := rfl
structure Sc where
  src : ByteArray
  at_ : Int
  pos : Po
def snR (x : Sc) : List C := [sS x.src, sI x.at_] ++ poC x.pos
def Sc.zero : Sc := ⟨⟨#[]⟩, 0, ⟨0, 0⟩⟩
theorem snR_len (x : Sc) : (snR x).length = 4 := rfl
theorem cutA : (∀ x : Sp, cutV false (spC x) 0 1 = some (.c (sS x.frm))) ∧
    (∀ x : Sp, cutV false (spC x) 1 1 = some (.c (sS x.to))) ∧
    (∀ x : Sp, cutV true (spC x) 0 2 = some (.agg (spC x))) ∧
    (∀ x : NS, cutV false (nsC x) 0 1 = some (.c (sB x.all))) ∧
    (∀ x : NS, cutV false (nsC x) 1 1 = some (.c (sB x.nt))) ∧
    (∀ x : NS, cutV false (nsC x) 2 1 = some (.c (sB x.self))) ∧
    (∀ x : NS, cutV false (nsC x) 3 1 = some (.c (strL x.names))) ∧
    (∀ x : NS, cutV false (nsC x) 4 1 = some (.c (strL x.except))) ∧
    (∀ x : NS, cutV true (nsC x) 0 5 = some (.agg (nsC x))) ∧
    (∀ x : Lv, cutV false (lvC x) 0 1 = some (.c (sS x.sens))) ∧
    (∀ x : Lv, cutV false (lvC x) 1 1 = some (.c (.lst none 2 (x.cats.map spC)))) ∧
    (∀ x : Lv, cutV true (lvC x) 0 2 = some (.agg (lvC x))) ∧
    (∀ x : Rg, cutV true (rgC x) 0 2 = some (.agg (lvC x.lo))) ∧
    (∀ x : Rg, cutV true (rgC x) 2 2 = some (.agg (lvC x.hi))) ∧
    (∀ x : Rg, cutV true (rgC x) 0 4 = some (.agg (rgC x))) ∧
    (∀ x : Ct, cutV false (cxC x) 0 1 = some (.c (sS x.user))) ∧
    (∀ x : Ct, cutV false (cxC x) 1 1 = some (.c (sS x.role))) ∧
    (∀ x : Ct, cutV false (cxC x) 2 1 = some (.c (sS x.type))) ∧
    (∀ x : Ct, cutV true (cxC x) 3 4 = some (.agg (rgC x.rng))) ∧
    (∀ x : Ct, cutV true (cxC x) 0 7 = some (.agg (cxC x))) ∧
    (∀ x : Se, cutV false (seC x) 0 1 = some (.c (sU x.a))) ∧
    (∀ x : Se, cutV false (seC x) 1 1 = some (.c (sU x.b))) ∧
    (∀ x : Se, cutV false (seC x) 2 1 = some (.c (sU x.c))) ∧
    (∀ x : Se, cutV false (seC x) 3 1 = some (.c (sU x.d))) ∧
    (∀ x : Se, cutV true (seC x) 0 4 = some (.agg (seC x))) ∧
    (∀ x : Ex, cutV false (exC x) 0 1 = some (.c (sI x.op))) ∧
    (∀ x : Ex, cutV false (exC x) 1 1 = some (.c (sI x.a))) ∧
    (∀ x : Ex, cutV false (exC x) 2 1 = some (.c (sI x.rel))) ∧
    (∀ x : Ex, cutV false (exC x) 3 1 = some (.c (sI x.b))) ∧
    (∀ x : Ex, cutV false (exC x) 4 1 = some (.c (strL x.names))) ∧
    (∀ x : Ex, cutV true (exC x) 5 4 = some (.agg (seC x.set))) ∧
    (∀ x : Ex, cutV false (exC x) 9 1 = some (.c (.lst none 10 (x.kids.map exC)))) ∧
    (∀ x : Ex, cutV true (exC x) 0 10 = some (.agg (exC x))) ∧
    (∀ x : Po, cutV false (poC x) 0 1 = some (.c (sI x.line))) ∧
    (∀ x : Po, cutV false (poC x) 1 1 = some (.c (sI x.col))) ∧
    (∀ x : Po, cutV true (poC x) 0 2 = some (.agg (poC x))) ∧
    (∀ x : Stm, cutV false (stC x) 0 1 = some (.c (sI x.kind))) ∧
    (∀ x : Stm, cutV false (stC x) 1 1 = some (.c (sI x.op))) ∧
    (∀ x : Stm, cutV true (stC x) 2 2 = some (.agg (poC x.pos))) ∧
    (∀ x : Stm, cutV false (stC x) 4 1 = some (.c (sS x.name))) ∧
    (∀ x : Stm, cutV false (stC x) 5 1 = some (.c (sS x.result))) ∧
    (∀ x : Stm, cutV false (stC x) 6 1 = some (.c (sS x.text))) ∧
    (∀ x : Stm, cutV false (stC x) 7 1 = some (.c (strL x.list))) ∧
    (∀ x : Stm, cutV false (stC x) 8 1 = some (.c (strL x.aliases))) ∧
    (∀ x : Stm, cutV true (stC x) 9 5 = some (.agg (nsC x.source))) ∧
    (∀ x : Stm, cutV true (stC x) 14 5 = some (.agg (nsC x.target))) ∧
    (∀ x : Stm, cutV true (stC x) 19 5 = some (.agg (nsC x.cls))) ∧
    (∀ x : Stm, cutV true (stC x) 24 5 = some (.agg (nsC x.perms))) ∧
    (∀ x : Stm, cutV true (stC x) 29 10 = some (.agg (exC x.cond))) ∧
    (∀ x : Stm, cutV true (stC x) 39 2 = some (.agg (lvC x.level))) ∧
    (∀ x : Stm, cutV true (stC x) 41 4 = some (.agg (rgC x.range))) ∧
    (∀ x : Stm, cutV true (stC x) 45 7 = some (.agg (cxC x.ctx))) ∧
    (∀ x : Stm, cutV false (stC x) 52 1 = some (.c (sB x.value))) ∧
    (∀ x : Stm, cutV false (stC x) 53 1 = some (.c (.lst none 55 (x.thn.map stC)))) ∧
    (∀ x : Stm, cutV false (stC x) 54 1 = some (.c (.lst none 55 (x.els.map stC)))) ∧
    (∀ x : Stm, cutV true (stC x) 0 55 = some (.agg (stC x))) ∧
    (∀ x : Mo, cutV false (moC x) 0 1 = some (.c (sS x.name))) ∧
    (∀ x : Mo, cutV false (moC x) 1 1 = some (.c (sI x.version))) ∧
    (∀ x : Mo, cutV false (moC x) 2 1 = some (.c (.lst none 55 (x.stmts.map stC)))) ∧
    (∀ x : Mo, cutV true (moC x) 0 3 = some (.agg (moC x))) ∧
    (∀ x : Tok, cutV false (tkC x) 0 1 = some (.c (sI x.kind))) ∧
    (∀ x : Tok, cutV false (tkC x) 1 1 = some (.c (sS x.text))) ∧
    (∀ x : Tok, cutV true (tkC x) 2 2 = some (.agg (poC x.pos))) ∧
    (∀ x : Tok, cutV true (tkC x) 0 4 = some (.agg (tkC x))) ∧
    (∀ x : Fa, cutV false (faC x) 0 1 = some (.c (sI x.code))) ∧
    (∀ x : Fa, cutV true (faC x) 1 2 = some (.agg (poC x.pos))) ∧
    (∀ x : Fa, cutV false (faC x) 3 1 = some (.c (sS x.name))) ∧
    (∀ x : Fa, cutV true (faC x) 0 4 = some (.agg (faC x))) ∧
    (∀ x : Pa, cutV true (paC x) 0 5 = some (.agg (nsC x.names))) ∧
    (∀ x : Pa, cutV true (paC x) 5 10 = some (.agg (exC x.cond))) ∧
    (∀ x : Pa, cutV false (paC x) 15 1 = some (.c (sB x.validate))) ∧
    (∀ x : Pa, cutV true (paC x) 16 4 = some (.agg (rgC x.range))) ∧
    (∀ x : Pa, cutV true (paC x) 20 7 = some (.agg (cxC x.context))) ∧
    (∀ x : Pa, cutV true (paC x) 0 27 = some (.agg (paC x))) ∧
    (∀ x : Sy, cutV false (syC x) 0 1 = some (.c (sI x.kind))) ∧
    (∀ x : Sy, cutV false (syC x) 1 1 = some (.c (sS x.name))) ∧
    (∀ x : Sy, cutV false (syC x) 2 1 = some (.c (sB x.req))) ∧
    (∀ x : Sy, cutV false (syC x) 3 1 = some (.c (strL x.perms))) ∧
    (∀ x : Sy, cutV true (syC x) 4 2 = some (.agg (poC x.pos))) ∧
    (∀ x : Sy, cutV true (syC x) 0 6 = some (.agg (syC x))) ∧
    (∀ x : Ps, cutV false (psC x) 0 1 = some (.c (.lst none 4 (x.l.map tkC)))) ∧
    (∀ x : Ps, cutV false (psC x) 1 1 = some (.c (sI x.at_))) ∧
    (∀ x : Ps, cutV false (psC x) 2 1 = some (.c (sI x.count))) ∧
    (∀ x : Ps, cutV false (psC x) 3 1 = some (.c (sI x.depth))) ∧
    (∀ x : Ps, cutV true (psC x) 0 4 = some (.agg (psC x))) ∧
    (∀ x : Qs, cutV false (qsC x) 0 1 = some (.c (.lst none 4 (x.l.map tkC)))) ∧
    (∀ x : Qs, cutV false (qsC x) 1 1 = some (.c (sI x.at_))) ∧
    (∀ x : Qs, cutV true (qsC x) 2 4 = some (.agg (faC x.bad))) ∧
    (∀ x : Qs, cutV false (qsC x) 6 1 = some (.c (sI x.stmts))) ∧
    (∀ x : Qs, cutV true (qsC x) 0 7 = some (.agg (qsC x))) ∧
    (∀ x : Bs, cutV false (bsC x) 0 1 = some (.c (.lst none 4 (x.l.map tkC)))) ∧
    (∀ x : Bs, cutV false (bsC x) 1 1 = some (.c (sI x.at_))) ∧
    (∀ x : Bs, cutV false (bsC x) 2 1 = some (.c (sI x.deep))) ∧
    (∀ x : Bs, cutV true (bsC x) 0 3 = some (.agg (bsC x))) ∧
    (∀ x : Sc, cutV false (snR x) 0 1 = some (.c (sS x.src))) ∧
    (∀ x : Sc, cutV false (snR x) 1 1 = some (.c (sI x.at_))) ∧
    (∀ x : Sc, cutV true (snR x) 2 2 = some (.agg (poC x.pos))) ∧
    (∀ x : Sc, cutV true (snR x) 0 4 = some (.agg (snR x))) := by
  refine ⟨?_, ?_, ?_, ?_, ?_, ?_, ?_, ?_, ?_, ?_, ?_, ?_, ?_, ?_, ?_, ?_, ?_, ?_, ?_, ?_, ?_, ?_, ?_, ?_, ?_, ?_, ?_, ?_, ?_, ?_, ?_, ?_, ?_, ?_, ?_, ?_, ?_, ?_, ?_, ?_, ?_, ?_, ?_, ?_, ?_, ?_, ?_, ?_, ?_, ?_, ?_, ?_, ?_, ?_, ?_, ?_, ?_, ?_, ?_, ?_, ?_, ?_, ?_, ?_, ?_, ?_, ?_, ?_, ?_, ?_, ?_, ?_, ?_, ?_, ?_, ?_, ?_, ?_, ?_, ?_, ?_, ?_, ?_, ?_, ?_, ?_, ?_, ?_, ?_, ?_, ?_, ?_, ?_, ?_, ?_, ?_, ?_, ?_⟩
  · intros; kernel_rfl
  · intros; kernel_rfl
  · intros; kernel_rfl
  · intros; kernel_rfl
  · intros; kernel_rfl
  · intros; kernel_rfl
  · intros; kernel_rfl
  · intros; kernel_rfl
  · intros; kernel_rfl
  · intros; kernel_rfl
  · intros; kernel_rfl
  · intros; kernel_rfl
  · intros; kernel_rfl
  · intros; kernel_rfl
  · intros; kernel_rfl
  · intros; kernel_rfl
  · intros; kernel_rfl
  · intros; kernel_rfl
  · intros; kernel_rfl
  · intros; kernel_rfl
  · intros; kernel_rfl
  · intros; kernel_rfl
  · intros; kernel_rfl
  · intros; kernel_rfl
  · intros; kernel_rfl
  · intros; kernel_rfl
  · intros; kernel_rfl
  · intros; kernel_rfl
  · intros; kernel_rfl
  · intros; kernel_rfl
  · intros; kernel_rfl
  · intros; rw [← exC_kids_map]; kernel_rfl
  · intros; kernel_rfl
  · intros; kernel_rfl
  · intros; kernel_rfl
  · intros; kernel_rfl
  · intros; kernel_rfl
  · intros; kernel_rfl
  · intros; kernel_rfl
  · intros; kernel_rfl
  · intros; kernel_rfl
  · intros; kernel_rfl
  · intros; kernel_rfl
  · intros; kernel_rfl
  · intros; kernel_rfl
  · intros; kernel_rfl
  · intros; kernel_rfl
  · intros; kernel_rfl
  · intros; kernel_rfl
  · intros; kernel_rfl
  · intros; kernel_rfl
  · intros; kernel_rfl
  · intros; kernel_rfl
  · intros; rw [← stC_thn_map]; kernel_rfl
  · intros; rw [← stC_els_map]; kernel_rfl
  · intros; kernel_rfl
  · intros; kernel_rfl
  · intros; kernel_rfl
  · intros; kernel_rfl
  · intros; kernel_rfl
  · intros; kernel_rfl
  · intros; kernel_rfl
  · intros; kernel_rfl
  · intros; kernel_rfl
  · intros; kernel_rfl
  · intros; kernel_rfl
  · intros; kernel_rfl
  · intros; kernel_rfl
  · intros; kernel_rfl
  · intros; kernel_rfl
  · intros; kernel_rfl
  · intros; kernel_rfl
  · intros; kernel_rfl
  · intros; kernel_rfl
  · intros; kernel_rfl
  · intros; kernel_rfl
  · intros; kernel_rfl
  · intros; kernel_rfl
  · intros; kernel_rfl
  · intros; kernel_rfl
  · intros; kernel_rfl
  · intros; kernel_rfl
  · intros; kernel_rfl
  · intros; kernel_rfl
  · intros; kernel_rfl
  · intros; kernel_rfl
  · intros; kernel_rfl
  · intros; kernel_rfl
  · intros; kernel_rfl
  · intros; kernel_rfl
  · intros; kernel_rfl
  · intros; kernel_rfl
  · intros; kernel_rfl
  · intros; kernel_rfl
  · intros; kernel_rfl
  · intros; kernel_rfl
  · intros; kernel_rfl
  · intros; kernel_rfl
theorem setA : (∀ (x : Sp) (y : ByteArray), setV (spC x) 0 ([sS y]) = some (spC { x with frm := y })) ∧
    (∀ (x : Sp) (y : ByteArray), setV (spC x) 1 ([sS y]) = some (spC { x with to := y })) ∧
    (∀ x y : Sp, setV (spC x) 0 (spC y) = some (spC y)) ∧
    (∀ (x : NS) (y : Bool), setV (nsC x) 0 ([sB y]) = some (nsC { x with all := y })) ∧
    (∀ (x : NS) (y : Bool), setV (nsC x) 1 ([sB y]) = some (nsC { x with nt := y })) ∧
    (∀ (x : NS) (y : Bool), setV (nsC x) 2 ([sB y]) = some (nsC { x with self := y })) ∧
    (∀ (x : NS) (y : List ByteArray), setV (nsC x) 3 ([strL y]) = some (nsC { x with names := y })) ∧
    (∀ (x : NS) (y : List ByteArray), setV (nsC x) 4 ([strL y]) = some (nsC { x with except := y })) ∧
    (∀ x y : NS, setV (nsC x) 0 (nsC y) = some (nsC y)) ∧
    (∀ (x : Lv) (y : ByteArray), setV (lvC x) 0 ([sS y]) = some (lvC { x with sens := y })) ∧
    (∀ (x : Lv) (y : List Sp), setV (lvC x) 1 ([.lst none 2 (y.map spC)]) = some (lvC { x with cats := y })) ∧
    (∀ x y : Lv, setV (lvC x) 0 (lvC y) = some (lvC y)) ∧
    (∀ (x : Rg) (y : Lv), setV (rgC x) 0 (lvC y) = some (rgC { x with lo := y })) ∧
    (∀ (x : Rg) (y : Lv), setV (rgC x) 2 (lvC y) = some (rgC { x with hi := y })) ∧
    (∀ x y : Rg, setV (rgC x) 0 (rgC y) = some (rgC y)) ∧
    (∀ (x : Ct) (y : ByteArray), setV (cxC x) 0 ([sS y]) = some (cxC { x with user := y })) ∧
    (∀ (x : Ct) (y : ByteArray), setV (cxC x) 1 ([sS y]) = some (cxC { x with role := y })) ∧
    (∀ (x : Ct) (y : ByteArray), setV (cxC x) 2 ([sS y]) = some (cxC { x with type := y })) ∧
    (∀ (x : Ct) (y : Rg), setV (cxC x) 3 (rgC y) = some (cxC { x with rng := y })) ∧
    (∀ x y : Ct, setV (cxC x) 0 (cxC y) = some (cxC y)) ∧
    (∀ (x : Se) (y : Int), setV (seC x) 0 ([sU y]) = some (seC { x with a := y })) ∧
    (∀ (x : Se) (y : Int), setV (seC x) 1 ([sU y]) = some (seC { x with b := y })) ∧
    (∀ (x : Se) (y : Int), setV (seC x) 2 ([sU y]) = some (seC { x with c := y })) ∧
    (∀ (x : Se) (y : Int), setV (seC x) 3 ([sU y]) = some (seC { x with d := y })) ∧
    (∀ x y : Se, setV (seC x) 0 (seC y) = some (seC y)) ∧
    (∀ (x : Ex) (y : Int), setV (exC x) 0 ([sI y]) = some (exC { x with op := y })) ∧
    (∀ (x : Ex) (y : Int), setV (exC x) 1 ([sI y]) = some (exC { x with a := y })) ∧
    (∀ (x : Ex) (y : Int), setV (exC x) 2 ([sI y]) = some (exC { x with rel := y })) ∧
    (∀ (x : Ex) (y : Int), setV (exC x) 3 ([sI y]) = some (exC { x with b := y })) ∧
    (∀ (x : Ex) (y : List ByteArray), setV (exC x) 4 ([strL y]) = some (exC { x with names := y })) ∧
    (∀ (x : Ex) (y : Se), setV (exC x) 5 (seC y) = some (exC { x with set := y })) ∧
    (∀ (x : Ex) (y : List Ex), setV (exC x) 9 ([.lst none 10 (y.map exC)]) = some (exC { x with kids := y })) ∧
    (∀ x y : Ex, setV (exC x) 0 (exC y) = some (exC y)) ∧
    (∀ (x : Po) (y : Int), setV (poC x) 0 ([sI y]) = some (poC { x with line := y })) ∧
    (∀ (x : Po) (y : Int), setV (poC x) 1 ([sI y]) = some (poC { x with col := y })) ∧
    (∀ x y : Po, setV (poC x) 0 (poC y) = some (poC y)) ∧
    (∀ (x : Stm) (y : Int), setV (stC x) 0 ([sI y]) = some (stC { x with kind := y })) ∧
    (∀ (x : Stm) (y : Int), setV (stC x) 1 ([sI y]) = some (stC { x with op := y })) ∧
    (∀ (x : Stm) (y : Po), setV (stC x) 2 (poC y) = some (stC { x with pos := y })) ∧
    (∀ (x : Stm) (y : ByteArray), setV (stC x) 4 ([sS y]) = some (stC { x with name := y })) ∧
    (∀ (x : Stm) (y : ByteArray), setV (stC x) 5 ([sS y]) = some (stC { x with result := y })) ∧
    (∀ (x : Stm) (y : ByteArray), setV (stC x) 6 ([sS y]) = some (stC { x with text := y })) ∧
    (∀ (x : Stm) (y : List ByteArray), setV (stC x) 7 ([strL y]) = some (stC { x with list := y })) ∧
    (∀ (x : Stm) (y : List ByteArray), setV (stC x) 8 ([strL y]) = some (stC { x with aliases := y })) ∧
    (∀ (x : Stm) (y : NS), setV (stC x) 9 (nsC y) = some (stC { x with source := y })) ∧
    (∀ (x : Stm) (y : NS), setV (stC x) 14 (nsC y) = some (stC { x with target := y })) ∧
    (∀ (x : Stm) (y : NS), setV (stC x) 19 (nsC y) = some (stC { x with cls := y })) ∧
    (∀ (x : Stm) (y : NS), setV (stC x) 24 (nsC y) = some (stC { x with perms := y })) ∧
    (∀ (x : Stm) (y : Ex), setV (stC x) 29 (exC y) = some (stC { x with cond := y })) ∧
    (∀ (x : Stm) (y : Lv), setV (stC x) 39 (lvC y) = some (stC { x with level := y })) ∧
    (∀ (x : Stm) (y : Rg), setV (stC x) 41 (rgC y) = some (stC { x with range := y })) ∧
    (∀ (x : Stm) (y : Ct), setV (stC x) 45 (cxC y) = some (stC { x with ctx := y })) ∧
    (∀ (x : Stm) (y : Bool), setV (stC x) 52 ([sB y]) = some (stC { x with value := y })) ∧
    (∀ (x : Stm) (y : List Stm), setV (stC x) 53 ([.lst none 55 (y.map stC)]) = some (stC { x with thn := y })) ∧
    (∀ (x : Stm) (y : List Stm), setV (stC x) 54 ([.lst none 55 (y.map stC)]) = some (stC { x with els := y })) ∧
    (∀ x y : Stm, setV (stC x) 0 (stC y) = some (stC y)) ∧
    (∀ (x : Mo) (y : ByteArray), setV (moC x) 0 ([sS y]) = some (moC { x with name := y })) ∧
    (∀ (x : Mo) (y : Int), setV (moC x) 1 ([sI y]) = some (moC { x with version := y })) ∧
    (∀ (x : Mo) (y : List Stm), setV (moC x) 2 ([.lst none 55 (y.map stC)]) = some (moC { x with stmts := y })) ∧
    (∀ x y : Mo, setV (moC x) 0 (moC y) = some (moC y)) ∧
    (∀ (x : Tok) (y : Int), setV (tkC x) 0 ([sI y]) = some (tkC { x with kind := y })) ∧
    (∀ (x : Tok) (y : ByteArray), setV (tkC x) 1 ([sS y]) = some (tkC { x with text := y })) ∧
    (∀ (x : Tok) (y : Po), setV (tkC x) 2 (poC y) = some (tkC { x with pos := y })) ∧
    (∀ x y : Tok, setV (tkC x) 0 (tkC y) = some (tkC y)) ∧
    (∀ (x : Fa) (y : Int), setV (faC x) 0 ([sI y]) = some (faC { x with code := y })) ∧
    (∀ (x : Fa) (y : Po), setV (faC x) 1 (poC y) = some (faC { x with pos := y })) ∧
    (∀ (x : Fa) (y : ByteArray), setV (faC x) 3 ([sS y]) = some (faC { x with name := y })) ∧
    (∀ x y : Fa, setV (faC x) 0 (faC y) = some (faC y)) ∧
    (∀ (x : Pa) (y : NS), setV (paC x) 0 (nsC y) = some (paC { x with names := y })) ∧
    (∀ (x : Pa) (y : Ex), setV (paC x) 5 (exC y) = some (paC { x with cond := y })) ∧
    (∀ (x : Pa) (y : Bool), setV (paC x) 15 ([sB y]) = some (paC { x with validate := y })) ∧
    (∀ (x : Pa) (y : Rg), setV (paC x) 16 (rgC y) = some (paC { x with range := y })) ∧
    (∀ (x : Pa) (y : Ct), setV (paC x) 20 (cxC y) = some (paC { x with context := y })) ∧
    (∀ x y : Pa, setV (paC x) 0 (paC y) = some (paC y)) ∧
    (∀ (x : Sy) (y : Int), setV (syC x) 0 ([sI y]) = some (syC { x with kind := y })) ∧
    (∀ (x : Sy) (y : ByteArray), setV (syC x) 1 ([sS y]) = some (syC { x with name := y })) ∧
    (∀ (x : Sy) (y : Bool), setV (syC x) 2 ([sB y]) = some (syC { x with req := y })) ∧
    (∀ (x : Sy) (y : List ByteArray), setV (syC x) 3 ([strL y]) = some (syC { x with perms := y })) ∧
    (∀ (x : Sy) (y : Po), setV (syC x) 4 (poC y) = some (syC { x with pos := y })) ∧
    (∀ x y : Sy, setV (syC x) 0 (syC y) = some (syC y)) ∧
    (∀ (x : Ps) (y : List Tok), setV (psC x) 0 ([.lst none 4 (y.map tkC)]) = some (psC { x with l := y })) ∧
    (∀ (x : Ps) (y : Int), setV (psC x) 1 ([sI y]) = some (psC { x with at_ := y })) ∧
    (∀ (x : Ps) (y : Int), setV (psC x) 2 ([sI y]) = some (psC { x with count := y })) ∧
    (∀ (x : Ps) (y : Int), setV (psC x) 3 ([sI y]) = some (psC { x with depth := y })) ∧
    (∀ x y : Ps, setV (psC x) 0 (psC y) = some (psC y)) ∧
    (∀ (x : Qs) (y : List Tok), setV (qsC x) 0 ([.lst none 4 (y.map tkC)]) = some (qsC { x with l := y })) ∧
    (∀ (x : Qs) (y : Int), setV (qsC x) 1 ([sI y]) = some (qsC { x with at_ := y })) ∧
    (∀ (x : Qs) (y : Fa), setV (qsC x) 2 (faC y) = some (qsC { x with bad := y })) ∧
    (∀ (x : Qs) (y : Int), setV (qsC x) 6 ([sI y]) = some (qsC { x with stmts := y })) ∧
    (∀ x y : Qs, setV (qsC x) 0 (qsC y) = some (qsC y)) ∧
    (∀ (x : Bs) (y : List Tok), setV (bsC x) 0 ([.lst none 4 (y.map tkC)]) = some (bsC { x with l := y })) ∧
    (∀ (x : Bs) (y : Int), setV (bsC x) 1 ([sI y]) = some (bsC { x with at_ := y })) ∧
    (∀ (x : Bs) (y : Int), setV (bsC x) 2 ([sI y]) = some (bsC { x with deep := y })) ∧
    (∀ x y : Bs, setV (bsC x) 0 (bsC y) = some (bsC y)) ∧
    (∀ (x : Sc) (y : ByteArray), setV (snR x) 0 ([sS y]) = some (snR { x with src := y })) ∧
    (∀ (x : Sc) (y : Int), setV (snR x) 1 ([sI y]) = some (snR { x with at_ := y })) ∧
    (∀ (x : Sc) (y : Po), setV (snR x) 2 (poC y) = some (snR { x with pos := y })) ∧
    (∀ x y : Sc, setV (snR x) 0 (snR y) = some (snR y)) := by
  refine ⟨?_, ?_, ?_, ?_, ?_, ?_, ?_, ?_, ?_, ?_, ?_, ?_, ?_, ?_, ?_, ?_, ?_, ?_, ?_, ?_, ?_, ?_, ?_, ?_, ?_, ?_, ?_, ?_, ?_, ?_, ?_, ?_, ?_, ?_, ?_, ?_, ?_, ?_, ?_, ?_, ?_, ?_, ?_, ?_, ?_, ?_, ?_, ?_, ?_, ?_, ?_, ?_, ?_, ?_, ?_, ?_, ?_, ?_, ?_, ?_, ?_, ?_, ?_, ?_, ?_, ?_, ?_, ?_, ?_, ?_, ?_, ?_, ?_, ?_, ?_, ?_, ?_, ?_, ?_, ?_, ?_, ?_, ?_, ?_, ?_, ?_, ?_, ?_, ?_, ?_, ?_, ?_, ?_, ?_, ?_, ?_, ?_, ?_⟩
  · intros; kernel_rfl
  · intros; kernel_rfl
  · intros; kernel_rfl
  · intros; kernel_rfl
  · intros; kernel_rfl
  · intros; kernel_rfl
  · intros; kernel_rfl
  · intros; kernel_rfl
  · intros; kernel_rfl
  · intros; kernel_rfl
  · intros; kernel_rfl
  · intros; kernel_rfl
  · intros; kernel_rfl
  · intros; kernel_rfl
  · intros; kernel_rfl
  · intros; kernel_rfl
  · intros; kernel_rfl
  · intros; kernel_rfl
  · intros; kernel_rfl
  · intros; kernel_rfl
  · intros; kernel_rfl
  · intros; kernel_rfl
  · intros; kernel_rfl
  · intros; kernel_rfl
  · intros; kernel_rfl
  · intro x y; cases x; kernel_rfl
  · intro x y; cases x; kernel_rfl
  · intro x y; cases x; kernel_rfl
  · intro x y; cases x; kernel_rfl
  · intro x y; cases x; kernel_rfl
  · intro x y; cases x; kernel_rfl
  · intro x y; cases x; rw [← exCs_map]; kernel_rfl
  · intros; kernel_rfl
  · intros; kernel_rfl
  · intros; kernel_rfl
  · intros; kernel_rfl
  · intro x y; cases x; kernel_rfl
  · intro x y; cases x; kernel_rfl
  · intro x y; cases x; kernel_rfl
  · intro x y; cases x; kernel_rfl
  · intro x y; cases x; kernel_rfl
  · intro x y; cases x; kernel_rfl
  · intro x y; cases x; kernel_rfl
  · intro x y; cases x; kernel_rfl
  · intro x y; cases x; kernel_rfl
  · intro x y; cases x; kernel_rfl
  · intro x y; cases x; kernel_rfl
  · intro x y; cases x; kernel_rfl
  · intro x y; cases x; kernel_rfl
  · intro x y; cases x; kernel_rfl
  · intro x y; cases x; kernel_rfl
  · intro x y; cases x; kernel_rfl
  · intro x y; cases x; kernel_rfl
  · intro x y; cases x; rw [← stCs_map]; kernel_rfl
  · intro x y; cases x; rw [← stCs_map]; kernel_rfl
  · intros; kernel_rfl
  · intros; kernel_rfl
  · intros; kernel_rfl
  · intros; kernel_rfl
  · intros; kernel_rfl
  · intros; kernel_rfl
  · intros; kernel_rfl
  · intros; kernel_rfl
  · intros; kernel_rfl
  · intros; kernel_rfl
  · intros; kernel_rfl
  · intros; kernel_rfl
  · intros; kernel_rfl
  · intros; kernel_rfl
  · intros; kernel_rfl
  · intros; kernel_rfl
  · intros; kernel_rfl
  · intros; kernel_rfl
  · intros; kernel_rfl
  · intros; kernel_rfl
  · intros; kernel_rfl
  · intros; kernel_rfl
  · intros; kernel_rfl
  · intros; kernel_rfl
  · intros; kernel_rfl
  · intros; kernel_rfl
  · intros; kernel_rfl
  · intros; kernel_rfl
  · intros; kernel_rfl
  · intros; kernel_rfl
  · intros; kernel_rfl
  · intros; kernel_rfl
  · intros; kernel_rfl
  · intros; kernel_rfl
  · intros; kernel_rfl
  · intros; kernel_rfl
  · intros; kernel_rfl
  · intros; kernel_rfl
  · intros; kernel_rfl
  · intros; kernel_rfl
  · intros; kernel_rfl
  · intros; kernel_rfl
  · intros; kernel_rfl
theorem ok_str (d : Nat → Bool) (l : List ByteArray) : C.ok d (strL l) = true := by
  show (true && okLL d _) = true
  rw [Bool.true_and]
  induction l with
  | nil => rfl
  | cons x l ih => rw [List.map_cons, okLL, ih]; rfl
theorem un_str (l : List ByteArray) : C.un (strL l) = strL l := by
  rw [C.un, unLL_map, List.map_map]
  rfl
theorem ok_maps {α : Type} {f : α → List C} {d : Nat → Bool} : ∀ l : List α, (∀ x ∈ l, okL d (f x) = true) → okLL d (l.map f) = true
  | [], _ => rfl
  | x :: l, h => by rw [List.map_cons, okLL, h x (.head _), ok_maps l fun y hy => h y (.tail _ hy)]; rfl
theorem un_maps {α : Type} {f : α → List C} : ∀ l : List α, (∀ x ∈ l, unL (f x) = f x) → unLL (l.map f) = l.map f
  | [], _ => rfl
  | x :: l, h => by rw [List.map_cons, unLL, h x (.head _), un_maps l fun y hy => h y (.tail _ hy)]
theorem ok_app (d : Nat → Bool) : ∀ a b : List C, okL d (a ++ b) = (okL d a && okL d b)
  | [], b => by rw [List.nil_append, okL, Bool.true_and]
  | x :: a, b => by rw [List.cons_append, okL, okL, ok_app d a b, Bool.and_assoc]
theorem un_app : ∀ a b : List C, unL (a ++ b) = unL a ++ unL b
  | [], b => rfl
  | x :: a, b => by rw [List.cons_append, unL, unL, un_app a b]; rfl
theorem ok_lst (d : Nat → Bool) (k : Nat) (xs : List (List C)) : C.ok d (.lst none k xs) = okLL d xs := by rw [C.ok]; simp
theorem un_lst (k : Nat) (xs : List (List C)) : C.un (.lst none k xs) = .lst none k (unLL xs) := by rw [C.un]
theorem ok_sc (d : Nat → Bool) (v : Value) : C.ok d (.sc v) = true := rfl
theorem un_sc (v : Value) : C.un (.sc v) = .sc v := rfl
theorem ok_one (d : Nat → Bool) (l : List ByteArray) : okLL d (l.map oneS) = true := ok_maps l fun x _ => rfl
theorem un_one (l : List ByteArray) : unLL (l.map oneS) = l.map oneS := un_maps l fun x _ => rfl
theorem ok_spC (d : Nat → Bool) (x : Sp) : okL d (spC x) = true := by simp [spC, ok_one, ok_app, ok_str, ok_lst, ok_sc, okL, okLL]
theorem un_spC (x : Sp) : unL (spC x) = spC x := by simp [spC, un_one, un_app, un_str, un_lst, un_sc, unL, unLL]
theorem ok_nsC (d : Nat → Bool) (x : NS) : okL d (nsC x) = true := by simp [nsC, ok_one, ok_app, ok_str, ok_lst, ok_sc, okL, okLL, ok_spC]
theorem un_nsC (x : NS) : unL (nsC x) = nsC x := by simp [nsC, un_one, un_app, un_str, un_lst, un_sc, unL, unLL, un_spC]
theorem ok_lvC (d : Nat → Bool) (x : Lv) : okL d (lvC x) = true := by simp [lvC, ok_one, ok_app, ok_str, ok_lst, ok_sc, okL, okLL, ok_spC, ok_nsC, ok_maps x.cats fun y _ => ok_spC d y]
theorem un_lvC (x : Lv) : unL (lvC x) = lvC x := by simp [lvC, un_one, un_app, un_str, un_lst, un_sc, unL, unLL, un_spC, un_nsC, un_maps x.cats fun y _ => un_spC y]
theorem ok_rgC (d : Nat → Bool) (x : Rg) : okL d (rgC x) = true := by simp [rgC, ok_one, ok_app, ok_str, ok_lst, ok_sc, okL, okLL, ok_spC, ok_nsC, ok_lvC]
theorem un_rgC (x : Rg) : unL (rgC x) = rgC x := by simp [rgC, un_one, un_app, un_str, un_lst, un_sc, unL, unLL, un_spC, un_nsC, un_lvC]
theorem ok_cxC (d : Nat → Bool) (x : Ct) : okL d (cxC x) = true := by simp [cxC, ok_one, ok_app, ok_str, ok_lst, ok_sc, okL, okLL, ok_spC, ok_nsC, ok_lvC, ok_rgC]
theorem un_cxC (x : Ct) : unL (cxC x) = cxC x := by simp [cxC, un_one, un_app, un_str, un_lst, un_sc, unL, unLL, un_spC, un_nsC, un_lvC, un_rgC]
theorem ok_seC (d : Nat → Bool) (x : Se) : okL d (seC x) = true := by simp [seC, ok_one, ok_app, ok_str, ok_lst, ok_sc, okL, okLL, ok_spC, ok_nsC, ok_lvC, ok_rgC, ok_cxC]
theorem un_seC (x : Se) : unL (seC x) = seC x := by simp [seC, un_one, un_app, un_str, un_lst, un_sc, unL, unLL, un_spC, un_nsC, un_lvC, un_rgC, un_cxC]
mutual
theorem ok_exC_kids (d : Nat → Bool) : ∀ x : Ex, okLL d (exC_kids x) = true
  | ⟨_, _, _, _, _, _, kids⟩ => by rw [exC_kids]; exact ok_exCs d kids
theorem ok_exCs (d : Nat → Bool) : ∀ l : List Ex, okLL d (exCs l) = true
  | [] => by rw [exCs, okLL]
  | x :: l => by rw [exCs, okLL, ok_exCs d l]; simp [ok_one, ok_app, ok_str, ok_lst, ok_sc, okL, okLL, ok_spC, ok_nsC, ok_lvC, ok_rgC, ok_cxC, ok_seC, ok_exC_kids d x]
end
theorem ok_exC (d : Nat → Bool) (x : Ex) : okL d (exC x) = true := by simp [exC, ok_one, ok_app, ok_str, ok_lst, ok_sc, okL, okLL, ok_spC, ok_nsC, ok_lvC, ok_rgC, ok_cxC, ok_seC, ok_exC_kids d x]
mutual
theorem un_exC_kids : ∀ x : Ex, unLL (exC_kids x) = exC_kids x
  | ⟨_, _, _, _, _, _, kids⟩ => by rw [exC_kids]; exact un_exCs kids
theorem un_exCs : ∀ l : List Ex, unLL (exCs l) = exCs l
  | [] => by rw [exCs, unLL]
  | x :: l => by rw [exCs, unLL, un_exCs l]; simp [un_one, un_app, un_str, un_lst, un_sc, unL, unLL, un_spC, un_nsC, un_lvC, un_rgC, un_cxC, un_seC, un_exC_kids x]
end
theorem un_exC (x : Ex) : unL (exC x) = exC x := by simp [exC, un_one, un_app, un_str, un_lst, un_sc, unL, unLL, un_spC, un_nsC, un_lvC, un_rgC, un_cxC, un_seC, un_exC_kids x]
theorem ok_poC (d : Nat → Bool) (x : Po) : okL d (poC x) = true := by simp [poC, ok_one, ok_app, ok_str, ok_lst, ok_sc, okL, okLL, ok_spC, ok_nsC, ok_lvC, ok_rgC, ok_cxC, ok_seC, ok_exC]
theorem un_poC (x : Po) : unL (poC x) = poC x := by simp [poC, un_one, un_app, un_str, un_lst, un_sc, unL, unLL, un_spC, un_nsC, un_lvC, un_rgC, un_cxC, un_seC, un_exC]
mutual
theorem ok_stC_thn (d : Nat → Bool) : ∀ x : Stm, okLL d (stC_thn x) = true
  | ⟨_, _, _, _, _, _, _, _, _, _, _, _, _, _, _, _, _, thn, _⟩ => by rw [stC_thn]; exact ok_stCs d thn
theorem ok_stC_els (d : Nat → Bool) : ∀ x : Stm, okLL d (stC_els x) = true
  | ⟨_, _, _, _, _, _, _, _, _, _, _, _, _, _, _, _, _, _, els⟩ => by rw [stC_els]; exact ok_stCs d els
theorem ok_stCs (d : Nat → Bool) : ∀ l : List Stm, okLL d (stCs l) = true
  | [] => by rw [stCs, okLL]
  | x :: l => by rw [stCs, okLL, ok_stCs d l]; simp [ok_one, ok_app, ok_str, ok_lst, ok_sc, okL, okLL, ok_spC, ok_nsC, ok_lvC, ok_rgC, ok_cxC, ok_seC, ok_exC, ok_poC, ok_stC_thn d x, ok_stC_els d x]
end
theorem ok_stC (d : Nat → Bool) (x : Stm) : okL d (stC x) = true := by simp [stC, ok_one, ok_app, ok_str, ok_lst, ok_sc, okL, okLL, ok_spC, ok_nsC, ok_lvC, ok_rgC, ok_cxC, ok_seC, ok_exC, ok_poC, ok_stC_thn d x, ok_stC_els d x]
mutual
theorem un_stC_thn : ∀ x : Stm, unLL (stC_thn x) = stC_thn x
  | ⟨_, _, _, _, _, _, _, _, _, _, _, _, _, _, _, _, _, thn, _⟩ => by rw [stC_thn]; exact un_stCs thn
theorem un_stC_els : ∀ x : Stm, unLL (stC_els x) = stC_els x
  | ⟨_, _, _, _, _, _, _, _, _, _, _, _, _, _, _, _, _, _, els⟩ => by rw [stC_els]; exact un_stCs els
theorem un_stCs : ∀ l : List Stm, unLL (stCs l) = stCs l
  | [] => by rw [stCs, unLL]
  | x :: l => by rw [stCs, unLL, un_stCs l]; simp [un_one, un_app, un_str, un_lst, un_sc, unL, unLL, un_spC, un_nsC, un_lvC, un_rgC, un_cxC, un_seC, un_exC, un_poC, un_stC_thn x, un_stC_els x]
end
theorem un_stC (x : Stm) : unL (stC x) = stC x := by simp [stC, un_one, un_app, un_str, un_lst, un_sc, unL, unLL, un_spC, un_nsC, un_lvC, un_rgC, un_cxC, un_seC, un_exC, un_poC, un_stC_thn x, un_stC_els x]
theorem ok_moC (d : Nat → Bool) (x : Mo) : okL d (moC x) = true := by simp [moC, ok_one, ok_app, ok_str, ok_lst, ok_sc, okL, okLL, ok_spC, ok_nsC, ok_lvC, ok_rgC, ok_cxC, ok_seC, ok_exC, ok_poC, ok_stC, ok_maps x.stmts fun y _ => ok_stC d y]
theorem un_moC (x : Mo) : unL (moC x) = moC x := by simp [moC, un_one, un_app, un_str, un_lst, un_sc, unL, unLL, un_spC, un_nsC, un_lvC, un_rgC, un_cxC, un_seC, un_exC, un_poC, un_stC, un_maps x.stmts fun y _ => un_stC y]
theorem ok_tkC (d : Nat → Bool) (x : Tok) : okL d (tkC x) = true := by simp [tkC, ok_one, ok_app, ok_str, ok_lst, ok_sc, okL, okLL, ok_spC, ok_nsC, ok_lvC, ok_rgC, ok_cxC, ok_seC, ok_exC, ok_poC, ok_stC, ok_moC]
theorem un_tkC (x : Tok) : unL (tkC x) = tkC x := by simp [tkC, un_one, un_app, un_str, un_lst, un_sc, unL, unLL, un_spC, un_nsC, un_lvC, un_rgC, un_cxC, un_seC, un_exC, un_poC, un_stC, un_moC]
theorem ok_faC (d : Nat → Bool) (x : Fa) : okL d (faC x) = true := by simp [faC, ok_one, ok_app, ok_str, ok_lst, ok_sc, okL, okLL, ok_spC, ok_nsC, ok_lvC, ok_rgC, ok_cxC, ok_seC, ok_exC, ok_poC, ok_stC, ok_moC, ok_tkC]
theorem un_faC (x : Fa) : unL (faC x) = faC x := by simp [faC, un_one, un_app, un_str, un_lst, un_sc, unL, unLL, un_spC, un_nsC, un_lvC, un_rgC, un_cxC, un_seC, un_exC, un_poC, un_stC, un_moC, un_tkC]
theorem ok_paC (d : Nat → Bool) (x : Pa) : okL d (paC x) = true := by simp [paC, ok_one, ok_app, ok_str, ok_lst, ok_sc, okL, okLL, ok_spC, ok_nsC, ok_lvC, ok_rgC, ok_cxC, ok_seC, ok_exC, ok_poC, ok_stC, ok_moC, ok_tkC, ok_faC]
theorem un_paC (x : Pa) : unL (paC x) = paC x := by simp [paC, un_one, un_app, un_str, un_lst, un_sc, unL, unLL, un_spC, un_nsC, un_lvC, un_rgC, un_cxC, un_seC, un_exC, un_poC, un_stC, un_moC, un_tkC, un_faC]
theorem ok_syC (d : Nat → Bool) (x : Sy) : okL d (syC x) = true := by simp [syC, ok_one, ok_app, ok_str, ok_lst, ok_sc, okL, okLL, ok_spC, ok_nsC, ok_lvC, ok_rgC, ok_cxC, ok_seC, ok_exC, ok_poC, ok_stC, ok_moC, ok_tkC, ok_faC, ok_paC]
theorem un_syC (x : Sy) : unL (syC x) = syC x := by simp [syC, un_one, un_app, un_str, un_lst, un_sc, unL, unLL, un_spC, un_nsC, un_lvC, un_rgC, un_cxC, un_seC, un_exC, un_poC, un_stC, un_moC, un_tkC, un_faC, un_paC]
theorem ok_psC (d : Nat → Bool) (x : Ps) : okL d (psC x) = true := by simp [psC, ok_one, ok_app, ok_str, ok_lst, ok_sc, okL, okLL, ok_spC, ok_nsC, ok_lvC, ok_rgC, ok_cxC, ok_seC, ok_exC, ok_poC, ok_stC, ok_moC, ok_tkC, ok_faC, ok_paC, ok_syC, ok_maps x.l fun y _ => ok_tkC d y]
theorem un_psC (x : Ps) : unL (psC x) = psC x := by simp [psC, un_one, un_app, un_str, un_lst, un_sc, unL, unLL, un_spC, un_nsC, un_lvC, un_rgC, un_cxC, un_seC, un_exC, un_poC, un_stC, un_moC, un_tkC, un_faC, un_paC, un_syC, un_maps x.l fun y _ => un_tkC y]
theorem ok_qsC (d : Nat → Bool) (x : Qs) : okL d (qsC x) = true := by simp [qsC, ok_one, ok_app, ok_str, ok_lst, ok_sc, okL, okLL, ok_spC, ok_nsC, ok_lvC, ok_rgC, ok_cxC, ok_seC, ok_exC, ok_poC, ok_stC, ok_moC, ok_tkC, ok_faC, ok_paC, ok_syC, ok_psC, ok_maps x.l fun y _ => ok_tkC d y]
theorem un_qsC (x : Qs) : unL (qsC x) = qsC x := by simp [qsC, un_one, un_app, un_str, un_lst, un_sc, unL, unLL, un_spC, un_nsC, un_lvC, un_rgC, un_cxC, un_seC, un_exC, un_poC, un_stC, un_moC, un_tkC, un_faC, un_paC, un_syC, un_psC, un_maps x.l fun y _ => un_tkC y]
theorem ok_bsC (d : Nat → Bool) (x : Bs) : okL d (bsC x) = true := by simp [bsC, ok_one, ok_app, ok_str, ok_lst, ok_sc, okL, okLL, ok_spC, ok_nsC, ok_lvC, ok_rgC, ok_cxC, ok_seC, ok_exC, ok_poC, ok_stC, ok_moC, ok_tkC, ok_faC, ok_paC, ok_syC, ok_psC, ok_qsC, ok_maps x.l fun y _ => ok_tkC d y]
theorem un_bsC (x : Bs) : unL (bsC x) = bsC x := by simp [bsC, un_one, un_app, un_str, un_lst, un_sc, unL, unLL, un_spC, un_nsC, un_lvC, un_rgC, un_cxC, un_seC, un_exC, un_poC, un_stC, un_moC, un_tkC, un_faC, un_paC, un_syC, un_psC, un_qsC, un_maps x.l fun y _ => un_tkC y]
theorem ok_snR (d : Nat → Bool) (x : Sc) : okL d (snR x) = true := by simp [snR, ok_one, ok_app, ok_str, ok_lst, ok_sc, okL, okLL, ok_spC, ok_nsC, ok_lvC, ok_rgC, ok_cxC, ok_seC, ok_exC, ok_poC, ok_stC, ok_moC, ok_tkC, ok_faC, ok_paC, ok_syC, ok_psC, ok_qsC, ok_bsC]
theorem un_snR (x : Sc) : unL (snR x) = snR x := by simp [snR, un_one, un_app, un_str, un_lst, un_sc, unL, unLL, un_spC, un_nsC, un_lvC, un_rgC, un_cxC, un_seC, un_exC, un_poC, un_stC, un_moC, un_tkC, un_faC, un_paC, un_syC, un_psC, un_qsC, un_bsC]
theorem okA : (∀ d l, C.ok d (strL l) = true) ∧
    (∀ d (l : List ByteArray), okLL d (l.map oneS) = true) ∧
    (∀ d x, okL d (spC x) = true) ∧
    (∀ d x, okL d (nsC x) = true) ∧
    (∀ d x, okL d (lvC x) = true) ∧
    (∀ d x, okL d (rgC x) = true) ∧
    (∀ d x, okL d (cxC x) = true) ∧
    (∀ d x, okL d (seC x) = true) ∧
    (∀ d x, okL d (exC x) = true) ∧
    (∀ d x, okL d (poC x) = true) ∧
    (∀ d x, okL d (stC x) = true) ∧
    (∀ d x, okL d (moC x) = true) ∧
    (∀ d x, okL d (tkC x) = true) ∧
    (∀ d x, okL d (faC x) = true) ∧
    (∀ d x, okL d (paC x) = true) ∧
    (∀ d x, okL d (syC x) = true) ∧
    (∀ d x, okL d (psC x) = true) ∧
    (∀ d x, okL d (qsC x) = true) ∧
    (∀ d x, okL d (bsC x) = true) ∧
    (∀ d x, okL d (snR x) = true) ∧
    (∀ d (l : List Sp), okLL d (l.map spC) = true) ∧
    (∀ d (l : List NS), okLL d (l.map nsC) = true) ∧
    (∀ d (l : List Lv), okLL d (l.map lvC) = true) ∧
    (∀ d (l : List Rg), okLL d (l.map rgC) = true) ∧
    (∀ d (l : List Ct), okLL d (l.map cxC) = true) ∧
    (∀ d (l : List Se), okLL d (l.map seC) = true) ∧
    (∀ d (l : List Ex), okLL d (l.map exC) = true) ∧
    (∀ d (l : List Po), okLL d (l.map poC) = true) ∧
    (∀ d (l : List Stm), okLL d (l.map stC) = true) ∧
    (∀ d (l : List Mo), okLL d (l.map moC) = true) ∧
    (∀ d (l : List Tok), okLL d (l.map tkC) = true) ∧
    (∀ d (l : List Fa), okLL d (l.map faC) = true) ∧
    (∀ d (l : List Pa), okLL d (l.map paC) = true) ∧
    (∀ d (l : List Sy), okLL d (l.map syC) = true) ∧
    (∀ d (l : List Ps), okLL d (l.map psC) = true) ∧
    (∀ d (l : List Qs), okLL d (l.map qsC) = true) ∧
    (∀ d (l : List Bs), okLL d (l.map bsC) = true) ∧
    (∀ d (l : List Sc), okLL d (l.map snR) = true) :=
  ⟨ok_str, ok_one, ok_spC, ok_nsC, ok_lvC, ok_rgC, ok_cxC, ok_seC, ok_exC, ok_poC, ok_stC, ok_moC, ok_tkC, ok_faC, ok_paC, ok_syC, ok_psC, ok_qsC, ok_bsC, ok_snR, fun d l => ok_maps l fun x _ => ok_spC d x, fun d l => ok_maps l fun x _ => ok_nsC d x, fun d l => ok_maps l fun x _ => ok_lvC d x, fun d l => ok_maps l fun x _ => ok_rgC d x, fun d l => ok_maps l fun x _ => ok_cxC d x, fun d l => ok_maps l fun x _ => ok_seC d x, fun d l => ok_maps l fun x _ => ok_exC d x, fun d l => ok_maps l fun x _ => ok_poC d x, fun d l => ok_maps l fun x _ => ok_stC d x, fun d l => ok_maps l fun x _ => ok_moC d x, fun d l => ok_maps l fun x _ => ok_tkC d x, fun d l => ok_maps l fun x _ => ok_faC d x, fun d l => ok_maps l fun x _ => ok_paC d x, fun d l => ok_maps l fun x _ => ok_syC d x, fun d l => ok_maps l fun x _ => ok_psC d x, fun d l => ok_maps l fun x _ => ok_qsC d x, fun d l => ok_maps l fun x _ => ok_bsC d x, fun d l => ok_maps l fun x _ => ok_snR d x⟩
theorem unA : (∀ l, C.un (strL l) = strL l) ∧
    (∀ l : List ByteArray, unLL (l.map oneS) = l.map oneS) ∧
    (∀ x, unL (spC x) = spC x) ∧
    (∀ x, unL (nsC x) = nsC x) ∧
    (∀ x, unL (lvC x) = lvC x) ∧
    (∀ x, unL (rgC x) = rgC x) ∧
    (∀ x, unL (cxC x) = cxC x) ∧
    (∀ x, unL (seC x) = seC x) ∧
    (∀ x, unL (exC x) = exC x) ∧
    (∀ x, unL (poC x) = poC x) ∧
    (∀ x, unL (stC x) = stC x) ∧
    (∀ x, unL (moC x) = moC x) ∧
    (∀ x, unL (tkC x) = tkC x) ∧
    (∀ x, unL (faC x) = faC x) ∧
    (∀ x, unL (paC x) = paC x) ∧
    (∀ x, unL (syC x) = syC x) ∧
    (∀ x, unL (psC x) = psC x) ∧
    (∀ x, unL (qsC x) = qsC x) ∧
    (∀ x, unL (bsC x) = bsC x) ∧
    (∀ x, unL (snR x) = snR x) ∧
    (∀ l : List Sp, unLL (l.map spC) = l.map spC) ∧
    (∀ l : List NS, unLL (l.map nsC) = l.map nsC) ∧
    (∀ l : List Lv, unLL (l.map lvC) = l.map lvC) ∧
    (∀ l : List Rg, unLL (l.map rgC) = l.map rgC) ∧
    (∀ l : List Ct, unLL (l.map cxC) = l.map cxC) ∧
    (∀ l : List Se, unLL (l.map seC) = l.map seC) ∧
    (∀ l : List Ex, unLL (l.map exC) = l.map exC) ∧
    (∀ l : List Po, unLL (l.map poC) = l.map poC) ∧
    (∀ l : List Stm, unLL (l.map stC) = l.map stC) ∧
    (∀ l : List Mo, unLL (l.map moC) = l.map moC) ∧
    (∀ l : List Tok, unLL (l.map tkC) = l.map tkC) ∧
    (∀ l : List Fa, unLL (l.map faC) = l.map faC) ∧
    (∀ l : List Pa, unLL (l.map paC) = l.map paC) ∧
    (∀ l : List Sy, unLL (l.map syC) = l.map syC) ∧
    (∀ l : List Ps, unLL (l.map psC) = l.map psC) ∧
    (∀ l : List Qs, unLL (l.map qsC) = l.map qsC) ∧
    (∀ l : List Bs, unLL (l.map bsC) = l.map bsC) ∧
    (∀ l : List Sc, unLL (l.map snR) = l.map snR) :=
  ⟨un_str, un_one, un_spC, un_nsC, un_lvC, un_rgC, un_cxC, un_seC, un_exC, un_poC, un_stC, un_moC, un_tkC, un_faC, un_paC, un_syC, un_psC, un_qsC, un_bsC, un_snR, fun l => un_maps l fun x _ => un_spC x, fun l => un_maps l fun x _ => un_nsC x, fun l => un_maps l fun x _ => un_lvC x, fun l => un_maps l fun x _ => un_rgC x, fun l => un_maps l fun x _ => un_cxC x, fun l => un_maps l fun x _ => un_seC x, fun l => un_maps l fun x _ => un_exC x, fun l => un_maps l fun x _ => un_poC x, fun l => un_maps l fun x _ => un_stC x, fun l => un_maps l fun x _ => un_moC x, fun l => un_maps l fun x _ => un_tkC x, fun l => un_maps l fun x _ => un_faC x, fun l => un_maps l fun x _ => un_paC x, fun l => un_maps l fun x _ => un_syC x, fun l => un_maps l fun x _ => un_psC x, fun l => un_maps l fun x _ => un_qsC x, fun l => un_maps l fun x _ => un_bsC x, fun l => un_maps l fun x _ => un_snR x⟩
theorem lenA : (∀ x, (spC x).length = 2) ∧ (∀ x, (nsC x).length = 5) ∧ (∀ x, (lvC x).length = 2) ∧ (∀ x, (rgC x).length = 4) ∧ (∀ x, (cxC x).length = 7) ∧ (∀ x, (seC x).length = 4) ∧ (∀ x, (exC x).length = 10) ∧ (∀ x, (poC x).length = 2) ∧ (∀ x, (stC x).length = 55) ∧ (∀ x, (moC x).length = 3) ∧ (∀ x, (tkC x).length = 4) ∧ (∀ x, (faC x).length = 4) ∧ (∀ x, (paC x).length = 27) ∧ (∀ x, (syC x).length = 6) ∧ (∀ x, (psC x).length = 4) ∧ (∀ x, (qsC x).length = 7) ∧ (∀ x, (bsC x).length = 3) ∧ (∀ x, (snR x).length = 4) :=
  ⟨spC_len, nsC_len, lvC_len, rgC_len, cxC_len, seC_len, exC_len, poC_len, stC_len, moC_len, tkC_len, faC_len, paC_len, syC_len, psC_len, qsC_len, bsC_len, snR_len⟩
end Am
namespace Am
variable [Tb]
open Go.RowKit
section
variable {P : Program} {nt : Nat} {Q : Exit → St → Prop} {N : St → Prop} {σ : St} {id i : Nat} {y : Code} {l : List Oper}
def Ret (P : Program) (rl : List ResultVar) (r : V) : Exit → St → Prop := fun e σ => (e = .ret ∨ e = .normal) ∧ ∃ vs, ARes P σ rl vs ∧ (one vs).un = r
theorem q_then (h : N σ) : thenQ N Q .normal σ := h
theorem q_thenR (h : Q .ret σ) : thenQ N Q .ret σ := h
theorem q_thenE (h : Q (.exit i) σ) : thenQ N Q (.exit i) σ := h
theorem q_bloN (h : Q .normal σ) : blockQ id Q .normal σ := h
theorem q_bloR (h : Q .ret σ) : blockQ id Q .ret σ := h
theorem q_bloE (h : Q .normal σ) : blockQ id Q (.exit id) σ := by simp only [blockQ, if_true]; exact h
theorem q_bloX (hi : Nat.beq i id = false) (h : Q (.exit i) σ) : blockQ id Q (.exit i) σ := by
  have : i ≠ id := fun e => by rw [e] at hi; simp at hi
  simp only [blockQ, this, if_false]; exact h
theorem q_strN (h : Q .normal σ) : straightQ Q .normal σ := h
theorem q_strR (h : Q .ret σ) : straightQ Q .ret σ := h
theorem q_strE (h : Q (.exit i) σ) : straightQ Q (.exit i) σ := h
theorem r_v {t : Nat} {v r : V} (hx : Ev (evA σ.sl) (.tmp t) v) (h : v.un = r) : Ret P [.tmp t] r .ret σ := ⟨.inl rfl, [v], .tmp hx .nil, h⟩
theorem r_b {t : Nat} {a b : Bool} (hx : Ev (evA σ.sl) (.tmp t) (.c (.sc (.bool a)))) (h : a = b) : Ret P [.tmp t] (.c (.sc (.bool b))) .ret σ := h ▸ ⟨.inl rfl, [_], .tmp hx .nil, rfl⟩
theorem r_i {t : Nat} {k : IntKind} {a b : Int} (hx : Ev (evA σ.sl) (.tmp t) (.c (.sc (.int k a)))) (h : a = b) : Ret P [.tmp t] (.c (.sc (.int k b))) .ret σ := h ▸ ⟨.inl rfl, [_], .tmp hx .nil, rfl⟩
theorem r_s {t : Nat} {a b : ByteArray} (hx : Ev (evA σ.sl) (.tmp t) (.c (.sc (.string a)))) (h : a = b) : Ret P [.tmp t] (.c (.sc (.string b))) .ret σ := h ▸ ⟨.inl rfl, [_], .tmp hx .nil, rfl⟩
theorem un_b {a b : Bool} (h : a = b) : (V.c (.sc (.bool a))).un = .c (.sc (.bool b)) := h ▸ rfl
theorem un_i {k : IntKind} {a b : Int} (h : a = b) : (V.c (.sc (.int k a))).un = .c (.sc (.int k b)) := h ▸ rfl
theorem un_s {a b : ByteArray} (h : a = b) : (V.c (.sc (.string a))).un = .c (.sc (.string b)) := h ▸ rfl
theorem un_a {a b : List C} (h : unL a = b) : (V.agg a).un = .agg b := h ▸ rfl
theorem r_0 : Ret P [] (.tup []) .ret σ := ⟨.inl rfl, [], .nil, rfl⟩
theorem r_0n : Ret P [] (.tup []) .normal σ := ⟨.inr rfl, [], .nil, rfl⟩
theorem r_2 {t u : Nat} {v1 v2 u1 u2 : V} (h1 : Ev (evA σ.sl) (.tmp t) v1) (h2 : Ev (evA σ.sl) (.tmp u) v2) (e1 : v1.un = u1) (e2 : v2.un = u2) : Ret P [.tmp t, .tmp u] (.tup [u1, u2]) .ret σ := by
  subst e1 e2
  exact ⟨.inl rfl, [v1, v2], .tmp h1 (.tmp h2 .nil), rfl⟩
theorem r_2c {t u ty n off ty0 k : Nat} {cs : List C} {b : Bool} {v1 v2 u1 u2 : V} (h1 : Ev (evA σ.sl) (.tmp t) v1) (h2 : Ev (evA σ.sl) (.tmp u) (.c (.ptr n off))) (hh : σ.hp n = some (.obj ty0 cs)) (ht : tyi P ty = some (k, b)) (hc : cutV b cs off k = some v2) (e1 : v1.un = u1) (e2 : v2.un = u2) : Ret P [.tmp t, .cell u ty] (.tup [u1, u2]) .ret σ := by
  subst e1 e2
  exact ⟨.inl rfl, [v1, v2], .tmp h1 (.cell h2 hh ht hc .nil), rfl⟩
theorem m_b {rl : List ResultVar} {r : V} {ty e : TypeId} {bs bs' : List Value} {x : Exit} (hh : σ.hp 0 = some (.bld ty e bs)) (h : bs = bs') (k : Ret P rl r x σ) : RetM P rl r (.bld ty e bs') x σ := ⟨k.1, ⟨_, hh, by rw [h]; rfl⟩, k.2⟩
theorem m_o {rl : List ResultVar} {r : V} {ty : TypeId} {cs cs' : List C} {x : Exit} (hh : σ.hp 0 = some (.obj ty cs)) (h : unL cs = cs') (k : Ret P rl r x σ) : RetM P rl r (.obj ty cs') x σ := ⟨k.1, ⟨_, hh, by rw [← h]; rfl⟩, k.2⟩
theorem m_g {rl : List ResultVar} {r : V} {x : Exit} (hh : σ.hp 0 = some .gone) (k : Ret P rl r x σ) : RetM P rl r .gone x σ := ⟨k.1, ⟨_, hh, rfl⟩, k.2⟩
end
section
variable {P : Program} {f nt : Nat} {fn : Func} {c : Code} {rl : List ResultVar} {r a0 a1 a2 a3 a4 : V}
theorem fn0 (hc : Callable P f) (hf : P.funcs[f]? = some fn) (hb : fn.body = some c) (hn : fn.ntmps = nt) (hres : fn.results = rl.toArray) (hl : Nat.ble 0 nt = true) (hr : V.ok noN r = true) (h : AW P nt c (Ret P rl r) (mk [] [])) : Pure P f [] r :=
  Pure.of hc hf hb hn (Nat.le_of_ble_eq_true hl) hr (by
    have e : (⟨fun i => ([] : List V)[i]?, fun _ => none⟩ : St) = mk [] [] := by congr
    rw [e, hres]; exact h)
theorem fn1 (hc : Callable P f) (hf : P.funcs[f]? = some fn) (hb : fn.body = some c) (hn : fn.ntmps = nt) (hres : fn.results = rl.toArray) (hl : Nat.ble 1 nt = true) (hr : V.ok noN r = true) (h : AW P nt c (Ret P rl r) (mk [(0, a0)] [])) : Pure P f [a0] r :=
  Pure.of hc hf hb hn (Nat.le_of_ble_eq_true hl) hr (by
    have e : (⟨fun i => [a0][i]?, fun _ => none⟩ : St) = mk [(0, a0)] [] := by
      congr 1
      funext i
      match i with
      | 0 => rfl
      | i + 1 => rfl
    rw [e, hres]; exact h)
theorem fn2 (hc : Callable P f) (hf : P.funcs[f]? = some fn) (hb : fn.body = some c) (hn : fn.ntmps = nt) (hres : fn.results = rl.toArray) (hl : Nat.ble 2 nt = true) (hr : V.ok noN r = true) (h : AW P nt c (Ret P rl r) (mk [(0, a0), (1, a1)] [])) : Pure P f [a0, a1] r :=
  Pure.of hc hf hb hn (Nat.le_of_ble_eq_true hl) hr (by
    have e : (⟨fun i => [a0, a1][i]?, fun _ => none⟩ : St) = mk [(0, a0), (1, a1)] [] := by
      congr 1
      funext i
      match i with
      | 0 => rfl
      | 1 => rfl
      | i + 2 => rfl
    rw [e, hres]; exact h)
end
section
variable {P : Program} {ρ : Operand → Option V} {H : Nat → Option HO} {d : Option Nat} {ty : TypeId} {pos : String} {af : Array Edge} {gu : Option (Nat × Bool)} {x : Operand}
end
section
variable {P : Program} {ρ : Operand → Option V} {H : Nat → Option HO} {d : Option Nat} {ty : TypeId} {pos : String} {af : Array Edge} {gu : Option (Nat × Bool)} {x : Operand}
theorem a_eye {args : Array Operand} {ats : Array TypeId} {f : Nat} {caps : List C} {vs us : List V} {r : V} {ns : List Nat} (hx : Ev ρ x (.c (.fn f caps))) (hv : EvL ρ args.toList vs) (hn : (vs ++ caps.map V.c).flatMap ptV = ns) (hu : (vs ++ caps.map V.c).map (snV H) = us) (hP : Pure P f us r) (hok : okV noN us = true) (hsc : scO r = true) :
    AS P ρ H ⟨d, .call { callee := .value x, args := args, argTypes := ats }, ty, pos, af, gu⟩ ⟨r, [], ns⟩ := .callE rfl hx hv hn hu hok hP hsc
theorem a_mut {args : Array Operand} {ats : Array TypeId} {f n : Nat} {us : List V} {r : V} {ob ob' : HO} (hx : Ev ρ x (.c (.fn f []))) (hv : EvL ρ args.toList (.c (.ptr n 0) :: us)) (hn : H n = some ob) (hP : MC P f ob us r ob') (hok : okV noN us = true) (h1 : ob.one = true) (h2 : ob'.one = true) :
    AS P ρ H ⟨d, .call { callee := .value x, args := args, argTypes := ats }, ty, pos, af, gu⟩ ⟨r, [(n, ob')], [n]⟩ := .callM rfl hx hv (by rw [List.map_nil, List.append_nil]) hn h1 h2 hok hP
theorem beqN (a b : Nat) : Nat.beq a b = decide (a = b) := by rw [Bool.eq_iff_iff]; simp
theorem okV_app (d : Nat → Bool) : ∀ a b : List V, okV d (a ++ b) = (okV d a && okV d b)
  | [], b => by rw [List.nil_append, okV, Bool.true_and]
  | x :: a, b => by rw [List.cons_append, okV, okV, okV_app d a b, Bool.and_assoc]
theorem okV_map (d : Nat → Bool) : ∀ l : List C, okV d (l.map V.c) = okL d l
  | [] => rfl
  | x :: l => by rw [List.map_cons, okV, okL, okV_map d l]; rfl
end
theorem AW.fact {P : Program} {nt : Nat} {c : Code} {Q : Exit → St → Prop} {σ : St} {F : Prop} {t : Nat} {v : V} (hx : σ.sl t = some v) (hF : ∀ (κ : K) (w : World) (x : Value), RepV κ w v x → F) (k : F → AW P nt c Q σ) : AW P nt c Q σ := fun X a w κ hX g => by
  obtain ⟨x, _, hr⟩ := g.sl t v hx
  exact k (hF κ w x hr) X a w κ hX g
theorem rep_s {κ : K} {w : World} {s : ByteArray} {x : Value} (h : Rep κ w (.sc (.string s)) x) : s.size ≤ 9223372036854775807 := by
  cases h with | sc h => exact of_decide_eq_true h
theorem repV_s {κ : K} {w : World} {s : ByteArray} {x : Value} (h : RepV κ w (.c (.sc (.string s))) x) : s.size ≤ 9223372036854775807 := by
  cases h with | c h => exact rep_s h
theorem rep_n {κ : K} {w : World} {t : Option Nat} {k : Nat} {xs : List (List C)} {x : Value} (h : Rep κ w (.lst t k xs) x) : xs.length ≤ 9223372036854775807 := by
  cases h with | lst cv hn hk h1 h2 => unfold maxLen at h2; omega
theorem repV_n {κ : K} {w : World} {t : Option Nat} {k : Nat} {xs : List (List C)} {x : Value} (h : RepV κ w (.c (.lst t k xs)) x) : xs.length ≤ 9223372036854775807 := by
  cases h with | c h => exact rep_n h
theorem repV_l {κ : K} {w : World} {t : Option Nat} {k : Nat} {α : Type} {f : α → List C} {l : List α} {x : Value} (h : RepV κ w (.c (.lst t k (l.map f))) x) : l.length ≤ 9223372036854775807 := by
  have := repV_n h; rwa [List.length_map] at this
theorem Pure.of_calls {P : Program} {f : FuncId} {vs : List Value} {r : V} {x : Value} (hc : Callable P f) (hr : Conc r x) (h : (∀ v ∈ vs, scal v = true) → ∀ w, Calls P f vs.toArray w fun e w' => e = .returned x ∧ w = w') : Pure P f (vs.map fun v => .c (.sc v)) r :=
  ⟨hc, fun w S us _ hS hu => by
    have hl : us.toList.length = vs.length := by have := hu.1; simpa using this.symm
    have he : us = vs.toArray := by
      apply Array.ext'
      apply List.ext_getElem? 
      intro j
      rcases Nat.lt_or_ge j vs.length with hj | hj
      · have h1 : us.toList[j]? = some us.toList[j] := List.getElem?_eq_getElem (by omega)
        have h2 := hu.2 j (.c (.sc vs[j])) _ (by rw [List.getElem?_map, List.getElem?_eq_getElem hj]; rfl) h1
        have h3 := Cq.uniq .sc h2
        rw [h1, h3]
        simp [hj]
      · rw [List.getElem?_eq_none (by omega), List.getElem?_eq_none (by simpa using hj)]
    subst he
    refine (h (fun v hv => ?_) w).mono fun e w' he => ?_
    · obtain ⟨j, hj⟩ := List.mem_iff_getElem?.1 hv
      have h2 := hu.2 j (.c (.sc v)) v (by rw [List.getElem?_map, hj]; rfl) (by simpa using hj)
      cases h2 with | c h2 => (cases h2 with | sc h2 => exact h2)
    · obtain ⟨rfl, rfl⟩ := he
      exact ⟨x, rfl, Keep.refl _ _, hr.rep⟩⟩
theorem mapget {α β : Type} {f : α → β} {l : List α} {j : Nat} {x : α} (h : l[j]? = some x) : (l.map f)[j]? = some (f x) := by rw [List.getElem?_map, h]; rfl
theorem cutDrop (b : Bool) (cs : List C) (o off k : Nat) (ho : o ≤ cs.length) : cutV b (cs.drop o) off k = cutV b cs (o + off) k := by
  unfold cutV
  rw [List.length_drop, List.drop_drop, List.getElem?_drop]
  by_cases h : off + k ≤ cs.length - o
  · have : o + off + k ≤ cs.length := by omega
    simp [h, this]
  · have : ¬ (o + off + k ≤ cs.length) := by omega
    simp [h, this]
theorem wk_mk {l l' : List (Nat × V)} {h h' : List (Nat × HO)} (hs : ∀ p ∈ l', ∃ u, look l p.1 = some u ∧ (u = p.2 ∨ u.un = p.2) ∧ V.ok (fun n => (look h' n).isSome) p.2 = true)
    (hh : ∀ p ∈ h', ∃ u, look h p.1 = some u ∧ (u = p.2 ∨ u.un = p.2) ∧ p.2.ok (fun n => (look h' n).isSome) = true) (h0 : (h.all fun p => !(Nat.beq p.1 0 || Nat.ble 1000 p.1) || (look h' p.1).isSome) = true) : Wk (mk l h) (mk l' h') := by
  have lm : ∀ {α : Type} {l : List (Nat × α)} {n : Nat} {v : α}, look l n = some v → (n, v) ∈ l := by
    intro α l
    induction l with
    | nil => intro n v h; cases h
    | cons p l ih =>
      intro n v h
      obtain ⟨k, u⟩ := p
      unfold look at h
      cases hb : Nat.beq k n with
      | true => rw [hb] at h; injection h with h; rw [h, Nat.eq_of_beq_eq_true hb]; exact .head _
      | false => rw [hb] at h; exact .tail _ (ih h)
  refine Wk.forget (fun t v hv => hs (t, v) (lm hv)) (fun n o ho => hh (n, o) (lm ho)) fun n hn hs => ?_
  obtain ⟨o, ho⟩ := Option.isSome_iff_exists.1 hs
  have hm := List.all_eq_true.1 h0 (n, o) (lm ho)
  have hb : (Nat.beq n 0 || Nat.ble 1000 n) = true := by
    rcases hn with rfl | hn
    · rfl
    · rw [Bool.or_eq_true]; exact .inr (by rw [Nat.ble_eq]; exact hn)
  simp only [hb, Bool.not_true, Bool.false_or] at hm
  exact hm
theorem all_nil {α : Type} {p : α → Prop} : ∀ x ∈ ([] : List α), p x := fun x h => by cases h
theorem all_cons {α : Type} {p : α → Prop} {a : α} {l : List α} (h : p a) (hl : ∀ x ∈ l, p x) : ∀ x ∈ a :: l, p x := fun x hx => by
  rcases List.mem_cons.1 hx with rfl | hx
  · exact h
  · exact hl x hx
end Am
namespace Am
set_option maxRecDepth 100000
instance : Tb where
  T w := Lib.TabIs Tryz.prog w "internal/strconv.uint64pow10" .u64 Lib.pow10Tab
  G b := Tryz.prog.globalNamed "internal/strconv.uint64pow10" = some b
  lt w b hT hG := by
    rcases Nat.lt_or_ge b w.heap.size with h | h
    · exact h
    · exfalso
      simp [Lib.TabIs, World.var?, hG, Array.getElem?_eq_none h] at hT
  keep w w' hT h := by
    cases hg : Tryz.prog.globalNamed "internal/strconv.uint64pow10" with
    | none => simp [Lib.TabIs, World.var?, hg] at hT
    | some b =>
      have e := h b hg
      simp only [Lib.TabIs, World.var?, hg, Option.bind_some] at hT ⊢
      rw [e]; exact hT
def tyT : List (Nat × (Nat × Bool)) := [(2, (1, false)), (3, (1, false)), (4, (1, false)), (5, (1, false)), (9, (1, false)), (20, (1, false)), (21, (1, false)), (23, (1, false)), (25, (3, true)), (26, (1, false)), (28, (2, true)), (30, (4, true)), (35, (1, false)), (36, (1, false)), (43, (1, false)), (44, (1, false)), (46, (4, true)), (47, (1, false)), (49, (10, true)), (60, (5, true)), (61, (1, false)), (63, (2, true)), (65, (4, true)), (67, (7, true)), (69, (55, true)), (84, (1, false)), (87, (1, false)), (88, (1, false)), (99, (4, true)), (101, (1, false)), (116, (1, false)), (117, (1, false)), (119, (2, true)), (121, (2, true)), (125, (1, false)), (127, (4, true)), (130, (4, true)), (134, (1, false)), (139, (7, true)), (152, (1, false)), (154, (4, true)), (158, (4, true)), (160, (1, false)), (162, (3, true)), (165, (1, false)), (170, (2, true)), (181, (1, false)), (183, (1, false)), (189, (1, false)), (200, (1, false)), (205, (1, false)), (208, (1, false)), (226, (1, false)), (234, (1, false)), (241, (1, false)), (243, (24, true)), (249, (1, false)), (253, (1, false)), (255, (3, true)), (263, (1, false)), (265, (20, true)), (266, (1, false)), (267, (65, true)), (273, (1, true)), (283, (32, true)), (284, (64, true))]
def fldT : List (Nat × (Nat × Nat)) := [(2500, (0, 9)), (2501, (1, 3)), (2502, (2, 23)), (2800, (0, 3)), (2801, (1, 3)), (3000, (0, 26)), (3001, (1, 28)), (3002, (3, 9)), (4900, (0, 3)), (4901, (1, 3)), (4902, (2, 3)), (4903, (3, 3)), (4904, (4, 43)), (4905, (5, 46)), (4906, (9, 47)), (6000, (0, 4)), (6001, (1, 4)), (6002, (2, 4)), (6003, (3, 43)), (6004, (4, 43)), (6300, (0, 9)), (6301, (1, 61)), (6500, (0, 63)), (6501, (2, 63)), (6700, (0, 9)), (6701, (1, 9)), (6702, (2, 9)), (6703, (3, 65)), (6900, (0, 3)), (6901, (1, 3)), (6902, (2, 28)), (6903, (4, 9)), (6904, (5, 9)), (6905, (6, 9)), (6906, (7, 43)), (6907, (8, 43)), (6908, (9, 60)), (6909, (14, 60)), (6910, (19, 60)), (6911, (24, 60)), (6912, (29, 49)), (6913, (39, 63)), (6914, (41, 65)), (6915, (45, 67)), (6916, (52, 4)), (6917, (53, 23)), (6918, (54, 23)), (9900, (0, 3)), (9901, (1, 9)), (9902, (2, 28)), (11900, (0, 116)), (11901, (1, 117)), (12100, (0, 119)), (12700, (0, 30)), (13000, (0, 36)), (13001, (1, 3)), (13002, (2, 3)), (13003, (3, 3)), (13900, (0, 36)), (13901, (1, 3)), (13902, (2, 30)), (13903, (6, 3)), (15400, (0, 9)), (15401, (1, 3)), (15402, (2, 28)), (15800, (0, 30)), (16200, (0, 36)), (16201, (1, 3)), (16202, (2, 3)), (17000, (0, 9)), (17001, (1, 9)), (25500, (0, 9)), (25501, (1, 9)), (25502, (2, 134)), (27300, (0, 9))]
def sleT : List (Nat × (Nat × Nat)) := [(23, (69, 55)), (36, (99, 4)), (43, (9, 1)), (47, (49, 10)), (61, (170, 2)), (117, (5, 1)), (208, (63, 2)), (234, (3, 1))]
theorem lookT_mem {α : Type} : ∀ {l : List (Nat × α)} {n : Nat} {v : α}, look l n = some v → (n, v) ∈ l
  | [], _, _, h => by cases h
  | (k, u) :: l, n, v, h => by
    unfold look at h
    cases hb : Nat.beq k n with
    | true => rw [hb] at h; injection h with h; rw [h, Nat.eq_of_beq_eq_true hb]; exact .head _
    | false => rw [hb] at h; exact .tail _ (lookT_mem h)
theorem tyT_all : tyT.all (fun p => decide (tyi Tryz.prog p.1 = some p.2)) = true := by decide +kernel
theorem fldT_all : fldT.all (fun p => decide (fld Tryz.prog (p.1 / 100) (p.1 % 100) = some p.2)) = true := by decide +kernel
theorem sleT_all : sleT.all (fun p => decide (sle Tryz.prog p.1 = some p.2)) = true := by decide +kernel
theorem tyT_ok {t k : Nat} {b : Bool} (h : look tyT t = some (k, b)) : tyi Tryz.prog t = some (k, b) := of_decide_eq_true (List.all_eq_true.1 tyT_all _ (lookT_mem h))
theorem sleT_ok {t e k : Nat} (h : look sleT t = some (e, k)) : sle Tryz.prog t = some (e, k) := of_decide_eq_true (List.all_eq_true.1 sleT_all _ (lookT_mem h))
theorem fldT_ok {s f o u : Nat} (h : look fldT (s * 100 + f) = some (o, u)) (hf : f < 100) : fld Tryz.prog s f = some (o, u) := by
  have := of_decide_eq_true (List.all_eq_true.1 fldT_all _ (lookT_mem h))
  have e1 : (s * 100 + f) / 100 = s := by omega
  have e2 : (s * 100 + f) % 100 = f := by omega
  simp only [e1, e2] at this
  exact this
theorem fldT_ok' {s f o u : Nat} (h : look fldT (s * 100 + f) = some (o, u)) (hf : Nat.blt f 100 = true) : fld Tryz.prog s f = some (o, u) := fldT_ok h (Nat.le_of_ble_eq_true hf)
def repZ : C → Value → Bool
  | .sc (.int k n), .int k' n' => decide (k = k') && decide (n = n')
  | .sc (.bool a), .bool b => decide (a = b)
  | .sc (.string s), .string t => decide (s.data.toList = t.data.toList) && decide (s.size ≤ 9223372036854775807)
  | .sc .nilFunc, .nilFunc => true
  | .sc .nilIface, .nilIface => true
  | .sc (.pointer none), .pointer none => true
  | .sc (.map none), .map none => true
  | .nil, .slice none 0 0 => true
  | .lst none _ [], .slice none 0 0 => true
  | _, _ => false
theorem repZ_rep {κ : K} {w : World} {c : C} {v : Value} (h : repZ c v = true) : Rep κ w c v := by
  unfold repZ at h
  split at h <;> first | (exact Rep.sc rfl) | (exact .nil) | (cases h; done) | skip
  · rw [Bool.and_eq_true] at h
    rw [of_decide_eq_true h.1, of_decide_eq_true h.2]
    exact .sc rfl
  · rw [of_decide_eq_true h]; exact .sc rfl
  · rw [Bool.and_eq_true] at h
    have h1 := of_decide_eq_true h.2
    have h := of_decide_eq_true h.1
    have : ∀ {s t : ByteArray}, s.data.toList = t.data.toList → s = t := fun h => ByteArray.ext (Array.ext' h)
    rw [← this h]; exact .sc (decide_eq_true h1)
  · exact .lst (fun _ _ => default) rfl (fun x hx => by cases hx) (Nat.le_refl _) (Nat.zero_le _) (.inl rfl) (fun i j x c hx => by cases hx) fun τ e => by cases e
def repZs : List C → List Value → Bool
  | [], [] => true
  | c :: cs, v :: vs => repZ c v && repZs cs vs
  | _, _ => false
theorem repZs_rep {κ : K} {w : World} : ∀ {cs : List C} {vs : List Value}, repZs cs vs = true → Reps κ w cs vs
  | [], [], _ => .nil
  | c :: cs, v :: vs, h => by
    rw [repZs, Bool.and_eq_true] at h
    exact .cons (repZ_rep h.1) (repZs_rep h.2)
  | [], _ :: _, h => by cases h
  | _ :: _, [], h => by cases h
def zwB (P : Program) (t : Nat) (cs : List C) : Bool := match P.info? t with | some i => (match i.zero with | some z => repZs cs z.cells.toList | none => false) | none => false
theorem Zw.of {P : Program} {t : Nat} {cs : List C} (h : zwB P t cs = true) : Zw P t cs := by
  unfold zwB at h
  cases hi : P.info? t with
  | none => rw [hi] at h; cases h
  | some i =>
    rw [hi] at h
    cases hz : i.zero with
    | none => simp only [hz] at h; cases h
    | some z => simp only [hz] at h; exact ⟨i, z, hi, hz, fun κ w => repZs_rep h⟩
def zwT : List (Nat × List C) := [(3, [sI 0]), (4, [sB false]), (9, [sS ⟨#[]⟩]), (23, [.nil]), (25, moC Mo.zero), (26, [sI 0]), (28, poC Po.zero), (30, faC Fa.zero), (36, [.nil]), (43, [.nil]), (46, seC Se.zero), (47, [.nil]), (49, exC Ex.zero), (60, nsC NS.zero), (61, [.nil]), (63, lvC Lv.zero), (65, rgC Rg.zero), (67, cxC Ct.zero), (69, stC Stm.zero), (99, tkC Tok.zero), (117, [.nil]), (127, faC Fa.zero), (130, psC Ps.zero), (139, qsC Qs.zero), (154, snR Sc.zero), (158, faC Fa.zero), (162, bsC Bs.zero), (170, spC Sp.zero), (208, [.nil]), (234, [.nil])]
theorem zwT_all : zwT.all (fun p => zwB Tryz.prog p.1 p.2) = true := by decide +kernel
theorem zwT_ok {t : Nat} {cs : List C} (h : look zwT t = some cs) : Zw Tryz.prog t cs := Zw.of (List.all_eq_true.1 zwT_all _ (lookT_mem h))
def plT (t i : Nat) : Option (Nat × Nat) := match look fldT (t * 100 + i) with
  | some (o, u) => match Nat.blt i 100, look tyT u with
    | true, some (k, _) => some (o, k)
    | _, _ => none
  | none => none
theorem fill_mono {p q : Nat → Option (Nat × Nat)} (h : ∀ i x, p i = some x → q i = some x) : ∀ {ps : List (Nat × List C)} {zs cs : List C}, fillC p zs ps = some cs → fillC q zs ps = some cs
  | [], _, _, hf => hf
  | (i, ds) :: ps, zs, cs, hf => by
    unfold fillC at hf ⊢
    cases hp : p i with
    | none => rw [hp] at hf; cases hf
    | some x =>
      rw [hp] at hf
      rw [h i x hp]
      simp only at hf ⊢
      split at hf
      · rename_i hl
        rw [if_pos hl]
        cases hs : setV zs x.1 ds with
        | none => rw [hs] at hf; cases hf
        | some c2 => rw [hs] at hf; exact fill_mono h hf
      · cases hf
theorem a_buildT {ρ : Operand → Option V} {H : Nat → Option HO} {d : Option Nat} {ty : TypeId} {pos : String} {af : Array Edge} {gu : Option (Nat × Bool)} {t : Nat} {parts : Array (Nat × Operand)} {zs cs : List C} {ps : List (Nat × List C)} (hz : Zw Tryz.prog t zs) (hp : (places Tryz.prog t).isSome = true) (hs : (match Tryz.prog.underlying t with | some (.struct _) => true | _ => false) = true) (hv : EvP ρ parts.toList ps) (hf : fillC (plT t) zs ps = some cs) :
    AS Tryz.prog ρ H ⟨d, .build t parts, ty, pos, af, gu⟩ ⟨.agg cs, [], []⟩ := by
  cases hpl : places Tryz.prog t with
  | none => rw [hpl] at hp; cases hp
  | some pl =>
    refine .build rfl hz hpl hv (fill_mono (fun i x hx => ?_) hf)
    unfold plT at hx
    split at hx
    · rename_i o u ho
      split at hx
      · rename_i k b hi hk
        injection hx with hx
        subst hx
        have h1 := fldT_ok' ho hi
        obtain ⟨inf, dd, h2, _, h3, _⟩ := tyi_some (tyT_ok hk)
        unfold fld at h1
        unfold places at hpl
        split at h1
        · rename_i fs hu
          rw [hu] at hpl
          simp only at hpl
          split at hpl
          · injection hpl with hpl
            subst hpl
            split at h1
            · rename_i q hq
              split at h1
              · cases h1
              · injection h1 with h1
                injection h1 with h4 h5
                subst h4 h5
                simp only [hq, Option.map_some, Program.cellsOf, h2, h3, Option.getD_some]
            · cases h1
          · cases hpl
        · cases h1
      · cases hx
    · cases hx
theorem a_build0T {ρ : Operand → Option V} {H : Nat → Option HO} {d : Option Nat} {ty : TypeId} {pos : String} {af : Array Edge} {gu : Option (Nat × Bool)} {t : Nat} {zs : List C} (hz : Zw Tryz.prog t zs) (hp : (places Tryz.prog t).isSome = true) : AS Tryz.prog ρ H ⟨d, .build t #[], ty, pos, af, gu⟩ ⟨.agg zs, [], []⟩ := by
  cases hpl : places Tryz.prog t with
  | none => rw [hpl] at hp; cases hp
  | some pl => exact .build rfl hz hpl .nil rfl
end Am
namespace Am
open Go.ChangeShapes Go.WideShapes Go.ChangeAt Go.RowKit
set_option maxRecDepth 100000
theorem own : ownKnob Tryz.prog.godebug = none := by kernel_rfl
theorem laidOut : laidOutB Tryz.prog = true := by kernel_rfl
section
variable {H : Type} {enc : TypeId × Value → H} {P : Program}
theorem post_grown {f : Func} {s : ChangeSpec} {apart fresh handsOn again : Bool} {W W' : World} {args : Array Value} {v : Value} {ds gs : List (DataW H)} {before pa pv : List MemPlace}
    (hW : DataW.Whole enc P f.params.toList s.vars apart W args.toList ds gs before)
    (hres : ∀ (b : Nat) (sp : Nat → Bool) (hd : Bool), DataW.TrodAll enc P W' b sp hd f.resultTypes.toList (v.resultList f.resultTypes.size) (s.fn H (ds ++ gs)).results [])
    (hargs : ∀ sp : Nat → Bool, (∀ p ∈ before, sp p.block = true) → DataW.TrodAll enc P W' 0 sp true f.params.toList args.toList (s.fn H (ds ++ gs)).args pa)
    (hvars : ∀ sp : Nat → Bool, (∀ p ∈ before, sp p.block = true) → DataW.TrodVars enc P W' sp s.vars (s.fn H (ds ++ gs)).vars pv)
    (hps : before = pa ++ pv) (hb : Below W.heap.size W W')
    (hok : ∀ (j : Nat) (t : TypeId) (r : Value), f.resultTypes[j]? = some t → (v.resultList f.resultTypes.size)[j]? = some r → Value.okWide P W' .any 0 t r) :
    s.post enc P f apart fresh handsOn again W args v W' := by
  have hlt : ∀ p ∈ before, p.block < W.heap.size := fun p hp => hW.lt p hp
  have hold : ∀ p ∈ before, (fun b => decide (b < W.heap.size)) p.block = true := fun p hp => by simpa using hlt p hp
  refine ⟨ds, gs, before, [], pa, pv, hW, hres _ _ _, hargs _ hold, hvars _ hold, World.keptBut_mono (fun p hp => ⟨hp, ?_⟩) (hb.frame (· ∈ before)), fun _ => ?_⟩
  · rw [hps, List.mem_append] at hp
    exact Or.inr hp
  · obtain ⟨_, _, _, _, _, hz, hn⟩ := hW
    refine ⟨hok, _, _, ([] ++ pa) ++ pv, ⟨[] ++ pa, pv, trodAll_append (hargs _ (fun _ _ => rfl)) (hres _ _ _), hvars _ (fun _ _ => rfl), rfl, ?_, ?_⟩, ?_⟩
    · intro b off hp
      have hin : MemPlace.cell b off ∈ before := by rw [hps]; simpa using hp
      rw [hb.frozen (hlt _ hin)]
      exact hz b off hin
    · intro ha
      have := hn ha
      rw [hps] at this
      simpa using this
    · intro p hp _
      rw [hps]
      simpa using hp
theorem trod_grown {t : TypeId} (hl : laidOutB P = true) (hr : P.readableRec t = true) (hrow : t < P.types.size) {W W' : World} {sp : Nat → Bool} {v : Value} {d : DataW H} {ps : List MemPlace}
    (h : DataW.Trod enc P W 0 (fun _ => true) true t v d ps) (hb : Below W.heap.size W W') (hlt : ∀ x ∈ ps, x.block < W.heap.size) (hs : ∀ x ∈ ps, sp x.block = true) : DataW.Trod enc P W' 0 sp true t v d ps :=
  WideElems.Trod_stays hl hr hrow h (fun x hx => hb.same (hlt x hx)) hs
end

abbrev laid5 : List (String × DataW Unit) := Rows.syntaxWordsRow.laid
theorem gPow : Tryz.prog.globalNamed "internal/strconv.uint64pow10" = some 2 := by kernel_rfl
theorem tPow : ∃ t e n, (Tryz.prog.globals[2]?).map (·.type) = some t ∧ Tryz.prog.underlying t = some (.array n e) ∧ Tryz.prog.underlying e = some (.int .u64) ∧ Tryz.prog.cellsOf e = 1 ∧ Tryz.prog.cellsOf t = n := ⟨_, 44, 20, rfl, by kernel_rfl, by kernel_rfl, by kernel_rfl, by kernel_rfl⟩
theorem door_met (os : Os) (args : Array Value) : laidMetH Tryz.prog laid5 ((World.doorLaid Tryz.prog 200 os).forCall (fun _ _ => 0) ⟨#[], args, []⟩).memory :=
  laidMetH_of_parts3 (fuel := 8) (laidMet_of_run' 8 (by kernel_rfl) (by kernel_rfl)) (by kernel_rfl) (by kernel_rfl)
theorem tab_of_laid {W : World} (h : laidMetH Tryz.prog laid5 W) : Tb.T W := by
  rw [MakeChecks.laidMetH_plain _ _ _ (by kernel_rfl)] at h
  have h3 : laidMet Tryz.prog (("internal/strconv.uint64pow10", Lib.tabData .u64 Lib.pow10Tab) :: [("strconv.ErrRange", Rows.laid_strconv_ErrRange), ("strconv.ErrSyntax", Rows.laid_strconv_ErrSyntax)]) W := laidMet.tail (laidMet.tail h)
  obtain ⟨t, e, n, h4, h5, h6, h7, h8⟩ := tPow
  exact Lib.tabIs_of_head gPow h4 h5 h6 h7 h8 h3
theorem and_t {a b : Bool} (ha : a = true) (hb : b = true) : (a && b) = true := by rw [ha, hb]; rfl
def worldK (w : World) : K := bareK fun g _ => g < w.heap.size
section
variable {H : Type} {enc : TypeId × Value → H} {W : World}
theorem pure_row {f : FuncId} {args : List V} (hP : Pure Tryz.prog f args (.c (sB true))) (hT : Tb.T W) {vs : Array Value} (hr : RepVs (worldK W) W args vs.toList) : Calls Tryz.prog f vs W fun e w' => e = .returned (.bool true) ∧ Below W.heap.size W w' :=
  (hP.2 W (fun g _ => g < W.heap.size) vs hT (fun _ _ h => h) hr).mono fun e w' h => by
    obtain ⟨x, rfl, hk, hx⟩ := h
    cases hx with | c hx => cases hx; exact ⟨rfl, hk.below⟩
end
end Am
end Go.Proofs.YtkpodagbefnebaaGreatDoor
