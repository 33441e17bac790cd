/- Ot -/
import Derived.Test.YtnifgkgdphlleaaS4
import Derived.Test.YtnifgkgdphlleaaS29
import Derived.Test.YtnifgkgdphlleaaRows
set_option linter.unusedSimpArgs false
set_option linter.unusedVariables false
namespace Go.Proofs.Ytnifgkgdphlleaa
open Go.ChangeShapes Go.WideShapes Go.ChangeAt Go.RowKit Tk
def sB (s : ByteArray) : Nat := s.size + 1
def nB (l : List ByteArray) : Nat := (l.map sB).sum + 1
def i64 (n : Int) : Prop := (Lit.int .i64 n).wf = true
def u64 (n : Int) : Prop := (Lit.int .u64 n).wf = true
def spanB (p : ByteArray × ByteArray) : Nat := sB p.1 + sB p.2 + 1
def NSet.bk (x : NSet) : Nat := 4 + nB x.names + nB x.except
def Lvl.bk (x : Lvl) : Nat := sB x.sens + ((x.cats.map spanB).sum + 1) + 1
def Rng.bk (x : Rng) : Nat := x.lo.bk + x.hi.bk + 1
def Ctx.bk (x : Ctx) : Nat := sB x.user + sB x.role + sB x.type + x.rng.bk + 1
mutual
def Ex.bk : Ex → Nat
  | .mk h kids => 6 + nB h.names + (Ex.bks kids + 1)
def Ex.bks : List Ex → Nat
  | [] => 0
  | e :: l => e.bk + Ex.bks l
end
def StH.bk (h : StH) : Nat := sB h.name + sB h.result + sB h.text + nB h.list + nB h.aliases + h.source.bk + h.target.bk + h.cls.bk + h.perms.bk + h.cond.bk + h.level.bk + h.range.bk + h.ctx.bk
mutual
def St.bk : St → Nat
  | .mk h t e => 5 + h.bk + (St.bks t + 1) + (St.bks e + 1)
def St.bks : List St → Nat
  | [] => 0
  | s :: l => s.bk + St.bks l
end
structure Md where
  name : ByteArray
  ver : Int
  hs : Hd
  stmts : List St
def mdC (x : Md) : List Value := [.string x.name, .int .i64 x.ver, .slice x.hs.a x.stmts.length x.hs.c]
def Sy.bk (x : Sy) : Nat := 4 + sB x.name + nB x.perms
structure ExH.rg (h : ExH) : Prop where
  op : i64 h.op
  a : i64 h.a
  rel : i64 h.rel
  b : i64 h.b
  s0 : u64 h.s0
  s1 : u64 h.s1
  s2 : u64 h.s2
  s3 : u64 h.s3
mutual
def Ex.rg : Ex → Prop
  | .mk h kids => h.rg ∧ Ex.rgs kids
def Ex.rgs : List Ex → Prop
  | [] => True
  | e :: l => e.rg ∧ Ex.rgs l
end
structure StH.rg (h : StH) : Prop where
  kind : i64 h.kind
  op : i64 h.op
  line : i64 h.line
  col : i64 h.col
  cond : h.cond.rg
mutual
def St.rg : St → Prop
  | .mk h t e => h.rg ∧ St.rgs t ∧ St.rgs e
def St.rgs : List St → Prop
  | [] => True
  | s :: l => s.rg ∧ St.rgs l
end
theorem Ex.bks_sum : ∀ l : List Ex, Ex.bks l = (l.map Ex.bk).sum
  | [] => by rw [Ex.bks]; rfl
  | e :: l => by rw [Ex.bks, Ex.bks_sum l]; rfl
theorem St.bks_sum : ∀ l : List St, St.bks l = (l.map St.bk).sum
  | [] => by rw [St.bks]; rfl
  | e :: l => by rw [St.bks, St.bks_sum l]; rfl
theorem Ex.rgs_of : ∀ {l : List Ex}, (∀ x ∈ l, x.rg) → Ex.rgs l
  | [], _ => by unfold Ex.rgs; trivial
  | e :: l, h => by unfold Ex.rgs; exact ⟨h e (by simp), Ex.rgs_of fun x hx => h x (by simp [hx])⟩
theorem St.rgs_of : ∀ {l : List St}, (∀ x ∈ l, x.rg) → St.rgs l
  | [], _ => by unfold St.rgs; trivial
  | e :: l, h => by unfold St.rgs; exact ⟨h e (by simp), St.rgs_of fun x hx => h x (by simp [hx])⟩
section
variable {W : World}
theorem Ex.oks_of : ∀ {l : List Ex}, (∀ x ∈ l, x.ok W) → Ex.oks W l
  | [], _ => by unfold Ex.oks; trivial
  | e :: l, h => by unfold Ex.oks; exact ⟨h e (by simp), Ex.oks_of fun x hx => h x (by simp [hx])⟩
theorem St.oks_of : ∀ {l : List St}, (∀ x ∈ l, x.ok W) → St.oks W l
  | [], _ => by unfold St.oks; trivial
  | e :: l, h => by unfold St.oks; exact ⟨h e (by simp), St.oks_of fun x hx => h x (by simp [hx])⟩
end
section
variable {H : Type} {enc : TypeId × Value → H} {W : World}
theorem bulk_all : ∀ l : List (DataW H), Rows.uptoBulkAll l = (l.map Rows.uptoBulk).sum
  | [] => by rw [Rows.uptoBulkAll]; rfl
  | d :: l => by rw [Rows.uptoBulkAll, bulk_all l]; rfl
theorem chunk {cs p : List Value} {o n : Nat} (h : (cs.drop o).take n = p) : cs.drop o = p ++ cs.drop (o + n) := by
  have := (List.take_append_drop n (cs.drop o)).symm
  rw [h, List.drop_drop] at this
  exact this
theorem sum_le {α β : Type} {b : α → Nat} {c : β → Nat} : ∀ {xs : List α} {ys : List β}, xs.length = ys.length → (∀ (i : Nat) (x : α) (y : β), xs[i]? = some x → ys[i]? = some y → b x ≤ c y) → (xs.map b).sum ≤ (ys.map c).sum
  | [], [], _, _ => Nat.le_refl _
  | x :: xs, y :: ys, hl, h => by
    have h0 := h 0 x y rfl rfl
    have ih := sum_le (b := b) (c := c) (xs := xs) (ys := ys) (by simpa using hl) (fun i x y h1 h2 => h (i + 1) x y (by simpa using h1) (by simpa using h2))
    simp only [List.map_cons, List.sum_cons]; omega
theorem choose_list {α : Type} {p : Nat → α → Prop} : ∀ (n : Nat), (∀ i, i < n → ∃ x, p i x) → ∃ xs : List α, xs.length = n ∧ ∀ i x, xs[i]? = some x → p i x
  | 0, _ => ⟨[], rfl, by simp⟩
  | n + 1, h => by
    obtain ⟨xs, h1, h2⟩ := choose_list n fun i hi => h i (by omega)
    obtain ⟨x, hx⟩ := h n (by omega)
    refine ⟨xs ++ [x], by simp [h1], fun i y hy => ?_⟩
    by_cases hi : i < n
    · rw [List.getElem?_append_left (by omega)] at hy
      exact h2 i y hy
    · have hlt := (List.getElem?_eq_some_iff.1 hy).1
      simp only [List.length_append, List.length_cons, List.length_nil] at hlt
      have : i = n := by omega
      subst this
      rw [List.getElem?_append_right (by omega), h1, Nat.sub_self] at hy
      injection hy with hy
      subst hy; exact hx
/-- a slice in a cell, read as a list of records, with its bulk -/
theorem slice_open {P : Program} {α : Type} {f : α → List Value} {ok : α → Prop} {B : α → Nat} {k : Nat} {T E : TypeId} (N : Nat) (und : P.underlying T = some (.slice E)) (hE : P.cellsOf E = k) (hk : 0 < k) (hf : ∀ x, (f x).length = k)
    (cells : ∀ {fuel : Nat} {base : Nat} {sp : Nat → Bool} {held : Bool} {cs : List Value} {x : DataW H × List MemPlace}, fuel < N → DataW.trod enc P W base sp held fuel E cs = some x → ∃ a : α, cs = f a ∧ ok a ∧ B a ≤ Rows.uptoBulk x.1)
    {sp : Nat → Bool} {held : Bool} {base fuel : Nat} {cs : List Value} {x : DataW H × List MemPlace} (hN : fuel ≤ N) (hh : DataW.trod enc P W base sp held fuel T cs = some x) :
    ∃ (h : Hd) (xs : List α), cs = [.slice h.a xs.length h.c] ∧ RRow W k f (h.v xs.length) xs ∧ (∀ x ∈ xs, ok x) ∧ (xs.map B).sum + 1 ≤ Rows.uptoBulk x.1 := by
  rcases DataW.trod_slice und hh with ⟨hc, hx⟩ | ⟨a, len, cap, elems, rest, n, hn, rfl, rfl, _, hle, hm, hlen, hat, _, _⟩
  · refine ⟨⟨none, 0⟩, [], hc, RRow.nil _ _ _, by simp, ?_⟩
    rw [hx]
    show 0 + 1 ≤ _
    rw [Rows.uptoBulk]
    exact Nat.le_refl _
  · have each : ∀ i, i < len → ∃ x : α, ok x ∧ (∃ y, elems[i]? = some y ∧ B x ≤ Rows.uptoBulk y.1) ∧ ∀ j, j < k → W.cell? ((a.add (i * k)).add j) = (f x)[j]? := by
      intro i hi
      have h1 := hat i hi
      obtain ⟨y, hy⟩ := some_len hlen hi
      rw [hy, Option.bind_eq_some_iff] at h1
      obtain ⟨cs', hcs, ht⟩ := h1
      obtain ⟨x, rfl, hox, hB⟩ := cells (by omega) ht
      rw [hE] at hcs
      obtain ⟨_, _, hcell⟩ := World.cells?_some hcs
      exact ⟨x, hox, ⟨y, hy, hB⟩, fun j hj => hcell j (by omega)⟩
    obtain ⟨xs, hxl, hxs⟩ := choose_list len each
    obtain ⟨b, o, sp'⟩ := a
    have first : ∀ (h0 : 0 < xs.length), W.cell? ((⟨b, o, sp'⟩ : Addr).add 0) = some ((f xs[0])[0]'(by rw [hf]; exact hk)) := fun h0 => by
      have h1 := (hxs 0 _ (List.getElem?_eq_getElem h0)).2.2 0 hk
      rw [Nat.zero_mul] at h1
      have e : ((⟨b, o, sp'⟩ : Addr).add 0).add 0 = (⟨b, o, sp'⟩ : Addr).add 0 := by cases sp' <;> rfl
      rw [e] at h1
      rw [h1]
      exact List.getElem?_eq_getElem _
    have hnone : 0 < xs.length → sp' = none := fun h0 => by
      cases sp' with
      | none => rfl
      | some q =>
        exfalso
        have h1 := first h0
        have e : (⟨b, o, some q⟩ : Addr).add 0 = ⟨b, o, some q⟩ := rfl
        rw [e] at h1
        unfold World.cell? at h1
        split at h1
        · simp at h1
        · cases h1
    refine ⟨⟨some ⟨b, o, sp'⟩, cap⟩, xs, by rw [hxl], ⟨some ⟨b, o, sp'⟩, cap, rfl, by omega, hm, ?_⟩, fun x hx => ?_, ?_⟩
    · by_cases h0 : xs.length = 0
      · exact .inl h0
      · right
        have hs := hnone (by omega)
        subst hs
        refine ⟨b, o, rfl, World.block_lt_of_cell? W _ (first (by omega)), fun i hi j hj => ?_⟩
        have := (hxs i _ (List.getElem?_eq_getElem hi)).2.2 j hj
        rw [add_add] at this
        exact this
    · obtain ⟨i, hi, rfl⟩ := List.getElem_of_mem hx
      exact (hxs i _ (List.getElem?_eq_getElem hi)).1
    · show _ ≤ Rows.uptoBulk (DataW.slice (elems.map (·.1)) (rest.map (·.1)))
      rw [Rows.uptoBulk, bulk_all, bulk_all, List.map_map]
      have := sum_le (b := B) (c := fun y : DataW H × List MemPlace => Rows.uptoBulk y.1) (xs := xs) (ys := elems) (by omega) (fun i x y h1 h2 => by
        obtain ⟨_, ⟨y', hy', hb⟩, _⟩ := hxs i x h1
        rw [hy'] at h2; injection h2 with h2; subst h2; exact hb)
      have e : (Rows.uptoBulk ∘ fun x : DataW H × List MemPlace => x.1) = fun y : DataW H × List MemPlace => Rows.uptoBulk y.1 := rfl
      rw [e]; omega

theorem one_u64 : Try.prog.cellsOf 37 = 1 := by kernel_rfl
theorem one_bool : Try.prog.cellsOf 4 = 1 := by kernel_rfl
theorem one_names : Try.prog.cellsOf 34 = 1 := by kernel_rfl
theorem one_ns : Try.prog.cellsOf 36 = 5 := by kernel_rfl
theorem one_lv : Try.prog.cellsOf 45 = 2 := by kernel_rfl
theorem one_rg : Try.prog.cellsOf 47 = 4 := by kernel_rfl
theorem one_cx : Try.prog.cellsOf 49 = 7 := by kernel_rfl
theorem one_ex : Try.prog.cellsOf 42 = 10 := by kernel_rfl
theorem one_st : Try.prog.cellsOf 51 = 55 := by kernel_rfl
theorem one_pos : Try.prog.cellsOf 29 = 2 := by kernel_rfl
theorem one_set : Try.prog.cellsOf 39 = 4 := by kernel_rfl
theorem one_spans : Try.prog.cellsOf 43 = 1 := by kernel_rfl
theorem one_span : Try.prog.cellsOf 107 = 2 := by kernel_rfl
theorem one_kids : Try.prog.cellsOf 40 = 1 := by kernel_rfl
theorem one_stmts : Try.prog.cellsOf 22 = 1 := by kernel_rfl
theorem one_mod : Try.prog.cellsOf 24 = 3 := by kernel_rfl
theorem und_kids : Try.prog.underlying 40 = some (.slice 42) := by kernel_rfl
theorem und_stmts : Try.prog.underlying 22 = some (.slice 51) := by kernel_rfl
theorem und_spans : Try.prog.underlying 43 = some (.slice 107) := by kernel_rfl
theorem und_set : Try.prog.underlying 39 = some (.array 4 37) := by kernel_rfl
theorem string_open {fuel : Nat} {base : Nat} {sp : Nat → Bool} {held : Bool} {cs : List Value} {x : DataW H × List MemPlace} (h : DataW.trod enc Try.prog W base sp held fuel 9 cs = some x) : ∃ s : ByteArray, cs = strC s ∧ s.size ≤ maxLen ∧ sB s ≤ Rows.uptoBulk x.1 := by
  obtain ⟨s, hs, hx, h2⟩ := DataW.trod_string Try.underlying9 h
  refine ⟨s, hs, h2, ?_⟩
  rw [hx]
  show s.size + 1 ≤ Rows.uptoBulk (DataW.lit (.string s.data.toList))
  rw [Rows.uptoBulk, Array.length_toList]
  exact Nat.le_refl _
theorem one_le (d : DataW H) : 1 ≤ Rows.uptoBulk d := by
  cases d with
  | lit l => cases l <;> simp [Rows.uptoBulk]
  | _ => simp [Rows.uptoBulk]
theorem names_open {fuel : Nat} {base : Nat} {sp : Nat → Bool} {held : Bool} {cs : List Value} {x : DataW H × List MemPlace} (h : DataW.trod enc Try.prog W base sp held fuel 34 cs = some x) : ∃ (h : Hd) (l : List ByteArray), cs = [.slice h.a l.length h.c] ∧ Reads W (h.v l.length) l ∧ (∀ s ∈ l, s.size ≤ maxLen) ∧ nB l ≤ Rows.uptoBulk x.1 :=
  slice_open (f := strC) (ok := fun s => s.size ≤ maxLen) (B := sB) fuel und_strs one_string (by omega) strC_l (fun _ h => string_open h) (Nat.le_refl _) h
theorem undf_pos : ∃ fs, Try.prog.underlying 29 = some (.struct fs) ∧ fs.toList.map (fun f => (f.type, f.offset)) = [(3, 0), (3, 1)] := ⟨_, Try.underlying29, by kernel_rfl⟩
theorem undf_span : ∃ fs, Try.prog.underlying 107 = some (.struct fs) ∧ fs.toList.map (fun f => (f.type, f.offset)) = [(9, 0), (9, 1)] := ⟨_, Try.underlying107, by kernel_rfl⟩
theorem pos_open {fuel : Nat} {base : Nat} {sp : Nat → Bool} {held : Bool} {cs : List Value} {x : DataW H × List MemPlace} (h : DataW.trod enc Try.prog W base sp held fuel 29 cs = some x) : ∃ a b : Int, cs = [.int .i64 a, .int .i64 b] ∧ i64 a ∧ i64 b := by
  obtain ⟨fs, hu, hf⟩ := undf_pos
  obtain ⟨xs, n, hn, hx, hl, hxl, hat⟩ := DataW.trod_struct hu h
  rw [one_pos] at hl
  have hsz : fs.size = 2 := by have := congrArg List.length hf; simpa using this
  rw [hsz] at hxl
  obtain ⟨f0, e0, t0, o0⟩ := field_at hf 0 _ rfl
  obtain ⟨x0, g0⟩ := some_len hxl (i := 0) (by omega)
  have h0 := (hat 0 f0 e0).trans g0
  rw [t0, o0] at h0
  dsimp only at h0
  rw [one_int] at h0
  obtain ⟨m0, c0, d0, r0⟩ := DataW.trod_int Try.underlying3 h0
  have p0 := chunk c0
  have b0 := one_le x0.1
  obtain ⟨f1, e1, t1, o1⟩ := field_at hf 1 _ rfl
  obtain ⟨x1, g1⟩ := some_len hxl (i := 1) (by omega)
  have h1 := (hat 1 f1 e1).trans g1
  rw [t1, o1] at h1
  dsimp only at h1
  rw [one_int] at h1
  obtain ⟨m1, c1, d1, r1⟩ := DataW.trod_int Try.underlying3 h1
  have p1 := chunk c1
  have b1 := one_le x1.1
  have hend : cs.drop 2 = [] := List.drop_of_length_le (by omega)
  have hend2 : xs.drop 2 = [] := List.drop_of_length_le (by omega)
  have hxs : xs = [x0, x1] := by
    rw [show xs = xs.drop 0 from rfl, drop_at g0, drop_at g1, hend2]
  have hb : Rows.uptoBulk x.1 = Rows.uptoBulk x0.1 + Rows.uptoBulk x1.1 + 1 := by
    rw [hx, Rows.uptoBulk, bulk_all, hxs]
    simp only [List.map_cons, List.map_nil, List.sum_cons, List.sum_nil]; omega
  refine ⟨m0, m1, ?_, r0, r1⟩
  rw [show cs = cs.drop 0 from rfl, p0, p1, show cs.drop (0 + 1 + 1) = [] from hend]
  rfl
theorem set_open {fuel : Nat} {base : Nat} {sp : Nat → Bool} {held : Bool} {cs : List Value} {x : DataW H × List MemPlace} (h : DataW.trod enc Try.prog W base sp held fuel 39 cs = some x) : ∃ a b c d : Int, cs = [.int .u64 a, .int .u64 b, .int .u64 c, .int .u64 d] ∧ u64 a ∧ u64 b ∧ u64 c ∧ u64 d := by
  obtain ⟨xs, n, _, _, hl, hxl, hat⟩ := DataW.trod_array und_set h
  rw [one_set] at hl
  obtain ⟨x0, g0⟩ := some_len hxl (i := 0) (by omega)
  have h0 := (hat 0 (by omega)).trans g0
  rw [one_u64] at h0
  obtain ⟨m0, c0, d0, r0⟩ := DataW.trod_int Try.underlying37 h0
  have p0 := chunk c0
  obtain ⟨x1, g1⟩ := some_len hxl (i := 1) (by omega)
  have h1 := (hat 1 (by omega)).trans g1
  rw [one_u64] at h1
  obtain ⟨m1, c1, d1, r1⟩ := DataW.trod_int Try.underlying37 h1
  have p1 := chunk c1
  obtain ⟨x2, g2⟩ := some_len hxl (i := 2) (by omega)
  have h2 := (hat 2 (by omega)).trans g2
  rw [one_u64] at h2
  obtain ⟨m2, c2, d2, r2⟩ := DataW.trod_int Try.underlying37 h2
  have p2 := chunk c2
  obtain ⟨x3, g3⟩ := some_len hxl (i := 3) (by omega)
  have h3 := (hat 3 (by omega)).trans g3
  rw [one_u64] at h3
  obtain ⟨m3, c3, d3, r3⟩ := DataW.trod_int Try.underlying37 h3
  have p3 := chunk c3
  have hend : cs.drop 4 = [] := List.drop_of_length_le (by omega)
  refine ⟨m0, m1, m2, m3, ?_, r0, r1, r2, r3⟩
  rw [show cs = cs.drop (0 * 1) from rfl, p0, show cs.drop (0 * 1 + 1) = cs.drop (1 * 1) from rfl, p1, show cs.drop (1 * 1 + 1) = cs.drop (2 * 1) from rfl, p2, show cs.drop (2 * 1 + 1) = cs.drop (3 * 1) from rfl, p3, show cs.drop (3 * 1 + 1) = [] from hend]
  rfl
theorem span_open {fuel : Nat} {base : Nat} {sp : Nat → Bool} {held : Bool} {cs : List Value} {x : DataW H × List MemPlace} (h : DataW.trod enc Try.prog W base sp held fuel 107 cs = some x) : ∃ a : ByteArray × ByteArray, cs = spanC a ∧ True ∧ spanB a ≤ Rows.uptoBulk x.1 := by
  obtain ⟨fs, hu, hf⟩ := undf_span
  obtain ⟨xs, n, hn, hx, hl, hxl, hat⟩ := DataW.trod_struct hu h
  rw [one_span] at hl
  have hsz : fs.size = 2 := by have := congrArg List.length hf; simpa using this
  rw [hsz] at hxl
  obtain ⟨f0, e0, t0, o0⟩ := field_at hf 0 _ rfl
  obtain ⟨x0, g0⟩ := some_len hxl (i := 0) (by omega)
  have h0 := (hat 0 f0 e0).trans g0
  rw [t0, o0] at h0
  dsimp only at h0
  rw [one_string] at h0
  obtain ⟨m0, c0, r0, b0⟩ := string_open h0
  have p0 := chunk c0
  obtain ⟨f1, e1, t1, o1⟩ := field_at hf 1 _ rfl
  obtain ⟨x1, g1⟩ := some_len hxl (i := 1) (by omega)
  have h1 := (hat 1 f1 e1).trans g1
  rw [t1, o1] at h1
  dsimp only at h1
  rw [one_string] at h1
  obtain ⟨m1, c1, r1, b1⟩ := string_open h1
  have p1 := chunk c1
  have hend : cs.drop 2 = [] := List.drop_of_length_le (by omega)
  have hend2 : xs.drop 2 = [] := List.drop_of_length_le (by omega)
  have hxs : xs = [x0, x1] := by
    rw [show xs = xs.drop 0 from rfl, drop_at g0, drop_at g1, hend2]
  have hb : Rows.uptoBulk x.1 = Rows.uptoBulk x0.1 + Rows.uptoBulk x1.1 + 1 := by
    rw [hx, Rows.uptoBulk, bulk_all, hxs]
    simp only [List.map_cons, List.map_nil, List.sum_cons, List.sum_nil]; omega
  refine ⟨(m0, m1), ?_, trivial, ?_⟩
  · rw [show cs = cs.drop 0 from rfl, p0, show cs.drop (0 + 1) = cs.drop 1 from rfl, p1, show cs.drop (1 + 1) = [] from hend]
    rfl
  · rw [hb]
    show sB m0 + sB m1 + 1 ≤ _
    omega
theorem spans_open {fuel : Nat} {base : Nat} {sp : Nat → Bool} {held : Bool} {cs : List Value} {x : DataW H × List MemPlace} (h : DataW.trod enc Try.prog W base sp held fuel 43 cs = some x) : ∃ (h : Hd) (l : List (ByteArray × ByteArray)), cs = [.slice h.a l.length h.c] ∧ RRow W 2 spanC (h.v l.length) l ∧ (∀ s ∈ l, True) ∧ (l.map spanB).sum + 1 ≤ Rows.uptoBulk x.1 :=
  slice_open (f := spanC) (ok := fun _ => True) (B := spanB) fuel und_spans one_span (by omega) spanC_len (fun _ h => span_open h) (Nat.le_refl _) h
theorem undf_ns : ∃ fs, Try.prog.underlying 36 = some (.struct fs) ∧ fs.toList.map (fun f => (f.type, f.offset)) = [(4, 0), (4, 1), (4, 2), (34, 3), (34, 4)] := ⟨_, Try.underlying36, by kernel_rfl⟩
theorem ns_open {fuel : Nat} {base : Nat} {sp : Nat → Bool} {held : Bool} {cs : List Value} {x : DataW H × List MemPlace} (h : DataW.trod enc Try.prog W base sp held fuel 36 cs = some x) : ∃ a : NSet, cs = nsC a ∧ a.ok W ∧ a.bk ≤ Rows.uptoBulk x.1 := by
  obtain ⟨fs, hu, hf⟩ := undf_ns
  obtain ⟨xs, n, hn, hx, hl, hxl, hat⟩ := DataW.trod_struct hu h
  rw [one_ns] at hl
  have hsz : fs.size = 5 := by have := congrArg List.length hf; simpa using this
  rw [hsz] at hxl
  obtain ⟨f0, e0, t0, o0⟩ := field_at hf 0 _ rfl
  obtain ⟨x0, g0⟩ := some_len hxl (i := 0) (by omega)
  have h0 := (hat 0 f0 e0).trans g0
  rw [t0, o0] at h0
  dsimp only at h0
  rw [one_bool] at h0
  obtain ⟨m0, c0, d0⟩ := DataW.trod_bool Try.underlying4 h0
  have p0 := chunk c0
  have b0 := one_le x0.1
  obtain ⟨f1, e1, t1, o1⟩ := field_at hf 1 _ rfl
  obtain ⟨x1, g1⟩ := some_len hxl (i := 1) (by omega)
  have h1 := (hat 1 f1 e1).trans g1
  rw [t1, o1] at h1
  dsimp only at h1
  rw [one_bool] at h1
  obtain ⟨m1, c1, d1⟩ := DataW.trod_bool Try.underlying4 h1
  have p1 := chunk c1
  have b1 := one_le x1.1
  obtain ⟨f2, e2, t2, o2⟩ := field_at hf 2 _ rfl
  obtain ⟨x2, g2⟩ := some_len hxl (i := 2) (by omega)
  have h2 := (hat 2 f2 e2).trans g2
  rw [t2, o2] at h2
  dsimp only at h2
  rw [one_bool] at h2
  obtain ⟨m2, c2, d2⟩ := DataW.trod_bool Try.underlying4 h2
  have p2 := chunk c2
  have b2 := one_le x2.1
  obtain ⟨f3, e3, t3, o3⟩ := field_at hf 3 _ rfl
  obtain ⟨x3, g3⟩ := some_len hxl (i := 3) (by omega)
  have h3 := (hat 3 f3 e3).trans g3
  rw [t3, o3] at h3
  dsimp only at h3
  rw [one_names] at h3
  obtain ⟨q3, m3, c3, k3, r3, b3⟩ := names_open h3
  have p3 := chunk c3
  obtain ⟨f4, e4, t4, o4⟩ := field_at hf 4 _ rfl
  obtain ⟨x4, g4⟩ := some_len hxl (i := 4) (by omega)
  have h4 := (hat 4 f4 e4).trans g4
  rw [t4, o4] at h4
  dsimp only at h4
  rw [one_names] at h4
  obtain ⟨q4, m4, c4, k4, r4, b4⟩ := names_open h4
  have p4 := chunk c4
  have hend : cs.drop 5 = [] := List.drop_of_length_le (by omega)
  have hend2 : xs.drop 5 = [] := List.drop_of_length_le (by omega)
  have hxs : xs = [x0, x1, x2, x3, x4] := by
    rw [show xs = xs.drop 0 from rfl, drop_at g0, drop_at g1, drop_at g2, drop_at g3, drop_at g4, hend2]
  have hb : Rows.uptoBulk x.1 = Rows.uptoBulk x0.1 + Rows.uptoBulk x1.1 + Rows.uptoBulk x2.1 + Rows.uptoBulk x3.1 + Rows.uptoBulk x4.1 + 1 := by
    rw [hx, Rows.uptoBulk, bulk_all, hxs]
    simp only [List.map_cons, List.map_nil, List.sum_cons, List.sum_nil]; omega
  refine ⟨⟨m0, m1, m2, q3, m3, q4, m4⟩, ?_, ⟨k3, k4⟩, ?_⟩
  · rw [show cs = cs.drop 0 from rfl, p0, show cs.drop (0 + 1) = cs.drop 1 from rfl, p1, show cs.drop (1 + 1) = cs.drop 2 from rfl, p2, show cs.drop (2 + 1) = cs.drop 3 from rfl, p3, show cs.drop (3 + 1) = cs.drop 4 from rfl, p4, show cs.drop (4 + 1) = [] from hend]
    rfl
  · rw [hb]
    show 4 + nB m3 + nB m4 ≤ _
    omega
theorem undf_lv : ∃ fs, Try.prog.underlying 45 = some (.struct fs) ∧ fs.toList.map (fun f => (f.type, f.offset)) = [(9, 0), (43, 1)] := ⟨_, Try.underlying45, by kernel_rfl⟩
theorem lv_open {fuel : Nat} {base : Nat} {sp : Nat → Bool} {held : Bool} {cs : List Value} {x : DataW H × List MemPlace} (h : DataW.trod enc Try.prog W base sp held fuel 45 cs = some x) : ∃ a : Lvl, cs = lvC a ∧ a.ok W ∧ a.bk ≤ Rows.uptoBulk x.1 := by
  obtain ⟨fs, hu, hf⟩ := undf_lv
  obtain ⟨xs, n, hn, hx, hl, hxl, hat⟩ := DataW.trod_struct hu h
  rw [one_lv] at hl
  have hsz : fs.size = 2 := by have := congrArg List.length hf; simpa using this
  rw [hsz] at hxl
  obtain ⟨f0, e0, t0, o0⟩ := field_at hf 0 _ rfl
  obtain ⟨x0, g0⟩ := some_len hxl (i := 0) (by omega)
  have h0 := (hat 0 f0 e0).trans g0
  rw [t0, o0] at h0
  dsimp only at h0
  rw [one_string] at h0
  obtain ⟨m0, c0, r0, b0⟩ := string_open h0
  have p0 := chunk c0
  obtain ⟨f1, e1, t1, o1⟩ := field_at hf 1 _ rfl
  obtain ⟨x1, g1⟩ := some_len hxl (i := 1) (by omega)
  have h1 := (hat 1 f1 e1).trans g1
  rw [t1, o1] at h1
  dsimp only at h1
  rw [one_spans] at h1
  obtain ⟨q1, m1, c1, k1, r1, b1⟩ := spans_open h1
  have p1 := chunk c1
  have hend : cs.drop 2 = [] := List.drop_of_length_le (by omega)
  have hend2 : xs.drop 2 = [] := List.drop_of_length_le (by omega)
  have hxs : xs = [x0, x1] := by
    rw [show xs = xs.drop 0 from rfl, drop_at g0, drop_at g1, hend2]
  have hb : Rows.uptoBulk x.1 = Rows.uptoBulk x0.1 + Rows.uptoBulk x1.1 + 1 := by
    rw [hx, Rows.uptoBulk, bulk_all, hxs]
    simp only [List.map_cons, List.map_nil, List.sum_cons, List.sum_nil]; omega
  refine ⟨⟨m0, q1, m1⟩, ?_, ⟨k1⟩, ?_⟩
  · rw [show cs = cs.drop 0 from rfl, p0, show cs.drop (0 + 1) = cs.drop 1 from rfl, p1, show cs.drop (1 + 1) = [] from hend]
    rfl
  · rw [hb]
    show sB m0 + ((m1.map spanB).sum + 1) + 1 ≤ _
    omega
theorem undf_rg : ∃ fs, Try.prog.underlying 47 = some (.struct fs) ∧ fs.toList.map (fun f => (f.type, f.offset)) = [(45, 0), (45, 2)] := ⟨_, Try.underlying47, by kernel_rfl⟩
theorem rg_open {fuel : Nat} {base : Nat} {sp : Nat → Bool} {held : Bool} {cs : List Value} {x : DataW H × List MemPlace} (h : DataW.trod enc Try.prog W base sp held fuel 47 cs = some x) : ∃ a : Rng, cs = rgC a ∧ a.ok W ∧ a.bk ≤ Rows.uptoBulk x.1 := by
  obtain ⟨fs, hu, hf⟩ := undf_rg
  obtain ⟨xs, n, hn, hx, hl, hxl, hat⟩ := DataW.trod_struct hu h
  rw [one_rg] at hl
  have hsz : fs.size = 2 := by have := congrArg List.length hf; simpa using this
  rw [hsz] at hxl
  obtain ⟨f0, e0, t0, o0⟩ := field_at hf 0 _ rfl
  obtain ⟨x0, g0⟩ := some_len hxl (i := 0) (by omega)
  have h0 := (hat 0 f0 e0).trans g0
  rw [t0, o0] at h0
  dsimp only at h0
  rw [one_lv] at h0
  obtain ⟨m0, c0, k0, b0⟩ := lv_open h0
  have p0 := chunk c0
  obtain ⟨f1, e1, t1, o1⟩ := field_at hf 1 _ rfl
  obtain ⟨x1, g1⟩ := some_len hxl (i := 1) (by omega)
  have h1 := (hat 1 f1 e1).trans g1
  rw [t1, o1] at h1
  dsimp only at h1
  rw [one_lv] at h1
  obtain ⟨m1, c1, k1, b1⟩ := lv_open h1
  have p1 := chunk c1
  have hend : cs.drop 4 = [] := List.drop_of_length_le (by omega)
  have hend2 : xs.drop 2 = [] := List.drop_of_length_le (by omega)
  have hxs : xs = [x0, x1] := by
    rw [show xs = xs.drop 0 from rfl, drop_at g0, drop_at g1, hend2]
  have hb : Rows.uptoBulk x.1 = Rows.uptoBulk x0.1 + Rows.uptoBulk x1.1 + 1 := by
    rw [hx, Rows.uptoBulk, bulk_all, hxs]
    simp only [List.map_cons, List.map_nil, List.sum_cons, List.sum_nil]; omega
  refine ⟨⟨m0, m1⟩, ?_, ⟨k0, k1⟩, ?_⟩
  · rw [show cs = cs.drop 0 from rfl, p0, show cs.drop (0 + 2) = cs.drop 2 from rfl, p1, show cs.drop (2 + 2) = [] from hend]
    rfl
  · rw [hb]
    show m0.bk + m1.bk + 1 ≤ _
    omega
theorem undf_cx : ∃ fs, Try.prog.underlying 49 = some (.struct fs) ∧ fs.toList.map (fun f => (f.type, f.offset)) = [(9, 0), (9, 1), (9, 2), (47, 3)] := ⟨_, Try.underlying49, by kernel_rfl⟩
theorem cx_open {fuel : Nat} {base : Nat} {sp : Nat → Bool} {held : Bool} {cs : List Value} {x : DataW H × List MemPlace} (h : DataW.trod enc Try.prog W base sp held fuel 49 cs = some x) : ∃ a : Ctx, cs = cxC a ∧ a.rng.ok W ∧ a.bk ≤ Rows.uptoBulk x.1 := by
  obtain ⟨fs, hu, hf⟩ := undf_cx
  obtain ⟨xs, n, hn, hx, hl, hxl, hat⟩ := DataW.trod_struct hu h
  rw [one_cx] at hl
  have hsz : fs.size = 4 := by have := congrArg List.length hf; simpa using this
  rw [hsz] at hxl
  obtain ⟨f0, e0, t0, o0⟩ := field_at hf 0 _ rfl
  obtain ⟨x0, g0⟩ := some_len hxl (i := 0) (by omega)
  have h0 := (hat 0 f0 e0).trans g0
  rw [t0, o0] at h0
  dsimp only at h0
  rw [one_string] at h0
  obtain ⟨m0, c0, r0, b0⟩ := string_open h0
  have p0 := chunk c0
  obtain ⟨f1, e1, t1, o1⟩ := field_at hf 1 _ rfl
  obtain ⟨x1, g1⟩ := some_len hxl (i := 1) (by omega)
  have h1 := (hat 1 f1 e1).trans g1
  rw [t1, o1] at h1
  dsimp only at h1
  rw [one_string] at h1
  obtain ⟨m1, c1, r1, b1⟩ := string_open h1
  have p1 := chunk c1
  obtain ⟨f2, e2, t2, o2⟩ := field_at hf 2 _ rfl
  obtain ⟨x2, g2⟩ := some_len hxl (i := 2) (by omega)
  have h2 := (hat 2 f2 e2).trans g2
  rw [t2, o2] at h2
  dsimp only at h2
  rw [one_string] at h2
  obtain ⟨m2, c2, r2, b2⟩ := string_open h2
  have p2 := chunk c2
  obtain ⟨f3, e3, t3, o3⟩ := field_at hf 3 _ rfl
  obtain ⟨x3, g3⟩ := some_len hxl (i := 3) (by omega)
  have h3 := (hat 3 f3 e3).trans g3
  rw [t3, o3] at h3
  dsimp only at h3
  rw [one_rg] at h3
  obtain ⟨m3, c3, k3, b3⟩ := rg_open h3
  have p3 := chunk c3
  have hend : cs.drop 7 = [] := List.drop_of_length_le (by omega)
  have hend2 : xs.drop 4 = [] := List.drop_of_length_le (by omega)
  have hxs : xs = [x0, x1, x2, x3] := by
    rw [show xs = xs.drop 0 from rfl, drop_at g0, drop_at g1, drop_at g2, drop_at g3, hend2]
  have hb : Rows.uptoBulk x.1 = Rows.uptoBulk x0.1 + Rows.uptoBulk x1.1 + Rows.uptoBulk x2.1 + Rows.uptoBulk x3.1 + 1 := by
    rw [hx, Rows.uptoBulk, bulk_all, hxs]
    simp only [List.map_cons, List.map_nil, List.sum_cons, List.sum_nil]; omega
  refine ⟨⟨m0, m1, m2, m3⟩, ?_, k3, ?_⟩
  · rw [show cs = cs.drop 0 from rfl, p0, show cs.drop (0 + 1) = cs.drop 1 from rfl, p1, show cs.drop (1 + 1) = cs.drop 2 from rfl, p2, show cs.drop (2 + 1) = cs.drop 3 from rfl, p3, show cs.drop (3 + 4) = [] from hend]
    rfl
  · rw [hb]
    show sB m0 + sB m1 + sB m2 + m3.bk + 1 ≤ _
    omega
theorem undf_ex : ∃ fs, Try.prog.underlying 42 = some (.struct fs) ∧ fs.toList.map (fun f => (f.type, f.offset)) = [(3, 0), (3, 1), (3, 2), (3, 3), (34, 4), (39, 5), (40, 9)] := ⟨_, Try.underlying42, by kernel_rfl⟩
theorem ex_open0 (N : Nat) (ih : ∀ {fuel : Nat} {base : Nat} {sp : Nat → Bool} {held : Bool} {cs : List Value} {x : DataW H × List MemPlace}, fuel < N → DataW.trod enc Try.prog W base sp held fuel 42 cs = some x → ∃ a : Ex, cs = exC a ∧ (a.ok W ∧ a.rg) ∧ a.bk ≤ Rows.uptoBulk x.1) {fuel : Nat} {base : Nat} {sp : Nat → Bool} {held : Bool} {cs : List Value} {x : DataW H × List MemPlace} (hN : fuel ≤ N) (h : DataW.trod enc Try.prog W base sp held fuel 42 cs = some x) : ∃ a : Ex, cs = exC a ∧ (a.ok W ∧ a.rg) ∧ a.bk ≤ Rows.uptoBulk x.1 := by
  obtain ⟨fs, hu, hf⟩ := undf_ex
  obtain ⟨xs, n, hn, hx, hl, hxl, hat⟩ := DataW.trod_struct hu h
  rw [one_ex] at hl
  have hsz : fs.size = 7 := by have := congrArg List.length hf; simpa using this
  rw [hsz] at hxl
  obtain ⟨f0, e0, t0, o0⟩ := field_at hf 0 _ rfl
  obtain ⟨x0, g0⟩ := some_len hxl (i := 0) (by omega)
  have h0 := (hat 0 f0 e0).trans g0
  rw [t0, o0] at h0
  dsimp only at h0
  rw [one_int] at h0
  obtain ⟨m0, c0, d0, r0⟩ := DataW.trod_int Try.underlying3 h0
  have p0 := chunk c0
  have b0 := one_le x0.1
  obtain ⟨f1, e1, t1, o1⟩ := field_at hf 1 _ rfl
  obtain ⟨x1, g1⟩ := some_len hxl (i := 1) (by omega)
  have h1 := (hat 1 f1 e1).trans g1
  rw [t1, o1] at h1
  dsimp only at h1
  rw [one_int] at h1
  obtain ⟨m1, c1, d1, r1⟩ := DataW.trod_int Try.underlying3 h1
  have p1 := chunk c1
  have b1 := one_le x1.1
  obtain ⟨f2, e2, t2, o2⟩ := field_at hf 2 _ rfl
  obtain ⟨x2, g2⟩ := some_len hxl (i := 2) (by omega)
  have h2 := (hat 2 f2 e2).trans g2
  rw [t2, o2] at h2
  dsimp only at h2
  rw [one_int] at h2
  obtain ⟨m2, c2, d2, r2⟩ := DataW.trod_int Try.underlying3 h2
  have p2 := chunk c2
  have b2 := one_le x2.1
  obtain ⟨f3, e3, t3, o3⟩ := field_at hf 3 _ rfl
  obtain ⟨x3, g3⟩ := some_len hxl (i := 3) (by omega)
  have h3 := (hat 3 f3 e3).trans g3
  rw [t3, o3] at h3
  dsimp only at h3
  rw [one_int] at h3
  obtain ⟨m3, c3, d3, r3⟩ := DataW.trod_int Try.underlying3 h3
  have p3 := chunk c3
  have b3 := one_le x3.1
  obtain ⟨f4, e4, t4, o4⟩ := field_at hf 4 _ rfl
  obtain ⟨x4, g4⟩ := some_len hxl (i := 4) (by omega)
  have h4 := (hat 4 f4 e4).trans g4
  rw [t4, o4] at h4
  dsimp only at h4
  rw [one_names] at h4
  obtain ⟨q4, m4, c4, k4, r4, b4⟩ := names_open h4
  have p4 := chunk c4
  obtain ⟨f5, e5, t5, o5⟩ := field_at hf 5 _ rfl
  obtain ⟨x5, g5⟩ := some_len hxl (i := 5) (by omega)
  have h5 := (hat 5 f5 e5).trans g5
  rw [t5, o5] at h5
  dsimp only at h5
  rw [one_set] at h5
  obtain ⟨u0, u1, u2, u3, c5, v0, v1, v2, v3⟩ := set_open h5
  have p5 := chunk c5
  have b5 := one_le x5.1
  obtain ⟨f6, e6, t6, o6⟩ := field_at hf 6 _ rfl
  obtain ⟨x6, g6⟩ := some_len hxl (i := 6) (by omega)
  have h6 := (hat 6 f6 e6).trans g6
  rw [t6, o6] at h6
  dsimp only at h6
  rw [one_kids] at h6
  obtain ⟨q6, m6, c6, k6, r6, b6⟩ := slice_open (f := exC) (ok := fun e => e.ok W ∧ e.rg) (B := Ex.bk) N und_kids one_ex (by omega) exC_len (fun hlt hh => ih hlt hh) (by omega) h6
  have p6 := chunk c6
  have hend : cs.drop 10 = [] := List.drop_of_length_le (by omega)
  have hend2 : xs.drop 7 = [] := List.drop_of_length_le (by omega)
  have hxs : xs = [x0, x1, x2, x3, x4, x5, x6] := by
    rw [show xs = xs.drop 0 from rfl, drop_at g0, drop_at g1, drop_at g2, drop_at g3, drop_at g4, drop_at g5, drop_at g6, hend2]
  have hb : Rows.uptoBulk x.1 = Rows.uptoBulk x0.1 + Rows.uptoBulk x1.1 + Rows.uptoBulk x2.1 + Rows.uptoBulk x3.1 + Rows.uptoBulk x4.1 + Rows.uptoBulk x5.1 + Rows.uptoBulk x6.1 + 1 := by
    rw [hx, Rows.uptoBulk, bulk_all, hxs]
    simp only [List.map_cons, List.map_nil, List.sum_cons, List.sum_nil]; omega
  refine ⟨.mk ⟨m0, m1, m2, m3, q4, m4, u0, u1, u2, u3, q6⟩ m6, ?_, ⟨?_, ?_⟩, ?_⟩
  · rw [show cs = cs.drop 0 from rfl, p0, show cs.drop (0 + 1) = cs.drop 1 from rfl, p1, show cs.drop (1 + 1) = cs.drop 2 from rfl, p2, show cs.drop (2 + 1) = cs.drop 3 from rfl, p3, show cs.drop (3 + 1) = cs.drop 4 from rfl, p4, show cs.drop (4 + 1) = cs.drop 5 from rfl, p5, show cs.drop (5 + 4) = cs.drop 9 from rfl, p6, show cs.drop (9 + 1) = [] from hend]
    rfl
  · unfold Ex.ok; exact ⟨k4, k6, Ex.oks_of fun x hx => (r6 x hx).1⟩
  · unfold Ex.rg; exact ⟨⟨r0, r1, r2, r3, v0, v1, v2, v3⟩, Ex.rgs_of fun x hx => (r6 x hx).2⟩
  · rw [hb]
    rw [Ex.bk, Ex.bks_sum]
    show 6 + nB m4 + _ ≤ _
    omega
theorem ex_open1 : ∀ (N : Nat) {fuel : Nat} {base : Nat} {sp : Nat → Bool} {held : Bool} {cs : List Value} {x : DataW H × List MemPlace}, fuel < N → DataW.trod enc Try.prog W base sp held fuel 42 cs = some x → ∃ a : Ex, cs = exC a ∧ (a.ok W ∧ a.rg) ∧ a.bk ≤ Rows.uptoBulk x.1
  | 0, _, _, _, _, _, _, h, _ => absurd h (Nat.not_lt_zero _)
  | N + 1, _, _, _, _, _, _, hl, h => ex_open0 N (fun h1 h2 => ex_open1 N h1 h2) (by omega) h
theorem ex_open {fuel : Nat} {base : Nat} {sp : Nat → Bool} {held : Bool} {cs : List Value} {x : DataW H × List MemPlace} (h : DataW.trod enc Try.prog W base sp held fuel 42 cs = some x) : ∃ a : Ex, cs = exC a ∧ (a.ok W ∧ a.rg) ∧ a.bk ≤ Rows.uptoBulk x.1 := ex_open1 (fuel + 1) (Nat.lt_succ_self _) h
theorem undf_st : ∃ fs, Try.prog.underlying 51 = some (.struct fs) ∧ fs.toList.map (fun f => (f.type, f.offset)) = [(3, 0), (3, 1), (29, 2), (9, 4), (9, 5), (9, 6), (34, 7), (34, 8), (36, 9), (36, 14), (36, 19), (36, 24), (42, 29), (45, 39), (47, 41), (49, 45), (4, 52), (22, 53), (22, 54)] := ⟨_, Try.underlying51, by kernel_rfl⟩
theorem st_open0 (N : Nat) (ih : ∀ {fuel : Nat} {base : Nat} {sp : Nat → Bool} {held : Bool} {cs : List Value} {x : DataW H × List MemPlace}, fuel < N → DataW.trod enc Try.prog W base sp held fuel 51 cs = some x → ∃ a : St, cs = stC a ∧ (a.ok W ∧ a.rg) ∧ a.bk ≤ Rows.uptoBulk x.1) {fuel : Nat} {base : Nat} {sp : Nat → Bool} {held : Bool} {cs : List Value} {x : DataW H × List MemPlace} (hN : fuel ≤ N) (h : DataW.trod enc Try.prog W base sp held fuel 51 cs = some x) : ∃ a : St, cs = stC a ∧ (a.ok W ∧ a.rg) ∧ a.bk ≤ Rows.uptoBulk x.1 := by
  obtain ⟨fs, hu, hf⟩ := undf_st
  obtain ⟨xs, n, hn, hx, hl, hxl, hat⟩ := DataW.trod_struct hu h
  rw [one_st] at hl
  have hsz : fs.size = 19 := by have := congrArg List.length hf; simpa using this
  rw [hsz] at hxl
  obtain ⟨f0, e0, t0, o0⟩ := field_at hf 0 _ rfl
  obtain ⟨x0, g0⟩ := some_len hxl (i := 0) (by omega)
  have h0 := (hat 0 f0 e0).trans g0
  rw [t0, o0] at h0
  dsimp only at h0
  rw [one_int] at h0
  obtain ⟨m0, c0, d0, r0⟩ := DataW.trod_int Try.underlying3 h0
  have p0 := chunk c0
  have b0 := one_le x0.1
  obtain ⟨f1, e1, t1, o1⟩ := field_at hf 1 _ rfl
  obtain ⟨x1, g1⟩ := some_len hxl (i := 1) (by omega)
  have h1 := (hat 1 f1 e1).trans g1
  rw [t1, o1] at h1
  dsimp only at h1
  rw [one_int] at h1
  obtain ⟨m1, c1, d1, r1⟩ := DataW.trod_int Try.underlying3 h1
  have p1 := chunk c1
  have b1 := one_le x1.1
  obtain ⟨f2, e2, t2, o2⟩ := field_at hf 2 _ rfl
  obtain ⟨x2, g2⟩ := some_len hxl (i := 2) (by omega)
  have h2 := (hat 2 f2 e2).trans g2
  rw [t2, o2] at h2
  dsimp only at h2
  rw [one_pos] at h2
  obtain ⟨m2, n2, c2, r2, s2⟩ := pos_open h2
  have p2 := chunk c2
  have b2 := one_le x2.1
  obtain ⟨f3, e3, t3, o3⟩ := field_at hf 3 _ rfl
  obtain ⟨x3, g3⟩ := some_len hxl (i := 3) (by omega)
  have h3 := (hat 3 f3 e3).trans g3
  rw [t3, o3] at h3
  dsimp only at h3
  rw [one_string] at h3
  obtain ⟨m3, c3, r3, b3⟩ := string_open h3
  have p3 := chunk c3
  obtain ⟨f4, e4, t4, o4⟩ := field_at hf 4 _ rfl
  obtain ⟨x4, g4⟩ := some_len hxl (i := 4) (by omega)
  have h4 := (hat 4 f4 e4).trans g4
  rw [t4, o4] at h4
  dsimp only at h4
  rw [one_string] at h4
  obtain ⟨m4, c4, r4, b4⟩ := string_open h4
  have p4 := chunk c4
  obtain ⟨f5, e5, t5, o5⟩ := field_at hf 5 _ rfl
  obtain ⟨x5, g5⟩ := some_len hxl (i := 5) (by omega)
  have h5 := (hat 5 f5 e5).trans g5
  rw [t5, o5] at h5
  dsimp only at h5
  rw [one_string] at h5
  obtain ⟨m5, c5, r5, b5⟩ := string_open h5
  have p5 := chunk c5
  obtain ⟨f6, e6, t6, o6⟩ := field_at hf 6 _ rfl
  obtain ⟨x6, g6⟩ := some_len hxl (i := 6) (by omega)
  have h6 := (hat 6 f6 e6).trans g6
  rw [t6, o6] at h6
  dsimp only at h6
  rw [one_names] at h6
  obtain ⟨q6, m6, c6, k6, r6, b6⟩ := names_open h6
  have p6 := chunk c6
  obtain ⟨f7, e7, t7, o7⟩ := field_at hf 7 _ rfl
  obtain ⟨x7, g7⟩ := some_len hxl (i := 7) (by omega)
  have h7 := (hat 7 f7 e7).trans g7
  rw [t7, o7] at h7
  dsimp only at h7
  rw [one_names] at h7
  obtain ⟨q7, m7, c7, k7, r7, b7⟩ := names_open h7
  have p7 := chunk c7
  obtain ⟨f8, e8, t8, o8⟩ := field_at hf 8 _ rfl
  obtain ⟨x8, g8⟩ := some_len hxl (i := 8) (by omega)
  have h8 := (hat 8 f8 e8).trans g8
  rw [t8, o8] at h8
  dsimp only at h8
  rw [one_ns] at h8
  obtain ⟨m8, c8, k8, b8⟩ := ns_open h8
  have p8 := chunk c8
  obtain ⟨f9, e9, t9, o9⟩ := field_at hf 9 _ rfl
  obtain ⟨x9, g9⟩ := some_len hxl (i := 9) (by omega)
  have h9 := (hat 9 f9 e9).trans g9
  rw [t9, o9] at h9
  dsimp only at h9
  rw [one_ns] at h9
  obtain ⟨m9, c9, k9, b9⟩ := ns_open h9
  have p9 := chunk c9
  obtain ⟨f10, e10, t10, o10⟩ := field_at hf 10 _ rfl
  obtain ⟨x10, g10⟩ := some_len hxl (i := 10) (by omega)
  have h10 := (hat 10 f10 e10).trans g10
  rw [t10, o10] at h10
  dsimp only at h10
  rw [one_ns] at h10
  obtain ⟨m10, c10, k10, b10⟩ := ns_open h10
  have p10 := chunk c10
  obtain ⟨f11, e11, t11, o11⟩ := field_at hf 11 _ rfl
  obtain ⟨x11, g11⟩ := some_len hxl (i := 11) (by omega)
  have h11 := (hat 11 f11 e11).trans g11
  rw [t11, o11] at h11
  dsimp only at h11
  rw [one_ns] at h11
  obtain ⟨m11, c11, k11, b11⟩ := ns_open h11
  have p11 := chunk c11
  obtain ⟨f12, e12, t12, o12⟩ := field_at hf 12 _ rfl
  obtain ⟨x12, g12⟩ := some_len hxl (i := 12) (by omega)
  have h12 := (hat 12 f12 e12).trans g12
  rw [t12, o12] at h12
  dsimp only at h12
  rw [one_ex] at h12
  obtain ⟨m12, c12, k12, b12⟩ := ex_open h12
  have p12 := chunk c12
  obtain ⟨f13, e13, t13, o13⟩ := field_at hf 13 _ rfl
  obtain ⟨x13, g13⟩ := some_len hxl (i := 13) (by omega)
  have h13 := (hat 13 f13 e13).trans g13
  rw [t13, o13] at h13
  dsimp only at h13
  rw [one_lv] at h13
  obtain ⟨m13, c13, k13, b13⟩ := lv_open h13
  have p13 := chunk c13
  obtain ⟨f14, e14, t14, o14⟩ := field_at hf 14 _ rfl
  obtain ⟨x14, g14⟩ := some_len hxl (i := 14) (by omega)
  have h14 := (hat 14 f14 e14).trans g14
  rw [t14, o14] at h14
  dsimp only at h14
  rw [one_rg] at h14
  obtain ⟨m14, c14, k14, b14⟩ := rg_open h14
  have p14 := chunk c14
  obtain ⟨f15, e15, t15, o15⟩ := field_at hf 15 _ rfl
  obtain ⟨x15, g15⟩ := some_len hxl (i := 15) (by omega)
  have h15 := (hat 15 f15 e15).trans g15
  rw [t15, o15] at h15
  dsimp only at h15
  rw [one_cx] at h15
  obtain ⟨m15, c15, k15, b15⟩ := cx_open h15
  have p15 := chunk c15
  obtain ⟨f16, e16, t16, o16⟩ := field_at hf 16 _ rfl
  obtain ⟨x16, g16⟩ := some_len hxl (i := 16) (by omega)
  have h16 := (hat 16 f16 e16).trans g16
  rw [t16, o16] at h16
  dsimp only at h16
  rw [one_bool] at h16
  obtain ⟨m16, c16, d16⟩ := DataW.trod_bool Try.underlying4 h16
  have p16 := chunk c16
  have b16 := one_le x16.1
  obtain ⟨f17, e17, t17, o17⟩ := field_at hf 17 _ rfl
  obtain ⟨x17, g17⟩ := some_len hxl (i := 17) (by omega)
  have h17 := (hat 17 f17 e17).trans g17
  rw [t17, o17] at h17
  dsimp only at h17
  rw [one_stmts] at h17
  obtain ⟨q17, m17, c17, k17, r17, b17⟩ := slice_open (f := stC) (ok := fun e => e.ok W ∧ e.rg) (B := St.bk) N und_stmts one_st (by omega) stC_len (fun hlt hh => ih hlt hh) (by omega) h17
  have p17 := chunk c17
  obtain ⟨f18, e18, t18, o18⟩ := field_at hf 18 _ rfl
  obtain ⟨x18, g18⟩ := some_len hxl (i := 18) (by omega)
  have h18 := (hat 18 f18 e18).trans g18
  rw [t18, o18] at h18
  dsimp only at h18
  rw [one_stmts] at h18
  obtain ⟨q18, m18, c18, k18, r18, b18⟩ := slice_open (f := stC) (ok := fun e => e.ok W ∧ e.rg) (B := St.bk) N und_stmts one_st (by omega) stC_len (fun hlt hh => ih hlt hh) (by omega) h18
  have p18 := chunk c18
  have hend : cs.drop 55 = [] := List.drop_of_length_le (by omega)
  have hend2 : xs.drop 19 = [] := List.drop_of_length_le (by omega)
  have hxs : xs = [x0, x1, x2, x3, x4, x5, x6, x7, x8, x9, x10, x11, x12, x13, x14, x15, x16, x17, x18] := by
    rw [show xs = xs.drop 0 from rfl, drop_at g0, drop_at g1, drop_at g2, drop_at g3, drop_at g4, drop_at g5, drop_at g6, drop_at g7, drop_at g8, drop_at g9, drop_at g10, drop_at g11, drop_at g12, drop_at g13, drop_at g14, drop_at g15, drop_at g16, drop_at g17, drop_at g18, hend2]
  have hb : Rows.uptoBulk x.1 = Rows.uptoBulk x0.1 + Rows.uptoBulk x1.1 + Rows.uptoBulk x2.1 + Rows.uptoBulk x3.1 + Rows.uptoBulk x4.1 + Rows.uptoBulk x5.1 + Rows.uptoBulk x6.1 + Rows.uptoBulk x7.1 + Rows.uptoBulk x8.1 + Rows.uptoBulk x9.1 + Rows.uptoBulk x10.1 + Rows.uptoBulk x11.1 + Rows.uptoBulk x12.1 + Rows.uptoBulk x13.1 + Rows.uptoBulk x14.1 + Rows.uptoBulk x15.1 + Rows.uptoBulk x16.1 + Rows.uptoBulk x17.1 + Rows.uptoBulk x18.1 + 1 := by
    rw [hx, Rows.uptoBulk, bulk_all, hxs]
    simp only [List.map_cons, List.map_nil, List.sum_cons, List.sum_nil]; omega
  refine ⟨.mk ⟨m0, m1, m2, n2, m3, m4, m5, q6, m6, q7, m7, m8, m9, m10, m11, m12, m13, m14, m15, m16, q17, q18⟩ m17 m18, ?_, ⟨?_, ?_⟩, ?_⟩
  · rw [show cs = cs.drop 0 from rfl, p0, show cs.drop (0 + 1) = cs.drop 1 from rfl, p1, show cs.drop (1 + 1) = cs.drop 2 from rfl, p2, show cs.drop (2 + 2) = cs.drop 4 from rfl, p3, show cs.drop (4 + 1) = cs.drop 5 from rfl, p4, show cs.drop (5 + 1) = cs.drop 6 from rfl, p5, show cs.drop (6 + 1) = cs.drop 7 from rfl, p6, show cs.drop (7 + 1) = cs.drop 8 from rfl, p7, show cs.drop (8 + 1) = cs.drop 9 from rfl, p8, show cs.drop (9 + 5) = cs.drop 14 from rfl, p9, show cs.drop (14 + 5) = cs.drop 19 from rfl, p10, show cs.drop (19 + 5) = cs.drop 24 from rfl, p11, show cs.drop (24 + 5) = cs.drop 29 from rfl, p12, show cs.drop (29 + 10) = cs.drop 39 from rfl, p13, show cs.drop (39 + 2) = cs.drop 41 from rfl, p14, show cs.drop (41 + 4) = cs.drop 45 from rfl, p15, show cs.drop (45 + 7) = cs.drop 52 from rfl, p16, show cs.drop (52 + 1) = cs.drop 53 from rfl, p17, show cs.drop (53 + 1) = cs.drop 54 from rfl, p18, show cs.drop (54 + 1) = [] from hend]
    rfl
  · unfold St.ok; exact ⟨⟨k6, k7, k8, k9, k10, k11, k12.1, k13, k14, k15⟩, k17, St.oks_of fun x hx => (r17 x hx).1, k18, St.oks_of fun x hx => (r18 x hx).1⟩
  · unfold St.rg; exact ⟨⟨r0, r1, r2, s2, k12.2⟩, St.rgs_of fun x hx => (r17 x hx).2, St.rgs_of fun x hx => (r18 x hx).2⟩
  · rw [hb]
    rw [St.bk, St.bks_sum, St.bks_sum]
    show 5 + (sB m3 + sB m4 + sB m5 + nB m6 + nB m7 + m8.bk + m9.bk + m10.bk + m11.bk + m12.bk + m13.bk + m14.bk + m15.bk) + _ + _ ≤ _
    omega
theorem st_open1 : ∀ (N : Nat) {fuel : Nat} {base : Nat} {sp : Nat → Bool} {held : Bool} {cs : List Value} {x : DataW H × List MemPlace}, fuel < N → DataW.trod enc Try.prog W base sp held fuel 51 cs = some x → ∃ a : St, cs = stC a ∧ (a.ok W ∧ a.rg) ∧ a.bk ≤ Rows.uptoBulk x.1
  | 0, _, _, _, _, _, _, h, _ => absurd h (Nat.not_lt_zero _)
  | N + 1, _, _, _, _, _, _, hl, h => st_open0 N (fun h1 h2 => st_open1 N h1 h2) (by omega) h
theorem st_open {fuel : Nat} {base : Nat} {sp : Nat → Bool} {held : Bool} {cs : List Value} {x : DataW H × List MemPlace} (h : DataW.trod enc Try.prog W base sp held fuel 51 cs = some x) : ∃ a : St, cs = stC a ∧ (a.ok W ∧ a.rg) ∧ a.bk ≤ Rows.uptoBulk x.1 := st_open1 (fuel + 1) (Nat.lt_succ_self _) h
theorem stmts_open {fuel : Nat} {base : Nat} {sp : Nat → Bool} {held : Bool} {cs : List Value} {x : DataW H × List MemPlace} (h : DataW.trod enc Try.prog W base sp held fuel 22 cs = some x) : ∃ (h : Hd) (l : List St), cs = [.slice h.a l.length h.c] ∧ RRow W 55 stC (h.v l.length) l ∧ (∀ s ∈ l, s.ok W ∧ s.rg) ∧ (l.map St.bk).sum + 1 ≤ Rows.uptoBulk x.1 :=
  slice_open (f := stC) (ok := fun s => s.ok W ∧ s.rg) (B := St.bk) fuel und_stmts one_st (by omega) stC_len (fun _ h => st_open h) (Nat.le_refl _) h

theorem undf_mod : ∃ fs, Try.prog.underlying 24 = some (.struct fs) ∧ fs.toList.map (fun f => (f.type, f.offset)) = [(9, 0), (3, 1), (22, 2)] := ⟨_, Try.underlying24, by kernel_rfl⟩
theorem mod_open {fuel : Nat} {base : Nat} {sp : Nat → Bool} {held : Bool} {cs : List Value} {x : DataW H × List MemPlace} (h : DataW.trod enc Try.prog W base sp held fuel 24 cs = some x) : ∃ a : Md, cs = mdC a ∧ (RRow W 55 stC (a.hs.v a.stmts.length) a.stmts ∧ (∀ s ∈ a.stmts, s.ok W ∧ s.rg)) ∧ sB a.name + (a.stmts.map St.bk).sum + 1 ≤ Rows.uptoBulk x.1 := by
  obtain ⟨fs, hu, hf⟩ := undf_mod
  obtain ⟨xs, n, hn, hx, hl, hxl, hat⟩ := DataW.trod_struct hu h
  rw [one_mod] at hl
  have hsz : fs.size = 3 := by have := congrArg List.length hf; simpa using this
  rw [hsz] at hxl
  obtain ⟨f0, e0, t0, o0⟩ := field_at hf 0 _ rfl
  obtain ⟨x0, g0⟩ := some_len hxl (i := 0) (by omega)
  have h0 := (hat 0 f0 e0).trans g0
  rw [t0, o0] at h0
  dsimp only at h0
  rw [one_string] at h0
  obtain ⟨m0, c0, r0, b0⟩ := string_open h0
  have p0 := chunk c0
  obtain ⟨f1, e1, t1, o1⟩ := field_at hf 1 _ rfl
  obtain ⟨x1, g1⟩ := some_len hxl (i := 1) (by omega)
  have h1 := (hat 1 f1 e1).trans g1
  rw [t1, o1] at h1
  dsimp only at h1
  rw [one_int] at h1
  obtain ⟨m1, c1, d1, r1⟩ := DataW.trod_int Try.underlying3 h1
  have p1 := chunk c1
  have b1 := one_le x1.1
  obtain ⟨f2, e2, t2, o2⟩ := field_at hf 2 _ rfl
  obtain ⟨x2, g2⟩ := some_len hxl (i := 2) (by omega)
  have h2 := (hat 2 f2 e2).trans g2
  rw [t2, o2] at h2
  dsimp only at h2
  rw [one_stmts] at h2
  obtain ⟨q2, m2, c2, k2, r2, b2⟩ := stmts_open h2
  have p2 := chunk c2
  have hend : cs.drop 3 = [] := List.drop_of_length_le (by omega)
  have hend2 : xs.drop 3 = [] := List.drop_of_length_le (by omega)
  have hxs : xs = [x0, x1, x2] := by
    rw [show xs = xs.drop 0 from rfl, drop_at g0, drop_at g1, drop_at g2, hend2]
  have hb : Rows.uptoBulk x.1 = Rows.uptoBulk x0.1 + Rows.uptoBulk x1.1 + Rows.uptoBulk x2.1 + 1 := by
    rw [hx, Rows.uptoBulk, bulk_all, hxs]
    simp only [List.map_cons, List.map_nil, List.sum_cons, List.sum_nil]; omega
  refine ⟨⟨m0, m1, q2, m2⟩, ?_, ⟨k2, r2⟩, ?_⟩
  · rw [show cs = cs.drop 0 from rfl, p0, show cs.drop (0 + 1) = cs.drop 1 from rfl, p1, show cs.drop (1 + 1) = cs.drop 2 from rfl, p2, show cs.drop (2 + 1) = [] from hend]
    rfl
  · rw [hb]
    show sB m0 + (m2.map St.bk).sum + 1 ≤ _
    omega
end
end Go.Proofs.Ytnifgkgdphlleaa
