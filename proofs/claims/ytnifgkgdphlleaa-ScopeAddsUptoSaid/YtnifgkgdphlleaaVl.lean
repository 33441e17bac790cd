/- Block: what it answers, plainly; what its first loop keeps. -/
import Derived.Test.YtnifgkgdphlleaaVk
set_option linter.unusedSimpArgs false
set_option linter.unusedVariables false
namespace Go.Proofs.Ytnifgkgdphlleaa
open Go.RowKit Tk
def clashGP (sp : Int → Int) (x : PS) : List PS → Bool → Int
  | [], t => if t then 12 else 0
  | y :: l, t => if sp y.kind ≠ sp x.kind ∨ y.name ≠ x.name then clashGP sp x l t else if y.kind ≠ x.kind then 13 else clashGP sp x l (t || (!x.req && !y.req))
def clashPS (sp : Int → Int) (l : List PS) (x : PS) : Int := clashGP sp x l (!x.req && isObj x.kind x.name)
theorem clashG_ps (sp : Int → Int) (x : Sy) : ∀ (l : List Sy) (t : Bool), clashG sp x l t = clashGP sp x.ps (l.map Sy.ps) t
  | [], t => rfl
  | y :: l, t => by
    unfold clashG
    rw [List.map_cons, clashGP, clashG_ps sp x l, clashG_ps sp x l]
    rfl
theorem clash_ps (sp : Int → Int) (l : List Sy) (x : Sy) : clashP sp l x = clashPS sp (l.map Sy.ps) x.ps := clashG_ps sp x l _
/-- the first clash -/
def scanB (sp : Int → Int) : List PS → List PS → Option (Int × PS)
  | _, [] => none
  | pre, x :: l => if clashPS sp pre x ≠ 0 then some (clashPS sp pre x, x) else scanB sp (pre ++ [x]) l
theorem scan_snoc {sp : Int → Int} {x : PS} : ∀ {l pre : List PS}, scanB sp pre l = none → scanB sp pre (l ++ [x]) = if clashPS sp (pre ++ l) x ≠ 0 then some (clashPS sp (pre ++ l) x, x) else none
  | [], pre, _ => by simp [scanB]
  | y :: l, pre, h => by
    unfold scanB at h
    split at h
    · cases h
    · rename_i hc
      rw [List.cons_append, scanB, if_neg hc, scan_snoc h]
      simp
theorem scan_pre {sp : Int → Int} {q : Int × PS} : ∀ {l m pre : List PS}, scanB sp pre l = some q → scanB sp pre (l ++ m) = some q
  | y :: l, m, pre, h => by
    unfold scanB at h
    rw [List.cons_append, scanB]
    split at h
    · rename_i hc; rw [if_pos hc]; exact h
    · rename_i hc; rw [if_neg hc]; exact scan_pre h
def declB (all : List PS) (k : Int × ByteArray) : Bool := all.any fun y => !y.req && decide (y.key = k)
def stepB (all : List PS) (out : List PS) (x : PS) : List PS :=
  if (x.req && (declB all x.key || isObj x.kind x.name)) = true then out
  else match idxP x.key out with
    | some i => if x.req = true then out.modify i (·.add x.perms) else out ++ [x]
    | none => out ++ [x]
def mergeB (all : List PS) : List PS := all.foldl (stepB all) []
structure FT where
  code : Int
  line : Int
  col : Int
  name : ByteArray
def FT.zero : FT := ⟨0, 0, 0, ⟨#[]⟩⟩
def FT.v (f : FT) : Value := .agg #[.int .i64 f.code, .int .i64 f.line, .int .i64 f.col, .string f.name]
def blockB (sp : Int → Int) (all : List PS) : List PS × FT :=
  match scanB sp [] all with
  | some (e, x) => ([], ⟨e, x.line, x.col, x.name⟩)
  | none => (mergeB all, FT.zero)
theorem clashGP_true {sp : Int → Int} {x : PS} : ∀ l : List PS, clashGP sp x l true ≠ 0
  | [] => by simp [clashGP]
  | y :: l => by
    unfold clashGP
    split
    · exact clashGP_true l
    · split
      · decide
      · rw [Bool.true_or]; exact clashGP_true l
theorem clashGP_mem {sp : Int → Int} {x z : PS} (h1 : z.kind = x.kind) (h2 : z.name = x.name) (h3 : z.req = false) (h4 : x.req = false) : ∀ (l : List PS) (t : Bool), z ∈ l → clashGP sp x l t ≠ 0
  | y :: l, t, hm => by
    unfold clashGP
    rcases List.mem_cons.1 hm with rfl | hm
    · rw [if_neg (by rw [h1, h2]; simp), if_neg (by simp [h1]), h3, h4]
      simp only [Bool.not_false, Bool.and_self, Bool.or_true]
      exact clashGP_true l
    · split
      · exact clashGP_mem h1 h2 h3 h4 l t hm
      · split
        · decide
        · exact clashGP_mem h1 h2 h3 h4 l _ hm
theorem scan_none_at {sp : Int → Int} : ∀ {l pre : List PS} {j : Nat} {y : PS}, scanB sp pre l = none → l[j]? = some y → clashPS sp (pre ++ l.take j) y = 0
  | x :: l, pre, 0, y, h, hy => by
    injection hy with hy
    subst hy
    unfold scanB at h
    split at h
    · cases h
    · rename_i hc
      simpa using hc
  | x :: l, pre, j + 1, y, h, hy => by
    unfold scanB at h
    split at h
    · cases h
    · have := scan_none_at (l := l) (j := j) h (by simpa using hy)
      simpa using this
def KeptB (all : List PS) (j : Nat) (out : List PS) : Prop := ∀ z ∈ out, ∃ z0 ∈ all.take j, z0.kind = z.kind ∧ z0.name = z.name ∧ z0.req = z.req ∧ (z.req = true → declB all z.key = false)
theorem idxP_key {k : Int × ByteArray} {U : List PS} {i : Nat} (h : idxP k U = some i) : ∃ x ∈ U, x.key = k := by
  obtain ⟨x, h1, h2⟩ := idx_some h
  exact ⟨x, List.mem_of_getElem? h1, h2⟩
theorem KeptB.step {all : List PS} {j : Nat} {out : List PS} {y : PS} (h : KeptB all j out) (hy : all[j]? = some y) : KeptB all (j + 1) (stepB all out y) := by
  have hw : ∀ z ∈ out, ∃ z0 ∈ all.take (j + 1), z0.kind = z.kind ∧ z0.name = z.name ∧ z0.req = z.req ∧ (z.req = true → declB all z.key = false) := fun z hz => by
    obtain ⟨z0, h1, h2⟩ := h z hz
    exact ⟨z0, by rw [take_at hy]; exact List.mem_append_left _ h1, h2⟩
  have hn : (y.req && (declB all y.key || isObj y.kind y.name)) ≠ true → KeptB all (j + 1) (out ++ [y]) := fun hc z hz => by
    rcases List.mem_append.1 hz with hz | hz
    · exact hw z hz
    · rw [List.mem_singleton.1 hz]
      refine ⟨y, by rw [take_at hy]; simp, rfl, rfl, rfl, fun hr => ?_⟩
      rw [hr] at hc
      cases hd : declB all y.key
      · rfl
      · rw [hd] at hc; simp at hc
  unfold stepB
  split
  · exact hw
  · rename_i hc
    split
    · split
      · intro z hz
        obtain ⟨k, hk, e⟩ := List.getElem_of_mem hz
        rw [List.getElem_modify] at e
        subst e
        split
        · obtain ⟨z0, h1, h2, h3, h4, h5⟩ := hw (out[k]'(by simpa using hk)) (List.getElem_mem _)
          exact ⟨z0, h1, h2, h3, h4, h5⟩
        · exact hw _ (List.getElem_mem _)
      · exact hn hc
    · exact hn hc
theorem KeptB.none {all : List PS} {j : Nat} {out : List PS} {y : PS} (h : KeptB all j out) (hs : scanB spC [] all = none) (hy : all[j]? = some y) (hr : y.req = false) : idxP y.key out = Option.none := by
  cases hi : idxP y.key out with
  | none => rfl
  | some i =>
    exfalso
    obtain ⟨z, hz, hk⟩ := idxP_key hi
    obtain ⟨z0, h1, h2, h3, h4, h5⟩ := h z hz
    have hk1 : z.kind = y.kind := congrArg Prod.fst hk
    have hk2 : z.name = y.name := congrArg Prod.snd hk
    cases hzr : z.req with
    | true =>
      have := h5 hzr
      rw [hk] at this
      have hd : declB all y.key = true := by
        unfold declB
        rw [List.any_eq_true]
        exact ⟨y, List.mem_of_getElem? hy, by simp [hr]⟩
      rw [hd] at this; cases this
    | false =>
      have hc := scan_none_at hs hy
      rw [List.nil_append] at hc
      exact clashGP_mem (h2.trans hk1) (h3.trans hk2) (h4.trans hzr) hr _ _ h1 hc
def wtP (U : List PS) : Nat := wtU U
theorem stepB_wt (all out : List PS) (y : PS) : wtU (stepB all out y) ≤ wtU out + (1 + y.perms.length) := by
  have hn : wtU (out ++ [y]) ≤ wtU out + (1 + y.perms.length) := by rw [wtU_app]; simp [wtU]
  unfold stepB
  split
  · omega
  · split
    · split
      · have := wtU_mod y.perms out ‹_›; omega
      · exact hn
    · exact hn
theorem fold_wt (all : List PS) : ∀ (l out : List PS), wtU (l.foldl (stepB all) out) ≤ wtU out + wtU l
  | [], out => by simp [wtU]
  | y :: l, out => by
    have h1 := fold_wt all l (stepB all out y)
    have h2 := stepB_wt all out y
    have h3 : wtU (y :: l) = (1 + y.perms.length) + wtU l := by simp [wtU]
    rw [List.foldl_cons, h3]; omega
theorem stepB_nd {all out : List PS} {y : PS} (h : ndU out) (hy : y.perms.Nodup) : ndU (stepB all out y) := by
  have hn : ndU (out ++ [y]) := fun x hx => by
    rcases List.mem_append.1 hx with hx | hx
    · exact h x hx
    · rw [List.mem_singleton.1 hx]; exact hy
  unfold stepB
  split
  · exact h
  · split
    · split
      · intro x hx
        obtain ⟨j, hj, e⟩ := List.getElem_of_mem hx
        rw [List.getElem_modify] at e
        subst e
        split
        · exact joinN_nodup (h _ (List.getElem_mem _)) _
        · exact h _ (List.getElem_mem _)
      · exact hn
    · exact hn
theorem symsP_nd (h : StH) : ndU (symsP h) := by
  unfold symsP
  repeat' split
  all_goals
    intro x hx
    simp only [List.mem_cons, List.mem_map, List.not_mem_nil, or_false] at hx
  all_goals first
    | (rcases hx with rfl | ⟨a, _, rfl⟩ <;> first | exact dedup_nodup _ | exact List.nodup_nil)
    | (rcases hx with rfl | hx <;> first | exact dedup_nodup _ | exact List.nodup_nil | exact hx.elim)
    | (obtain ⟨a, _, rfl⟩ := hx; exact List.nodup_nil)
    | (subst hx; first | exact dedup_nodup _ | exact List.nodup_nil)
    | exact hx.elim
theorem allS_nd (l : List St) : ndU (allS l) := fun x hx => by
  obtain ⟨s, _, h⟩ := List.mem_flatMap.1 hx
  exact symsP_nd _ x h
/-! ### what the first loop keeps -/
def DeclOk (ml : List ((Int × ByteArray) × Value)) (pre : List PS) : Prop := ∀ k, mgetK k ml = if declB pre k = true then some (.bool true) else none
theorem DeclOk.nil : DeclOk [] [] := fun k => by simp [declB, mgetK]
theorem declB_snoc (pre : List PS) (x : PS) (k : Int × ByteArray) : declB (pre ++ [x]) k = (declB pre k || (!x.req && decide (x.key = k))) := by simp [declB]
theorem DeclOk.req {ml : List ((Int × ByteArray) × Value)} {pre : List PS} {x : PS} (h : DeclOk ml pre) (hx : x.req = true) : DeclOk ml (pre ++ [x]) := fun k => by
  rw [declB_snoc, hx]; simpa using h k
theorem DeclOk.decl {ml : List ((Int × ByteArray) × Value)} {pre : List PS} {x : PS} (h : DeclOk ml pre) (hx : x.req = false) : DeclOk (mputK x.key (.bool true) ml) (pre ++ [x]) := fun k => by
  rw [declB_snoc, hx, mget_putK]
  by_cases hk : k = x.key
  · subst hk; simp
  · rw [if_neg hk, h k]
    have : ¬ x.key = k := fun e => hk e.symm
    simp [this]
structure BI (w0 : World) (X2 X3 X4 X5 m5 : Nat) (pre : List Sy) (O : List Nat) (W : World) : Prop where
  ex : ∃ (a : Option Addr) (c : Nat) (ml : List ((Int × ByteArray) × Value)), O = X2 :: X3 :: X4 :: X5 :: m5 :: ownB (.slice a pre.length c) ∧ Loc [] w0 W X4 54 #[.slice a pre.length c] ∧ OwnR w0 W 57 6 syC (.slice a pre.length c) pre ∧ KMap W m5 ml ∧ DeclOk ml (pre.map Sy.ps)
  b2 : Loc [] w0 W X2 54 #[.slice none 0 0]
  b3 : Loc [] w0 W X3 31 #[.int .i64 0, .int .i64 0, .int .i64 0, .string ⟨#[]⟩]
  b5 : Loc [] w0 W X5 68 #[.map (some m5)]
  hm : w0.heap.size ≤ m5
  n24 : X2 ≠ X4
  perms : PermsOk W pre
  only : Only [] w0 W
  scan : scanB spC [] (pre.map Sy.ps) = none
structure BX (w0 : World) (X2 X3 : Nat) (pre : List Sy) (W : World) : Prop where
  b2 : Loc [] w0 W X2 54 #[.slice none 0 0]
  b3 : ∃ e x, scanB spC [] (pre.map Sy.ps) = some (e, x) ∧ Loc [] w0 W X3 31 #[.int .i64 e, .int .i64 x.line, .int .i64 x.col, .string x.name]
  only : Only [] w0 W
section
variable {w0 W W' : World} {X2 X3 X4 X5 m5 : Nat} {pre : List Sy} {O : List Nat}
theorem BI.ext (h : BI w0 X2 X3 X4 X5 m5 pre O W) (hx : Ext W W') : BI w0 X2 X3 X4 X5 m5 pre O W' := by
  obtain ⟨⟨a, c, ml, h1, h2, h3, h4, h5⟩, h6, h7, h8, h9, h10, h11, h12, h13⟩ := h
  exact ⟨⟨a, c, ml, h1, h2.ext hx, h3.ext hx, h4.ext hx, h5⟩, h6.ext hx, h7.ext hx, h8.ext hx, h9, h10, h11.ext hx, h12.ext hx, h13⟩
theorem BI.bounds (h : BI w0 X2 X3 X4 X5 m5 pre O W) : ∀ b ∈ O, w0.heap.size ≤ b ∧ b < W.heap.size := by
  obtain ⟨⟨a, c, ml, rfl, h2, h3, h4, h5⟩, h6, h7, h8, h9, h10, h11, h12, h13⟩ := h
  intro b hb
  simp only [List.mem_cons] at hb
  rcases hb with rfl | rfl | rfl | rfl | rfl | hb
  · exact ⟨h6.ge, h6.lt⟩
  · exact ⟨h7.ge, h7.lt⟩
  · exact ⟨h2.ge, h2.lt⟩
  · exact ⟨h8.ge, h8.lt⟩
  · exact ⟨h9, h4.lt⟩
  · exact ⟨h3.new b hb, h3.row.lt (mem_ownB.1 hb)⟩
theorem Loc.putObj {F : List Nat} {X l : Nat} {t : TypeId} {cs : Array Value} {r : Loop} (h : Loc F w0 W X t cs) (hl : W.heap[l]? = some (.loop r)) (o : Obj) : Loc F w0 (W.putObj l o) X t cs :=
  ⟨h.blk.of (World.putObj_heap_other fun e => by have := h.blk; unfold Blk at this; rw [e] at this; first | (rw [hl] at this; cases this) | (rw [← e] at this; rw [hl] at this; cases this)), h.may⟩
theorem KMap.putObj {l m : Nat} {ml : List ((Int × ByteArray) × Value)} {r : Loop} (h : KMap W m ml) (hl : W.heap[l]? = some (.loop r)) (o : Obj) : KMap (W.putObj l o) m ml :=
  h.of (World.putObj_heap_other fun e => by
    obtain ⟨es, cl, h1, -⟩ := h
    rw [e] at h1; first | (rw [hl] at h1; cases h1) | (rw [← e] at h1; rw [hl] at h1; cases h1))
theorem Only.putL {l : Nat} (h : Only [] w0 W) (hl : w0.heap.size ≤ l) (o : Obj) : Only [] w0 (W.putObj l o) :=
  h.trans (F' := [l]) ⟨rfl, rfl, rfl, by simp, fun k _ hk => World.putObj_heap_other (fun e => hk (by simp [e]))⟩ fun x hx => .inr (by rw [List.mem_singleton.1 hx]; exact hl)
theorem BI.putObj {l : Nat} {r : Loop} (h : BI w0 X2 X3 X4 X5 m5 pre O W) (hl : W.heap[l]? = some (.loop r)) (hw : w0.heap.size ≤ l) (o : Obj) : BI w0 X2 X3 X4 X5 m5 pre O (W.putObj l o) := by
  obtain ⟨⟨a, c, ml, h1, h2, h3, h4, h5⟩, h6, h7, h8, h9, h10, h11, h12, h13⟩ := h
  exact ⟨⟨a, c, ml, h1, h2.putObj hl o, ⟨h3.row.putObj hl o, h3.new⟩, h4.putObj hl o, h5⟩, h6.putObj hl o, h7.putObj hl o, h8.putObj hl o, h9, h10, fun x hx => (h11 x hx).putObj hl o, h12.putL hw o, h13⟩
theorem BX.putObj {l : Nat} {r : Loop} (h : BX w0 X2 X3 pre W) (hl : W.heap[l]? = some (.loop r)) (hw : w0.heap.size ≤ l) (o : Obj) : BX w0 X2 X3 pre (W.putObj l o) := by
  obtain ⟨h6, ⟨e, x, h7, h8⟩, h12⟩ := h
  exact ⟨h6.putObj hl o, ⟨e, x, h7, h8.putObj hl o⟩, h12.putL hw o⟩
/-- the block for the calls that rounds have put off, empty -/
def DefAt (W : World) (D : Nat) : Prop := W.heap[D]? = some (.deferred (some []))
theorem DefAt.lt {D : Nat} (h : DefAt W D) : D < W.heap.size := (Array.getElem?_eq_some_iff.1 h).1
theorem DefAt.ext {D : Nat} (h : DefAt W D) (hx : Ext W W') : DefAt W' D := (hx.block D h.lt).trans h
theorem DefAt.ne {D X : Nat} {t : TypeId} {cs : Array Value} (h : DefAt W D) (k : Blk W X t cs) : D ≠ X := by
  rintro rfl
  unfold DefAt at h; unfold Blk at k
  rw [h] at k; cases k
theorem DefAt.but {D X : Nat} {t : TypeId} {cs : Array Value} (h : DefAt W D) (hb : But X W W') (k : Blk W X t cs) (_ : True) : DefAt W' D := (hb.block D h.lt (h.ne k)).trans h
theorem DefAt.own {α : Type} {D k : Nat} {t : TypeId} {f : α → List Value} {v : Value} {xs : List α} (h : DefAt W D) (r : ORow W t k f v xs) : D ∉ ownB v := by
  intro hm
  obtain ⟨hl, ⟨e1, e2⟩ | ⟨g, cap, cur, e1, hb, hg, h2⟩⟩ := r
  · subst e1; simp [ownB, Value.ownBlock] at hm
  · subst e1
    have : D = g := by simpa [ownB, Value.ownBlock] using hm
    subst this
    exact h.ne (show Blk W D t cur from hg) rfl
theorem DefAt.grow {α : Type} {wb : World} {D k : Nat} {t : TypeId} {f : α → List Value} {v v' : Value} {xs zs : List α} (h : DefAt W D) (r : OwnR wb W t k f v xs) (hA : AppPost W W' t k f v v' zs) (_ : True) : DefAt W' D :=
  (hA.grown.block D h.lt fun e => h.own r.row (mem_ownB.2 e.symm)).trans h
theorem DefAt.turned {D m : Nat} {ml : List ((Int × ByteArray) × Value)} (h : DefAt W D) (hM : KMap W m ml) (ht : MapTurned m W W') : DefAt W' D := (ht.block D fun e => by
  obtain ⟨es, cl, h1, -⟩ := hM
  unfold DefAt at h; rw [e] at h; rw [h] at h1; cases h1).trans h
theorem DefAt.put {α : Type} {wb : World} {D k n c g : Nat} {t : TypeId} {f : α → List Value} {xs : List α} (h : DefAt W D) (r : OwnR wb W t k f (.slice (some ⟨g, 0, none⟩) n c) xs) (hb : But g W W') : DefAt W' D :=
  (hb.block D h.lt fun e => h.own r.row (by rw [e]; simp [ownB, Value.ownBlock])).trans h
theorem Loc.growO {α : Type} {F : List Nat} {wb : World} {X k : Nat} {t e : TypeId} {cs : Array Value} {f : α → List Value} {v v' : Value} {xs ys : List α} (b : Loc F w0 W X t cs) (h : OwnR wb W e k f v xs) (hA : AppPost W W' e k f v v' ys) (hne : e ≠ t) : Loc F w0 W' X t cs :=
  ⟨b.blk.grown hA.grown fun h1 => h.row.ne b.blk hne (mem_ownB.2 h1.symm), b.may⟩
theorem Loc.putD {F : List Nat} {X D : Nat} {t : TypeId} {cs : Array Value} (h : Loc F w0 W X t cs) (hD : DefAt W D) (o : Obj) : Loc F w0 (W.putObj D o) X t cs := ⟨h.blk.of (World.putObj_heap_other fun e => hD.ne h.blk e.symm), h.may⟩
theorem ORow.putD {α : Type} {D k : Nat} {t : TypeId} {f : α → List Value} {v : Value} {xs : List α} (h : ORow W t k f v xs) (hD : DefAt W D) (o : Obj) : ORow (W.putObj D o) t k f v xs :=
  h.kept fun x hx => World.putObj_heap_other fun e => hD.own h (e ▸ mem_ownB.2 hx)
/-- what Block leaves -/
def BPostB (w : World) (r : List PS × FT) (e : Ending) (w' : World) : Prop := ∃ (a : Option Addr) (c : Nat) (xs : List Sy), e = .returned (.tuple #[.slice a xs.length c, r.2.v]) ∧ xs.map Sy.ps = r.1 ∧ Syms w' (.slice a xs.length c) xs ∧ Ext w w'
end
end Go.Proofs.Ytnifgkgdphlleaa
