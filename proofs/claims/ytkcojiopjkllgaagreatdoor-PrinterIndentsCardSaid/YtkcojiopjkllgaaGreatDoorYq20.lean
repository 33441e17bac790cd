import Derived.Test.YtkcojiopjkllgaaGreatDoorYq14
import Derived.Test.YtkcojiopjkllgaaGreatDoorYq17
set_option linter.unusedSimpArgs false
set_option linter.unusedVariables false
set_option linter.unusedSectionVars false
namespace Go.Proofs.YtkcojiopjkllgaaGreatDoor
namespace Am
open Tk
set_option maxRecDepth 100000
set_option maxHeartbeats 4000000
def nl (s : ByteArray) : Bool := s.data.toList.all fun c => decide (c ≠ 10)
theorem nl_app (a b : ByteArray) : nl (a ++ b) = (nl a && nl b) := by
  unfold nl; rw [ByteArray.data_append, Array.toList_append, List.all_append]
theorem nl_tl {sep : ByteArray} (hs : nl sep = true) : ∀ {l : List ByteArray}, (∀ x ∈ l, nl x = true) → nl (tlB sep l) = true
  | [], _ => rfl
  | x :: l, h => by
    rw [tlB, nl_app, nl_app, hs, h x (.head _), nl_tl hs fun y hy => h y (.tail _ hy)]; rfl
theorem nl_sep {sep : ByteArray} (hs : nl sep = true) {l : List ByteArray} (h : ∀ x ∈ l, nl x = true) : nl (sepB sep l) = true := by
  match l, h with
  | [], _ => rfl
  | x :: l, h =>
    rw [sepB, nl_app, h x (.head _), nl_tl hs fun y hy => h y (.tail _ hy)]; rfl
theorem nl_all {s : ByteArray} {p : UInt8 → Bool} (hp : p 10 = false) (h : s.data.toList.all p = true) : nl s = true := by
  unfold nl
  rw [List.all_eq_true] at h ⊢
  intro c hc
  have := h c hc
  refine decide_eq_true fun e => ?_
  rw [e, hp] at this; cases this
theorem nl_id {s : ByteArray} (h : idB s = true) : nl s = true := by
  unfold idB nameB at h
  simp only [Bool.and_eq_true] at h
  exact nl_all (p := nmB) (by decide) h.1.2
theorem nl_ids {l : List ByteArray} (h : l.all idB = true) : ∀ x ∈ l, nl x = true := fun x hx => nl_id (List.all_eq_true.1 h x hx)
theorem nl_br {l : List ByteArray} (h : ∀ x ∈ l, nl x = true) : nl (brT l) = true := by
  unfold brT
  rw [nl_app, nl_app, nl_sep (by decide) h]; decide
theorem nl_ns {n : NS} {b : Bool} (h : namedB n b = true) : nl (nsT n) = true := by
  unfold namedB at h
  simp only [Bool.and_eq_true] at h
  have h1 := nl_ids h.2.1.2
  have h2 := nl_ids h.2.2
  have hl : ∀ x ∈ nsL n, nl x = true := fun x hx => by
    simp only [nsL, nsL2, nsL1, List.mem_append, List.mem_map] at hx
    rcases hx with ((hx | hx) | ⟨y, hy, rfl⟩) | hx
    · split at hx
      · simp at hx; rw [hx]; decide
      · cases hx
    · exact h1 x hx
    · rw [nl_app, h2 y hy]; decide
    · split at hx
      · simp at hx; rw [hx]; decide
      · cases hx
  have hg : nl ((nsL n).getD 0 ⟨#[]⟩) = true := by
    rw [List.getD_eq_getElem?_getD]
    cases hx : (nsL n)[0]? with
    | none => rfl
    | some x => exact hl x (List.mem_of_getElem? hx)
  unfold nsT
  split
  · rw [nl_app, hg]; decide
  · split
    · rw [nl_app, nl_br hl]; decide
    · split
      · exact hg
      · exact nl_br hl
theorem nl_sp {s : Sp} (h : spB s = true) : nl (spT s) = true := by
  unfold spB at h
  simp only [Bool.and_eq_true, Bool.or_eq_true, decide_eq_true_eq] at h
  unfold spT
  split
  · exact nl_id h.1
  · rename_i h0
    rcases h.2 with h2 | h2
    · exact absurd h2 h0
    · rw [nl_app, nl_app, nl_id h.1, nl_id h2]; decide
theorem nl_lv {l : Lv} (h : lvB l = true) : nl (lvT l) = true := by
  unfold lvB at h
  rw [Bool.and_eq_true] at h
  unfold lvT
  split
  · exact nl_id h.1
  · rw [nl_app, nl_app, nl_id h.1, nl_sep (by decide) (l := l.cats.map spT) fun y hy => by
      obtain ⟨x, hx, rfl⟩ := List.mem_map.1 hy
      exact nl_sp (List.all_eq_true.1 h.2 x hx)]
    decide
theorem nl_rg {r : Rg} (h : rgB r = true) : nl (rgT r) = true := by
  unfold rgB at h
  rw [Bool.and_eq_true, Bool.or_eq_true] at h
  unfold rgT
  split
  · exact nl_lv h.1
  · rename_i h0
    rcases h.2 with h2 | h2
    · exact absurd h2 (by simpa using h0)
    · rw [nl_app, nl_app, nl_lv h.1, nl_lv h2]; decide
theorem nl_cx {c : Ct} (h : cxB c = true) : nl (cxT c) = true := by
  unfold cxB at h
  simp only [Bool.and_eq_true] at h
  unfold cxT
  simp only [nl_app, nl_id h.1.1.1, nl_id h.1.1.2, nl_id h.1.2, nl_rg h.2]; decide
theorem nl_att {n : Nat} (h : n < 15) : nl (attT n) = true := by
  have : ∀ i : Fin 15, nl (attT i.val) = true := by decide +kernel
  exact this ⟨n, h⟩
theorem nl_rel (n : Int) : nl (relT n) = true := by
  unfold relT
  repeat' split
  all_goals decide
theorem nl_opd (p : Bool) {s : ByteArray} (h : nl s = true) : nl (opdT p s) = true := by
  unfold opdT; split
  · rw [nl_app, nl_app, h]; decide
  · exact h
theorem nl_par (p q : Int) {s : ByteArray} (h : nl s = true) : nl (parT p q s) = true := by
  unfold parT; split
  · rw [nl_app, nl_app, h]; decide
  · exact h
theorem nl_ex : ∀ (n : Nat) (e : Ex) (limit level : Int), SizeOf.sizeOf e < n → limit ≤ 15 → nodeB limit level e = true → nl (exT e) = true
  | 0, _, _, _, h, _, _ => absurd h (Nat.not_lt_zero _)
  | n + 1, e, limit, level, h, hl, hn => by
    have ih : ∀ x ∈ e.kids, nl (exT x) = true := fun x hx =>
      nl_ex n x limit (level + 1) (by have := kid_lt hx; omega) hl (by
        rw [nodeB_eq, Bool.and_eq_true] at hn
        exact List.all_eq_true.1 hn.2 x hx)
    rw [nodeB_eq, Bool.and_eq_true] at hn
    have hn := hn.1
    rw [exT_eq]
    unfold headB at hn
    rw [Bool.and_eq_true] at hn
    have hn := hn.2
    by_cases o2 : e.op = 2
    · obtain ⟨k, hk⟩ := one_of (l := e.kids) (by simp [o2] at hn; omega)
      have e1 : exH e.op e.a e.rel e.b e.names (e.kids.map exT) (e.kids.map (·.op)) = ⟨#[33]⟩ ++ opdT (decide (k.op ≠ 2)) (exT k) := by simp [exH, o2, hk]
      rw [e1, nl_app, nl_opd _ (ih k (by rw [hk]; simp))]; decide
    by_cases o3 : e.op = 3
    · obtain ⟨k, m, hk⟩ := two_of (l := e.kids) (by simp [o3] at hn; omega)
      have e1 : exH e.op e.a e.rel e.b e.names (e.kids.map exT) (e.kids.map (·.op)) = opdT (decide (k.op = 4)) (exT k) ++ ⟨#[32, 38, 38, 32]⟩ ++ opdT (decide (m.op = 4) || decide (m.op = 3)) (exT m) := by simp [exH, o3, hk]
      rw [e1, nl_app, nl_app, nl_opd _ (ih k (by rw [hk]; simp)), nl_opd _ (ih m (by rw [hk]; simp))]; decide
    by_cases o4 : e.op = 4
    · obtain ⟨k, m, hk⟩ := two_of (l := e.kids) (by simp [o4] at hn; omega)
      have e1 : exH e.op e.a e.rel e.b e.names (e.kids.map exT) (e.kids.map (·.op)) = exT k ++ ⟨#[32, 124, 124, 32]⟩ ++ opdT (decide (m.op = 4)) (exT m) := by simp [exH, o4, hk]
      rw [e1, nl_app, nl_app, ih k (by rw [hk]; simp), nl_opd _ (ih m (by rw [hk]; simp))]; decide
    by_cases o9 : e.op = 9
    · have ha : 0 ≤ e.a ∧ e.a < 15 ∧ someB e.names = true := by
        simp [o9] at hn
        exact ⟨by omega, by omega, hn.1.2⟩
      have hnm : namedB ⟨false, false, false, e.names, []⟩ false = true := by
        have := ha.2.2
        unfold someB at this
        rw [Bool.and_eq_true] at this
        simp only [namedB, this.1, this.2]; rfl
      have e1 : exH e.op e.a e.rel e.b e.names (e.kids.map exT) (e.kids.map (·.op)) = attT e.a.toNat ++ ⟨#[32, 105, 110, 32]⟩ ++ nsT ⟨false, false, false, e.names, []⟩ := by simp [exH, o9]
      rw [e1, nl_app, nl_app, nl_att (by omega), nl_ns hnm]; decide
    · have ha : e.op = 8 ∧ 0 ≤ e.a ∧ e.a < 15 ∧ 0 ≤ e.b ∧ e.b < 15 := by
        simp [o2, o3, o4, o9] at hn
        omega
      have e1 : exH e.op e.a e.rel e.b e.names (e.kids.map exT) (e.kids.map (·.op)) = attT e.a.toNat ++ ⟨#[32]⟩ ++ relT e.rel ++ ⟨#[32]⟩ ++ attT e.b.toNat := by simp [exH, ha.1]
      rw [e1]
      simp only [nl_app, nl_att (n := e.a.toNat) (by omega), nl_att (n := e.b.toNat) (by omega), nl_rel]; decide
theorem nl_cons {e : Ex} {v : Bool} (h : consB e v = true) : nl (exT e) = true := nl_ex _ e (if v then 15 else 10) 1 (Nat.lt_succ_self _) (by split <;> decide) h
theorem bchk_id {e : Ex} {level : Int} (h : bchkB level e = 0) (k0 : opnB e.op = 0) : idB (e.names.getD 0 ⟨#[]⟩) = true := by
  rw [bchkB_eq] at h
  split at h
  · rename_i h0
    unfold bnodeB at h0
    by_cases p : 12 < level
    · rw [if_pos p] at h0; exact absurd h0 (by decide)
    rw [if_neg p] at h0
    by_cases q : opnB e.op < 0 ∨ e.a ≠ 0 ∨ e.b ≠ 0 ∨ e.rel ≠ 0 ∨ Se.eqB e.set Se.zero = false ∨ (e.kids.length : Int) ≠ opnB e.op ∨ (e.names.length : Int) ≠ (if opnB e.op = 0 then 1 else 0)
    · rw [if_pos q] at h0; exact absurd h0 (by decide)
    rw [if_neg q] at h0
    cases hi : idB (e.names.getD 0 ⟨#[]⟩) with
    | true => rfl
    | false => rw [if_pos ⟨k0, hi⟩] at h0; exact absurd h0 (by decide)
  · rename_i h0; exact absurd h h0
theorem nl_bt : ∀ (n : Nat) (e : Ex) (level : Int), SizeOf.sizeOf e < n → bchkB level e = 0 → nl (btI e) = true
  | 0, _, _, h, _ => absurd h (Nat.not_lt_zero _)
  | n + 1, e, level, h, hn => by
    obtain ⟨h0, h1, h2, h3⟩ := bchk_node hn
    have ih : ∀ x ∈ e.kids, nl (btI x) = true := fun x hx => nl_bt n x (level + 1) (by have := kid_lt hx; omega) (h3 x hx)
    rw [btI_eq]
    by_cases k0 : opnB e.op = 0
    · have e1 : btH e.op e.names (e.kids.map btI) (e.kids.map (·.op)) = e.names.getD 0 ⟨#[]⟩ := by unfold btH; rw [if_pos k0]
      rw [e1]
      exact nl_id (bchk_id hn k0)
    by_cases k1 : opnB e.op = 1
    · obtain ⟨a, ha⟩ := one_of (l := e.kids) (by omega)
      have e1 : btH e.op e.names (e.kids.map btI) (e.kids.map (·.op)) = ⟨#[33]⟩ ++ parT (strB a.op) 5 (btI a) := by simp [btH, k1, ha]
      rw [e1, nl_app, nl_par _ _ (ih a (by rw [ha]; simp))]; decide
    · have k2 : opnB e.op = 2 := by
        have : opnB e.op = 0 ∨ opnB e.op = 1 ∨ opnB e.op = 2 ∨ opnB e.op = -1 := by unfold opnB; grind
        omega
      obtain ⟨a, b, ha⟩ := two_of (l := e.kids) (by omega)
      have hm : nl (signM e.op) = true := by
        unfold signM
        repeat' split
        all_goals decide
      have e1 : btH e.op e.names (e.kids.map btI) (e.kids.map (·.op)) = parT (strB a.op) (signN e.op) (btI a) ++ ⟨#[32]⟩ ++ signM e.op ++ ⟨#[32]⟩ ++ parT (strB b.op) (signN e.op + 1) (btI b) := by simp [btH, k2, ha]
      rw [e1]
      simp only [nl_app, nl_par _ _ (ih a (by rw [ha]; simp)), nl_par _ _ (ih b (by rw [ha]; simp)), hm]; decide
theorem nl_btT {e : Ex} (h : bchkB 1 e = 0) (n : Int) : nl (btT e n) = true := nl_par _ _ (nl_bt _ e 1 (Nat.lt_succ_self _) h)
theorem nl_kw {l : List ByteArray} (h : ∀ x ∈ l, nl x = true) (n : Int) : nl (kwT l n) = true := by
  unfold kwT
  rw [List.getD_eq_getElem?_getD]
  cases hx : l[(n - 1).toNat]? with
  | none => rfl
  | some x => exact h x (List.mem_of_getElem? hx)
theorem nl_ind (n : Nat) : nl (indT n) = true := by
  induction n with
  | zero => rfl
  | succ n ih => rw [indT_succ, nl_app, ih]; decide
theorem nl_line {tb eb : Bool} {s : Stm} (h : wellH tb eb s = true) (h1 : s.kind ≠ 17) (h2 : s.kind ≠ 18) : nl (lineT s) = true := by
  unfold wellH at h
  rw [Bool.and_eq_true] at h
  obtain ⟨h, -⟩ := h
  have q1 : nl (kwT kwR s.op) = true := nl_kw (by decide) _
  have q2 : nl (kwT kwX s.op) = true := nl_kw (by decide) _
  have q3 : nl (kwT kwQ s.op) = true := nl_kw (by decide) _
  have q4 : nl (kwT kwF (s.op + 1)) = true := nl_kw (by decide) _
  have q5 : nl (kwT kwA s.op) = true := nl_kw (by decide) _
  have hb : nl (boolT s.value) = true := by cases s.value <;> decide
  have hx : s.kind = 1 ∨ s.kind = 2 ∨ s.kind = 3 ∨ s.kind = 4 ∨ s.kind = 5 ∨ s.kind = 6 ∨ s.kind = 7 ∨ s.kind = 8 ∨ s.kind = 9 ∨ s.kind = 10 ∨ s.kind = 11 ∨ s.kind = 12 ∨ s.kind = 13 ∨ s.kind = 14 ∨ s.kind = 15 ∨ s.kind = 16 ∨ s.kind = 19 ∨ s.kind = 20 ∨ s.kind = 21 ∨ s.kind = 22 ∨ s.kind = 23 := by
    split at h
    · omega
    · split at h
      · omega
      · cases h
  have f1 : idB s.name = true → nl s.name = true := nl_id
  have f2 : idB s.result = true → nl s.result = true := nl_id
  have f3 : s.list.all idB = true → nl (brT s.list) = true := fun h => nl_br (nl_ids h)
  have f4 : s.list.all idB = true → nl (sepB ⟨#[44, 32]⟩ s.list) = true := fun h => nl_sep (by decide) (nl_ids h)
  have f5 : s.aliases.all idB = true → nl (brT s.aliases) = true := fun h => nl_br (nl_ids h)
  have f6 : ∀ b, namedB s.source b = true → nl (nsT s.source) = true := fun b h => nl_ns h
  have f7 : ∀ b, namedB s.target b = true → nl (nsT s.target) = true := fun b h => nl_ns h
  have f8 : ∀ b, namedB s.cls b = true → nl (nsT s.cls) = true := fun b h => nl_ns h
  have f9 : ∀ b, namedB s.perms b = true → nl (nsT s.perms) = true := fun b h => nl_ns h
  have g1 : ∀ b, consB s.cond b = true → nl (exT s.cond) = true := fun b h => nl_cons h
  have g2 : lvB s.level = true → nl (lvT s.level) = true := nl_lv
  have g3 : rgB s.range = true → nl (rgT s.range) = true := nl_rg
  have g4 : cxB s.ctx = true → nl (cxT s.ctx) = true := nl_cx
  have g5 : quoB s.text = true → nl s.text = true := fun h => by
    unfold quoB at h
    rw [Bool.and_eq_true] at h
    exact nl_all (p := prtC) (by decide) h.2
  have g6 : s.text.data.toList.all objC = true → nl s.text = true := fun h => nl_all (p := objC) (by decide) h
  rcases hx with k | k | k | k | k | k | k | k | k | k | k | k | k | k | k | k | k | k | k | k | k
  all_goals
    simp only [k, Int.reduceEq, or_true, true_or, or_self, or_false, false_or, if_true, if_false, ↓reduceIte, declQ, ruleQ, pairB, idsB, titleB, Bool.and_eq_true] at h
    simp only [lineT, ruledT, pairT, k, Int.reduceEq, if_true, if_false, ↓reduceIte]
    clear h1 h2
    repeat' split
    all_goals
      simp only [nl_app, Bool.and_eq_true]
      and_intros
      all_goals first | decide | assumption | grind
def ndL (m : List UInt8) : List UInt8 → List UInt8
  | [] => []
  | c :: l => if c = 10 then c :: (m ++ ndL m l) else c :: ndL m l
def ndB (m a : ByteArray) : ByteArray := ⟨(ndL m.data.toList a.data.toList).toArray⟩
theorem ndL_app (m a b : List UInt8) : ndL m (a ++ b) = ndL m a ++ ndL m b := by
  induction a with
  | nil => rfl
  | cons c l ih =>
    rw [List.cons_append, ndL, ndL, ih]
    split <;> simp
theorem ndL_nl {m a : List UInt8} (h : a.all (fun c => decide (c ≠ 10)) = true) : ndL m a = a := by
  induction a with
  | nil => rfl
  | cons c l ih =>
    rw [List.all_cons, Bool.and_eq_true] at h
    rw [ndL, if_neg (of_decide_eq_true h.1), ih h.2]
theorem ndB_app (m a b : ByteArray) : ndB m (a ++ b) = ndB m a ++ ndB m b := by
  apply ByteArray.ext
  simp [ndB, ByteArray.data_append, ndL_app]
theorem ndB_nl {m a : ByteArray} (h : nl a = true) : ndB m a = a := by
  unfold ndB
  rw [ndL_nl h]
theorem ndB_line (m : ByteArray) : ndB m ⟨#[10]⟩ = ⟨#[10]⟩ ++ m := by
  apply ByteArray.ext
  simp [ndB, ndL, ByteArray.data_append]
theorem ind_add (a b : Nat) : indT (a + b) = indT a ++ indT b := by
  induction b with
  | zero => rw [Nat.add_zero, show indT 0 = ⟨#[]⟩ from rfl, ba_nil]
  | succ b ih => rw [← Nat.add_assoc, indT_succ, ih, indT_succ, ByteArray.append_assoc]
theorem blk_nd {n lv : Nat} {l : List Stm} (h : ∀ x ∈ l, stT (n + lv) x = indT n ++ ndB (indT n) (stT lv x)) : indT n ++ ndB (indT n) (blkT lv l) = blkT (n + lv) l ++ indT n := by
  induction l with
  | nil =>
    rw [blkT, blkT, nil_ba]
    have : ndB (indT n) ⟨#[]⟩ = ⟨#[]⟩ := rfl
    rw [this, ba_nil]
  | cons x l ih =>
    rw [blkT, blkT, ndB_app, ndB_app, ndB_line, h x (.head _)]
    have ih := ih fun y hy => h y (.tail _ hy)
    simp only [ByteArray.append_assoc] at ih ⊢
    rw [ih]
theorem st_nd (n : Nat) : ∀ (k : Nat) (s : Stm) (lv : Nat), SizeOf.sizeOf s < k → stW s → fmB s = true → stT (n + lv) s = indT n ++ ndB (indT n) (stT lv s)
  | 0, _, _, h, _, _ => absurd h (Nat.not_lt_zero _)
  | k + 1, s, lv, h, hW, hf => by
    rw [fm_well] at hf
    rw [stW_eq] at hW
    obtain ⟨⟨hr, hbd, hc2⟩, w1, w2⟩ := hW
    rw [stT_eq, stT_eq]
    by_cases hp : s.kind ≠ 17 ∧ s.kind ≠ 18
    · unfold stH
      rw [if_pos hp, if_pos hp, ndB_app, ndB_app, ndB_nl (nl_ind lv), ndB_nl (nl_line hf hp.1 hp.2), ndB_nl (a := ⟨#[59]⟩) (by decide), ind_add]
      simp only [ByteArray.append_assoc]
    have hk : s.kind = 17 ∨ s.kind = 18 := by omega
    have hall : s.thn.all fmB = true ∧ s.els.all fmB = true := by
      unfold wellH at hf
      rw [Bool.and_eq_true] at hf
      have hf := hf.1
      rcases hk with k | k
      · simp only [k, Int.reduceEq, or_self, if_false, if_true, Bool.and_eq_true] at hf
        exact ⟨hf.1.2, hf.2⟩
      · simp only [k, Int.reduceEq, or_self, if_false, if_true, Bool.and_eq_true] at hf
        exact ⟨hf.1.2, hf.2⟩
    have b1 : indT n ++ ndB (indT n) (blkT (lv + 1) s.thn) = blkT (n + (lv + 1)) s.thn ++ indT n := blk_nd fun x hx => st_nd n k x (lv + 1) (by have := thn_lt hx; omega) (w1 x hx) (List.all_eq_true.1 hall.1 x hx)
    have b2 : indT n ++ ndB (indT n) (blkT (lv + 1) s.els) = blkT (n + (lv + 1)) s.els ++ indT n := blk_nd fun x hx => st_nd n k x (lv + 1) (by have := els_lt hx; omega) (w2 x hx) (List.all_eq_true.1 hall.2 x hx)
    have hh : ndB (indT n) (headT s) = headT s ++ indT n := by
      rcases hk with k | k
      · rw [head_if k]
        simp only [ndB_app, ndB_line, ndB_nl (a := ⟨#[105, 102, 32]⟩) (by decide), ndB_nl (a := ⟨#[32, 123]⟩) (by decide), ndB_nl (nl_btT (hc2 k) 0), ByteArray.append_assoc]
      · rw [head_opt k]
        simp only [ndB_app, ndB_line, ndB_nl (a := ⟨#[111, 112, 116, 105, 111, 110, 97, 108, 32, 123]⟩) (by decide), ByteArray.append_assoc]
    have hb : ndB (indT n) ⟨#[125]⟩ = ⟨#[125]⟩ := ndB_nl (by decide)
    have hel : ndB (indT n) ⟨#[32, 101, 108, 115, 101, 32, 123, 10]⟩ = ⟨#[32, 101, 108, 115, 101, 32, 123, 10]⟩ ++ indT n := by
      rw [else_lit, ndB_app, ndB_line, ndB_nl (a := ⟨#[32, 101, 108, 115, 101, 32, 123]⟩) (by decide), ByteArray.append_assoc]
    have hi : ndB (indT n) (indT lv) = indT lv := ndB_nl (nl_ind lv)
    have e1 : n + lv + 1 = n + (lv + 1) := by omega
    unfold stH
    rw [if_neg hp, if_neg hp, e1, ind_add]
    by_cases he : 0 < s.els.length
    · rw [if_pos he, if_pos he]
      simp only [ndB_app, hh, hb, hel, hi, ByteArray.append_assoc]
      rw [← ByteArray.append_assoc (a := indT n) (b := ndB (indT n) (blkT (lv + 1) s.thn)), b1, ← ByteArray.append_assoc (a := indT n) (b := ndB (indT n) (blkT (lv + 1) s.els)), b2]
      simp only [ByteArray.append_assoc]
    · rw [if_neg he, if_neg he]
      have h0 : ndB (indT n) ⟨#[]⟩ = ⟨#[]⟩ := rfl
      simp only [ndB_app, hh, hb, hi, h0, ByteArray.append_assoc]
      rw [← ByteArray.append_assoc (a := indT n) (b := ndB (indT n) (blkT (lv + 1) s.thn)), b1]
      simp only [ByteArray.append_assoc]
end Am
namespace Am
open Tk
set_option maxRecDepth 100000
set_option maxHeartbeats 4000000
section
variable {ρ : Operand → Option V} {H : Nat → Option HO} {d : Option Nat} {ty : TypeId} {pos : String} {af : Array Edge} {gu : Option (Nat × Bool)} {x : Operand} {p : Int}
theorem a_u8i (hx : Ev ρ x (.c (.sc (.int .u8 p)))) (h0 : 0 ≤ p) (h1 : p < 256) : AS Tryz.prog ρ H ⟨d, .convert 5 3 x, ty, pos, af, gu⟩ ⟨.c (.sc (.int .i64 p)), none, []⟩ := by
  refine .still (fun q hq w => ?_) fun _ => .sc rfl
  have h1 := hq x (by simp [Op.operands]) _ _ hx .sc
  have h2 : IntKind.i64.wrap p = p := by rw [IntKind.wrap_i64]; omega
  unfold execOp
  simp only [h1]
  simp [go_sem, run_underlying und_int, run_underlying und_u8, h2]
end
theorem ndL_len (m a : List UInt8) : (ndL m a).length ≤ a.length * (m.length + 1) := by
  induction a with
  | nil => exact Nat.zero_le _
  | cons c l ih =>
    rw [ndL, List.length_cons, Nat.add_mul]
    split
    · simp only [List.length_cons, List.length_append]; omega
    · simp only [List.length_cons]; omega
theorem ndL_ge (m a : List UInt8) : a.length ≤ (ndL m a).length := by
  induction a with
  | nil => exact Nat.zero_le _
  | cons c l ih =>
    rw [ndL]
    split
    · simp only [List.length_cons, List.length_append]; omega
    · simp only [List.length_cons]; omega
def wantB (m : ByteArray) (a : List UInt8) : ByteArray := m ++ ⟨(ndL m.data.toList a).toArray⟩
theorem want_size (m : ByteArray) (a : List UInt8) : (wantB m a).size ≤ m.size + a.length * (m.size + 1) := by
  have h := ndL_len m.data.toList a
  have e : m.data.toList.length = m.size := by cases m; simp [ByteArray.size]
  rw [e] at h
  unfold wantB
  rw [ByteArray.size_append]
  have : ByteArray.size ⟨(ndL m.data.toList a).toArray⟩ = (ndL m.data.toList a).length := by simp [ByteArray.size]
  omega
theorem want_step {m : ByteArray} {a : List UInt8} {j : Nat} {c : UInt8} (h : a[j]? = some c) : wantB m (a.take (j + 1)) = if c = 10 then wantB m (a.take j) ++ ⟨#[c]⟩ ++ m else wantB m (a.take j) ++ ⟨#[c]⟩ := by
  unfold wantB
  rw [List.take_add_one, h, ndL_app]
  split
  · rename_i h
    apply ByteArray.ext
    apply Array.ext'
    simp [ndL, h, ByteArray.data_append]
  · rename_i h
    apply ByteArray.ext
    apply Array.ext'
    simp [ndL, h, ByteArray.data_append]
theorem ext_one {s : ByteArray} {j : Nat} {c : UInt8} (h : s.data.toList[j]? = some c) : s.extract j (j + 1) = ⟨#[c]⟩ := by
  apply ByteArray.ext
  rw [ByteArray.data_extract]
  apply Array.ext'
  have h2 := (List.getElem?_eq_some_iff.1 h)
  obtain ⟨hl, h2⟩ := h2
  simp only [Array.toList_extract, List.extract_eq_take_drop, Nat.add_sub_cancel_left]
  rw [List.drop_eq_getElem_cons hl, h2]
  rfl
theorem ind_law {s : Stm} {n : Nat} (hn : n ≤ 12) (hs : okM [s] = true) :
    ((StatementR s 0).2 = 0 ∧ (StatementR s n).2 = 0 → (StatementR s 0).1 = stT 0 s ∧ (StatementR s n).1 = wantB (indT n) (stT 0 s).data.toList ∧ (stT 0 s).size ≤ 65536) ∧
    (¬((StatementR s 0).2 = 0 ∧ (StatementR s n).2 = 0) → (StatementR s 0).2 = (StatementR s n).2 ∨ ((StatementR s 0).2 = 0 ∧ (StatementR s n).2 = 4)) := by
  have e0 : ¬ ((0 : Int) < 0 ∨ (12 : Int) < 0) := by omega
  have e1 : ¬ ((n : Int) < 0 ∨ (12 : Int) < n) := by omega
  have z : (0 : Int).toNat = 0 := rfl
  have zn : (n : Int).toNat = n := by omega
  unfold StatementR
  rw [if_neg e0, if_neg e1]
  by_cases hd : 12 < dpL [s]
  · rw [if_pos hd, if_pos hd]
    exact ⟨fun h => (by cases h.1), fun _ => .inl rfl⟩
  rw [if_neg hd, if_neg hd]
  cases hf : fmB s with
  | false => exact ⟨fun h => (by cases h.1), fun _ => .inl rfl⟩
  | true =>
    rw [if_neg (show ¬ (true = false) by decide), if_neg (show ¬ (true = false) by decide), z, zn]
    have hW := (st_ok (lv := 0) hs (by omega) (by omega) (by omega) hf).1
    have hnd := st_nd n _ s 0 (Nat.lt_succ_self _) hW hf
    rw [Nat.add_zero] at hnd
    have hle : (stT 0 s).size ≤ (stT n s).size := by
      rw [hnd, ByteArray.size_append]
      have h1 := ndL_ge (indT n).data.toList (stT 0 s).data.toList
      have h2 : (ndB (indT n) (stT 0 s)).size = (ndL (indT n).data.toList (stT 0 s).data.toList).length := by simp [ndB, ByteArray.size]
      have h3 : (stT 0 s).data.toList.length = (stT 0 s).size := by cases stT 0 s; simp [ByteArray.size]
      omega
    by_cases h0 : 65536 < (stT 0 s).size
    · rw [if_pos h0, if_pos (by omega)]
      exact ⟨fun h => (by cases h.1), fun _ => .inl rfl⟩
    · rw [if_neg h0]
      by_cases h1 : 65536 < (stT n s).size
      · rw [if_pos h1]
        exact ⟨fun h => (by cases h.2), fun _ => .inr ⟨rfl, rfl⟩⟩
      · rw [if_neg h1]
        exact ⟨fun _ => ⟨rfl, hnd, by omega⟩, fun h => absurd ⟨rfl, rfl⟩ h⟩
theorem lawIndents (s : Stm) {v : Int} (hv : (Lit.int .u8 v).wf = true) : Pure Tryz.prog 7 [.agg (stC s), .c (.sc (.int .u8 v))] (.c (sB true)) := by
  have hv2 : 0 ≤ v ∧ v < 256 := by
    simp [Lit.wf, IntKind.min, IntKind.max, IntKind.signed, IntKind.bits] at hv
    omega
  clear hv
  obtain ⟨hv0, hv1⟩ := hv2
  have sm := small_p [s]
  cases hs : okM [s] with
  | false =>
    rw [hs] at sm
    refine fn2 (fn := Tryz.f7) Tryz.call7 Tryz.func7 rfl Tryz.ntmps7 Tryz.results7 rfl (by first | rfl | simp [V.ok, okL, C.ok, okA, okV]) ?_
    repeat' (first | (with_reducible first | apply AW.seq | apply AW.block | apply AW.scope | apply AW.skip | apply AW.ret | apply AW.exit | apply AW.label | apply q_then | apply q_thenR | apply q_thenE | apply q_bloN | apply q_bloR | apply q_bloE | apply q_strN | apply q_strR | apply q_strE | apply s_e | refine m_b rfl ?_ ?_ | refine m_g rfl ?_ | refine m_o rfl ?_ ?_ | refine v_reg ?_ | refine v_drw ?_ | refine v_rgl ?_ | refine v_drb ?_) | ((with_reducible apply i_dv); first | refine t_v AS.v ?_ | refine t_v (by first | exact u_call (hP := sm) | exact u_call (hP := awake_p) | exact a_u8i (.pl rfl) (by omega) (by omega)) ?_ | refine t_w AS.w ?_) | ((with_reducible apply i_dg); first | refine t_n ?_ | refine t_m (hs := fun hg => AS.v) (k := ?_) | refine t_m (hs := fun hg => (by first | exact u_call (hP := sm) | exact u_call (hP := awake_p) | exact a_u8i (.pl rfl) (by omega) (by omega))) (k := ?_) | refine t_f ?_) | ((with_reducible apply i_ds); first | refine t_s AS.s ?_) | ((with_reducible refine i_aw ?_); first | refine v_yes ?_ | refine v_no ?_ | (refine v_cond (fun hc => ?_) (fun hc => ?_); all_goals (try (exfalso; simp [*] at hc; done)); all_goals (try (exfalso; revert hc; simp; omega)))) | ((with_reducible refine i_rt ?_); first | refine k_b ?_ | refine k_s ?_ | refine k_i ?_ | refine k_v ?_ | refine k_c ?_ | exact r_0 | exact r_0n | ((first | refine k_2 ?_ ?_ | refine k_2c ?_ ?_); all_goals (with_reducible (first | apply un_b | apply un_i | apply un_s | apply un_a)))) | ((with_reducible apply al_id); dsimp only [List.append]) | (refine q_bloX rfl ?_) | (refine ⟨by decide +kernel, ?_⟩) | fail)
    rfl
  | true =>
    rw [hs] at sm
    obtain ⟨n, hn, hn12⟩ : ∃ n : Nat, Int.tmod v 13 = n ∧ n ≤ 12 := ⟨(v % 13).toNat, by rw [Int.tmod_eq_emod_of_nonneg hv0]; omega, by omega⟩
    have p0 := Statement_p (s := s) (lv := 0) (dp_ok hs) fun h0 h1 hd hf => st_ok hs h0 h1 hd hf
    have p1 := Statement_p (s := s) (lv := n) (dp_ok hs) fun h0 h1 hd hf => st_ok hs h0 h1 hd hf
    obtain ⟨l1, l2⟩ := ind_law hn12 hs
    generalize StatementR s 0 = R0 at *
    generalize StatementR s n = R1 at *
    obtain ⟨a, e⟩ := R0
    obtain ⟨b, f⟩ := R1
    simp only at l1 l2 p0 p1
    have hsi := indT_size n
    clear hs
    by_cases hz : e = 0 ∧ f = 0
    · obtain ⟨ha, hb, hsz⟩ := l1 hz
      obtain ⟨rfl, rfl⟩ := hz
      rw [← ha] at hb hsz
      clear l1 l2 ha
      subst hb
      generalize hm : indT n = m at *
      have hlen := sz_len a
      refine fn2 (fn := Tryz.f7) Tryz.call7 Tryz.func7 rfl Tryz.ntmps7 Tryz.results7 rfl (by first | rfl | simp [V.ok, okL, C.ok, okA, okV]) ?_
      repeat' (first | (with_reducible first | apply AW.seq | apply AW.block | apply AW.scope | apply AW.skip | apply AW.ret | apply AW.exit | apply AW.label | apply q_then | apply q_thenR | apply q_thenE | apply q_bloN | apply q_bloR | apply q_bloE | apply q_strN | apply q_strR | apply q_strE | apply s_e | refine m_b rfl ?_ ?_ | refine m_g rfl ?_ | refine m_o rfl ?_ ?_ | refine v_reg ?_ | refine v_drw ?_ | refine v_rgl ?_ | refine v_drb ?_) | ((with_reducible apply i_dv); first | refine t_v AS.v ?_ | refine t_v (by first | exact u_call (hP := sm) | exact u_call (hP := p0) | exact u_call (hP := p1) | exact a_u8i (.pl rfl) (by omega) (by omega)) ?_ | refine t_w AS.w ?_) | ((with_reducible apply i_dg); first | refine t_n ?_ | refine t_m (hs := fun hg => AS.v) (k := ?_) | refine t_m (hs := fun hg => (by first | exact u_call (hP := sm) | exact u_call (hP := p0) | exact u_call (hP := p1) | exact a_u8i (.pl rfl) (by omega) (by omega))) (k := ?_) | refine t_f ?_) | ((with_reducible apply i_ds); first | refine t_s AS.s ?_) | ((with_reducible refine i_aw ?_); first | refine v_yes ?_ | refine v_no ?_ | (refine v_cond (fun hc => ?_) (fun hc => ?_); all_goals (try (exfalso; simp [*] at hc; done)); all_goals (try (exfalso; revert hc; simp; omega)))) | ((with_reducible refine i_rt ?_); first | refine k_b ?_ | refine k_s ?_ | refine k_i ?_ | refine k_v ?_ | refine k_c ?_ | exact r_0 | exact r_0n | ((first | refine k_2 ?_ ?_ | refine k_2c ?_ ?_); all_goals (with_reducible (first | apply un_b | apply un_i | apply un_s | apply un_a)))) | ((with_reducible apply al_id); dsimp only [List.append]) | (refine q_bloX rfl ?_) | (refine ⟨by decide +kernel, ?_⟩) | fail)
      refine AW.loop (fun k σ => ∃ j, k = n - j ∧ j ≤ n ∧ σ = mk [(5, .c (sI n)), (6, .c (sS a)), (8, .c (sS (wantB m a.data.toList))), (10, .c (sS (indT j))), (11, .c (sI j))] []) n ?_ ?_
      · exact ⟨_, wk_mk (by (repeat (first | exact all_nil | ((refine all_cons ⟨_, rfl, .inl rfl, ?_⟩ ?_); (· (first | rfl | exact okRow rfl | (simp [V.ok, okL, C.ok, okA, HO.ok]; done) | (change okL _ _ = true; assumption)))))); done) (by (repeat (first | exact all_nil | ((refine all_cons ⟨_, rfl, .inl rfl, ?_⟩ ?_); (· (first | rfl | exact okRow rfl | (simp [V.ok, okL, C.ok, okA, HO.ok]; done) | (change okL _ _ = true; assumption)))))); done) (by exact fun h => h), 0, rfl, Nat.zero_le _, rfl⟩
      rintro k σ ⟨j, rfl, hj, rfl⟩
      by_cases hlt : j < n
      · have hs := indT_size j
        have e := indT_succ j
        repeat' (first | (with_reducible first | apply AW.seq | apply AW.block | apply AW.scope | apply AW.skip | apply AW.ret | apply AW.exit | apply AW.label | apply q_then | apply q_thenR | apply q_thenE | apply q_bloN | apply q_bloR | apply q_bloE | apply q_strN | apply q_strR | apply q_strE | apply s_e | refine m_b rfl ?_ ?_ | refine m_g rfl ?_ | refine m_o rfl ?_ ?_ | refine v_reg ?_ | refine v_drw ?_ | refine v_rgl ?_ | refine v_drb ?_) | ((with_reducible apply i_dv); first | refine t_v AS.v ?_ | refine t_v (by first | exact a_u8i (.pl rfl) (by omega) (by omega)) ?_ | refine t_w AS.w ?_) | ((with_reducible apply i_dg); first | refine t_n ?_ | refine t_m (hs := fun hg => AS.v) (k := ?_) | refine t_m (hs := fun hg => (by first | exact a_u8i (.pl rfl) (by omega) (by omega))) (k := ?_) | refine t_f ?_) | ((with_reducible apply i_ds); first | refine t_s AS.s ?_) | ((with_reducible refine i_aw ?_); first | refine v_yes ?_ | refine v_no ?_ | (refine v_cond (fun hc => ?_) (fun hc => ?_); all_goals (try (exfalso; simp [*] at hc; done)); all_goals (try (exfalso; revert hc; simp; omega)))) | ((with_reducible refine i_rt ?_); first | refine k_b ?_ | refine k_s ?_ | refine k_i ?_ | refine k_v ?_ | refine k_c ?_ | exact r_0 | exact r_0n | ((first | refine k_2 ?_ ?_ | refine k_2c ?_ ?_); all_goals (with_reducible (first | apply un_b | apply un_i | apply un_s | apply un_a)))) | ((with_reducible apply al_id); dsimp only [List.append]) | (refine q_bloX rfl ?_) | (refine ⟨by decide +kernel, ?_⟩) | fail)
        rw [← e]
        exact ⟨_, _, (show n - (j + 1) < n - j by omega), wk_mk (by (repeat (first | exact all_nil | ((refine all_cons ⟨_, rfl, .inl rfl, ?_⟩ ?_); (· (first | rfl | exact okRow rfl | (simp [V.ok, okL, C.ok, okA, HO.ok]; done) | (change okL _ _ = true; assumption)))))); done) (by (repeat (first | exact all_nil | ((refine all_cons ⟨_, rfl, .inl rfl, ?_⟩ ?_); (· (first | rfl | exact okRow rfl | (simp [V.ok, okL, C.ok, okA, HO.ok]; done) | (change okL _ _ = true; assumption)))))); done) (by exact fun h => h), j + 1, rfl, hlt, rfl⟩
      · obtain rfl : j = n := by omega
        rw [hm]
        repeat' (first | (with_reducible first | apply AW.seq | apply AW.block | apply AW.scope | apply AW.skip | apply AW.ret | apply AW.exit | apply AW.label | apply q_then | apply q_thenR | apply q_thenE | apply q_bloN | apply q_bloR | apply q_bloE | apply q_strN | apply q_strR | apply q_strE | apply s_e | refine m_b rfl ?_ ?_ | refine m_g rfl ?_ | refine m_o rfl ?_ ?_ | refine v_reg ?_ | refine v_drw ?_ | refine v_rgl ?_ | refine v_drb ?_) | ((with_reducible apply i_dv); first | refine t_v AS.v ?_ | refine t_v (by first | exact a_u8i (.pl rfl) (by omega) (by omega)) ?_ | refine t_w AS.w ?_) | ((with_reducible apply i_dg); first | refine t_n ?_ | refine t_m (hs := fun hg => AS.v) (k := ?_) | refine t_m (hs := fun hg => (by first | exact a_u8i (.pl rfl) (by omega) (by omega))) (k := ?_) | refine t_f ?_) | ((with_reducible apply i_ds); first | refine t_s AS.s ?_) | ((with_reducible refine i_aw ?_); first | refine v_yes ?_ | refine v_no ?_ | (refine v_cond (fun hc => ?_) (fun hc => ?_); all_goals (try (exfalso; simp [*] at hc; done)); all_goals (try (exfalso; revert hc; simp; omega)))) | ((with_reducible refine i_rt ?_); first | refine k_b ?_ | refine k_s ?_ | refine k_i ?_ | refine k_v ?_ | refine k_c ?_ | exact r_0 | exact r_0n | ((first | refine k_2 ?_ ?_ | refine k_2c ?_ ?_); all_goals (with_reducible (first | apply un_b | apply un_i | apply un_s | apply un_a)))) | ((with_reducible apply al_id); dsimp only [List.append]) | (refine q_bloX rfl ?_) | (refine ⟨by decide +kernel, ?_⟩) | fail)
        refine AW.loop (fun k σ => ∃ i, k = a.size - i ∧ i ≤ a.size ∧ σ = mk [(6, .c (sS a)), (8, .c (sS (wantB m a.data.toList))), (10, .c (sS m)), (12, .c (sS (wantB m (a.data.toList.take i)))), (13, .c (sI i))] []) a.size ?_ ?_
        · have e : m = wantB m (a.data.toList.take 0) := by unfold wantB; rw [List.take_zero, ndL]; exact (ba_nil m).symm
          refine ⟨_, ?_, 0, rfl, Nat.zero_le _, rfl⟩
          rw [← e]
          exact wk_mk (by (repeat (first | exact all_nil | ((refine all_cons ⟨_, rfl, .inl rfl, ?_⟩ ?_); (· (first | rfl | exact okRow rfl | (simp [V.ok, okL, C.ok, okA, HO.ok]; done) | (change okL _ _ = true; assumption)))))); done) (by (repeat (first | exact all_nil | ((refine all_cons ⟨_, rfl, .inl rfl, ?_⟩ ?_); (· (first | rfl | exact okRow rfl | (simp [V.ok, okL, C.ok, okA, HO.ok]; done) | (change okL _ _ = true; assumption)))))); done) (by exact fun h => h)
        rintro k σ ⟨i, rfl, hi, rfl⟩
        by_cases hlt2 : i < a.size
        · obtain ⟨c, hc2⟩ : ∃ c, a.data.toList[i]? = some c := ⟨_, List.getElem?_eq_getElem (by omega)⟩
          have hst := want_step (m := m) hc2
          have hws := want_size m (a.data.toList.take i)
          have htl : (a.data.toList.take i).length = i := by rw [List.length_take]; omega
          rw [htl] at hws
          have hprod : i * (m.size + 1) ≤ 65536 * 25 := Nat.mul_le_mul (by omega) (by omega)
          have hex := ext_one hc2
          have h1 : ByteArray.size ⟨#[c]⟩ = 1 := rfl
          have hexs : (a.extract i (i + 1)).size = 1 := by rw [hex]; rfl
          clear hlen
          by_cases h10 : c = 10
          · rw [if_pos h10] at hst
            have hcn : (c.toNat : Int) = 10 := by rw [h10]; rfl
            repeat' (first | (with_reducible first | apply AW.seq | apply AW.block | apply AW.scope | apply AW.skip | apply AW.ret | apply AW.exit | apply AW.label | apply q_then | apply q_thenR | apply q_thenE | apply q_bloN | apply q_bloR | apply q_bloE | apply q_strN | apply q_strR | apply q_strE | apply s_e | refine m_b rfl ?_ ?_ | refine m_g rfl ?_ | refine m_o rfl ?_ ?_ | refine v_reg ?_ | refine v_drw ?_ | refine v_rgl ?_ | refine v_drb ?_) | ((with_reducible apply i_dv); first | refine t_v AS.v ?_ | refine t_v (by first | exact a_u8i (.pl rfl) (by omega) (by omega)) ?_ | refine t_w AS.w ?_) | ((with_reducible apply i_dg); first | refine t_n ?_ | refine t_m (hs := fun hg => AS.v) (k := ?_) | refine t_m (hs := fun hg => (by first | exact a_u8i (.pl rfl) (by omega) (by omega))) (k := ?_) | refine t_f ?_) | ((with_reducible apply i_ds); first | refine t_s AS.s ?_) | ((with_reducible refine i_aw ?_); first | refine v_yes ?_ | refine v_no ?_ | (refine v_cond (fun hc => ?_) (fun hc => ?_); all_goals (try (exfalso; simp [*] at hc; done)); all_goals (try (exfalso; revert hc; simp; omega)))) | ((with_reducible refine i_rt ?_); first | refine k_b ?_ | refine k_s ?_ | refine k_i ?_ | refine k_v ?_ | refine k_c ?_ | exact r_0 | exact r_0n | ((first | refine k_2 ?_ ?_ | refine k_2c ?_ ?_); all_goals (with_reducible (first | apply un_b | apply un_i | apply un_s | apply un_a)))) | ((with_reducible apply al_id); dsimp only [List.append]) | (refine q_bloX rfl ?_) | (refine ⟨by decide +kernel, ?_⟩) | fail)
            rw [hex, ← hst]
            exact ⟨_, _, (show a.size - (i + 1) < a.size - i by omega), wk_mk (by (repeat (first | exact all_nil | ((refine all_cons ⟨_, rfl, .inl rfl, ?_⟩ ?_); (· (first | rfl | exact okRow rfl | (simp [V.ok, okL, C.ok, okA, HO.ok]; done) | (change okL _ _ = true; assumption)))))); done) (by (repeat (first | exact all_nil | ((refine all_cons ⟨_, rfl, .inl rfl, ?_⟩ ?_); (· (first | rfl | exact okRow rfl | (simp [V.ok, okL, C.ok, okA, HO.ok]; done) | (change okL _ _ = true; assumption)))))); done) (by exact fun h => h), i + 1, rfl, hlt2, rfl⟩
          · rw [if_neg h10] at hst
            have hcn : ¬ (c.toNat : Int) = 10 := fun h => h10 (by
              apply UInt8.toNat_inj.1
              show c.toNat = 10
              omega)
            repeat' (first | (with_reducible first | apply AW.seq | apply AW.block | apply AW.scope | apply AW.skip | apply AW.ret | apply AW.exit | apply AW.label | apply q_then | apply q_thenR | apply q_thenE | apply q_bloN | apply q_bloR | apply q_bloE | apply q_strN | apply q_strR | apply q_strE | apply s_e | refine m_b rfl ?_ ?_ | refine m_g rfl ?_ | refine m_o rfl ?_ ?_ | refine v_reg ?_ | refine v_drw ?_ | refine v_rgl ?_ | refine v_drb ?_) | ((with_reducible apply i_dv); first | refine t_v AS.v ?_ | refine t_v (by first | exact a_u8i (.pl rfl) (by omega) (by omega)) ?_ | refine t_w AS.w ?_) | ((with_reducible apply i_dg); first | refine t_n ?_ | refine t_m (hs := fun hg => AS.v) (k := ?_) | refine t_m (hs := fun hg => (by first | exact a_u8i (.pl rfl) (by omega) (by omega))) (k := ?_) | refine t_f ?_) | ((with_reducible apply i_ds); first | refine t_s AS.s ?_) | ((with_reducible refine i_aw ?_); first | refine v_yes ?_ | refine v_no ?_ | (refine v_cond (fun hc => ?_) (fun hc => ?_); all_goals (try (exfalso; simp [*] at hc; done)); all_goals (try (exfalso; revert hc; simp; omega)))) | ((with_reducible refine i_rt ?_); first | refine k_b ?_ | refine k_s ?_ | refine k_i ?_ | refine k_v ?_ | refine k_c ?_ | exact r_0 | exact r_0n | ((first | refine k_2 ?_ ?_ | refine k_2c ?_ ?_); all_goals (with_reducible (first | apply un_b | apply un_i | apply un_s | apply un_a)))) | ((with_reducible apply al_id); dsimp only [List.append]) | (refine q_bloX rfl ?_) | (refine ⟨by decide +kernel, ?_⟩) | fail)
            rw [hex, ← hst]
            exact ⟨_, _, (show a.size - (i + 1) < a.size - i by omega), wk_mk (by (repeat (first | exact all_nil | ((refine all_cons ⟨_, rfl, .inl rfl, ?_⟩ ?_); (· (first | rfl | exact okRow rfl | (simp [V.ok, okL, C.ok, okA, HO.ok]; done) | (change okL _ _ = true; assumption)))))); done) (by (repeat (first | exact all_nil | ((refine all_cons ⟨_, rfl, .inl rfl, ?_⟩ ?_); (· (first | rfl | exact okRow rfl | (simp [V.ok, okL, C.ok, okA, HO.ok]; done) | (change okL _ _ = true; assumption)))))); done) (by exact fun h => h), i + 1, rfl, hlt2, rfl⟩
        · rw [List.take_of_length_le (by omega)]
          clear hlen
          repeat' (first | (with_reducible first | apply AW.seq | apply AW.block | apply AW.scope | apply AW.skip | apply AW.ret | apply AW.exit | apply AW.label | apply q_then | apply q_thenR | apply q_thenE | apply q_bloN | apply q_bloR | apply q_bloE | apply q_strN | apply q_strR | apply q_strE | apply s_e | refine m_b rfl ?_ ?_ | refine m_g rfl ?_ | refine m_o rfl ?_ ?_ | refine v_reg ?_ | refine v_drw ?_ | refine v_rgl ?_ | refine v_drb ?_) | ((with_reducible apply i_dv); first | refine t_v AS.v ?_ | refine t_v (by first | exact u_call (hP := awake_p) | exact a_u8i (.pl rfl) (by omega) (by omega)) ?_ | refine t_w AS.w ?_) | ((with_reducible apply i_dg); first | refine t_n ?_ | refine t_m (hs := fun hg => AS.v) (k := ?_) | refine t_m (hs := fun hg => (by first | exact u_call (hP := awake_p) | exact a_u8i (.pl rfl) (by omega) (by omega))) (k := ?_) | refine t_f ?_) | ((with_reducible apply i_ds); first | refine t_s AS.s ?_) | ((with_reducible refine i_aw ?_); first | refine v_yes ?_ | refine v_no ?_ | (refine v_cond (fun hc => ?_) (fun hc => ?_); all_goals (try (exfalso; simp [*] at hc; done)); all_goals (try (exfalso; revert hc; simp; omega)))) | ((with_reducible refine i_rt ?_); first | refine k_b ?_ | refine k_s ?_ | refine k_i ?_ | refine k_v ?_ | refine k_c ?_ | exact r_0 | exact r_0n | ((first | refine k_2 ?_ ?_ | refine k_2c ?_ ?_); all_goals (with_reducible (first | apply un_b | apply un_i | apply un_s | apply un_a)))) | ((with_reducible apply al_id); dsimp only [List.append]) | (refine q_bloX rfl ?_) | (refine ⟨by decide +kernel, ?_⟩) | fail)
          simp
    · have l2 := l2 hz
      clear l1
      refine fn2 (fn := Tryz.f7) Tryz.call7 Tryz.func7 rfl Tryz.ntmps7 Tryz.results7 rfl (by first | rfl | simp [V.ok, okL, C.ok, okA, okV]) ?_
      repeat' (first | (with_reducible first | apply AW.seq | apply AW.block | apply AW.scope | apply AW.skip | apply AW.ret | apply AW.exit | apply AW.label | apply q_then | apply q_thenR | apply q_thenE | apply q_bloN | apply q_bloR | apply q_bloE | apply q_strN | apply q_strR | apply q_strE | apply s_e | refine m_b rfl ?_ ?_ | refine m_g rfl ?_ | refine m_o rfl ?_ ?_ | refine v_reg ?_ | refine v_drw ?_ | refine v_rgl ?_ | refine v_drb ?_) | ((with_reducible apply i_dv); first | refine t_v AS.v ?_ | refine t_v (by first | exact u_call (hP := sm) | exact u_call (hP := p0) | exact u_call (hP := p1) | exact u_call (hP := awake_p) | exact a_u8i (.pl rfl) (by omega) (by omega)) ?_ | refine t_w AS.w ?_) | ((with_reducible apply i_dg); first | refine t_n ?_ | refine t_m (hs := fun hg => AS.v) (k := ?_) | refine t_m (hs := fun hg => (by first | exact u_call (hP := sm) | exact u_call (hP := p0) | exact u_call (hP := p1) | exact u_call (hP := awake_p) | exact a_u8i (.pl rfl) (by omega) (by omega))) (k := ?_) | refine t_f ?_) | ((with_reducible apply i_ds); first | refine t_s AS.s ?_) | ((with_reducible refine i_aw ?_); first | refine v_yes ?_ | refine v_no ?_ | (refine v_cond (fun hc => ?_) (fun hc => ?_); all_goals (try (exfalso; simp [*] at hc; done)); all_goals (try (exfalso; revert hc; simp; omega)))) | ((with_reducible refine i_rt ?_); first | refine k_b ?_ | refine k_s ?_ | refine k_i ?_ | refine k_v ?_ | refine k_c ?_ | exact r_0 | exact r_0n | ((first | refine k_2 ?_ ?_ | refine k_2c ?_ ?_); all_goals (with_reducible (first | apply un_b | apply un_i | apply un_s | apply un_a)))) | ((with_reducible apply al_id); dsimp only [List.append]) | (refine q_bloX rfl ?_) | (refine ⟨by decide +kernel, ?_⟩) | fail)
      all_goals (rcases l2 with l2 | l2 <;> simp_all)
end Am
end Go.Proofs.YtkcojiopjkllgaaGreatDoor
