/- Maps whose keys are strings: delete and len; maps that give the same are the same but for their order. No program in sight. -/
import Derived.Test.YtokadblncmjanaaMp
set_option linter.unusedSimpArgs false
set_option linter.unusedVariables false
namespace Go.Proofs.Ytokadblncmjanaa
open Go.RowKit
def mdel (k : ByteArray) (m : List (ByteArray × Value)) : List (ByteArray × Value) := m.filter fun p => decide (¬ k = p.1)
theorem mfind_del (k : ByteArray) : ∀ (m : List (ByteArray × Value)) (j i : Nat) (v : Value), (m.map (·.1)).Nodup → mfind k m j = some (i, v) → j ≤ i ∧ m.eraseIdx (i - j) = mdel k m
  | [], j, i, v, _, h => by cases h
  | p :: m, j, i, v, hn, h => by
    simp only [List.map_cons, List.nodup_cons] at hn
    unfold mfind at h
    by_cases hk : k = p.1
    · rw [if_pos hk] at h
      injection h with h
      injection h with h1 h2
      subst h1
      refine ⟨Nat.le_refl _, ?_⟩
      rw [Nat.sub_self, List.eraseIdx_cons_zero]
      unfold mdel
      rw [List.filter_cons_of_neg (by simp [hk]), List.filter_eq_self.2]
      intro q hq
      have : ¬ k = q.1 := fun e => hn.1 (List.mem_map.2 ⟨q, hq, by rw [← e, hk]⟩)
      simpa using this
    · rw [if_neg hk] at h
      obtain ⟨h1, h2⟩ := mfind_del k m (j + 1) i v hn.2 h
      refine ⟨by omega, ?_⟩
      have e : i - j = (i - (j + 1)) + 1 := by omega
      rw [e, List.eraseIdx_cons_succ, h2]
      unfold mdel
      rw [List.filter_cons_of_pos (by simp [hk])]
theorem mfind_del_none (k : ByteArray) : ∀ (m : List (ByteArray × Value)) (j : Nat), mfind k m j = none → mdel k m = m
  | [], _, _ => rfl
  | p :: m, j, h => by
    unfold mfind at h
    by_cases hk : k = p.1
    · rw [if_pos hk] at h; cases h
    · rw [if_neg hk] at h
      have := mfind_del_none k m (j + 1) h
      unfold mdel at this ⊢
      rw [List.filter_cons_of_pos (by simp [hk]), this]
theorem mget_del (k k' : ByteArray) (m : List (ByteArray × Value)) : mget k' (mdel k m) = if k' = k then none else mget k' m := by
  unfold mget mdel
  induction m with
  | nil => simp
  | cons p m ih =>
    by_cases hp : k = p.1
    · rw [List.filter_cons_of_neg (by simp [hp]), ih]
      by_cases h : k' = k
      · rw [if_pos h, if_pos h]
      · rw [if_neg h, if_neg h]
        have : ¬ k' = p.1 := fun e => h (e.trans hp.symm)
        rw [List.find?_cons_of_neg (by simp [this])]
    · rw [List.filter_cons_of_pos (by simp [hp])]
      by_cases h2 : k' = p.1
      · have : ¬ k' = k := fun e => hp (e.symm.trans h2)
        rw [if_neg this, List.find?_cons_of_pos (by simp [h2]), List.find?_cons_of_pos (by simp [h2])]
      · rw [List.find?_cons_of_neg (by simp [h2]), List.find?_cons_of_neg (by simp [h2]), ih]
theorem StrMap.keys {w : World} {r : Nat} {m : List (ByteArray × Value)} (h : StrMap w r m) : (m.map (·.1)).Nodup := by
  obtain ⟨es, clock, h1, h2, h3⟩ := h
  have hk := h3.2.2
  have e : es.toList.map (·.key) = (m.map (·.1)).map Value.string := by
    have := congrArg (fun l => l.map (·.1)) h2
    simpa [List.map_map, Function.comp_def] using this
  rw [e] at hk
  exact List.Pairwise.of_map Value.string (fun a b h hab => h (by rw [hab])) hk
theorem filter_erased {α : Type} (p : α → Bool) : ∀ (l : List α) (i : Nat) (hi : i < l.length), p l[i] = false → (l.eraseIdx i).filter p = l.filter p
  | x :: l, 0, _, h => by rw [List.eraseIdx_cons_zero, List.filter_cons_of_neg (by simpa using h)]
  | x :: l, i + 1, hi, h => by
    have := filter_erased p l i (by simpa using hi) (by simpa using h)
    rw [List.eraseIdx_cons_succ, List.filter_cons, List.filter_cons, this]
section
variable {P : Program} {kt et T : TypeId}
theorem run_len_str (w : World) (hT : P.underlying T = some (.map kt et)) {r : Nat} {m : List (ByteArray × Value)} (h : StrMap w r m) : ∀ ty : TypeId, (Builtin.len_ #[T] ty #[.map (some r)]).run P w = .ok (.int .i64 (m.length : Nat)) w := by
  intro ty
  obtain ⟨es, clock, h1, h2, h3⟩ := h
  have hl : es.size = m.length := by
    have := congrArg List.length h2
    simpa using this
  unfold Builtin.len_
  simp [Sem.run_bind, run_underlying hT, run_getObj_map w h1, Sem.run_pure, goInt, hl]
theorem run_delete_str (w : World) (hT : P.underlying T = some (.map kt et)) (hk : P.underlying kt = some .string) (t2 : TypeId) {r : Nat} {m : List (ByteArray × Value)} (h : StrMap w r m) (k : ByteArray) :
    ∃ w', (∀ ty : TypeId, (Builtin.delete_ #[T, t2] ty #[.map (some r), .string k]).run P w = .ok (.tuple #[]) w') ∧ StrMap w' r (mdel k m) ∧ MapTurned r w w' ∧
      ∀ it p left, MAt w it r p left → p.1 = k → MIter w' it r left := by
  have hkeys := h.keys
  obtain ⟨es, clock, h1, h2, h3⟩ := h
  have hr := heap_lt h1
  cases hf : mfind k m 0 with
  | none =>
    obtain ⟨t1, t2'⟩ := turned_set w hr (.map es clock)
    refine ⟨_, fun ty => ?_, ⟨_, _, t2', ?_, h3⟩, t1, fun it p left hA hp => ?_⟩
    · unfold Builtin.delete_
      simp [Sem.run_bind, run_underlying hT, run_getObj_map w h1, run_checkKey w hk, run_findKey w hk k h2, hf, run_setObj_map w h1, Sem.run_pure]
    · rw [mfind_del_none k m 0 hf]; exact h2
    · exfalso
      obtain ⟨es', clock', since, seen, g1, g2, g3, g4, g5, e, he, hb, hkey, hv⟩ := hA
      rw [h1] at g1
      injection g1 with g1
      injection g1 with g1 g1'
      subst g1
      have hmem : (e.key, e.val) ∈ m.map (fun p => (Value.string p.1, p.2)) := by rw [← h2]; exact List.mem_map.2 ⟨e, he, rfl⟩
      obtain ⟨q, hq, e1⟩ := List.mem_map.1 hmem
      injection e1 with e1 e2
      rw [hkey] at e1
      injection e1 with e1
      exact mfind_not k m 0 hf q hq (by rw [e1, hp])
  | some x =>
    obtain ⟨i, v0⟩ := x
    obtain ⟨_, ⟨q, q2, q3⟩, _⟩ := mfind_at k v0 v0 m 0 i hf
    obtain ⟨_, hd⟩ := mfind_del k m 0 i v0 hkeys hf
    rw [Nat.sub_zero] at q2 hd
    have hlen : es.toList.length = m.length := by
      have := congrArg List.length h2
      simpa using this
    have hi : i < m.length := by
      rcases Nat.lt_or_ge i m.length with hlt | hge
      · exact hlt
      · rw [List.getElem?_eq_none hge] at q2; cases q2
    have hie : i < es.size := by rw [Array.length_toList] at hlen; omega
    have hkey : (es[i]'hie).key = .string k := by
      have := congrArg (fun l => l[i]?) h2
      simp only [List.getElem?_map, q2, Option.map_some] at this
      rw [Array.getElem?_toList, Array.getElem?_eq_getElem hie] at this
      simp only [Option.map_some, Option.some.injEq, Prod.mk.injEq] at this
      rw [this.1, q3]
    have hel : (es.eraseIdxIfInBounds i).toList = es.toList.eraseIdx i := by
      rw [Array.eraseIdxIfInBounds, dif_pos hie, Array.toList_eraseIdx]
    obtain ⟨t1, t2'⟩ := turned_set w hr (.map (es.eraseIdxIfInBounds i) clock)
    refine ⟨_, fun ty => ?_, ⟨_, _, t2', ?_, MapKept.stamped_erase h3 i⟩, t1, fun it p left hA hp => ?_⟩
    · unfold Builtin.delete_
      simp [Sem.run_bind, run_underlying hT, run_getObj_map w h1, run_checkKey w hk, run_findKey w hk k h2, hf, run_setObj_map w h1, Sem.run_pure]
    · unfold entsOf at h2 ⊢
      rw [← hd, map_erase, ← h2, hel, map_erase]
    · have hne := hA.iter.lt.2.2
      obtain ⟨es', clock', since, seen, g1, g2, g3, g4, g5, e, he, hb, hke, hv⟩ := hA
      rw [h1] at g1
      injection g1 with g1
      injection g1 with g1 g1'
      subst g1
      subst g1'
      have hee : es[i]'hie = e := by
        have hmi : es[i]'hie ∈ es.toList := Array.mem_toList_iff.2 (Array.getElem_mem hie)
        have hkk : (es[i]'hie).key = e.key := by rw [hkey, hke, hp]
        obtain ⟨a, ha, ea⟩ := List.getElem_of_mem hmi
        obtain ⟨c, hc, ec⟩ := List.getElem_of_mem he
        have hnd := h3.2.2
        by_cases hac : a = c
        · subst hac; rw [← ea, ← ec]
        · exfalso
          have hpw := List.pairwise_iff_getElem.1 hnd
          rcases Nat.lt_or_gt_of_ne hac with hlt | hgt
          · refine hpw a c (by simpa using ha) (by simpa using hc) hlt ?_
            simp only [List.getElem_map, ea, ec]; exact hkk
          · refine hpw c a (by simpa using hc) (by simpa using ha) hgt ?_
            simp only [List.getElem_map, ea, ec]; exact hkk.symm
      have hseen : seen.contains (es[i]'hie).born = true := by
        rw [hee]
        have := Array.mem_of_back? hb
        exact Array.contains_iff_mem.2 this
      refine ⟨_, clock, since, seen, clock, t2', ?_, MapKept.stamped_erase h3 i, fun x hx => ?_, ?_⟩
      · exact (t1.block it hne).trans g2
      · rw [hel] at hx
        exact g4 x ((List.eraseIdx_sublist _ _).subset hx)
      · unfold entsOf at g5 ⊢
        rw [hel, filter_erased _ es.toList i (by simpa using hie) (by simpa using hseen)]
        exact g5
end
/-- two maps that give the same hold the same entries -/
theorem perm_of_get {l m : List (ByteArray × Value)} (hl : (l.map (·.1)).Nodup) (hm : (m.map (·.1)).Nodup) (h : ∀ k, mget k l = mget k m) : l.Perm m := by
  have nd : ∀ {x : List (ByteArray × Value)}, (x.map (·.1)).Nodup → x.Nodup := fun hx => List.Pairwise.of_map (·.1) (fun a b h hab => h (by rw [hab])) hx
  refine (List.perm_ext_iff_of_nodup (nd hl) (nd hm)).2 fun p => ?_
  have h1 := mget_mem (k := p.1) (v := p.2) hl
  have h2 := mget_mem (k := p.1) (v := p.2) hm
  rw [h] at h1
  exact h1.symm.trans h2
end Go.Proofs.Ytokadblncmjanaa
