/- Maps whose keys are structs of a number and a string, as they lie in memory: what lookup and store do. -/
import Derived.Test.YtnifgkgdphlleaaV5
import Derived.Laws.StructEq
import Derived.DeepKeys3
import Derived.WalkKit
import Derived.Laws.NewBlocks
import Derived.MapKept
set_option linter.unusedSimpArgs false
set_option linter.unusedVariables false
namespace Go.Proofs.Ytnifgkgdphlleaa
open Go.RowKit Tk
def encK (k : Int × ByteArray) : Value := .agg #[.int .i64 k.1, .string k.2]
theorem encK_inj {a b : Int × ByteArray} (h : encK a = encK b) : a = b := by
  unfold encK at h
  injection h with h
  injection h with h
  injection h with h1 h2
  injection h1 with _ h1
  injection h2 with h2 _
  injection h2 with h2
  exact Prod.ext h1 h2

/-- keys and values, in the order of the entries -/
def entsOfK (m : List ((Int × ByteArray) × Value)) (es : List MapEntry) : Prop := es.map (fun e => (e.key, e.val)) = m.map (fun p => (encK p.1, p.2))
def KMap (w : World) (r : Nat) (m : List ((Int × ByteArray) × Value)) : Prop :=
  ∃ es clock, w.heap[r]? = some (.map es clock) ∧ entsOfK m es.toList ∧ MapKept.Stamped es clock
/-- the first value of a key, and its index -/
def mfindK (k : Int × ByteArray) : List ((Int × ByteArray) × Value) → Nat → Option (Nat × Value)
  | [], _ => none
  | p :: m, i => if k = p.1 then some (i, p.2) else mfindK k m (i + 1)
def mgetK (k : Int × ByteArray) (m : List ((Int × ByteArray) × Value)) : Option Value := (m.find? fun p => decide (k = p.1)).map (·.2)
def mputK (k : Int × ByteArray) (v : Value) : List ((Int × ByteArray) × Value) → List ((Int × ByteArray) × Value)
  | [] => [(k, v)]
  | p :: m => if k = p.1 then (k, v) :: m else p :: mputK k v m
theorem mfind_getK (k : Int × ByteArray) : ∀ (m : List ((Int × ByteArray) × Value)) (i : Nat), (mfindK k m i).map (·.2) = mgetK k m
  | [], _ => rfl
  | p :: m, i => by
    unfold mfindK mgetK
    by_cases h : k = p.1
    · simp [h]
    · have := mfind_getK k m (i + 1)
      simp only [mgetK] at this
      simp [h, this]
theorem mget_putK (k k' : Int × ByteArray) (v : Value) : ∀ m : List ((Int × ByteArray) × Value), mgetK k' (mputK k v m) = if k' = k then some v else mgetK k' m
  | [] => by
    by_cases h : k' = k
    · simp [mputK, mgetK, h]
    · simp [mputK, mgetK, h]
  | p :: m => by
    have ih := mget_putK k k' v m
    unfold mgetK at ih ⊢
    unfold mputK
    by_cases h : k = p.1
    · rw [if_pos h]
      by_cases h2 : k' = k
      · simp [h2]
      · have h3 : ¬ k' = p.1 := fun h4 => h2 (h4.trans h.symm)
        simp [h2, h3]
    · rw [if_neg h]
      by_cases h2 : k' = p.1
      · have h3 : ¬ k' = k := fun h4 => h (h4.symm.trans h2)
        have h4 : ¬ p.1 = k := fun h5 => h h5.symm
        simp [h2, h4]
      · simp [h2, ih]
theorem mput_lenK (k : Int × ByteArray) (v : Value) : ∀ m : List ((Int × ByteArray) × Value), (mputK k v m).length = if (mgetK k m).isSome then m.length else m.length + 1
  | [] => rfl
  | p :: m => by
    have ih := mput_lenK k v m
    unfold mgetK at ih ⊢
    unfold mputK
    by_cases h : k = p.1
    · simp [h]
    · rw [if_neg h, List.length_cons, ih]
      simp only [List.find?_cons, h, decide_false, List.length_cons]
      split <;> rfl
section
variable {et T : TypeId}
theorem und_key : ∃ fs, Try.prog.underlying 74 = some (.struct fs) := ⟨_, Try.underlying74⟩
theorem run_equal_key (w : World) (a b : Int × ByteArray) : (Op.equal 74 (encK a) (encK b)).run Try.prog w = .ok (decide (a = b)) w := by
  have e : decide (a = b) = ((a.1 == b.1) && (a.2.toList == b.2.toList)) := by
    by_cases h1 : a.1 = b.1
    · obtain ⟨g1, -⟩ := kd_t h1
      rw [g1, Bool.true_and]
      by_cases h2 : a.2 = b.2
      · rw [txt_t h2]; exact decide_eq_true (Prod.ext h1 h2)
      · rw [txt_f h2]; exact decide_eq_false (fun h => h2 (by rw [h]))
    · obtain ⟨g1, -⟩ := kd_f h1
      rw [g1, Bool.false_and]; exact decide_eq_false (fun h => h1 (by rw [h]))
  rw [e]
  unfold Op.equal Op.maxDepth encK
  by_cases h1 : a.1 = b.1
  · by_cases h2 : a.2.toList = b.2.toList
    · go_simp
    · go_simp
  · go_simp
theorem find_askK (w : World) (k : Int × ByteArray) : ∀ (m : List ((Int × ByteArray) × Value)) (es : List MapEntry) (i : Nat), entsOfK m es → (Instr.findAsking 74 (encK k) es i).run Try.prog w = .ok (mfindK k m i) w
  | [], [], _, _ => rfl
  | [], _ :: _, _, h => by simp [entsOfK] at h
  | _ :: _, [], _, h => by simp [entsOfK] at h
  | p :: m, e :: es, i, h => by
    simp only [entsOfK, List.map_cons, List.cons.injEq, Prod.mk.injEq] at h
    obtain ⟨⟨h1, h2⟩, h3⟩ := h
    have ih := find_askK w k m es (i + 1) h3
    unfold Instr.findAsking mfindK
    rw [h1, Sem.run_bind, run_equal_key, Result.andThen_ok]
    by_cases hk : k = p.1
    · rw [decide_eq_true hk, if_pos hk, h2]; rfl
    · rw [decide_eq_false hk, if_neg hk]
      exact ih
theorem run_findKeyK (w : World) (k : Int × ByteArray) {m : List ((Int × ByteArray) × Value)} {es : List MapEntry} (h : entsOfK m es) : (Instr.findKey 74 (encK k) es).run Try.prog w = .ok (mfindK k m 0) w := by
  unfold Instr.findKey
  obtain ⟨fs, hu⟩ := und_key
  rw [Sem.run_bind, run_underlying hu, Result.andThen_ok]
  cases es with
  | nil =>
    cases m with
    | nil => rfl
    | cons p m => simp [entsOfK] at h
  | cons e es =>
    have : Instr.findNow (.struct fs) (encK k) (e :: es) 0 = none := rfl
    rw [this]
    exact find_askK w k m _ 0 h
theorem run_checkKeyK (w : World) (em : Bool) (k : Int × ByteArray) : (Instr.checkKey em 10000 74 (encK k)).run Try.prog w = .ok () w := by
  unfold encK
  unfold Instr.checkKey
  rw [Sem.run_bind, run_underlying Try.underlying74, Result.andThen_ok]
  go_simp
  rw [show (Instr.checkKey em 9999 3 (.int .i64 k.1)).run Try.prog w = .ok () w from by unfold Instr.checkKey; rw [Sem.run_bind, run_underlying Try.underlying3, Result.andThen_ok]; rfl, Result.andThen_ok]
  unfold Instr.checkKey; rw [Sem.run_bind, run_underlying Try.underlying9, Result.andThen_ok]; rfl
theorem run_lookup_key (w : World) (hT : Try.prog.underlying T = some (.map 74 et)) {z : Value} (hz : (zeroValue et).run Try.prog w = .ok z w) {r : Nat} {m : List ((Int × ByteArray) × Value)} (h : KMap w r m) (k : Int × ByteArray) (ok : Bool) :
    (Instr.lookup T (.map (some r)) (encK k) ok).run Try.prog w = .ok (if ok = true then .tuple #[(mgetK k m).getD z, .bool (mgetK k m).isSome] else (mgetK k m).getD z) w := by
  obtain ⟨es, clock, h1, h2, _⟩ := h
  have h3 := mfind_getK k m 0
  unfold Instr.lookup
  rw [Sem.run_bind, run_underlying hT, Result.andThen_ok]
  simp only [Sem.run_bind, run_getObj_map w h1, Result.andThen_ok, Sem.run_pure, run_checkKeyK w, run_findKeyK w k h2]
  cases hf : mfindK k m 0 with
  | none =>
    rw [hf] at h3
    rw [← h3]
    simp only [Sem.run_bind, hz, Result.andThen_ok, Sem.run_pure]
    cases ok <;> rfl
  | some x =>
    obtain ⟨i, v⟩ := x
    rw [hf] at h3
    rw [← h3]
    cases ok <;> rfl
end
theorem mfind_atK (k : Int × ByteArray) (v v' : Value) : ∀ (m : List ((Int × ByteArray) × Value)) (i j : Nat), mfindK k m i = some (j, v') → i ≤ j ∧ (∃ p, m[j - i]? = some p ∧ p.1 = k) ∧ mputK k v m = m.set (j - i) (k, v)
  | [], _, _, h => by cases h
  | p :: m, i, j, h => by
    unfold mfindK at h
    unfold mputK
    by_cases hk : k = p.1
    · rw [if_pos hk] at h ⊢
      injection h with h
      injection h with h1 h2
      subst h1
      exact ⟨Nat.le_refl _, ⟨p, by simp, hk.symm⟩, by simp⟩
    · rw [if_neg hk] at h ⊢
      obtain ⟨h1, ⟨q, h2, h3⟩, h4⟩ := mfind_atK k v v' m (i + 1) j h
      refine ⟨by omega, ⟨q, ?_, h3⟩, ?_⟩
      · rw [show j - i = (j - (i + 1)) + 1 by omega, List.getElem?_cons_succ]; exact h2
      · rw [h4, show j - i = (j - (i + 1)) + 1 by omega, List.set_cons_succ]
theorem mfind_noneK (k : Int × ByteArray) (v : Value) : ∀ (m : List ((Int × ByteArray) × Value)) (i : Nat), mfindK k m i = none → mputK k v m = m ++ [(k, v)]
  | [], _, _ => rfl
  | p :: m, i, h => by
    unfold mfindK at h
    unfold mputK
    by_cases hk : k = p.1
    · rw [if_pos hk] at h; cases h
    · rw [if_neg hk] at h ⊢
      rw [mfind_noneK k v m (i + 1) h]
      rfl
theorem mfind_notK (k : Int × ByteArray) : ∀ (m : List ((Int × ByteArray) × Value)) (i : Nat), mfindK k m i = none → ∀ p ∈ m, ¬ k = p.1
  | [], _, _, p, hp => by cases hp
  | q :: m, i, h, p, hp => by
    unfold mfindK at h
    by_cases hk : k = q.1
    · rw [if_pos hk] at h; cases h
    · rw [if_neg hk] at h
      rcases List.mem_cons.1 hp with rfl | hp
      · exact hk
      · exact mfind_notK k m (i + 1) h p hp
theorem sameBits_strK (k : Int × ByteArray) : Instr.sameBits 10000 (encK k) (encK k) = true := by
  unfold encK
  unfold Instr.sameBits
  simp [Instr.sameBits, (MapKept.bytes_beq k.2 k.2).2 rfl]
section
variable {et T : TypeId}
set_option maxRecDepth 100000 in
theorem run_update_key (w : World) (hT : Try.prog.underlying T = some (.map 74 et)) {r : Nat} {m : List ((Int × ByteArray) × Value)} (h : KMap w r m) (k : Int × ByteArray) (v : Value) :
    ∃ w', (Instr.mapUpdate T (.map (some r)) (encK k) v).run Try.prog w = .ok () w' ∧ KMap w' r (mputK k v m) ∧ MapTurned r w w' := by
  obtain ⟨es, clock, h1, h2, h3⟩ := h
  have hr := heap_lt h1
  unfold Instr.mapUpdate
  simp only [Sem.run_bind, run_underlying hT, Result.andThen_ok, run_getObj_map w h1, run_checkKeyK w, run_findKeyK w k h2]
  cases hf : mfindK k m 0 with
  | none =>
    obtain ⟨t1, t2⟩ := turned_set w hr (.map (es.push { key := encK k, val := v, born := clock }) (clock + 1))
    refine ⟨_, run_setObj_map w h1 _, ⟨_, _, t2, ?_, MapKept.stamped_push h3 fun x hx => ?_⟩, t1⟩
    · rw [mfind_noneK k v m 0 hf]
      unfold entsOfK at h2 ⊢
      simp [h2]
    · intro he
      have hmem : (x.key, x.val) ∈ m.map (fun p => (encK p.1, p.2)) := by rw [← h2]; exact List.mem_map.2 ⟨x, hx, rfl⟩
      obtain ⟨p, hp, e1⟩ := List.mem_map.1 hmem
      injection e1 with e1 e2
      rw [he] at e1
      exact mfind_notK k m 0 hf p hp (encK_inj e1).symm
  | some x =>
    obtain ⟨i, v0⟩ := x
    obtain ⟨_, ⟨p, g2, g3⟩, g4⟩ := mfind_atK k v v0 m 0 i hf
    rw [Nat.sub_zero] at g2 g4
    have hlen : es.toList.length = m.length := by
      have := congrArg List.length h2
      simpa using this
    have hi : i < m.length := by
      rcases Nat.lt_or_ge i m.length with hlt | hge
      · exact hlt
      · rw [List.getElem?_eq_none hge] at g2; cases g2
    have hie : i < es.size := by rw [Array.length_toList] at hlen; omega
    have hkey : (es[i]'hie).key = encK k := by
      have := congrArg (fun l => l[i]?) h2
      simp only [List.getElem?_map, g2, Option.map_some] at this
      rw [Array.getElem?_toList, Array.getElem?_eq_getElem hie] at this
      simp only [Option.map_some, Option.some.injEq, Prod.mk.injEq] at this
      rw [this.1, g3]
    have hstay : (Instr.keyThatStays (((es[i]?).map (·.key)).getD (encK k)) (encK k)).run Try.prog w = .ok (encK k) w := by
      rw [Array.getElem?_eq_getElem hie]
      simp only [Option.map_some, Option.getD_some, hkey]
      unfold Instr.keyThatStays
      rw [if_pos (sameBits_strK k)]
      rfl
    simp only [Sem.run_bind, hstay, Result.andThen_ok]
    obtain ⟨t1, t2⟩ := turned_set w hr (.map (es.modify i fun e => { e with key := encK k, val := v }) clock)
    refine ⟨_, run_setObj_map w h1 _, ⟨_, _, t2, ?_, MapKept.stamped_modify h3 _ _ (fun e _ => rfl) fun e _ he => ?_⟩, t1⟩
    · rw [g4]
      unfold entsOfK at h2 ⊢
      apply List.ext_getElem?
      intro j
      have hj := congrArg (fun l => l[j]?) h2
      simp only [List.getElem?_map, Array.getElem?_toList, Array.getElem?_modify, List.getElem?_set] at hj ⊢
      by_cases hij : i = j
      · subst hij
        rw [if_pos rfl, if_pos rfl, if_pos hi, Array.getElem?_eq_getElem hie]
        rfl
      · rw [if_neg hij, if_neg hij]
        exact hj
    · rw [Array.getElem?_eq_getElem hie] at he
      injection he with he
      rw [← he, hkey]
end
theorem KMap.of {w w' : World} {r : Nat} {m : List ((Int × ByteArray) × Value)} (h : KMap w r m) (he : w'.heap[r]? = w.heap[r]?) : KMap w' r m := by
  obtain ⟨es, clock, h1, h2⟩ := h
  exact ⟨es, clock, he.trans h1, h2⟩
theorem KMap.lt {w : World} {r : Nat} {m : List ((Int × ByteArray) × Value)} (h : KMap w r m) : r < w.heap.size := by
  obtain ⟨es, clock, h1, _⟩ := h
  exact heap_lt h1
theorem KMap.low {w w' : World} {r : Nat} {m : List ((Int × ByteArray) × Value)} (h : KMap w r m) (hb : Below w.heap.size w w') : KMap w' r m := h.of (hb.block r h.lt)
theorem KMap.but {w w' : World} {r b : Nat} {m : List ((Int × ByteArray) × Value)} (h : KMap w r m) (hb : But b w w') (hn : r ≠ b) : KMap w' r m := h.of (hb.block r h.lt hn)
theorem KMap.made (w : World) : KMap (w.alloc (.map #[] 0)) w.heap.size [] :=
  ⟨#[], 0, (MapKept.heap_alloc w _).1, rfl, MapKept.stamped_empty 0⟩

end Go.Proofs.Ytnifgkgdphlleaa
